/- NameOrder: the walk, and the plain law of the order. -/
import Derived.Test.YtiopbhmohiggoaaDoorNameAwake
set_option linter.unusedVariables false
namespace Go.Proofs.YtiopbhmohiggoaaDoor
open Go.RowKit Go.Lib Go.Shelf Go.Proofs.YtiopbhmohiggoaaDoorW.PrintWords
set_option maxHeartbeats 4000000
set_option maxRecDepth 100000

theorem cmpL_anti : ∀ x y : List Int, cmpL x y = -cmpL y x
  | [], [] => rfl
  | [], _ :: _ => rfl
  | _ :: _, [] => rfl
  | a :: x, b :: y => by
    have ih := cmpL_anti x y
    unfold cmpL
    repeat' split
    all_goals omega
theorem cmpL_self : ∀ x : List Int, cmpL x x = 0
  | [] => rfl
  | a :: x => by
    have ih := cmpL_self x
    unfold cmpL
    rw [if_neg (by omega), if_neg (by omega), ih]
theorem cmpL_range : ∀ x y : List Int, -1 ≤ cmpL x y ∧ cmpL x y ≤ 1
  | [], [] => by decide
  | [], _ :: _ => by simp [cmpL]
  | _ :: _, [] => by simp [cmpL]
  | a :: x, b :: y => by
    have ih := cmpL_range x y
    unfold cmpL
    repeat' split
    all_goals omega
theorem cmpL_trans : ∀ x y z : List Int, cmpL x y ≤ 0 → cmpL y z ≤ 0 → cmpL x z ≤ 0
  | [], _, [], _, _ => by simp [cmpL]
  | [], _, _ :: _, _, _ => by simp [cmpL]
  | _ :: _, [], _, h, _ => by simp [cmpL] at h
  | _ :: _, _ :: _, [], _, h => by simp [cmpL] at h
  | a :: x, b :: y, c :: z, h1, h2 => by
    have ih := cmpL_trans x y z
    unfold cmpL at h1 h2 ⊢
    repeat' split
    all_goals (repeat' split at h1)
    all_goals (repeat' split at h2)
    all_goals first | omega | (apply ih <;> omega) | (exfalso; omega)
theorem fold_len (s : ByteArray) : (CH ⟨(foldL (CH s)).toArray⟩).length = (CH s).length := chunks_encs (fun c => toLowerU c.2) (CH s)
theorem foldL_le : ∀ l : List (List UInt8 × Nat), (foldL l).length ≤ 4 * l.length
  | [] => Nat.le_refl _
  | c :: l => by
    have ih := foldL_le l
    have h := enc_length (toLowerU c.2)
    unfold foldL at ih ⊢
    rw [List.flatMap_cons, List.length_append, List.length_cons]
    omega

theorem mk_size (l : List UInt8) : (⟨l.toArray⟩ : ByteArray).size = l.length := by
  show l.toArray.size = l.length
  simp
theorem order_any (a b c : ByteArray) (w : World) (ht : Tabs w) :
    Calls Tryd.prog 3 #[.string a, .string b, .string c] w fun e w' => e = .returned (.bool true) ∧ Ext w w' := by
  by_cases h : a.size ≤ 100 ∧ b.size ≤ 100 ∧ c.size ≤ 100
  · obtain ⟨ha, hb, hc⟩ := h
    have n1 : ¬ (100 < a.size) := by omega
    have n2 : ¬ (100 < b.size) := by omega
    have n3 : ¬ (100 < c.size) := by omega
    have r1 := cmpL_range (zr a) (zr b)
    have r2 := cmpL_range (zr b) (zr c)
    have r3 := cmpL_range (zr a) (zr c)
    have tr := cmpL_trans (zr a) (zr b) (zr c)
    have hBA := cmpL_anti (zr b) (zr a)
    have kab := fun W => cmp_any a b W (by omega) (by omega)
    have kbc := fun W => cmp_any b c W (by omega) (by omega)
    have kba := fun W => cmp_any b a W (by omega) (by omega)
    have kac := fun W => cmp_any a c W (by omega) (by omega)
    have kaa := fun W => cmp_any a a W (by omega) (by omega)
    rw [cmpL_self] at kaa
    rw [hBA] at kba
    generalize cmpL (zr a) (zr b) = X at r1 tr kab kba
    generalize cmpL (zr b) (zr c) = Y at r2 tr kbc
    generalize cmpL (zr a) (zr c) = Z at r3 tr kac
    clear hBA
    have hfl := foldL_le (CH a)
    have hcl := CH_length a
    have klf := fun W => len_any ⟨(foldL (CH a)).toArray⟩ W (by rw [mk_size]; omega)
    have kla := fun W => len_any a W (by omega)
    rw [fold_len] at klf
    have kf := fun W t => fold_any a W (by omega) t
    generalize (CH a).length = n at klf kla hfl hcl
    clear hfl
    go_enter Tryd.func3, Tryd.ntmps3
    go_wp2_with (go_at_call 9; refine (awake_any _ ht).mono ?_)
    rintro e w1 ⟨rfl, x1⟩
    go_wp2_with (go_at_call 10; refine (kab _).mono ?_)
    rintro e w2 ⟨rfl, x2⟩
    go_wp2_with (go_at_call 10; refine (kbc _).mono ?_)
    rintro e w3 ⟨rfl, x3⟩
    go_wp2_with (go_at_call 10; refine (kba _).mono ?_)
    rintro e w4 ⟨rfl, x4⟩
    have y4 := x1.trans (x2.trans (x3.trans x4))
    by_cases hX : 0 < X
    · have y5 := y4
      go_wp2_with (go_at_call 10; refine (kaa _).mono ?_)
      rintro e w6 ⟨rfl, x6⟩
      have y6 := y5.trans x6
      go_wp2_with (go_at_call 12; refine (kf _ (ht.ext y6)).mono ?_)
      rintro e w7 ⟨rfl, x7⟩
      go_wp2_with (go_at_call 11; refine (klf _).mono ?_)
      rintro e w8 ⟨rfl, x8⟩
      go_wp2_with (go_at_call 11; refine (kla _).mono ?_)
      rintro e w9 ⟨rfl, x9⟩
      go_wp2
      go_ret
      exact ⟨rfl, y6.trans (x7.trans (x8.trans x9))⟩
    · by_cases hY : 0 < Y
      · have y5 := y4
        go_wp2_with (go_at_call 10; refine (kaa _).mono ?_)
        rintro e w6 ⟨rfl, x6⟩
        have y6 := y5.trans x6
        go_wp2_with (go_at_call 12; refine (kf _ (ht.ext y6)).mono ?_)
        rintro e w7 ⟨rfl, x7⟩
        go_wp2_with (go_at_call 11; refine (klf _).mono ?_)
        rintro e w8 ⟨rfl, x8⟩
        go_wp2_with (go_at_call 11; refine (kla _).mono ?_)
        rintro e w9 ⟨rfl, x9⟩
        go_wp2
        go_ret
        exact ⟨rfl, y6.trans (x7.trans (x8.trans x9))⟩
      · have hZ := tr (by omega) (by omega)
        go_wp2_with (go_at_call 10; refine (kac _).mono ?_)
        rintro e w5 ⟨rfl, x5⟩
        have y5 := y4.trans x5
        go_wp2_with (go_at_call 10; refine (kaa _).mono ?_)
        rintro e w6 ⟨rfl, x6⟩
        have y6 := y5.trans x6
        go_wp2_with (go_at_call 12; refine (kf _ (ht.ext y6)).mono ?_)
        rintro e w7 ⟨rfl, x7⟩
        go_wp2_with (go_at_call 11; refine (klf _).mono ?_)
        rintro e w8 ⟨rfl, x8⟩
        go_wp2_with (go_at_call 11; refine (kla _).mono ?_)
        rintro e w9 ⟨rfl, x9⟩
        go_wp2
        go_ret
        exact ⟨rfl, y6.trans (x7.trans (x8.trans x9))⟩
  · have hn : 100 < a.size ∨ 100 < b.size ∨ 100 < c.size := by omega
    go_enter Tryd.func3, Tryd.ntmps3
    go_wp2_with (go_at_call 9; refine (awake_any _ ht).mono ?_)
    rintro e w1 ⟨rfl, x1⟩
    go_wp2_with fail
    all_goals go_ret
    all_goals exact ⟨rfl, x1⟩
end Go.Proofs.YtiopbhmohiggoaaDoor
