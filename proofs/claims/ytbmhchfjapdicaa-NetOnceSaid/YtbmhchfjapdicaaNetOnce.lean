/- NetOnce: the walk. -/
import Derived.Test.YtbmhchfjapdicaaNetOnceW
set_option linter.unusedVariables false
set_option linter.unusedSimpArgs false
set_option maxRecDepth 100000
namespace Go.Proofs.Ytbmhchfjapdicaa
open Go.RowKit Go.Proofs.YtbmhchfjapdicaaW.PrintWords Go.Proofs.YtbmhchfjapdicaaW.PrintLast

def U (xs : List (List UInt8)) : Nat → List (List UInt8) := updV noS 7 xs
theorem U_at (xs : List (List UInt8)) : U xs 7 = xs := updV_same _ _ _
theorem U_upd (xs ys : List (List UInt8)) : updV (U xs) 7 ys = U ys := by
  funext i
  unfold U updV
  split <;> rfl
theorem U_nil : U [] = noS := by
  funext i
  unfold U updV noS
  split <;> rfl
theorem way7 : way 2 1 0 = some 7 := rfl
theorem U_snd (xs : List (List UInt8)) (b : List UInt8) (hb : b.length ≤ 100) (hx : xs.length < 64) : snd 2 (U xs) 1 0 b = (U (xs ++ [b]), 0) := by
  simp only [snd, way7]
  rw [if_neg (by omega), if_neg (by rw [U_at]; omega), U_at, U_upd]
theorem U_dbl (xs : List (List UInt8)) (a : Nat) (ha : a < xs.length) (hall : ∀ x ∈ xs, x.length ≤ 100) (hx : xs.length < 64) : dbl 2 (U xs) 1 0 (a : Int) = (U (xs ++ [xs.getD a []]), 0) := by
  simp only [dbl, way7]
  rw [if_pos (by rw [U_at]; omega), U_at, Int.toNat_natCast]
  exact U_snd xs _ (hall _ (by simp [ha])) hx
theorem U_no (xs : List (List UInt8)) (a : Int) (ha : ¬ (0 ≤ a ∧ a < xs.length)) : dbl 2 (U xs) 1 0 a = (U xs, 4) := by
  simp only [dbl, way7]
  rw [if_neg (by rw [U_at]; exact ha)]
theorem U_tk (x : List UInt8) (xs : List (List UInt8)) : tk 2 (U (x :: xs)) 1 0 0 = (U xs, x, true) := by
  simp only [tk, way7]
  rw [if_pos (by rw [U_at]; simp), U_at, U_upd]
  rfl

/-- What holds between the calls. -/
structure Once (w wr : World) (g : Nat) (v : Value) (xs ys : List (List UInt8)) : Prop where
  net : ∃ V1 L1, Net wr 50 g 2 V1 L1 ∧ Holds L1 (U xs) ∧ ∀ x, foot V1 g x → w.heap.size ≤ x
  ext : Ext w wr
  row : Ws wr w.heap.size v ys

set_option maxHeartbeats 3200000 in
theorem once_any (A1 A2 : Option Addr) (c1 c2 : Nat) (l : List (List UInt8)) (tw : List Int) (w : World) (h1 : Bss w A1 l) (h2 : Is w A2 tw) :
    Calls Try.prog 3 #[.slice A1 l.length c1, .slice A2 tw.length c2] w fun e w' => e = .returned (.bool true) ∧ Ext w w' := by
  go_enter Try.func3, Try.ntmps3
  go_wp2_with fail
  refine (awake15_any w).mono ?_
  rintro e w1 ⟨rfl, hx1⟩
  by_cases q1 : 30 < l.length
  · go_wp2
    all_goals go_ret
    all_goals exact ⟨rfl, hx1⟩
  by_cases q2 : 30 < tw.length
  · go_wp2
    all_goals go_ret
    all_goals exact ⟨rfl, hx1⟩
  go_wp2_with fail
  refine (new_ok 2 w1 (by omega) (by omega)).mono ?_
  rintro e w2 ⟨rfl, hN2, hx2⟩
  have hX2 := hx1.trans hx2
  have hfn := foot_noV (w := w) (g := w1.heap.size) hx1.size
  obtain ⟨g, Hg⟩ : ∃ g, Hid (w1.heap.size = g) := ⟨_, Lib.hid rfl⟩
  rw [Hg.out] at hN2 hfn ⊢
  go_wp2
  go_loopw [7, 8] (fun v i wr => ∃ k : Nat, k ≤ l.length ∧ i = .int .i64 k ∧ Once w wr g v (l.take k) (l.take k) ∧ ∀ x ∈ l.take k, x.length ≤ 100) (fun _ i _ => l.length - (intOf i).toNat)
  case atStart => exact ⟨0, Nat.zero_le _, rfl, ⟨⟨noV, noL, hN2, by rw [List.take_zero, U_nil]; exact holds_new, hfn⟩, hX2, Ws.nil _ _⟩, fun x hx => by simp at hx⟩
  case round =>
    obtain ⟨k, hk, rfl, ⟨⟨V1, L1, hN, hS, hF⟩, hx, hW⟩, hall⟩ := hrel
    by_cases hlt : k < l.length
    · obtain ⟨ad1, B1, d1, rfl, hcl, hd1, hb1⟩ := (h1.ext hx).at k hlt
      have hlk : l.take (k + 1) = l.take k ++ [l.getD k []] := by rw [List.take_succ_eq_append_getElem hlt]; simp [hlt]
      have hkl : (l.take k).length = k := by rw [List.length_take]; omega
      obtain ⟨r, Hr⟩ : ∃ r, Hid (l.getD k [] = r) := ⟨_, Lib.hid rfl⟩
      obtain ⟨xs, Hxs⟩ : ∃ xs, Hid (l.take k = xs) := ⟨_, Lib.hid rfl⟩
      rw [Hr.out] at hcl hd1 hb1 hlk
      rw [Hxs.out] at hlk hS hall hW hkl
      have Hlk := Lib.hid hlk
      have Hkl := Lib.hid hkl
      have Hall := Lib.hid hall
      clear hlk hkl hall
      by_cases q3 : 100 < r.length
      · go_wp2
        go_ret
        exact ⟨rfl, hx⟩
      have hU := U_snd xs r (by omega) (by have := Hkl.out; omega)
      go_wp2_with fail
      refine (send_any g 2 V1 L1 (U xs) 1 0 B1 r.length d1 r wr hN hS (by omega) hb1 rfl).mono ?_
      rintro e w4 ⟨rfl, ha⟩
      rw [hU] at ha ⊢
      obtain ⟨V2, L2, hN2, hS2, hF2, hx4, hK4⟩ := After.inv hx hF ha
      have hW4 := hW.keep hN (by decide) hK4
      obtain ⟨ad2, B2, d2, he2, hcl2, hd2, hb2⟩ := (h1.ext hx4).at k hlt
      injection he2 with he2
      subst he2
      rw [Hr.out] at hcl2 hd2 hb2
      have hv2 := hb2.string r.length d2 rfl
      clear hU ha hcl hN hS hF hK4 hW
      dsimp only
      go_wp2_with ((with_reducible refine gate_dst (N := 59) rfl ?_); refine halt ?_)
      refine unhalt (wp_str rfl _ _ rfl _ xs rfl ⟨w4.heap.size, 0, none⟩ r 1 rfl w.heap.size (hW4.ext ((Ext.refl _).alloc _)) (cell_new _ _ _ _ rfl) (hx4.alloc _).size (by have := Hkl.out; omega) ?_)
      intro v5 w5 hW5 hg5
      have hN5 := (hN2.ext ((Ext.refl w4).alloc _)).strs (by decide) (hW4.ext ((Ext.refl w4).alloc (.cells #[.string (Str r)] 9))) hg5
      have hx5 : Ext w w5 := ext_row (hx4.alloc _) (hW4.ext ((Ext.refl w4).alloc (.cells #[.string (Str r)] 9))) (Nat.le_refl _) hg5
      clear hg5 hW4 hv2 hcl2
      go_wp2
      go_roundw
      case rel =>
        refine ⟨k + 1, by omega, by go_num, ?_, ?_⟩
        · rw [Hlk.out]
          exact ⟨⟨V2, L2, hN5, hS2, hF2⟩, hx5, hW5⟩
        · rw [Hlk.out]
          intro x hx
          rcases List.mem_append.1 hx with hx | hx
          · exact Hall.out x hx
          · obtain rfl := List.mem_singleton.1 hx
            omega
      case measure => simp [intOf]; omega
    have hkl : k = l.length := by omega
    subst hkl
    rw [List.take_length] at hS hW hall
    have Hall := Lib.hid hall
    clear hlt hk hall
    go_wp2
    go_loopw [7, 9] (fun v i wr => ∃ (k : Nat) (xs : List (List UInt8)), k ≤ tw.length ∧ i = .int .i64 k ∧ xs.length ≤ 30 + k ∧ Once w wr g v xs xs ∧ ∀ x ∈ xs, x.length ≤ 100) (fun _ i _ => tw.length - (intOf i).toNat)
    case atStart => exact ⟨0, l, Nat.zero_le _, rfl, by omega, ⟨⟨V1, L1, hN, hS, hF⟩, hx, hW⟩, Hall.out⟩
    case round =>
      clear hN hS hF hx hW
      obtain ⟨k, xs, hk, rfl, hxl, ⟨⟨V1, L1, hN, hS, hF⟩, hx, hW⟩, hall⟩ := hrel
      have Hall := Lib.hid hall
      clear hall
      by_cases hlt : k < tw.length
      · obtain ⟨ad1, rfl, hcl⟩ := (h2.ext hx) k tw[k] (List.getElem?_eq_getElem hlt)
        obtain ⟨a, Ha⟩ : ∃ a, Hid (tw[k] = a) := ⟨_, Lib.hid rfl⟩
        have hcl2 : ∀ W, Ext w W → W.cell? (ad1.add k) = some (.int .i64 a) := fun W hW' => by
          obtain ⟨ad2, he, hc⟩ := (h2.ext hW') k tw[k] (List.getElem?_eq_getElem hlt)
          injection he with he
          subst he
          rw [Ha.out] at hc
          exact hc
        rw [Ha.out] at hcl
        have Hcl2 := Lib.hid hcl2
        clear hcl2
        by_cases q4 : 0 ≤ a ∧ a < xs.length
        · obtain ⟨i, rfl⟩ := Int.eq_ofNat_of_zero_le q4.1
          have hi : i < xs.length := by omega
          have hU := U_dbl xs i hi Hall.out (by omega)
          go_wp2_with fail
          refine (double_any g 2 V1 L1 (U xs) 1 0 (i : Int) wr hN hS (by omega)).mono ?_
          rintro e w4 ⟨rfl, ha⟩
          rw [hU] at ha ⊢
          obtain ⟨V2, L2, hN2, hS2, hF2, hx4, hK4⟩ := After.inv hx hF ha
          have hW4 := hW.keep hN (by decide) hK4
          obtain ⟨A3, c3, rfl⟩ := hW4.shape
          obtain ⟨gw, rfl, hcw⟩ := hW4.at i hi
          have hcl4 := Hcl2.out w4 hx4
          obtain ⟨r, Hr⟩ : ∃ r, Hid (xs.getD i [] = r) := ⟨_, Lib.hid rfl⟩
          rw [Hr.out] at hcw hS2
          have hr100 : r.length ≤ 100 := by rw [← Hr.out]; exact Hall.out _ (by simp [hi])
          have q5 : ¬ ((i : Int) < 0) := by omega
          have q6 : ¬ ((xs.length : Int) ≤ (i : Int)) := by omega
          clear hU ha hcl hN hS hF hK4 hW q4
          dsimp only
          go_wp2_with ((with_reducible refine gate_dst (N := 96) rfl ?_); refine halt ?_)
          refine unhalt (wp_str rfl _ _ rfl _ xs rfl ⟨w4.heap.size, 0, none⟩ r 1 rfl w.heap.size (hW4.ext ((Ext.refl _).alloc _)) (cell_new _ _ _ _ rfl) (hx4.alloc _).size (by omega) ?_)
          intro v5 w5 hW5 hg5
          have hN5 := (hN2.ext ((Ext.refl w4).alloc _)).strs (by decide) (hW4.ext ((Ext.refl w4).alloc (.cells #[.string (Str r)] 9))) hg5
          have hx5 : Ext w w5 := ext_row (hx4.alloc _) (hW4.ext ((Ext.refl w4).alloc (.cells #[.string (Str r)] 9))) (Nat.le_refl _) hg5
          clear hg5 hW4 hcw hcl4
          go_wp2
          go_roundw
          case rel =>
            refine ⟨k + 1, xs ++ [r], by omega, by go_num, by simp; omega, ⟨⟨V2, L2, hN5, hS2, hF2⟩, hx5, hW5⟩, ?_⟩
            intro x hx
            rcases List.mem_append.1 hx with hx | hx
            · exact Hall.out x hx
            · obtain rfl := List.mem_singleton.1 hx
              exact hr100
          case measure => simp [intOf]; omega
        · have hU := U_no xs a q4
          go_wp2_with fail
          refine (double_any g 2 V1 L1 (U xs) 1 0 a wr hN hS (by omega)).mono ?_
          rintro e w4 ⟨rfl, ha⟩
          rw [hU] at ha ⊢
          obtain ⟨V2, L2, hN2, hS2, hF2, hx4, hK4⟩ := After.inv hx hF ha
          have hW4 := hW.keep hN (by decide) hK4
          clear hU ha hcl hN hS hF hK4 hW q4
          dsimp only
          go_wp2
          go_roundw
          case rel => exact ⟨k + 1, xs, by omega, by go_num, by omega, ⟨⟨V2, L2, hN2, hS2, hF2⟩, hx4, hW4⟩, Hall.out⟩
          case measure => simp [intOf]; omega
      obtain ⟨A3, c3, rfl⟩ := hW.shape
      obtain ⟨n, Hn⟩ : ∃ n, Hid (xs.length = n) := ⟨_, Lib.hid rfl⟩
      rw [Hn.out] at hW hxl ⊢
      have hktl : k = tw.length := by omega
      subst hktl
      clear hlt hk
      go_wp2
      go_loopw [10] (fun i wr => ∃ k : Nat, k ≤ n ∧ i = .int .i64 k ∧ Once w wr g (.slice A3 n c3) (xs.drop k) xs) (fun i _ => n - (intOf i).toNat)
      case atStart => exact ⟨0, Nat.zero_le _, rfl, ⟨V1, L1, hN, hS, hF⟩, hx, hW⟩
      case round =>
        clear hN hS hF hx hW
        obtain ⟨k, hk, rfl, ⟨V1, L1, hN, hS, hF⟩, hx, hW⟩ := hrel
        by_cases hlt : k < n
        · have hkl : k < xs.length := by rw [Hn.out]; exact hlt
          have hdk : xs.drop k = xs.getD k [] :: xs.drop (k + 1) := by
            rw [List.drop_eq_getElem_cons hkl]
            simp [hkl]
          obtain ⟨x, Hx⟩ : ∃ x, Hid (xs.getD k [] = x) := ⟨_, Lib.hid rfl⟩
          obtain ⟨gw, rfl, hcw⟩ := hW.at k hkl
          rw [Hx.out] at hcw hdk
          rw [hdk] at hS
          have hU := U_tk x (xs.drop (k + 1))
          clear hcw hdk
          go_wp2_with fail
          refine (take_any g 2 V1 L1 (U (x :: xs.drop (k + 1))) 1 0 0 wr hN hS (by omega)).mono ?_
          rintro e w4 ⟨A4, c4, rfl, hl4, hB4, hI4, ha⟩
          rw [hU] at ha hl4 hB4 ⊢
          obtain ⟨V2, L2, hN2, hS2, hF2, hx4, hK4⟩ := After.inv hx hF ha
          have hW4 := hW.keep hN (by decide) hK4
          obtain ⟨gw', he, hcw⟩ := hW4.at k hkl
          injection he with he
          injection he with he
          subst he
          rw [Hx.out] at hcw
          dsimp only at hl4 hB4 ⊢
          have hv4 := (hB4.ext (Ext.refl w4).drew).string x.length c4 rfl
          have hS' := Str_toList
          clear hU ha hN hS hF hK4 hW
          go_wp2
          go_region
          go_wp2
          go_roundw
          case rel => exact ⟨k + 1, by omega, by go_num, ⟨V2, L2, hN2.ext (Ext.refl w4).drew, hS2, hF2⟩, hx4.drew, hW4.ext (Ext.refl w4).drew⟩
          case measure => simp [intOf]; omega
        have hkn : k = n := by omega
        subst hkn
        rw [show xs.drop k = [] from by rw [← Hn.out]; simp] at hS
        have hall := alls_any g 2 V1 L1 (U []) wr hN hS (by omega) (by rw [U_nil]; intro k _; exact Nat.zero_le _)
        rw [show sqS (U []) 2 2 = 0 from rfl] at hall
        clear hlt hk
        go_wp2_with fail
        refine hall.mono ?_
        rintro e w6 ⟨rfl, hw6⟩
        obtain rfl := hw6
        go_wp2
        go_ret
        exact ⟨rfl, hx⟩

end Go.Proofs.Ytbmhchfjapdicaa
