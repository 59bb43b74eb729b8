/- NameFolds: the walk, and the plain law. -/
import Derived.Test.YtiopbhmohiggoaaDoorNameCuts
set_option linter.unusedVariables false
namespace Go.Proofs.YtiopbhmohiggoaaDoor
open Go.RowKit Go.Lib Go.Shelf Go.Proofs.YtiopbhmohiggoaaDoorW.PrintWords
set_option maxHeartbeats 4000000
set_option maxRecDepth 100000

/-- A text of plain letters. -/
def Plain (l : List UInt8) : Prop := ∀ b ∈ l, b.toNat ≤ 126
theorem chunks_plain (t : List UInt8) : ∀ l : List UInt8, Plain l → chunks (l ++ t) = (l.map fun b => ([b], b.toNat)) ++ chunks t
  | [], _ => rfl
  | b :: l, h => by
    have hb := h b List.mem_cons_self
    have ih := chunks_plain t l (fun x hx => h x (List.mem_cons_of_mem _ hx))
    have hd := decodeL_ascii b (l ++ t) (by omega)
    rw [List.cons_append, chunks_step _ (by simp), hd]
    show ([b], b.toNat) :: chunks (l ++ t) = _
    rw [ih]; rfl
theorem chunks_plain' (l : List UInt8) (h : Plain l) : chunks l = l.map fun b => ([b], b.toNat) := by
  have := chunks_plain [] l h
  rw [List.append_nil, chunks_nil, List.append_nil] at this
  exact this
/-- A plain letter, made small. -/
def small (b : UInt8) : UInt8 := if 65 ≤ b.toNat ∧ b.toNat ≤ 90 then b + 32 else b
theorem small_nat (b : UInt8) (h : b.toNat ≤ 126) : (small b).toNat = if 65 ≤ b.toNat ∧ b.toNat ≤ 90 then b.toNat + 32 else b.toNat := by
  unfold small
  split
  · rw [UInt8.toNat_add]; simp; omega
  · rfl
theorem small_le (b : UInt8) (h : b.toNat ≤ 126) : (small b).toNat ≤ 126 := by rw [small_nat b h]; split <;> omega
theorem lower_small (b : UInt8) (h : b.toNat ≤ 126) : toLowerU (b.toNat : Int) = ((small b).toNat : Int) := by
  rw [small_nat b h]
  unfold toLowerU
  rw [if_pos (by omega)]
  split <;> split <;> omega
theorem enc_plain (b : UInt8) (h : b.toNat ≤ 126) : encodeRune (b.toNat : Int) = [b] := by
  rw [encodeRune, encodeRuneZ_one (by omega) (by omega)]
  simp
theorem fold_plain (t : List UInt8) : ∀ l : List UInt8, Plain l → foldL (chunks (l ++ t)) = l.map small ++ foldL (chunks t) := by
  intro l h
  rw [chunks_plain t l h]
  unfold foldL
  rw [List.flatMap_append, List.flatMap_map]
  congr 1
  induction l with
  | nil => rfl
  | cons b l ih =>
    have hb := h b List.mem_cons_self
    rw [List.flatMap_cons, List.map_cons, ih (fun x hx => h x (List.mem_cons_of_mem _ hx)), lower_small b hb, enc_plain _ (small_le b hb)]
    rfl
theorem fold_plain' (l : List UInt8) (h : Plain l) : foldL (chunks l) = l.map small := by
  have := fold_plain [] l h
  rw [List.append_nil, chunks_nil, show foldL [] = [] from rfl, List.append_nil] at this
  exact this
theorem plain_small (l : List UInt8) (h : Plain l) : Plain (l.map small) := by
  intro b hb
  obtain ⟨x, hx, rfl⟩ := List.mem_map.1 hb
  exact small_le x (h x hx)
theorem small_small (b : UInt8) (h : b.toNat ≤ 126) : small (small b) = small b := by
  have h2 := small_nat b h
  apply UInt8.toNat_inj.1
  rw [small_nat _ (small_le b h), h2]
  repeat' split
  all_goals omega
theorem fold_fold (l : List UInt8) (h : Plain l) : (l.map small).map small = l.map small := by
  rw [List.map_map]
  apply List.map_congr_left
  intro b hb
  exact small_small b (h b hb)
theorem ok_all : ∀ n : Nat, n < 127 → ∀ f : Bool, okR ((if 65 ≤ n ∧ n ≤ 90 then n + 32 else n : Nat) : Int) f = okR (n : Int) f := by decide
theorem ok_small (b : UInt8) (h : b.toNat ≤ 126) (f : Bool) : okR ((small b).toNat : Int) f = okR (b.toNat : Int) f := by
  rw [small_nat b h]
  exact ok_all b.toNat (by omega) f
theorem good_small (l : List UInt8) (h : Plain l) : goodL (chunks (l.map small)) = goodL (chunks l) := by
  rw [chunks_plain' _ (plain_small l h), chunks_plain' l h, List.map_map]
  cases l with
  | nil => rfl
  | cons b l =>
    have hb := h b List.mem_cons_self
    have hall : ((l.map ((fun b : UInt8 => ([b], b.toNat)) ∘ small)).all fun d => okR (d.2 : Int) false) = ((l.map fun b : UInt8 => ([b], b.toNat)).all fun d => okR (d.2 : Int) false) := by
      rw [List.all_map, List.all_map]
      have h2 : Plain l := fun x hx => h x (List.mem_cons_of_mem _ hx)
      clear h hb
      induction l with
      | nil => rfl
      | cons c l ih =>
        rw [List.all_cons, List.all_cons, ih (fun x hx => h2 x (List.mem_cons_of_mem _ hx))]
        congr 1
        exact ok_small c (h2 c List.mem_cons_self) false
    simp only [List.map_cons, goodL, List.length_cons, List.length_map]
    rw [hall]
    congr 2
    exact ok_small b hb true

theorem mk_list (l : List UInt8) : (⟨l.toArray⟩ : ByteArray).data.toList = l := rfl
theorem mk_sz (l : List UInt8) : (⟨l.toArray⟩ : ByteArray).size = l.length := by
  show l.toArray.size = l.length
  simp
theorem fold_le : ∀ l : List (List UInt8 × Nat), (foldL l).length ≤ 4 * l.length
  | [] => Nat.le_refl _
  | c :: l => by
    have ih := fold_le l
    have h := enc_length (toLowerU c.2)
    unfold foldL at ih ⊢
    rw [List.flatMap_cons, List.length_append, List.length_cons]
    omega
theorem getD_in (l : List UInt8) (i : Nat) (h : i < l.length) : l.getD i 0 = l[i] := by simp [List.getD, h]
theorem at_list (s : ByteArray) (i : Nat) (h : i < s.size) : s.data.toList.getD i 0 = s[i] := by
  have h2 : i < s.data.toList.length := by rw [slen]; exact h
  rw [getD_in _ _ h2]; rfl
theorem plain_of (s : ByteArray) (h : ∀ j, j < s.size → (s.data.toList.getD j 0).toNat ≤ 126) : Plain s.data.toList := by
  intro b hb
  obtain ⟨j, hj, rfl⟩ := List.getElem_of_mem hb
  have := h j (by rw [← slen]; exact hj)
  rw [getD_in _ _ hj] at this
  exact this
theorem folds_any (s t : ByteArray) (w : World) (ht : Tabs w) :
    Calls Tryd.prog 4 #[.string s, .string t] w fun e w' => e = .returned (.bool true) ∧ Ext w w' := by
  go_enter Tryd.func4, Tryd.ntmps4
  go_wp2_with (go_at_call 9; refine (awake_any _ ht).mono ?_)
  rintro e w1 ⟨rfl, x1⟩
  by_cases h : s.size ≤ 100 ∧ t.size ≤ 100
  · obtain ⟨hs, hst⟩ := h
    have q1 : ¬ (100 < s.size) := by omega
    have q2 : ¬ (100 < t.size) := by omega
    go_wp2_with fail
    go_loopw [5] (fun iv wr => ∃ i : Nat, iv = Value.int .i64 i ∧ wr = w1 ∧ i ≤ s.size ∧ ∀ j, j < i → (s.data.toList.getD j 0).toNat ≤ 126) (fun iv _ => s.size - (intOf iv).toNat)
    case atStart => exact ⟨0, rfl, rfl, Nat.zero_le _, fun j hj => absurd hj (Nat.not_lt_zero _)⟩
    case round =>
      obtain ⟨i, rfl, rfl, hi, hpl⟩ := hrel
      by_cases hlt : i < s.size
      · go_wp2_with fail
        · go_ret
          exact ⟨rfl, x1⟩
        · rename_i hb
          go_roundw
          case rel =>
            refine ⟨i + 1, by simp, trivial, by omega, fun j hj => ?_⟩
            rcases Nat.lt_or_ge j i with h1 | h1
            · exact hpl j h1
            · obtain rfl : j = i := by omega
              rw [at_list s j hlt]
              omega
          case measure => simp [intOf]; omega
      · have hp : Plain s.data.toList := plain_of s (fun j hj => hpl j (by omega))
        have hsl := slen s
        have htl := slen t
        have hF : foldL (CH s) = s.data.toList.map small := fold_plain' _ hp
        obtain ⟨F, hFd⟩ : ∃ F : ByteArray, F = ⟨(s.data.toList.map small).toArray⟩ := ⟨_, rfl⟩
        have hFl : F.data.toList = s.data.toList.map small := by rw [hFd]
        have hFs : F.size = s.size := by rw [← slen, hFl, List.length_map, slen]
        have hFp : Plain F.data.toList := by rw [hFl]; exact plain_small _ hp
        obtain ⟨T, hTd⟩ : ∃ T : ByteArray, T = ⟨(foldL (CH t)).toArray⟩ := ⟨_, rfl⟩
        have hTl : T.data.toList = foldL (CH t) := by rw [hTd]
        have hTs : T.size ≤ 400 := by
          have h1 := fold_le (CH t)
          have h2 := CH_length t
          rw [← slen, hTl]; omega
        have hgg : goodL (CH F) = goodL (CH s) := by
          unfold CH
          rw [hFl]
          exact good_small _ hp
        have kF := fun W T => fold_any s W (by omega) T
        have kFF := fun W T => fold_any F W (by omega) T
        have kT := fun W T => fold_any t W (by omega) T
        have kST := fun W T => fold_any (s ++ t) W (by rw [ByteArray.size_append]; omega) T
        have e1 : (⟨(foldL (CH s)).toArray⟩ : ByteArray) = F := by rw [hF, hFd]
        have e2 : (⟨(foldL (CH F)).toArray⟩ : ByteArray) = F := by
          apply bytes_ext
          rw [mk_list, hFl]
          show foldL (chunks F.data.toList) = _
          rw [fold_plain' _ hFp, hFl]
          exact fold_fold _ hp
        have e3 : (⟨(foldL (CH (s ++ t))).toArray⟩ : ByteArray) = F ++ T := by
          apply bytes_ext
          rw [mk_list, append_list, hFl, hTl]
          show foldL (chunks (s ++ t).data.toList) = _
          rw [append_list]
          exact fold_plain _ _ hp
        rw [e1] at kF
        rw [e2] at kFF
        rw [e3] at kST
        rw [← hTd] at kT
        have gF := fun W T => good_any F W (by omega) T
        have gS := fun W T => good_any s W (by omega) T
        rw [hgg] at gF
        generalize goodL (CH s) = g at gF gS
        have m1 : ¬ (9223372036854775807 < s.size + t.size) := by omega
        have m2 : ¬ (9223372036854775807 < F.size + T.size) := by omega
        clear hF hFd hFl hFp hTd hTl hgg e1 e2 e3 hp hpl hsl htl
        go_wp2_with fail
        refine (kF _ (ht.ext x1)).mono ?_
        rintro e w2 ⟨rfl, x2⟩
        have y2 := x1.trans x2
        go_wp2_with fail
        refine (gF _ (ht.ext y2)).mono ?_
        rintro e w3 ⟨rfl, x3⟩
        have y3 := y2.trans x3
        go_wp2_with fail
        refine (gS _ (ht.ext y3)).mono ?_
        rintro e w4 ⟨rfl, x4⟩
        have y4 := y3.trans x4
        have hg : (g == g) = true := by cases g <;> rfl
        go_wp2_with fail
        refine (kF _ (ht.ext y4)).mono ?_
        rintro e w5 ⟨rfl, x5⟩
        have y5 := y4.trans x5
        go_wp2_with fail
        refine (kFF _ (ht.ext y5)).mono ?_
        rintro e w6 ⟨rfl, x6⟩
        have y6 := y5.trans x6
        go_wp2_with fail
        refine (kF _ (ht.ext y6)).mono ?_
        rintro e w7 ⟨rfl, x7⟩
        have y7 := y6.trans x7
        go_wp2_with fail
        refine (kST _ (ht.ext y7)).mono ?_
        rintro e w8 ⟨rfl, x8⟩
        have y8 := y7.trans x8
        go_wp2_with fail
        refine (kF _ (ht.ext y8)).mono ?_
        rintro e w9 ⟨rfl, x9⟩
        have y9 := y8.trans x9
        go_wp2_with fail
        refine (kT _ (ht.ext y9)).mono ?_
        rintro e w10 ⟨rfl, x10⟩
        have y10 := y9.trans x10
        go_wp2_with fail
        go_ret
        exact ⟨rfl, y10⟩
  · go_wp2_with fail
    all_goals go_ret
    all_goals exact ⟨rfl, x1⟩
end Go.Proofs.YtiopbhmohiggoaaDoor
