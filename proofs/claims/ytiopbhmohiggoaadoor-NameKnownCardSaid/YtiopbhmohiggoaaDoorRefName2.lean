/- The reference's bad, Cut, Cmp, GoodName. -/
import Derived.Test.YtiopbhmohiggoaaDoorRefName1
import Derived.Test.YtiopbhmohiggoaaDoorName2
set_option linter.unusedVariables false
namespace Go.Proofs.YtiopbhmohiggoaaDoor
open Go.RowKit Go.Lib Go.Shelf Go.Proofs.YtiopbhmohiggoaaDoorW.PrintWords
set_option maxHeartbeats 4000000
set_option maxRecDepth 100000

theorem ofsF_length : ∀ (l : List (List UInt8 × Nat)) (p : Nat), (ofsF p l).length = l.length + 1
  | [], p => rfl
  | c :: t, p => by rw [ofsF, List.length_cons, ofsF_length t, List.length_cons]
theorem ofs_length (s : ByteArray) : (ofs s).length = (CH s).length + 1 := ofsF_length _ _
/-- Where piece i begins. -/
def pos_ (s : ByteArray) (i : Nat) : Nat := (flat ((CH s).take i)).length
theorem ofsF_get : ∀ (l : List (List UInt8 × Nat)) (p i : Nat), i ≤ l.length → (ofsF p l)[i]? = some ((p + (flat (l.take i)).length : Nat) : Int)
  | [], p, 0, _ => by simp [ofsF, flat_nil]
  | [], p, i + 1, h => by simp at h
  | c :: t, p, 0, _ => by simp [ofsF, flat_nil]
  | c :: t, p, i + 1, h => by
    rw [ofsF, List.getElem?_cons_succ, ofsF_get t _ i (by simpa using h), List.take_succ_cons, flat_cons, List.length_append, Nat.add_assoc]
theorem ofs_get (s : ByteArray) (i : Nat) (h : i ≤ (CH s).length) : (ofs s)[i]? = some (pos_ s i : Int) := by
  rw [ofs, ofsF_get _ _ _ h, Nat.zero_add]; rfl
theorem flat_split (s : ByteArray) (i : Nat) : s.data.toList = flat ((CH s).take i) ++ flat ((CH s).drop i) := by
  rw [← flat_append, List.take_append_drop]
  exact (chunks_flat _).symm
theorem pos_le (s : ByteArray) (i : Nat) : pos_ s i ≤ s.size := by
  have := congrArg List.length (flat_split s i)
  rw [List.length_append, slen] at this
  unfold pos_; omega
theorem pos_zero (s : ByteArray) : pos_ s 0 = 0 := rfl
theorem pos_end (s : ByteArray) (i : Nat) (h : (CH s).length ≤ i) : pos_ s i = s.size := by
  have := congrArg List.length (flat_split s i)
  rw [List.drop_of_length_le h, flat_nil, List.append_nil, slen] at this
  exact this.symm
theorem pos_succ (s : ByteArray) (i : Nat) (c : List UInt8 × Nat) (h : (CH s)[i]? = some c) : pos_ s (i + 1) = pos_ s i + c.1.length ∧ (s.data.toList.drop (pos_ s i)).take c.1.length = c.1 ∧ (CH s).drop i = c :: (CH s).drop (i + 1) := by
  have h1 : (CH s).drop i = c :: (CH s).drop (i + 1) := by
    have hi := (List.getElem?_eq_some_iff.1 h).1
    rw [List.drop_eq_getElem_cons hi, (List.getElem?_eq_some_iff.1 h).2]
  refine ⟨?_, ?_, h1⟩
  · unfold pos_
    rw [List.take_add_one, h, flat_append, List.length_append]
    simp [flat_cons, flat_nil]
  · have h2 := flat_split s i
    rw [h1, flat_cons] at h2
    rw [h2]
    unfold pos_
    rw [List.drop_left, List.take_left]
theorem CH_rune (s : ByteArray) (i : Nat) (c : List UInt8 × Nat) (h : (CH s)[i]? = some c) : c.2 ≤ 1114111 := by
  have h1 : c ∈ CH s := List.mem_of_getElem? h
  have h2 : ∀ l : List UInt8, ∀ q ∈ chunks l, q.2 ≤ 1114111 := by
    intro l
    induction l using by_piece with
    | h0 => intro q hq; simp [chunks_nil] at hq
    | h1 l hne ih =>
      intro q hq
      rw [chunks_step l hne] at hq
      rcases List.mem_cons.1 hq with rfl | hq
      · exact decodeL_rune l
      · exact ih q hq
  exact h2 _ _ h1
theorem zr_get (s : ByteArray) (i : Nat) (c : List UInt8 × Nat) (h : (CH s)[i]? = some c) : (zr s)[i]? = some (c.2 : Int) := by
  rw [zr, List.getElem?_map, h]; rfl

theorem bad_any (s : ByteArray) (g1 n1 c1 g2 n2 c2 i : Nat) (x : Int) (p q : Nat) (w : World) (h1 : w.cell? ⟨g1, i, none⟩ = some (.int .i32 x)) (h2 : w.cell? ⟨g2, i, none⟩ = some (.int .i64 (p : Int))) (h3 : w.cell? ⟨g2, i + 1, none⟩ = some (.int .i64 (q : Int)))
    (hi : i < n1) (hi2 : i + 1 < n2) (hn : n2 ≤ 2097152) (hp : p ≤ 1048576) (hq : q ≤ 1048576) :
    Calls Tryd.prog 28 #[.string s, .slice (some ⟨g1, 0, none⟩) n1 c1, .slice (some ⟨g2, 0, none⟩) n2 c2, .int .i64 (i : Int)] w fun e w' => e = .returned (.bool ((x == 65533) && ((q : Int) - (p : Int) == 1))) ∧ Ext w w' := by
  go_enter Tryd.func28, Tryd.ntmps28
  by_cases hx : x = 65533
  · subst hx
    go_wp2
    go_quiet (fail)
    go_wp2
    go_ret
    exact ⟨rfl, by repeat (first | exact Ext.refl _ | apply Ext.drewN | apply Ext.drew)⟩
  · have hx' : (x == 65533) = false := by simp [hx]
    go_wp2
    go_quiet (fail)
    go_wp2
    go_ret
    exact ⟨by rw [hx']; rfl, by repeat (first | exact Ext.refl _ | apply Ext.drewN | apply Ext.drew)⟩
/-! ### Cut -/
theorem refcut_any (s : ByteArray) (n : Int) (w : World) (hs : s.size ≤ 1048576) :
    Calls Tryd.prog 22 #[.string s, .int .i64 n] w fun e w' => (∃ r : ByteArray, e = .returned (.string r) ∧ r.data.toList = cutL s n) ∧ Ext w w' := by
  have hcl := CH_length s
  go_enter Tryd.func22, Tryd.ntmps22
  go_wp2_with fail
  refine (runes_any s w hs).mono ?_
  rintro e w1 ⟨v, u, rfl, hv, hu, x1⟩
  obtain ⟨A1, c1, rfl, hc1, -⟩ := hv.shape
  obtain ⟨A2, c2, rfl, hc2, -⟩ := hu.shape
  have hl1 := zr_length s
  have hl2 := ofs_length s
  by_cases h1 : n < 1
  · go_wp2_with fail
    all_goals go_ret
    all_goals refine ⟨⟨_, rfl, ?_⟩, x1⟩
    rw [cutL, show n.toNat = 0 from by omega]; rfl
  · by_cases h2 : ((CH s).length : Int) ≤ n
    · rw [hl1]
      clear hl1 hl2 hv hu
      go_wp2_with fail
      all_goals go_ret
      all_goals refine ⟨⟨_, rfl, ?_⟩, x1⟩
      rw [cutL, List.take_of_length_le (by omega), CH, chunks_flat]
    · obtain ⟨k, rfl⟩ := Int.eq_ofNat_of_zero_le (show 0 ≤ n by omega)
      have hk : k < (CH s).length := by omega
      have hg := ofs_get s k (by omega)
      obtain ⟨g, rfl, hcell⟩ := hu.at k _ hg
      have hple := pos_le s k
      have Hp : Hid (s.data.toList.take (pos_ s k) = flat ((CH s).take k)) := Lib.hid (taken s k _ rfl)
      generalize pos_ s k = p at *
      rw [hl1, hl2] at *
      clear hl1 hl2 hv hu hg
      generalize (CH s).length = m at *
      go_wp2_with fail
      all_goals go_ret
      all_goals refine ⟨⟨_, rfl, ?_⟩, x1⟩
      rw [extract_list, List.drop_zero, Nat.sub_zero, cutL, Int.toNat_natCast]
      exact Hp.out

/-! ### Cmp -/
theorem refcmp_any (a b : ByteArray) (w : World) (ha : a.size ≤ 1048576) (hb : b.size ≤ 1048576) :
    Calls Tryd.prog 19 #[.string a, .string b] w fun e w' => e = .returned (.int .i64 (cmpL (zr a) (zr b))) ∧ Ext w w' := by
  have hna := CH_length a
  have hnb := CH_length b
  go_enter Tryd.func19, Tryd.ntmps19
  go_wp2_with fail
  refine (runes_any a w ha).mono ?_
  rintro e w1 ⟨v1, u1, rfl, hv1, -, x1⟩
  obtain ⟨A1, c1, rfl, hc1, -⟩ := hv1.shape
  go_wp2_with fail
  refine (runes_any b w1 hb).mono ?_
  rintro e w2 ⟨v2, u2, rfl, hv2, -, x2⟩
  obtain ⟨A2, c2, rfl, hc2, -⟩ := hv2.shape
  have x12 := x1.trans x2
  have z1 := hv1.ext x2
  rw [zr_length] at z1 hv2 hc1 hc2 ⊢
  rw [zr_length] at ⊢
  have Hn := Lib.hid (zr_length a)
  have Hm := Lib.hid (zr_length b)
  generalize (CH a).length = n at *
  generalize (CH b).length = m at *
  clear hv1
  go_wp2_with fail
  go_loopw [9] (fun iv wr => ∃ i : Nat, iv = Value.int .i64 i ∧ Ext w2 wr ∧ i ≤ n ∧ i ≤ m ∧ cmpL (zr a) (zr b) = cmpL ((zr a).drop i) ((zr b).drop i)) (fun iv _ => n - (intOf iv).toNat)
  case atStart => exact ⟨0, rfl, Ext.refl _, by omega, by omega, rfl⟩
  case round =>
    obtain ⟨i, rfl, hx, hin, him, hc⟩ := hrel
    have hy := x12.trans hx
    by_cases hi : i < n
    · rw [drop_at (zr a) i (by rw [Hn.out]; exact hi)] at hc
      have hxa : (zr a)[i]? = some ((zr a).getD i 0) := by rw [List.getD_eq_getElem?_getD, List.getElem?_eq_getElem (by rw [Hn.out]; exact hi)]; rfl
      obtain ⟨g1, rfl, k1⟩ := z1.at i _ hxa
      have k1' := hx.cell k1
      obtain ⟨x, hx0⟩ : ∃ x, (zr a).getD i 0 = x := ⟨_, rfl⟩
      rw [hx0] at k1' hc
      clear hx0 hxa k1
      by_cases hj : i < m
      · rw [drop_at (zr b) i (by rw [Hm.out]; exact hj)] at hc
        have hxb : (zr b)[i]? = some ((zr b).getD i 0) := by rw [List.getD_eq_getElem?_getD, List.getElem?_eq_getElem (by rw [Hm.out]; exact hj)]; rfl
        obtain ⟨g2, rfl, k2⟩ := hv2.at i _ hxb
        have k2' := hx.cell k2
        obtain ⟨y, hy0⟩ : ∃ y, (zr b).getD i 0 = y := ⟨_, rfl⟩
        rw [hy0] at k2' hc
        clear hy0 hxb k2
        have Hc := Lib.hid hc
        clear hc
        by_cases hlt : x < y
        · go_wp2
          go_quiet (fail)
          go_wp2
          go_ret
          have e : cmpL (zr a) (zr b) = -1 := by rw [Hc.out, cmpL, if_neg (by omega), if_pos (by omega)]
          exact ⟨by rw [e]; rfl, by repeat (first | exact hy | apply Ext.drewN | apply Ext.drew)⟩
        · by_cases hgt : y < x
          · go_wp2
            go_quiet (fail)
            go_wp2
            go_quiet (fail)
            go_wp2
            go_ret
            have e : cmpL (zr a) (zr b) = 1 := by rw [Hc.out, cmpL, if_pos (by omega)]
            exact ⟨by rw [e]; rfl, by repeat (first | exact hy | apply Ext.drewN | apply Ext.drew)⟩
          · go_wp2
            go_quiet (fail)
            go_wp2
            go_quiet (fail)
            go_wp2
            go_roundw
            case rel => exact ⟨i + 1, by simp, by repeat (first | exact hx | apply Ext.drewN | apply Ext.drew), by omega, by omega, by rw [Hc.out, cmpL, if_neg (by omega), if_neg (by omega)]⟩
            case measure => simp [intOf]; omega
      · rw [List.drop_of_length_le (by rw [Hm.out]; omega : (zr b).length ≤ i)] at hc
        have Hc := Lib.hid hc
        clear hc
        go_wp2
        all_goals go_ret
        have e : cmpL (zr a) (zr b) = 1 := by rw [Hc.out, cmpL]
        exact ⟨by rw [e]; rfl, hy⟩
    · rw [List.drop_of_length_le (by rw [Hn.out]; omega : (zr a).length ≤ i)] at hc
      have Hc := Lib.hid hc
      clear hc
      go_wp2
      · go_ret
        have e : cmpL (zr a) (zr b) = -1 := by
          rw [Hc.out, drop_at (zr b) i (by rw [Hm.out]; omega), cmpL]
        exact ⟨by rw [e]; rfl, hy⟩
      · go_ret
        have e : cmpL (zr a) (zr b) = 0 := by
          rw [Hc.out, List.drop_of_length_le (by rw [Hm.out]; omega : (zr b).length ≤ i), cmpL]
        exact ⟨by rw [e]; rfl, hy⟩
end Go.Proofs.YtiopbhmohiggoaaDoor
