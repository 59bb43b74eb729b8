/- PackRdB: the walks of (*pack.Reader).Bytes, Text. -/
import Derived.Test.YtlffbappgfimeaaDoorPackRdNum
set_option linter.unusedVariables false
set_option maxRecDepth 100000
namespace Go.Proofs.YtlffbappgfimeaaDoor
open Go.RowKit Go.Proofs.YtlffbappgfimeaaDoorW.PrintWords PackPure

theorem rdNum_range (l : List UInt8) (bad : Bool) (least most : Int) (h : least ≤ 0 ∧ 0 ≤ most) : least ≤ (rdNum l bad least most).1 ∧ (rdNum l bad least most).1 ≤ most := by
  unfold rdNum
  split
  · exact h
  · split
    · exact h
    · rename_i hc
      simp only [not_or, Int.not_lt] at hc
      exact ⟨hc.2.2.1, hc.2.2.2⟩
theorem rdNum_neg (l : List UInt8) (bad : Bool) (most : Int) (h : most < 0) : (rdNum l bad 0 most).1 = 0 := by
  unfold rdNum
  split
  · rfl
  · split
    · rfl
    · rename_i hc
      simp only [not_or, Int.not_lt] at hc
      omega
theorem rdNum_nonneg (l : List UInt8) (bad : Bool) (most : Int) : 0 ≤ (rdNum l bad 0 most).1 := by
  rcases Int.lt_or_le most 0 with h | h
  · rw [rdNum_neg l bad most h]; exact Int.le_refl _
  · exact (rdNum_range l bad 0 most ⟨Int.le_refl _, h⟩).1
/-- What Bytes answers, what is left, is it bad. -/
def rdBytes (l : List UInt8) (bad : Bool) (most : Int) : List UInt8 × List UInt8 × Bool :=
  if ((rdNum l bad 0 most).2.1.length : Int) < (rdNum l bad 0 most).1 then ([], [], true)
  else ((rdNum l bad 0 most).2.1.take (rdNum l bad 0 most).1.toNat, (rdNum l bad 0 most).2.1.drop (rdNum l bad 0 most).1.toNat, (rdNum l bad 0 most).2.2)

theorem Ob.of_nil (w : World) (base : Nat) : Ob w base (.slice none 0 0) [] := Ob.nil w base
theorem Bs.take {w : World} {A : Option Addr} {l : List UInt8} (h : Bs w A l) (n : Nat) (hn : n ≤ l.length) : Bs w A (l.take n) := by
  have h1 := (Kd.reads_of_C (enc := Value.int .u8) (d := (0 : Int)) (h1 := fun _ => rfl) h)
  have h2 : ReadsInt w .u8 A n ((B l).take n) := ReadsInt.take_ h1 n hn
  have e : B (l.take n) = (B l).take n := by simp [B, List.map_take]
  unfold Bs
  rw [List.length_take, Nat.min_eq_left hn, e]
  exact Kd.C_of_reads (enc := Value.int .u8) (d := (0 : Int)) (h1 := fun _ => rfl) h2

set_option maxHeartbeats 800000 in
theorem rbytes_any (g : Nat) (l : List UInt8) (bad : Bool) (most : Int) (w : World) (h : Rd w g l bad) (hl : l.length ≤ 140737488355000) :
    Calls Tryd.prog 47 #[.pointer (some ⟨g, 0, none⟩), .int .i64 most] w fun e w' => ∃ v, e = .returned v ∧ Ob w' w.heap.size v (rdBytes l bad most).1 ∧ Rd w' g (rdBytes l bad most).2.1 (rdBytes l bad most).2.2 ∧ But g w w' := by
  have hnn := rdNum_nonneg l bad most
  have hle : (rdNum l bad 0 most).2.1.length ≤ 140737488355000 := by
    unfold rdNum
    split
    · simp
    · split
      · simp
      · simp only [List.length_drop]; omega
  go_enter Tryd.func47, Tryd.ntmps47
  go_wp2_with fail
  refine (rnum_any g l bad 0 most w h).mono ?_
  rintro e w1 ⟨rfl, hr1, hb1⟩
  have HD := Lib.hid (rfl : rdBytes l bad most = rdBytes l bad most)
  have hdef : rdBytes l bad most = if ((rdNum l bad 0 most).2.1.length : Int) < (rdNum l bad 0 most).1 then ([], [], true) else ((rdNum l bad 0 most).2.1.take (rdNum l bad 0 most).1.toNat, (rdNum l bad 0 most).2.1.drop (rdNum l bad 0 most).1.toNat, (rdNum l bad 0 most).2.2) := rfl
  generalize rdNum l bad 0 most = q at *
  obtain ⟨x, l1, bad1⟩ := q
  simp only at hr1 hnn hle hdef
  obtain ⟨n, rfl⟩ := Int.eq_ofNat_of_zero_le hnn
  obtain ⟨A, c, hh, h0, h1, f0, f1, hl1, hB⟩ := hr1.cells
  have Hh := Lib.hid hh
  have Hdef := Lib.hid hdef
  clear hh hdef HD
  by_cases hbig : l1.length < n
  · go_wp2_with fail
    refine (fail_any g l1 bad1 w1 hr1).mono ?_
    rintro e w2 ⟨rfl, hr2, hb2⟩
    go_wp2
    go_ret
    have e1 : rdBytes l bad most = ([], [], true) := by rw [Hdef.out, if_pos (by omega)]
    exact ⟨_, rfl, by rw [e1]; exact Ob.nil _ _, by rw [e1]; exact hr2, hb1.trans hb2⟩
  · have e1 : rdBytes l bad most = (l1.take n, l1.drop n, bad1) := by rw [Hdef.out, if_neg (by omega)]; simp
    have He1 := Lib.hid e1
    clear e1
    go_wp2_with fail
    refine (clone_any A n c (l1.take n) w1 (hB.take n (by omega)) (by rw [List.length_take]; omega) (by omega)).mono ?_
    rintro e w2 ⟨v2, rfl, ho2, hb2⟩
    have hr2 := hr1.ext hb2
    have Hh2 : Hid (w2.heap[g]? = some (.cells #[.slice A l1.length c, .bool bad1] 73 (0, 0))) := (hb2.out.block g hr1.lt).trans Hh.out
    have hc0 := hb2.cell h0
    have hf0 : w2.frozen? ⟨g, 0, none⟩ = false := by rw [World.frozen?_of_block (w := w1) (hb2.out.block g hr1.lt)]; exact f0
    obtain ⟨A', hcut, hA'⟩ := print_cut (P := Tryd.prog) 29 5 .i64 Tryd.underlying29 info_u8i info_u8s A l1.length c n (by omega)
    have hBd : Bs w2 A' (l1.drop n) := bs_cut hA' hl1 (hB.ext hb2)
    clear hA' h0 h1 f0 f1
    go_wp2
    go_ret
    refine ⟨_, rfl, ?_, ?_, ?_⟩
    · rw [He1.out]
      refine (Ob.lower (ho2.grown ⟨rfl, rfl, rfl, by simp [World.setCell], fun k _ hk => Below.heap_setCell _ _ _ _ (fun e => hk (by rw [e]))⟩ (row := some g) ?_) hb1.size)
      cases hv : v2.ownBlock with
      | none => exact .inl rfl
      | some k =>
        refine .inr (fun e => ?_)
        have := own_base ho2 k hv
        have hlt := hr1.lt
        injection e with e
        omega
    · rw [He1.out]
      exact ⟨A', c - n, by rw [List.length_drop]; exact Joins.block_setCell Hh2.out (i := 0) _, by rw [List.length_drop]; omega, hBd.but (But.setCell (But.refl g _) 0 _) hr2.no⟩
    · exact (hb1.ext hb2).setCell 0 _

theorem rdBytes_length (l : List UInt8) (bad : Bool) (most : Int) : (rdBytes l bad most).1.length ≤ l.length ∧ (rdBytes l bad most).2.1.length ≤ l.length := by
  have h0 : (rdNum l bad 0 most).2.1.length ≤ l.length := by
    unfold rdNum
    split
    · simp
    · split
      · simp
      · simp only [List.length_drop]; omega
  unfold rdBytes
  split
  · simp
  · simp only [List.length_take, List.length_drop]; omega

set_option maxHeartbeats 800000 in
theorem rtext_any (g : Nat) (l : List UInt8) (bad : Bool) (most : Int) (w : World) (h : Rd w g l bad) (hl : l.length ≤ 140737488355000) :
    Calls Tryd.prog 23 #[.pointer (some ⟨g, 0, none⟩), .int .i64 most] w fun e w' => e = .returned (.string (Str (rdBytes l bad most).1)) ∧ Rd w' g (rdBytes l bad most).2.1 (rdBytes l bad most).2.2 ∧ But g w w' := by
  go_enter Tryd.func23, Tryd.ntmps23
  go_wp2_with fail
  refine (rbytes_any g l bad most w h hl).mono ?_
  rintro e w1 ⟨v1, rfl, ho1, hr1, hb1⟩
  obtain ⟨A1, c1, rfl, hl1, hB1⟩ := ho1.reads
  have hs := hB1.string (rdBytes l bad most).1.length c1 rfl
  go_wp2
  go_ret
  exact ⟨rfl, hr1, hb1⟩

end Go.Proofs.YtlffbappgfimeaaDoor
