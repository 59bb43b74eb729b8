/- PackReads: the walk. -/
import Derived.Test.YtaiofbagdcpfgaaPackRel
import Derived.Test.YtaiofbagdcpfgaaPackAwake
import Derived.Test.YtaiofbagdcpfgaaRegion
set_option linter.unusedVariables false
set_option linter.unusedSimpArgs false
set_option maxRecDepth 100000
namespace Go.Proofs.Ytaiofbagdcpfgaa
open Go.RowKit Go.Proofs.YtaiofbagdcpfgaaW.PrintWords Go.Proofs.YtaiofbagdcpfgaaW.PrintLast PackPure

/-- The acts as they lie. -/
def Acts (w : World) (A : Option Addr) (l : List (Int × Int × Int × Int)) : Prop := l = [] ∨ ∃ a, A = some a ∧ ∀ i x, l[i]? = some x →
  w.cell? (a.add (i * 4)) = some (.int .i64 x.1) ∧ w.cell? ⟨(a.add (i * 4)).block, (a.add (i * 4)).off + 1, none⟩ = some (.int .i64 x.2.1) ∧ w.cell? ⟨(a.add (i * 4)).block, (a.add (i * 4)).off + 2, none⟩ = some (.int .i64 x.2.2.1) ∧ w.cell? ⟨(a.add (i * 4)).block, (a.add (i * 4)).off + 3, none⟩ = some (.int .i64 x.2.2.2)

theorem alloc_new (w : World) (o : Obj) : (w.alloc o).heap[w.heap.size]? = some o := Array.getElem?_push_size

theorem act_cell (w : World) (cs : Array Value) (T : TypeId) (j : Nat) {v : Value} (h : cs[j]? = some v) : (w.alloc (.cells cs T)).cell? ⟨w.heap.size, j, none⟩ = some v := by
  simp only [World.cell?, alloc_new]
  simpa using h
theorem But.cell {g : Nat} {a b : World} {p : Addr} {v : Value} (h : But g a b) (hc : a.cell? p = some v) (hne : p.block ≠ g) : b.cell? p = some v := by
  rw [← hc]
  exact World.cell?_of_block (h.block _ (World.block_lt_of_cell? _ _ hc) hne)
theorem RQ.badcell {w : World} {g : Nat} {b l : List UInt8} {bad : Bool} (h : RQ w g b l bad) : w.cell? ⟨g, 2, none⟩ = some (.bool bad) := by
  obtain ⟨k, h1, h2⟩ := h
  obtain ⟨A, c, hh, h0, h1, h2, f0, f1, f2, hl, ha, hB⟩ := h1.cells
  exact h2
theorem rdNum_len (l : List UInt8) (bad : Bool) (least most : Int) : (rdNum l bad least most).2.1.length ≤ l.length := by
  unfold rdNum
  split
  · simp
  · split
    · simp
    · simp

set_option maxHeartbeats 4000000 in
theorem reads_any (A1 A2 : Option Addr) (c1 c2 : Nat) (b : List UInt8) (l : List (Int × Int × Int × Int)) (w : World) (hx : Bs w A1 b) (hcc : b.length ≤ c1) (hy : Acts w A2 l) :
    Calls Try.prog 6 #[.slice A1 b.length c1, .slice A2 l.length c2] w fun e w' => e = .returned (.bool true) ∧ Ext w w' := by
  go_enter Try.func6, Try.ntmps6
  go_wp2_with fail
  refine (awake4_any _).mono ?_
  rintro e w1 ⟨rfl, hx1⟩
  by_cases h1 : 300 < b.length
  · go_wp2
    all_goals go_ret
    all_goals exact ⟨rfl, hx1⟩
  by_cases h2 : 30 < l.length
  · go_wp2
    all_goals go_ret
    all_goals exact ⟨rfl, hx1⟩
  have hb1 := hx.ext hx1
  go_wp2_with fail
  refine (read_any A1 b.length c1 b w1 hb1 rfl (by omega)).mono ?_
  rintro e w2 ⟨g, rfl, hg, hr, hx2⟩
  obtain ⟨h, Hh⟩ : ∃ h, Hid (w2.heap.size = h) := ⟨_, Lib.hid rfl⟩
  have hhg : h ≠ g := by have := hr.lt; have := Hh.out; omega
  have hwg : w.heap.size ≤ g := Nat.le_trans hx1.size hg
  have hwh : w.heap.size ≤ h := by have := (hx1.trans hx2).size; have := Hh.out; omega
  have hh := Hh.out
  go_wp2_with fail
  go_loopw [7] (fun i wr => ∃ (k : Nat) (bs : List UInt8) (bad : Bool), k ≤ l.length ∧ i = .int .i64 k ∧ bs.length ≤ b.length ∧ Ext w wr ∧ Rd wr g bs bad ∧ RQ wr h b bs bad) (fun i _ => l.length - (intOf i).toNat)
  case atStart =>
    refine ⟨0, b, false, Nat.zero_le _, rfl, Nat.le_refl _, (hx1.trans hx2).alloc _, hr.ext ((Ext.refl _).alloc _), 0, ?_, by simp [At]⟩
    refine ⟨A1, c1, ?_, hcc, Nat.zero_le _, (hb1.ext hx2).ext ((Ext.refl _).alloc _)⟩
    rw [← Hh.out]
    exact alloc_new _ _
  case round =>
    obtain ⟨k, bs, bad, hk, rfl, hbl, hX, hR, hQ⟩ := hrel
    by_cases hkl : k < l.length
    · have hlk : l[k]? = some l[k] := List.getElem?_eq_getElem hkl
      obtain ⟨a, rfl, hcells⟩ := hy.resolve_left (by rintro rfl; simp at hkl)
      obtain ⟨q0, q1, q2, q3⟩ := hcells k _ hlk
      generalize l[k] = y at *
      obtain ⟨y0, y1, y2, y3⟩ := y
      dsimp only at q0 q1 q2 q3
      clear hcells hlk
      have p0 := hX.cell q0
      have p1 := hX.cell q1
      have p2 := hX.cell q2
      have p3 := hX.cell q3
      obtain ⟨x, Hx⟩ : ∃ x, Hid (wr.heap.size = x) := ⟨_, Lib.hid rfl⟩
      obtain ⟨w4, Hw4⟩ : ∃ w4, Hid (wr.alloc (.cells #[.int .i64 y0, .int .i64 y1, .int .i64 y2, .int .i64 y3] 45) = w4) := ⟨_, Lib.hid rfl⟩
      have hX4 : Ext wr w4 := by rw [← Hw4.out]; exact (Ext.refl _).alloc _
      have hc0 : w4.cell? ⟨x, 0, none⟩ = some (.int .i64 y0) := by rw [← Hw4.out, ← Hx.out]; exact act_cell _ _ _ _ rfl
      have hc1 : w4.cell? ⟨x, 1, none⟩ = some (.int .i64 y1) := by rw [← Hw4.out, ← Hx.out]; exact act_cell _ _ _ _ rfl
      have hc2 : w4.cell? ⟨x, 2, none⟩ = some (.int .i64 y2) := by rw [← Hw4.out, ← Hx.out]; exact act_cell _ _ _ _ rfl
      have hc3 : w4.cell? ⟨x, 3, none⟩ = some (.int .i64 y3) := by rw [← Hw4.out, ← Hx.out]; exact act_cell _ _ _ _ rfl
      have hxg : x ≠ g := by have := hR.lt; have := Hx.out; omega
      have hxh : x ≠ h := by have := hQ.lt; have := Hx.out; omega
      have hR4 := hR.ext hX4
      have hQ4 := hQ.ext hX4
      have hw4 := Hw4.out
      have hx4 := Hx.out
      clear q0 q1 q2 q3
      by_cases e0 : y0 = 0
      · have e0b : (y0 == 0) = true := by simp [e0]
        clear e0
        obtain ⟨rv, bs2, bad2, Hr⟩ : ∃ v bs2 bad2, Hid (rdNum bs bad y2 y3 = (v, bs2, bad2)) := ⟨_, _, _, Lib.hid rfl⟩
        have hl2 := Lib.hid (rdNum_len bs bad y2 y3)
        rw [Hr.out] at hl2
        dsimp only at hl2
        go_wp2
        clear hw4 hc0
        refine start_ (n := 14) (S := fun W => W.cell? ⟨x, 2, none⟩ = some (.int .i64 y2) ∧ W.cell? ⟨x, 3, none⟩ = some (.int .i64 y3)) (ds := []) #[false, false, false, false, false, false, false, false, false, false, false, false, false, false] (by kernel_rfl) rfl rfl (⟨hc2, hc3⟩) (fun hHeld => ?_)
        refine take_ (i := 0) (N := (some 51)) (v := ?_) (a' := ?_) #[true, false, false, false, false, false, false, false, false, false, false, false, false, false] rfl rfl (by kernel_rfl) (fun _ _ _ h => h) (Or.inl ⟨by rfl, ?_⟩) (by assumption) ?_ ?_
        rotate_left
        · intro w' hSw; (try dsimp only at hSw)
          go_simp
          try with_reducible rfl
        rotate_left
        · simp only [Act.put, List.setIfInBounds_toArray, List.set_cons_zero, List.set_cons_succ]
          rfl
        refine take_ (i := 1) (N := (some 52)) (v := ?_) (a' := ?_) #[true, true, false, false, false, false, false, false, false, false, false, false, false, false] rfl rfl (by kernel_rfl) (fun _ _ _ h => h) (Or.inl ⟨by rfl, ?_⟩) (by assumption) ?_ ?_
        rotate_left
        · intro w' hSw; (try dsimp only at hSw)
          go_simp
          try with_reducible rfl
        rotate_left
        · simp only [Act.put, List.setIfInBounds_toArray, List.set_cons_zero, List.set_cons_succ]
          rfl
        refine take_ (i := 2) (N := (some 53)) (v := ?_) (a' := ?_) #[true, true, true, false, false, false, false, false, false, false, false, false, false, false] rfl rfl (by kernel_rfl) (fun _ _ _ h => h) (Or.inl ⟨by rfl, ?_⟩) (by assumption) ?_ ?_
        rotate_left
        · intro w' hSw; (try dsimp only at hSw)
          go_simp
          try with_reducible rfl
        rotate_left
        · simp only [Act.put, List.setIfInBounds_toArray, List.set_cons_zero, List.set_cons_succ]
          rfl
        refine take_ (i := 3) (N := (some 54)) (v := ?_) (a' := ?_) #[true, true, true, true, false, false, false, false, false, false, false, false, false, false] rfl rfl (by kernel_rfl) (fun _ _ _ h => h) (Or.inl ⟨by rfl, ?_⟩) (by assumption) ?_ ?_
        rotate_left
        · intro w' hSw; (try dsimp only at hSw)
          go_simp
          try with_reducible rfl
        rotate_left
        · simp only [Act.put, List.setIfInBounds_toArray, List.set_cons_zero, List.set_cons_succ]
          rfl
        refine take_ (i := 4) (N := (some 55)) (v := ?_) (a' := ?_) #[true, true, true, true, true, false, false, false, false, false, false, false, false, false] rfl rfl (by kernel_rfl) (fun _ _ _ h => h) (Or.inl ⟨by rfl, ?_⟩) (by assumption) ?_ ?_
        rotate_left
        · intro w' hSw; (try dsimp only at hSw)
          go_simp
          try with_reducible rfl
        rotate_left
        · simp only [Act.put, List.setIfInBounds_toArray, List.set_cons_zero, List.set_cons_succ]
          rfl
        refine take_ (i := 6) (N := (some 57)) (v := ?_) (a' := ?_) #[true, true, true, true, true, false, true, false, false, false, false, false, false, false] rfl rfl (by kernel_rfl) (fun _ _ _ h => h) (Or.inl ⟨by rfl, ?_⟩) (by assumption) ?_ ?_
        rotate_left
        · intro w' hSw; (try dsimp only at hSw)
          go_simp
          try with_reducible rfl
        rotate_left
        · simp only [Act.put, List.setIfInBounds_toArray, List.set_cons_zero, List.set_cons_succ]
          rfl
        refine take_ (i := 7) (N := (some 58)) (v := ?_) (a' := ?_) #[true, true, true, true, true, false, true, true, false, false, false, false, false, false] rfl rfl (by kernel_rfl) (fun _ _ _ h => h) (Or.inl ⟨by rfl, ?_⟩) (by assumption) ?_ ?_
        rotate_left
        · intro w' hSw; (try dsimp only at hSw)
          go_simp
          try with_reducible rfl
        rotate_left
        · simp only [Act.put, List.setIfInBounds_toArray, List.set_cons_zero, List.set_cons_succ]
          rfl
        refine take_ (i := 8) (N := (some 59)) (v := ?_) (a' := ?_) #[true, true, true, true, true, false, true, true, true, false, false, false, false, false] rfl rfl (by kernel_rfl) (fun _ _ _ h => h) (Or.inl ⟨by rfl, ?_⟩) (by assumption) ?_ ?_
        rotate_left
        · intro w' hSw; (try dsimp only at hSw)
          go_simp
          try with_reducible rfl
        rotate_left
        · simp only [Act.put, List.setIfInBounds_toArray, List.set_cons_zero, List.set_cons_succ]
          rfl
        refine take_ (i := 9) (N := (some 60)) (v := ?_) (a' := ?_) #[true, true, true, true, true, false, true, true, true, true, false, false, false, false] rfl rfl (by kernel_rfl) (fun _ _ _ h => h) (Or.inl ⟨by rfl, ?_⟩) (by assumption) ?_ ?_
        rotate_left
        · intro w' hSw; (try dsimp only at hSw)
          go_simp
          try with_reducible rfl
        rotate_left
        · simp only [Act.put, List.setIfInBounds_toArray, List.set_cons_zero, List.set_cons_succ]
          rfl
        refine take_ (i := 10) (N := (some 61)) (v := ?_) (a' := ?_) #[true, true, true, true, true, false, true, true, true, true, true, false, false, false] rfl rfl (by kernel_rfl) (fun _ _ _ h => h) (Or.inl ⟨by rfl, ?_⟩) (by assumption) ?_ ?_
        rotate_left
        · intro w' hSw; (try dsimp only at hSw)
          go_simp
          try with_reducible rfl
        rotate_left
        · simp only [Act.put, List.setIfInBounds_toArray, List.set_cons_zero, List.set_cons_succ]
          rfl
        refine one_ (i := 5) (N := (some 56)) #[true, true, true, true, true, true, true, true, true, true, true, false, false, false] rfl rfl (by kernel_rfl) (by simp) (fun K hK => ?_)
        go_simp
        refine (rnum_any g bs bad y2 y3 _ (hR4.ext (Ext.refl _).drew)).mono ?_
        rintro e w5 ⟨rfl, hR5, hb5⟩
        rw [Hr.out] at hR5 ⊢
        dsimp only at hR5 ⊢
        have hk5 : w5.cell? ⟨x, 2, none⟩ = some (.int .i64 y2) ∧ w5.cell? ⟨x, 3, none⟩ = some (.int .i64 y3) := ⟨hb5.cell hHeld.1 hxg, hb5.cell hHeld.2 hxg⟩
        refine hK.out _ _ ?_ (fun hHeld => ?_)
        · first | assumption | exact hHeld.trans (by assumption)
        clear hK K
        (try simp only [Act.put, List.setIfInBounds_toArray, List.set_cons_zero, List.set_cons_succ])
        refine one_ (i := 11) (N := (some 62)) #[true, true, true, true, true, true, true, true, true, true, true, true, false, false] rfl rfl (by kernel_rfl) (by simp) (fun K hK => ?_)
        go_simp
        refine (refnum_rel h b bs bad y2 y3 _ ((hQ4.ext (Ext.refl _).drew).but hb5 hhg (hR4.ext (Ext.refl _).drew).no) (by omega)).mono ?_
        rintro e w6 ⟨rfl, hQ6, hb6⟩
        rw [Hr.out] at hQ6 ⊢
        dsimp only at hQ6 ⊢
        have hk6 : w6.cell? ⟨x, 2, none⟩ = some (.int .i64 y2) ∧ w6.cell? ⟨x, 3, none⟩ = some (.int .i64 y3) := ⟨hb6.cell hHeld.1 hxh, hb6.cell hHeld.2 hxh⟩
        refine hK.out _ _ ?_ (fun hHeld => ?_)
        · first | assumption | exact hHeld.trans (by assumption)
        clear hK K
        (try simp only [Act.put, List.setIfInBounds_toArray, List.set_cons_zero, List.set_cons_succ])
        refine take_ (i := 12) (N := (some 63)) (v := ?_) (a' := ?_) #[true, true, true, true, true, true, true, true, true, true, true, true, true, false] rfl rfl (by kernel_rfl) (fun _ _ _ h => h) (Or.inl ⟨by rfl, ?_⟩) (by assumption) ?_ ?_
        rotate_left
        · intro w' hSw; (try dsimp only at hSw)
          go_simp
          try with_reducible rfl
        rotate_left
        · simp only [Act.put, List.setIfInBounds_toArray, List.set_cons_zero, List.set_cons_succ]
          rfl
        refine take_ (i := 13) (N := (some 9)) (v := ?_) (a' := ?_) #[true, true, true, true, true, true, true, true, true, true, true, true, true, true] rfl rfl (by kernel_rfl) (fun _ _ _ h => h) (Or.inl ⟨by rfl, ?_⟩) (by assumption) ?_ ?_
        rotate_left
        · intro w' hSw; (try dsimp only at hSw)
          go_simp
          try with_reducible rfl
        rotate_left
        · simp only [Act.put, List.setIfInBounds_toArray, List.set_cons_zero, List.set_cons_succ]
          rfl
        refine done_ (by kernel_rfl) ?_
        have hQ5 := (hQ4.ext (Ext.refl w4).drew).but hb5 hhg (hR4.ext (Ext.refl w4).drew).no
        have hR6 := hR5.but hb6 (Ne.symm hhg) hQ5.no
        have hX6 : Ext w w6 := ((hX.trans (hX4.trans (Ext.refl _).drew)).but hb5 hwg).but hb6 hwh
        clear hHeld hk5 hk6 hb5 hb6 hR5 hQ5 hR4 hQ4 hc1 hc2 hc3 hX4
        have hcb : w6.cell? ⟨h, 2, none⟩ = some (.bool bad2) := hQ6.badcell
        go_wp2
        refine start_ (n := 18) (S := fun W => W.cell? ⟨h, 2, none⟩ = some (.bool bad2)) (ds := []) #[false, false, false, false, false, false, false, false, false, false, false, false, false, false, false, false, false, false] (by kernel_rfl) rfl rfl (hcb) (fun hHeld => ?_)
        refine take_ (i := 0) (N := (some 77)) (v := ?_) (a' := ?_) #[true, false, false, false, false, false, false, false, false, false, false, false, false, false, false, false, false, false] rfl rfl (by kernel_rfl) (fun _ _ _ h => h) (Or.inl ⟨by rfl, ?_⟩) (by assumption) ?_ ?_
        rotate_left
        · intro w' hSw; (try dsimp only at hSw)
          go_simp
          try with_reducible rfl
        rotate_left
        · simp only [Act.put, List.setIfInBounds_toArray, List.set_cons_zero, List.set_cons_succ]
          rfl
        refine take_ (i := 1) (N := (some 78)) (v := ?_) (a' := ?_) #[true, true, false, false, false, false, false, false, false, false, false, false, false, false, false, false, false, false] rfl rfl (by kernel_rfl) (fun _ _ _ h => h) (Or.inl ⟨by rfl, ?_⟩) (by assumption) ?_ ?_
        rotate_left
        · intro w' hSw; (try dsimp only at hSw)
          go_simp
          try with_reducible rfl
        rotate_left
        · simp only [Act.put, List.setIfInBounds_toArray, List.set_cons_zero, List.set_cons_succ]
          rfl
        refine take_ (i := 2) (N := (some 79)) (v := ?_) (a' := ?_) #[true, true, true, false, false, false, false, false, false, false, false, false, false, false, false, false, false, false] rfl rfl (by kernel_rfl) (fun _ _ _ h => h) (Or.inl ⟨by rfl, ?_⟩) (by assumption) ?_ ?_
        rotate_left
        · intro w' hSw; (try dsimp only at hSw)
          go_simp
          try with_reducible rfl
        rotate_left
        · simp only [Act.put, List.setIfInBounds_toArray, List.set_cons_zero, List.set_cons_succ]
          rfl
        refine take_ (i := 3) (N := (some 80)) (v := ?_) (a' := ?_) #[true, true, true, true, false, false, false, false, false, false, false, false, false, false, false, false, false, false] rfl rfl (by kernel_rfl) (fun _ _ _ h => h) (Or.inl ⟨by rfl, ?_⟩) (by assumption) ?_ ?_
        rotate_left
        · intro w' hSw; (try dsimp only at hSw)
          go_simp
          try with_reducible rfl
        rotate_left
        · simp only [Act.put, List.setIfInBounds_toArray, List.set_cons_zero, List.set_cons_succ]
          rfl
        refine take_ (i := 5) (N := (some 82)) (v := ?_) (a' := ?_) #[true, true, true, true, false, true, false, false, false, false, false, false, false, false, false, false, false, false] rfl rfl (by kernel_rfl) (fun _ _ _ h => h) (Or.inl ⟨by rfl, ?_⟩) (by assumption) ?_ ?_
        rotate_left
        · intro w' hSw; (try dsimp only at hSw)
          go_simp
          try with_reducible rfl
        rotate_left
        · simp only [Act.put, List.setIfInBounds_toArray, List.set_cons_zero, List.set_cons_succ]
          rfl
        refine take_ (i := 6) (N := (some 83)) (v := ?_) (a' := ?_) #[true, true, true, true, false, true, true, false, false, false, false, false, false, false, false, false, false, false] rfl rfl (by kernel_rfl) (fun _ _ _ h => h) (Or.inl ⟨by rfl, ?_⟩) (by assumption) ?_ ?_
        rotate_left
        · intro w' hSw; (try dsimp only at hSw)
          go_simp
          try with_reducible rfl
        rotate_left
        · simp only [Act.put, List.setIfInBounds_toArray, List.set_cons_zero, List.set_cons_succ]
          rfl
        refine take_ (i := 7) (N := (some 84)) (v := ?_) (a' := ?_) #[true, true, true, true, false, true, true, true, false, false, false, false, false, false, false, false, false, false] rfl rfl (by kernel_rfl) (fun _ _ _ h => h) (Or.inl ⟨by rfl, ?_⟩) (by assumption) ?_ ?_
        rotate_left
        · intro w' hSw; (try dsimp only at hSw)
          go_simp
          try with_reducible rfl
        rotate_left
        · simp only [Act.put, List.setIfInBounds_toArray, List.set_cons_zero, List.set_cons_succ]
          rfl
        refine take_ (i := 8) (N := (some 85)) (v := ?_) (a' := ?_) #[true, true, true, true, false, true, true, true, true, false, false, false, false, false, false, false, false, false] rfl rfl (by kernel_rfl) (fun _ _ _ h => h) (Or.inl ⟨by rfl, ?_⟩) (by assumption) ?_ ?_
        rotate_left
        · intro w' hSw; (try dsimp only at hSw)
          go_simp
          try with_reducible rfl
        rotate_left
        · simp only [Act.put, List.setIfInBounds_toArray, List.set_cons_zero, List.set_cons_succ]
          rfl
        refine one_ (i := 4) (N := (some 81)) #[true, true, true, true, true, true, true, true, true, false, false, false, false, false, false, false, false, false] rfl rfl (by kernel_rfl) (by simp) (fun K hK => ?_)
        go_simp
        refine (bad_any g bs2 bad2 _ (hR6.ext ((Ext.refl _).drew))).mono ?_
        rintro e w7 ⟨rfl, hw7⟩
        obtain rfl := hw7
        refine hK.out _ _ ?_ (fun hHeld => ?_)
        · first | assumption | exact hHeld.trans (by assumption)
        clear hK K
        (try simp only [Act.put, List.setIfInBounds_toArray, List.set_cons_zero, List.set_cons_succ])
        refine take_ (i := 9) (N := (some 86)) (v := ?_) (a' := ?_) #[true, true, true, true, true, true, true, true, true, true, false, false, false, false, false, false, false, false] rfl rfl (by kernel_rfl) (fun _ _ _ h => h) (Or.inl ⟨by rfl, ?_⟩) (by assumption) ?_ ?_
        rotate_left
        · intro w' hSw; (try dsimp only at hSw)
          go_simp
          try with_reducible rfl
        rotate_left
        · simp only [Act.put, List.setIfInBounds_toArray, List.set_cons_zero, List.set_cons_succ]
          rfl
        refine take_ (i := 10) (N := (some 87)) (v := ?_) (a' := ?_) #[true, true, true, true, true, true, true, true, true, true, true, false, false, false, false, false, false, false] rfl rfl (by kernel_rfl) (fun _ _ _ h => h) (Or.inl ⟨by rfl, ?_⟩) (by assumption) ?_ ?_
        rotate_left
        · intro w' hSw; (try dsimp only at hSw)
          go_simp
          try with_reducible rfl
        rotate_left
        · simp only [Act.put, List.setIfInBounds_toArray, List.set_cons_zero, List.set_cons_succ]
          rfl
        refine take_ (i := 11) (N := (some 88)) (v := ?_) (a' := ?_) #[true, true, true, true, true, true, true, true, true, true, true, true, false, false, false, false, false, false] rfl rfl (by kernel_rfl) (fun _ _ _ h => h) (Or.inl ⟨by rfl, ?_⟩) (by assumption) ?_ ?_
        rotate_left
        · intro w' hSw; (try dsimp only at hSw)
          go_simp
          try with_reducible rfl
        rotate_left
        · simp only [Act.put, List.setIfInBounds_toArray, List.set_cons_zero, List.set_cons_succ]
          rfl
        refine take_ (i := 12) (N := (some 89)) (v := ?_) (a' := ?_) #[true, true, true, true, true, true, true, true, true, true, true, true, true, false, false, false, false, false] rfl rfl (by kernel_rfl) (fun _ _ _ h => h) (Or.inl ⟨by rfl, ?_⟩) (by assumption) ?_ ?_
        rotate_left
        · intro w' hSw; (try dsimp only at hSw)
          go_simp
          try with_reducible rfl
        rotate_left
        · simp only [Act.put, List.setIfInBounds_toArray, List.set_cons_zero, List.set_cons_succ]
          rfl
        refine take_ (i := 14) (N := (some 91)) (v := ?_) (a' := ?_) #[true, true, true, true, true, true, true, true, true, true, true, true, true, false, true, false, false, false] rfl rfl (by kernel_rfl) (fun _ _ _ h => h) (Or.inl ⟨by rfl, ?_⟩) (by assumption) ?_ ?_
        rotate_left
        · intro w' hSw; (try dsimp only at hSw)
          go_simp
          try with_reducible rfl
        rotate_left
        · simp only [Act.put, List.setIfInBounds_toArray, List.set_cons_zero, List.set_cons_succ]
          rfl
        refine one_ (i := 13) (N := (some 90)) #[true, true, true, true, true, true, true, true, true, true, true, true, true, true, true, false, false, false] rfl rfl (by kernel_rfl) (by simp) (fun K hK => ?_)
        go_simp
        refine (end_any g bs2 bad2 _ (hR6.ext ((Ext.refl _).drew))).mono ?_
        rintro e w8 ⟨rfl, hw8⟩
        obtain rfl := hw8
        refine hK.out _ _ ?_ (fun hHeld => ?_)
        · first | assumption | exact hHeld.trans (by assumption)
        clear hK K
        (try simp only [Act.put, List.setIfInBounds_toArray, List.set_cons_zero, List.set_cons_succ])
        refine one_ (i := 15) (N := (some 92)) #[true, true, true, true, true, true, true, true, true, true, true, true, true, true, true, true, false, false] rfl rfl (by kernel_rfl) (by simp) (fun K hK => ?_)
        go_simp
        refine (refend_rel h b bs2 bad2 _ (hQ6.ext ((Ext.refl _).drew))).mono ?_
        rintro e w9 ⟨rfl, hx9⟩
        have hc9 := hx9.cell hHeld
        refine hK.out _ _ ?_ (fun hHeld => ?_)
        · first | assumption | exact hHeld.trans (by assumption)
        clear hK K
        (try simp only [Act.put, List.setIfInBounds_toArray, List.set_cons_zero, List.set_cons_succ])
        refine take_ (i := 16) (N := (some 93)) (v := ?_) (a' := ?_) #[true, true, true, true, true, true, true, true, true, true, true, true, true, true, true, true, true, false] rfl rfl (by kernel_rfl) (fun _ _ _ h => h) (Or.inl ⟨by rfl, ?_⟩) (by assumption) ?_ ?_
        rotate_left
        · intro w' hSw; (try dsimp only at hSw)
          go_simp
          try with_reducible rfl
        rotate_left
        · simp only [Act.put, List.setIfInBounds_toArray, List.set_cons_zero, List.set_cons_succ]
          rfl
        refine take_ (i := 17) (N := (some 94)) (v := ?_) (a' := ?_) #[true, true, true, true, true, true, true, true, true, true, true, true, true, true, true, true, true, true] rfl rfl (by kernel_rfl) (fun _ _ _ h => h) (Or.inl ⟨by rfl, ?_⟩) (by assumption) ?_ ?_
        rotate_left
        · intro w' hSw; (try dsimp only at hSw)
          go_simp
          try with_reducible rfl
        rotate_left
        · simp only [Act.put, List.setIfInBounds_toArray, List.set_cons_zero, List.set_cons_succ]
          rfl
        refine done_ (by kernel_rfl) ?_
        have hX9 := (Ext.refl w6).drew.trans hx9
        clear hHeld hc9 hcb
        go_wp2
        go_roundw
        case rel => exact ⟨k + 1, bs2, bad2, by omega, by go_num, Nat.le_trans hl2.out hbl, (hX6.trans hX9), hR6.ext hX9, hQ6.ext hX9⟩
        case measure => simp [intOf]; omega
      · have e0b : (y0 == 0) = false := by simp [e0]
        by_cases e1 : y0 = 1
        · have e1b : (y0 == 1) = true := by simp [e1]
          clear e0 e1
          obtain ⟨rv, bs2, bad2, Hr⟩ : ∃ v bs2 bad2, Hid (rdBytes bs bad y1 = (v, bs2, bad2)) := ⟨_, _, _, Lib.hid rfl⟩
          have hl2 := Lib.hid (rdBytes_length bs bad y1).2
          rw [Hr.out] at hl2
          dsimp only at hl2
          go_wp2
          clear hw4 hc0
          refine start_ (n := 12) (S := fun W => W.cell? ⟨x, 1, none⟩ = some (.int .i64 y1)) (ds := []) #[false, false, false, false, false, false, false, false, false, false, false, false] (by kernel_rfl) rfl rfl (hc1) (fun hHeld => ?_)
          refine take_ (i := 0) (N := (some 66)) (v := ?_) (a' := ?_) #[true, false, false, false, false, false, false, false, false, false, false, false] rfl rfl (by kernel_rfl) (fun _ _ _ h => h) (Or.inl ⟨by rfl, ?_⟩) (by assumption) ?_ ?_
          rotate_left
          · intro w' hSw; (try dsimp only at hSw)
            go_simp
            try with_reducible rfl
          rotate_left
          · simp only [Act.put, List.setIfInBounds_toArray, List.set_cons_zero, List.set_cons_succ]
            rfl
          refine take_ (i := 1) (N := (some 67)) (v := ?_) (a' := ?_) #[true, true, false, false, false, false, false, false, false, false, false, false] rfl rfl (by kernel_rfl) (fun _ _ _ h => h) (Or.inl ⟨by rfl, ?_⟩) (by assumption) ?_ ?_
          rotate_left
          · intro w' hSw; (try dsimp only at hSw)
            go_simp
            try with_reducible rfl
          rotate_left
          · simp only [Act.put, List.setIfInBounds_toArray, List.set_cons_zero, List.set_cons_succ]
            rfl
          refine take_ (i := 2) (N := (some 68)) (v := ?_) (a' := ?_) #[true, true, true, false, false, false, false, false, false, false, false, false] rfl rfl (by kernel_rfl) (fun _ _ _ h => h) (Or.inl ⟨by rfl, ?_⟩) (by assumption) ?_ ?_
          rotate_left
          · intro w' hSw; (try dsimp only at hSw)
            go_simp
            try with_reducible rfl
          rotate_left
          · simp only [Act.put, List.setIfInBounds_toArray, List.set_cons_zero, List.set_cons_succ]
            rfl
          refine take_ (i := 5) (N := (some 71)) (v := ?_) (a' := ?_) #[true, true, true, false, false, true, false, false, false, false, false, false] rfl rfl (by kernel_rfl) (fun _ _ _ h => h) (Or.inl ⟨by rfl, ?_⟩) (by assumption) ?_ ?_
          rotate_left
          · intro w' hSw; (try dsimp only at hSw)
            go_simp
            try with_reducible rfl
          rotate_left
          · simp only [Act.put, List.setIfInBounds_toArray, List.set_cons_zero, List.set_cons_succ]
            rfl
          refine take_ (i := 6) (N := (some 72)) (v := ?_) (a' := ?_) #[true, true, true, false, false, true, true, false, false, false, false, false] rfl rfl (by kernel_rfl) (fun _ _ _ h => h) (Or.inl ⟨by rfl, ?_⟩) (by assumption) ?_ ?_
          rotate_left
          · intro w' hSw; (try dsimp only at hSw)
            go_simp
            try with_reducible rfl
          rotate_left
          · simp only [Act.put, List.setIfInBounds_toArray, List.set_cons_zero, List.set_cons_succ]
            rfl
          refine take_ (i := 7) (N := (some 73)) (v := ?_) (a' := ?_) #[true, true, true, false, false, true, true, true, false, false, false, false] rfl rfl (by kernel_rfl) (fun _ _ _ h => h) (Or.inl ⟨by rfl, ?_⟩) (by assumption) ?_ ?_
          rotate_left
          · intro w' hSw; (try dsimp only at hSw)
            go_simp
            try with_reducible rfl
          rotate_left
          · simp only [Act.put, List.setIfInBounds_toArray, List.set_cons_zero, List.set_cons_succ]
            rfl
          refine one_ (i := 3) (N := (some 69)) #[true, true, true, true, false, true, true, true, false, false, false, false] rfl rfl (by kernel_rfl) (by simp) (fun K hK => ?_)
          go_simp
          refine (rbytes_any g bs bad y1 _ (hR4.ext (Ext.refl _).drew) (by omega)).mono ?_
          rintro e w5 ⟨v5, rfl, ho5, hR5, hb5⟩
          rw [Hr.out] at hR5 ho5
          dsimp only at hR5 ho5
          obtain ⟨A5, c5, rfl, hl5, hB5⟩ := ho5.reads
          have hk5 : w5.cell? ⟨x, 1, none⟩ = some (.int .i64 y1) := hb5.cell hHeld hxg
          have hQ5 := (hQ4.ext (Ext.refl w4).drew).but hb5 hhg (hR4.ext (Ext.refl w4).drew).no
          have hcv5 : ∀ W, But h w5 W → (convert 31 9 (.slice A5 rv.length c5)).run Try.prog W = .ok (.string (Str rv)) W := fun W hW => (hB5.but hW hQ5.no).string _ _ rfl
          refine hK.out _ _ ?_ (fun hHeld => ?_)
          · exact hk5
          clear hK K
          (try simp only [Act.put, List.setIfInBounds_toArray, List.set_cons_zero, List.set_cons_succ])
          refine switch_ (S' := (fun W => W.cell? ⟨x, 1, none⟩ = some (.int .i64 y1) ∧ But h w5 W)) (fun W hW => hW.1) (⟨hk5, But.refl h w5⟩) ?_
          have hHeld : w5.cell? ⟨x, 1, none⟩ = some (.int .i64 y1) ∧ But h w5 w5 := ⟨hk5, But.refl h w5⟩
          refine take_ (i := 4) (N := (some 70)) (v := ?_) (a' := ?_) #[true, true, true, true, true, true, true, true, false, false, false, false] rfl rfl (by kernel_rfl) (fun _ _ _ h => h) (Or.inl ⟨by rfl, ?_⟩) (by assumption) ?_ ?_
          rotate_left
          · intro w' hSw; (try dsimp only at hSw)
            go_simp
            try with_reducible rfl
          rotate_left
          · simp only [Act.put, List.setIfInBounds_toArray, List.set_cons_zero, List.set_cons_succ]
            rfl
          refine one_ (i := 8) (N := (some 74)) #[true, true, true, true, true, true, true, true, true, false, false, false] rfl rfl (by kernel_rfl) (by simp) (fun K hK => ?_)
          go_simp
          refine (refbytes_rel h b bs bad y1 _ ((hQ4.ext (Ext.refl _).drew).but hb5 hhg (hR4.ext (Ext.refl _).drew).no) (by omega)).mono ?_
          rintro e w6 ⟨A6, c6, rfl, hB6, hQ6, hb6⟩
          rw [Hr.out] at hB6 hQ6 ⊢
          dsimp only at hB6 hQ6 ⊢
          have hk6 : w6.cell? ⟨x, 1, none⟩ = some (.int .i64 y1) := hb6.cell hHeld.1 hxh
          have hcv6 : ∀ W, W.cell? ⟨x, 1, none⟩ = some (.int .i64 y1) ∧ Ext w6 W → (convert 31 9 (.slice A6 rv.length c6)).run Try.prog W = .ok (.string (Str rv)) W := fun W hW => (hB6.ext hW.2).string _ _ rfl
          have hcv6' : ∀ W, Ext w6 W → (convert 31 9 (.slice A6 rv.length c6)).run Try.prog W = .ok (.string (Str rv)) W := fun W hW => (hB6.ext hW).string _ _ rfl
          refine hK.out _ _ ?_ (fun hHeld => ?_)
          · exact ⟨hk6, hb6⟩
          clear hK K
          (try simp only [Act.put, List.setIfInBounds_toArray, List.set_cons_zero, List.set_cons_succ])
          refine switch_ (S' := (fun W => W.cell? ⟨x, 1, none⟩ = some (.int .i64 y1) ∧ But h w5 W ∧ Ext w6 W)) (fun W hW => ⟨hW.1, hW.2.1⟩) (⟨hk6, hb6, Ext.refl w6⟩) ?_
          have hHeld : w6.cell? ⟨x, 1, none⟩ = some (.int .i64 y1) ∧ But h w5 w6 ∧ Ext w6 w6 := ⟨hk6, hb6, Ext.refl w6⟩
          refine take_ (i := 9) (N := (some 75)) (v := ?_) (a' := ?_) #[true, true, true, true, true, true, true, true, true, true, false, false] rfl rfl (by kernel_rfl) (fun _ _ _ h => h) (Or.inl ⟨by rfl, ?_⟩) (by assumption) ?_ ?_
          rotate_left
          · intro w' hSw; (try dsimp only at hSw)
            go_simp
            try with_reducible rfl
          rotate_left
          · simp only [Act.put, List.setIfInBounds_toArray, List.set_cons_zero, List.set_cons_succ]
            rfl
          refine take_ (i := 10) (N := (some 76)) (v := ?_) (a' := ?_) #[true, true, true, true, true, true, true, true, true, true, true, false] rfl rfl (by kernel_rfl) (fun _ _ _ h => h) (Or.inl ⟨by rfl, ?_⟩) (by assumption) ?_ ?_
          rotate_left
          · intro w' hSw; (try dsimp only at hSw)
            go_simp
            try with_reducible rfl
          rotate_left
          · simp only [Act.put, List.setIfInBounds_toArray, List.set_cons_zero, List.set_cons_succ]
            rfl
          refine take_ (i := 11) (N := (some 9)) (v := ?_) (a' := ?_) #[true, true, true, true, true, true, true, true, true, true, true, true] rfl rfl (by kernel_rfl) (fun _ _ _ h => h) (Or.inl ⟨by rfl, ?_⟩) (by assumption) ?_ ?_
          rotate_left
          · intro w' hSw; (try dsimp only at hSw)
            go_simp
            try with_reducible rfl
          rotate_left
          · simp only [Act.put, List.setIfInBounds_toArray, List.set_cons_zero, List.set_cons_succ]
            rfl
          refine done_ (by kernel_rfl) ?_
          have hQ5' := (hQ4.ext (Ext.refl w4).drew).but hb5 hhg (hR4.ext (Ext.refl w4).drew).no
          have hR6 := hR5.but hb6 (Ne.symm hhg) hQ5'.no
          have hX6 : Ext w w6 := ((hX.trans (hX4.trans (Ext.refl _).drew)).but hb5 hwg).but hb6 hwh
          clear hHeld hk5 hk6 hcv6 hcv6' hb6 hR4 hQ4 hc1 hc2 hc3 hX4
          have hcb : w6.cell? ⟨h, 2, none⟩ = some (.bool bad2) := hQ6.badcell
          go_wp2
          refine start_ (n := 18) (S := fun W => W.cell? ⟨h, 2, none⟩ = some (.bool bad2)) (ds := []) #[false, false, false, false, false, false, false, false, false, false, false, false, false, false, false, false, false, false] (by kernel_rfl) rfl rfl (hcb) (fun hHeld => ?_)
          refine take_ (i := 0) (N := (some 77)) (v := ?_) (a' := ?_) #[true, false, false, false, false, false, false, false, false, false, false, false, false, false, false, false, false, false] rfl rfl (by kernel_rfl) (fun _ _ _ h => h) (Or.inl ⟨by rfl, ?_⟩) (by assumption) ?_ ?_
          rotate_left
          · intro w' hSw; (try dsimp only at hSw)
            go_simp
            try with_reducible rfl
          rotate_left
          · simp only [Act.put, List.setIfInBounds_toArray, List.set_cons_zero, List.set_cons_succ]
            rfl
          refine take_ (i := 1) (N := (some 78)) (v := ?_) (a' := ?_) #[true, true, false, false, false, false, false, false, false, false, false, false, false, false, false, false, false, false] rfl rfl (by kernel_rfl) (fun _ _ _ h => h) (Or.inl ⟨by rfl, ?_⟩) (by assumption) ?_ ?_
          rotate_left
          · intro w' hSw; (try dsimp only at hSw)
            go_simp
            try with_reducible rfl
          rotate_left
          · simp only [Act.put, List.setIfInBounds_toArray, List.set_cons_zero, List.set_cons_succ]
            rfl
          refine take_ (i := 2) (N := (some 79)) (v := ?_) (a' := ?_) #[true, true, true, false, false, false, false, false, false, false, false, false, false, false, false, false, false, false] rfl rfl (by kernel_rfl) (fun _ _ _ h => h) (Or.inl ⟨by rfl, ?_⟩) (by assumption) ?_ ?_
          rotate_left
          · intro w' hSw; (try dsimp only at hSw)
            go_simp
            try with_reducible rfl
          rotate_left
          · simp only [Act.put, List.setIfInBounds_toArray, List.set_cons_zero, List.set_cons_succ]
            rfl
          refine take_ (i := 3) (N := (some 80)) (v := ?_) (a' := ?_) #[true, true, true, true, false, false, false, false, false, false, false, false, false, false, false, false, false, false] rfl rfl (by kernel_rfl) (fun _ _ _ h => h) (Or.inl ⟨by rfl, ?_⟩) (by assumption) ?_ ?_
          rotate_left
          · intro w' hSw; (try dsimp only at hSw)
            go_simp
            try with_reducible rfl
          rotate_left
          · simp only [Act.put, List.setIfInBounds_toArray, List.set_cons_zero, List.set_cons_succ]
            rfl
          refine take_ (i := 5) (N := (some 82)) (v := ?_) (a' := ?_) #[true, true, true, true, false, true, false, false, false, false, false, false, false, false, false, false, false, false] rfl rfl (by kernel_rfl) (fun _ _ _ h => h) (Or.inl ⟨by rfl, ?_⟩) (by assumption) ?_ ?_
          rotate_left
          · intro w' hSw; (try dsimp only at hSw)
            go_simp
            try with_reducible rfl
          rotate_left
          · simp only [Act.put, List.setIfInBounds_toArray, List.set_cons_zero, List.set_cons_succ]
            rfl
          refine take_ (i := 6) (N := (some 83)) (v := ?_) (a' := ?_) #[true, true, true, true, false, true, true, false, false, false, false, false, false, false, false, false, false, false] rfl rfl (by kernel_rfl) (fun _ _ _ h => h) (Or.inl ⟨by rfl, ?_⟩) (by assumption) ?_ ?_
          rotate_left
          · intro w' hSw; (try dsimp only at hSw)
            go_simp
            try with_reducible rfl
          rotate_left
          · simp only [Act.put, List.setIfInBounds_toArray, List.set_cons_zero, List.set_cons_succ]
            rfl
          refine take_ (i := 7) (N := (some 84)) (v := ?_) (a' := ?_) #[true, true, true, true, false, true, true, true, false, false, false, false, false, false, false, false, false, false] rfl rfl (by kernel_rfl) (fun _ _ _ h => h) (Or.inl ⟨by rfl, ?_⟩) (by assumption) ?_ ?_
          rotate_left
          · intro w' hSw; (try dsimp only at hSw)
            go_simp
            try with_reducible rfl
          rotate_left
          · simp only [Act.put, List.setIfInBounds_toArray, List.set_cons_zero, List.set_cons_succ]
            rfl
          refine take_ (i := 8) (N := (some 85)) (v := ?_) (a' := ?_) #[true, true, true, true, false, true, true, true, true, false, false, false, false, false, false, false, false, false] rfl rfl (by kernel_rfl) (fun _ _ _ h => h) (Or.inl ⟨by rfl, ?_⟩) (by assumption) ?_ ?_
          rotate_left
          · intro w' hSw; (try dsimp only at hSw)
            go_simp
            try with_reducible rfl
          rotate_left
          · simp only [Act.put, List.setIfInBounds_toArray, List.set_cons_zero, List.set_cons_succ]
            rfl
          refine one_ (i := 4) (N := (some 81)) #[true, true, true, true, true, true, true, true, true, false, false, false, false, false, false, false, false, false] rfl rfl (by kernel_rfl) (by simp) (fun K hK => ?_)
          go_simp
          refine (bad_any g bs2 bad2 _ (hR6.ext ((Ext.refl _).drew))).mono ?_
          rintro e w7 ⟨rfl, hw7⟩
          obtain rfl := hw7
          refine hK.out _ _ ?_ (fun hHeld => ?_)
          · first | assumption | exact hHeld.trans (by assumption)
          clear hK K
          (try simp only [Act.put, List.setIfInBounds_toArray, List.set_cons_zero, List.set_cons_succ])
          refine take_ (i := 9) (N := (some 86)) (v := ?_) (a' := ?_) #[true, true, true, true, true, true, true, true, true, true, false, false, false, false, false, false, false, false] rfl rfl (by kernel_rfl) (fun _ _ _ h => h) (Or.inl ⟨by rfl, ?_⟩) (by assumption) ?_ ?_
          rotate_left
          · intro w' hSw; (try dsimp only at hSw)
            go_simp
            try with_reducible rfl
          rotate_left
          · simp only [Act.put, List.setIfInBounds_toArray, List.set_cons_zero, List.set_cons_succ]
            rfl
          refine take_ (i := 10) (N := (some 87)) (v := ?_) (a' := ?_) #[true, true, true, true, true, true, true, true, true, true, true, false, false, false, false, false, false, false] rfl rfl (by kernel_rfl) (fun _ _ _ h => h) (Or.inl ⟨by rfl, ?_⟩) (by assumption) ?_ ?_
          rotate_left
          · intro w' hSw; (try dsimp only at hSw)
            go_simp
            try with_reducible rfl
          rotate_left
          · simp only [Act.put, List.setIfInBounds_toArray, List.set_cons_zero, List.set_cons_succ]
            rfl
          refine take_ (i := 11) (N := (some 88)) (v := ?_) (a' := ?_) #[true, true, true, true, true, true, true, true, true, true, true, true, false, false, false, false, false, false] rfl rfl (by kernel_rfl) (fun _ _ _ h => h) (Or.inl ⟨by rfl, ?_⟩) (by assumption) ?_ ?_
          rotate_left
          · intro w' hSw; (try dsimp only at hSw)
            go_simp
            try with_reducible rfl
          rotate_left
          · simp only [Act.put, List.setIfInBounds_toArray, List.set_cons_zero, List.set_cons_succ]
            rfl
          refine take_ (i := 12) (N := (some 89)) (v := ?_) (a' := ?_) #[true, true, true, true, true, true, true, true, true, true, true, true, true, false, false, false, false, false] rfl rfl (by kernel_rfl) (fun _ _ _ h => h) (Or.inl ⟨by rfl, ?_⟩) (by assumption) ?_ ?_
          rotate_left
          · intro w' hSw; (try dsimp only at hSw)
            go_simp
            try with_reducible rfl
          rotate_left
          · simp only [Act.put, List.setIfInBounds_toArray, List.set_cons_zero, List.set_cons_succ]
            rfl
          refine take_ (i := 14) (N := (some 91)) (v := ?_) (a' := ?_) #[true, true, true, true, true, true, true, true, true, true, true, true, true, false, true, false, false, false] rfl rfl (by kernel_rfl) (fun _ _ _ h => h) (Or.inl ⟨by rfl, ?_⟩) (by assumption) ?_ ?_
          rotate_left
          · intro w' hSw; (try dsimp only at hSw)
            go_simp
            try with_reducible rfl
          rotate_left
          · simp only [Act.put, List.setIfInBounds_toArray, List.set_cons_zero, List.set_cons_succ]
            rfl
          refine one_ (i := 13) (N := (some 90)) #[true, true, true, true, true, true, true, true, true, true, true, true, true, true, true, false, false, false] rfl rfl (by kernel_rfl) (by simp) (fun K hK => ?_)
          go_simp
          refine (end_any g bs2 bad2 _ (hR6.ext ((Ext.refl _).drew))).mono ?_
          rintro e w8 ⟨rfl, hw8⟩
          obtain rfl := hw8
          refine hK.out _ _ ?_ (fun hHeld => ?_)
          · first | assumption | exact hHeld.trans (by assumption)
          clear hK K
          (try simp only [Act.put, List.setIfInBounds_toArray, List.set_cons_zero, List.set_cons_succ])
          refine one_ (i := 15) (N := (some 92)) #[true, true, true, true, true, true, true, true, true, true, true, true, true, true, true, true, false, false] rfl rfl (by kernel_rfl) (by simp) (fun K hK => ?_)
          go_simp
          refine (refend_rel h b bs2 bad2 _ (hQ6.ext ((Ext.refl _).drew))).mono ?_
          rintro e w9 ⟨rfl, hx9⟩
          have hc9 := hx9.cell hHeld
          refine hK.out _ _ ?_ (fun hHeld => ?_)
          · first | assumption | exact hHeld.trans (by assumption)
          clear hK K
          (try simp only [Act.put, List.setIfInBounds_toArray, List.set_cons_zero, List.set_cons_succ])
          refine take_ (i := 16) (N := (some 93)) (v := ?_) (a' := ?_) #[true, true, true, true, true, true, true, true, true, true, true, true, true, true, true, true, true, false] rfl rfl (by kernel_rfl) (fun _ _ _ h => h) (Or.inl ⟨by rfl, ?_⟩) (by assumption) ?_ ?_
          rotate_left
          · intro w' hSw; (try dsimp only at hSw)
            go_simp
            try with_reducible rfl
          rotate_left
          · simp only [Act.put, List.setIfInBounds_toArray, List.set_cons_zero, List.set_cons_succ]
            rfl
          refine take_ (i := 17) (N := (some 94)) (v := ?_) (a' := ?_) #[true, true, true, true, true, true, true, true, true, true, true, true, true, true, true, true, true, true] rfl rfl (by kernel_rfl) (fun _ _ _ h => h) (Or.inl ⟨by rfl, ?_⟩) (by assumption) ?_ ?_
          rotate_left
          · intro w' hSw; (try dsimp only at hSw)
            go_simp
            try with_reducible rfl
          rotate_left
          · simp only [Act.put, List.setIfInBounds_toArray, List.set_cons_zero, List.set_cons_succ]
            rfl
          refine done_ (by kernel_rfl) ?_
          have hX9 := (Ext.refl w6).drew.trans hx9
          clear hHeld hc9 hcb
          go_wp2
          go_roundw
          case rel => exact ⟨k + 1, bs2, bad2, by omega, by go_num, Nat.le_trans hl2.out hbl, (hX6.trans hX9), hR6.ext hX9, hQ6.ext hX9⟩
          case measure => simp [intOf]; omega
        · have e1b : (y0 == 1) = false := by simp [e1]
          clear e0 e1
          obtain ⟨rv, bs2, bad2, Hr⟩ : ∃ v bs2 bad2, Hid (rdBytes bs bad y1 = (v, bs2, bad2)) := ⟨_, _, _, Lib.hid rfl⟩
          have hl2 := Lib.hid (rdBytes_length bs bad y1).2
          rw [Hr.out] at hl2
          dsimp only at hl2
          go_wp2
          clear hw4 hc0
          refine start_ (n := 11) (S := fun W => W.cell? ⟨x, 1, none⟩ = some (.int .i64 y1)) (ds := []) #[false, false, false, false, false, false, false, false, false, false, false] (by kernel_rfl) rfl rfl (hc1) (fun hHeld => ?_)
          refine take_ (i := 0) (N := (some 39)) (v := ?_) (a' := ?_) #[true, false, false, false, false, false, false, false, false, false, false] rfl rfl (by kernel_rfl) (fun _ _ _ h => h) (Or.inl ⟨by rfl, ?_⟩) (by assumption) ?_ ?_
          rotate_left
          · intro w' hSw; (try dsimp only at hSw)
            go_simp
            try with_reducible rfl
          rotate_left
          · simp only [Act.put, List.setIfInBounds_toArray, List.set_cons_zero, List.set_cons_succ]
            rfl
          refine take_ (i := 1) (N := (some 40)) (v := ?_) (a' := ?_) #[true, true, false, false, false, false, false, false, false, false, false] rfl rfl (by kernel_rfl) (fun _ _ _ h => h) (Or.inl ⟨by rfl, ?_⟩) (by assumption) ?_ ?_
          rotate_left
          · intro w' hSw; (try dsimp only at hSw)
            go_simp
            try with_reducible rfl
          rotate_left
          · simp only [Act.put, List.setIfInBounds_toArray, List.set_cons_zero, List.set_cons_succ]
            rfl
          refine take_ (i := 2) (N := (some 41)) (v := ?_) (a' := ?_) #[true, true, true, false, false, false, false, false, false, false, false] rfl rfl (by kernel_rfl) (fun _ _ _ h => h) (Or.inl ⟨by rfl, ?_⟩) (by assumption) ?_ ?_
          rotate_left
          · intro w' hSw; (try dsimp only at hSw)
            go_simp
            try with_reducible rfl
          rotate_left
          · simp only [Act.put, List.setIfInBounds_toArray, List.set_cons_zero, List.set_cons_succ]
            rfl
          refine take_ (i := 4) (N := (some 43)) (v := ?_) (a' := ?_) #[true, true, true, false, true, false, false, false, false, false, false] rfl rfl (by kernel_rfl) (fun _ _ _ h => h) (Or.inl ⟨by rfl, ?_⟩) (by assumption) ?_ ?_
          rotate_left
          · intro w' hSw; (try dsimp only at hSw)
            go_simp
            try with_reducible rfl
          rotate_left
          · simp only [Act.put, List.setIfInBounds_toArray, List.set_cons_zero, List.set_cons_succ]
            rfl
          refine take_ (i := 5) (N := (some 44)) (v := ?_) (a' := ?_) #[true, true, true, false, true, true, false, false, false, false, false] rfl rfl (by kernel_rfl) (fun _ _ _ h => h) (Or.inl ⟨by rfl, ?_⟩) (by assumption) ?_ ?_
          rotate_left
          · intro w' hSw; (try dsimp only at hSw)
            go_simp
            try with_reducible rfl
          rotate_left
          · simp only [Act.put, List.setIfInBounds_toArray, List.set_cons_zero, List.set_cons_succ]
            rfl
          refine take_ (i := 6) (N := (some 45)) (v := ?_) (a' := ?_) #[true, true, true, false, true, true, true, false, false, false, false] rfl rfl (by kernel_rfl) (fun _ _ _ h => h) (Or.inl ⟨by rfl, ?_⟩) (by assumption) ?_ ?_
          rotate_left
          · intro w' hSw; (try dsimp only at hSw)
            go_simp
            try with_reducible rfl
          rotate_left
          · simp only [Act.put, List.setIfInBounds_toArray, List.set_cons_zero, List.set_cons_succ]
            rfl
          refine one_ (i := 3) (N := (some 42)) #[true, true, true, true, true, true, true, false, false, false, false] rfl rfl (by kernel_rfl) (by simp) (fun K hK => ?_)
          go_simp
          refine (rtext_any g bs bad y1 _ (hR4.ext (Ext.refl _).drew) (by omega)).mono ?_
          rintro e w5 ⟨rfl, hR5, hb5⟩
          rw [Hr.out] at hR5 ⊢
          dsimp only at hR5 ⊢
          have hk5 : w5.cell? ⟨x, 1, none⟩ = some (.int .i64 y1) := hb5.cell hHeld hxg
          refine hK.out _ _ ?_ (fun hHeld => ?_)
          · first | assumption | exact hHeld.trans (by assumption)
          clear hK K
          (try simp only [Act.put, List.setIfInBounds_toArray, List.set_cons_zero, List.set_cons_succ])
          refine one_ (i := 7) (N := (some 46)) #[true, true, true, true, true, true, true, true, false, false, false] rfl rfl (by kernel_rfl) (by simp) (fun K hK => ?_)
          go_simp
          refine (refbytes_rel h b bs bad y1 _ ((hQ4.ext (Ext.refl _).drew).but hb5 hhg (hR4.ext (Ext.refl _).drew).no) (by omega)).mono ?_
          rintro e w6 ⟨A6, c6, rfl, hB6, hQ6, hb6⟩
          rw [Hr.out] at hB6 hQ6 ⊢
          dsimp only at hB6 hQ6 ⊢
          have hk6 : w6.cell? ⟨x, 1, none⟩ = some (.int .i64 y1) := hb6.cell hHeld hxh
          have hcv6 : ∀ W, W.cell? ⟨x, 1, none⟩ = some (.int .i64 y1) ∧ Ext w6 W → (convert 31 9 (.slice A6 rv.length c6)).run Try.prog W = .ok (.string (Str rv)) W := fun W hW => (hB6.ext hW.2).string _ _ rfl
          have hcv6' : ∀ W, Ext w6 W → (convert 31 9 (.slice A6 rv.length c6)).run Try.prog W = .ok (.string (Str rv)) W := fun W hW => (hB6.ext hW).string _ _ rfl
          refine hK.out _ _ ?_ (fun hHeld => ?_)
          · exact hk6
          clear hK K
          (try simp only [Act.put, List.setIfInBounds_toArray, List.set_cons_zero, List.set_cons_succ])
          refine switch_ (S' := (fun W => W.cell? ⟨x, 1, none⟩ = some (.int .i64 y1) ∧ Ext w6 W)) (fun W hW => hW.1) (⟨hk6, Ext.refl w6⟩) ?_
          have hHeld : w6.cell? ⟨x, 1, none⟩ = some (.int .i64 y1) ∧ Ext w6 w6 := ⟨hk6, Ext.refl w6⟩
          refine take_ (i := 8) (N := (some 47)) (v := ?_) (a' := ?_) #[true, true, true, true, true, true, true, true, true, false, false] rfl rfl (by kernel_rfl) (fun _ _ _ h => h) (Or.inl ⟨by rfl, ?_⟩) (by assumption) ?_ ?_
          rotate_left
          · intro w' hSw; (try dsimp only at hSw)
            go_simp
            try with_reducible rfl
          rotate_left
          · simp only [Act.put, List.setIfInBounds_toArray, List.set_cons_zero, List.set_cons_succ]
            rfl
          refine take_ (i := 9) (N := (some 48)) (v := ?_) (a' := ?_) #[true, true, true, true, true, true, true, true, true, true, false] rfl rfl (by kernel_rfl) (fun _ _ _ h => h) (Or.inl ⟨by rfl, ?_⟩) (by assumption) ?_ ?_
          rotate_left
          · intro w' hSw; (try dsimp only at hSw)
            go_simp
            try with_reducible rfl
          rotate_left
          · simp only [Act.put, List.setIfInBounds_toArray, List.set_cons_zero, List.set_cons_succ]
            rfl
          refine take_ (i := 10) (N := (some 9)) (v := ?_) (a' := ?_) #[true, true, true, true, true, true, true, true, true, true, true] rfl rfl (by kernel_rfl) (fun _ _ _ h => h) (Or.inl ⟨by rfl, ?_⟩) (by assumption) ?_ ?_
          rotate_left
          · intro w' hSw; (try dsimp only at hSw)
            go_simp
            try with_reducible rfl
          rotate_left
          · simp only [Act.put, List.setIfInBounds_toArray, List.set_cons_zero, List.set_cons_succ]
            rfl
          refine done_ (by kernel_rfl) ?_
          have hQ5' := (hQ4.ext (Ext.refl w4).drew).but hb5 hhg (hR4.ext (Ext.refl w4).drew).no
          have hR6 := hR5.but hb6 (Ne.symm hhg) hQ5'.no
          have hX6 : Ext w w6 := ((hX.trans (hX4.trans (Ext.refl _).drew)).but hb5 hwg).but hb6 hwh
          clear hHeld hk5 hk6 hcv6 hcv6' hb6 hR4 hQ4 hc1 hc2 hc3 hX4
          have hcb : w6.cell? ⟨h, 2, none⟩ = some (.bool bad2) := hQ6.badcell
          go_wp2
          refine start_ (n := 18) (S := fun W => W.cell? ⟨h, 2, none⟩ = some (.bool bad2)) (ds := []) #[false, false, false, false, false, false, false, false, false, false, false, false, false, false, false, false, false, false] (by kernel_rfl) rfl rfl (hcb) (fun hHeld => ?_)
          refine take_ (i := 0) (N := (some 77)) (v := ?_) (a' := ?_) #[true, false, false, false, false, false, false, false, false, false, false, false, false, false, false, false, false, false] rfl rfl (by kernel_rfl) (fun _ _ _ h => h) (Or.inl ⟨by rfl, ?_⟩) (by assumption) ?_ ?_
          rotate_left
          · intro w' hSw; (try dsimp only at hSw)
            go_simp
            try with_reducible rfl
          rotate_left
          · simp only [Act.put, List.setIfInBounds_toArray, List.set_cons_zero, List.set_cons_succ]
            rfl
          refine take_ (i := 1) (N := (some 78)) (v := ?_) (a' := ?_) #[true, true, false, false, false, false, false, false, false, false, false, false, false, false, false, false, false, false] rfl rfl (by kernel_rfl) (fun _ _ _ h => h) (Or.inl ⟨by rfl, ?_⟩) (by assumption) ?_ ?_
          rotate_left
          · intro w' hSw; (try dsimp only at hSw)
            go_simp
            try with_reducible rfl
          rotate_left
          · simp only [Act.put, List.setIfInBounds_toArray, List.set_cons_zero, List.set_cons_succ]
            rfl
          refine take_ (i := 2) (N := (some 79)) (v := ?_) (a' := ?_) #[true, true, true, false, false, false, false, false, false, false, false, false, false, false, false, false, false, false] rfl rfl (by kernel_rfl) (fun _ _ _ h => h) (Or.inl ⟨by rfl, ?_⟩) (by assumption) ?_ ?_
          rotate_left
          · intro w' hSw; (try dsimp only at hSw)
            go_simp
            try with_reducible rfl
          rotate_left
          · simp only [Act.put, List.setIfInBounds_toArray, List.set_cons_zero, List.set_cons_succ]
            rfl
          refine take_ (i := 3) (N := (some 80)) (v := ?_) (a' := ?_) #[true, true, true, true, false, false, false, false, false, false, false, false, false, false, false, false, false, false] rfl rfl (by kernel_rfl) (fun _ _ _ h => h) (Or.inl ⟨by rfl, ?_⟩) (by assumption) ?_ ?_
          rotate_left
          · intro w' hSw; (try dsimp only at hSw)
            go_simp
            try with_reducible rfl
          rotate_left
          · simp only [Act.put, List.setIfInBounds_toArray, List.set_cons_zero, List.set_cons_succ]
            rfl
          refine take_ (i := 5) (N := (some 82)) (v := ?_) (a' := ?_) #[true, true, true, true, false, true, false, false, false, false, false, false, false, false, false, false, false, false] rfl rfl (by kernel_rfl) (fun _ _ _ h => h) (Or.inl ⟨by rfl, ?_⟩) (by assumption) ?_ ?_
          rotate_left
          · intro w' hSw; (try dsimp only at hSw)
            go_simp
            try with_reducible rfl
          rotate_left
          · simp only [Act.put, List.setIfInBounds_toArray, List.set_cons_zero, List.set_cons_succ]
            rfl
          refine take_ (i := 6) (N := (some 83)) (v := ?_) (a' := ?_) #[true, true, true, true, false, true, true, false, false, false, false, false, false, false, false, false, false, false] rfl rfl (by kernel_rfl) (fun _ _ _ h => h) (Or.inl ⟨by rfl, ?_⟩) (by assumption) ?_ ?_
          rotate_left
          · intro w' hSw; (try dsimp only at hSw)
            go_simp
            try with_reducible rfl
          rotate_left
          · simp only [Act.put, List.setIfInBounds_toArray, List.set_cons_zero, List.set_cons_succ]
            rfl
          refine take_ (i := 7) (N := (some 84)) (v := ?_) (a' := ?_) #[true, true, true, true, false, true, true, true, false, false, false, false, false, false, false, false, false, false] rfl rfl (by kernel_rfl) (fun _ _ _ h => h) (Or.inl ⟨by rfl, ?_⟩) (by assumption) ?_ ?_
          rotate_left
          · intro w' hSw; (try dsimp only at hSw)
            go_simp
            try with_reducible rfl
          rotate_left
          · simp only [Act.put, List.setIfInBounds_toArray, List.set_cons_zero, List.set_cons_succ]
            rfl
          refine take_ (i := 8) (N := (some 85)) (v := ?_) (a' := ?_) #[true, true, true, true, false, true, true, true, true, false, false, false, false, false, false, false, false, false] rfl rfl (by kernel_rfl) (fun _ _ _ h => h) (Or.inl ⟨by rfl, ?_⟩) (by assumption) ?_ ?_
          rotate_left
          · intro w' hSw; (try dsimp only at hSw)
            go_simp
            try with_reducible rfl
          rotate_left
          · simp only [Act.put, List.setIfInBounds_toArray, List.set_cons_zero, List.set_cons_succ]
            rfl
          refine one_ (i := 4) (N := (some 81)) #[true, true, true, true, true, true, true, true, true, false, false, false, false, false, false, false, false, false] rfl rfl (by kernel_rfl) (by simp) (fun K hK => ?_)
          go_simp
          refine (bad_any g bs2 bad2 _ (hR6.ext ((Ext.refl _).drew))).mono ?_
          rintro e w7 ⟨rfl, hw7⟩
          obtain rfl := hw7
          refine hK.out _ _ ?_ (fun hHeld => ?_)
          · first | assumption | exact hHeld.trans (by assumption)
          clear hK K
          (try simp only [Act.put, List.setIfInBounds_toArray, List.set_cons_zero, List.set_cons_succ])
          refine take_ (i := 9) (N := (some 86)) (v := ?_) (a' := ?_) #[true, true, true, true, true, true, true, true, true, true, false, false, false, false, false, false, false, false] rfl rfl (by kernel_rfl) (fun _ _ _ h => h) (Or.inl ⟨by rfl, ?_⟩) (by assumption) ?_ ?_
          rotate_left
          · intro w' hSw; (try dsimp only at hSw)
            go_simp
            try with_reducible rfl
          rotate_left
          · simp only [Act.put, List.setIfInBounds_toArray, List.set_cons_zero, List.set_cons_succ]
            rfl
          refine take_ (i := 10) (N := (some 87)) (v := ?_) (a' := ?_) #[true, true, true, true, true, true, true, true, true, true, true, false, false, false, false, false, false, false] rfl rfl (by kernel_rfl) (fun _ _ _ h => h) (Or.inl ⟨by rfl, ?_⟩) (by assumption) ?_ ?_
          rotate_left
          · intro w' hSw; (try dsimp only at hSw)
            go_simp
            try with_reducible rfl
          rotate_left
          · simp only [Act.put, List.setIfInBounds_toArray, List.set_cons_zero, List.set_cons_succ]
            rfl
          refine take_ (i := 11) (N := (some 88)) (v := ?_) (a' := ?_) #[true, true, true, true, true, true, true, true, true, true, true, true, false, false, false, false, false, false] rfl rfl (by kernel_rfl) (fun _ _ _ h => h) (Or.inl ⟨by rfl, ?_⟩) (by assumption) ?_ ?_
          rotate_left
          · intro w' hSw; (try dsimp only at hSw)
            go_simp
            try with_reducible rfl
          rotate_left
          · simp only [Act.put, List.setIfInBounds_toArray, List.set_cons_zero, List.set_cons_succ]
            rfl
          refine take_ (i := 12) (N := (some 89)) (v := ?_) (a' := ?_) #[true, true, true, true, true, true, true, true, true, true, true, true, true, false, false, false, false, false] rfl rfl (by kernel_rfl) (fun _ _ _ h => h) (Or.inl ⟨by rfl, ?_⟩) (by assumption) ?_ ?_
          rotate_left
          · intro w' hSw; (try dsimp only at hSw)
            go_simp
            try with_reducible rfl
          rotate_left
          · simp only [Act.put, List.setIfInBounds_toArray, List.set_cons_zero, List.set_cons_succ]
            rfl
          refine take_ (i := 14) (N := (some 91)) (v := ?_) (a' := ?_) #[true, true, true, true, true, true, true, true, true, true, true, true, true, false, true, false, false, false] rfl rfl (by kernel_rfl) (fun _ _ _ h => h) (Or.inl ⟨by rfl, ?_⟩) (by assumption) ?_ ?_
          rotate_left
          · intro w' hSw; (try dsimp only at hSw)
            go_simp
            try with_reducible rfl
          rotate_left
          · simp only [Act.put, List.setIfInBounds_toArray, List.set_cons_zero, List.set_cons_succ]
            rfl
          refine one_ (i := 13) (N := (some 90)) #[true, true, true, true, true, true, true, true, true, true, true, true, true, true, true, false, false, false] rfl rfl (by kernel_rfl) (by simp) (fun K hK => ?_)
          go_simp
          refine (end_any g bs2 bad2 _ (hR6.ext ((Ext.refl _).drew))).mono ?_
          rintro e w8 ⟨rfl, hw8⟩
          obtain rfl := hw8
          refine hK.out _ _ ?_ (fun hHeld => ?_)
          · first | assumption | exact hHeld.trans (by assumption)
          clear hK K
          (try simp only [Act.put, List.setIfInBounds_toArray, List.set_cons_zero, List.set_cons_succ])
          refine one_ (i := 15) (N := (some 92)) #[true, true, true, true, true, true, true, true, true, true, true, true, true, true, true, true, false, false] rfl rfl (by kernel_rfl) (by simp) (fun K hK => ?_)
          go_simp
          refine (refend_rel h b bs2 bad2 _ (hQ6.ext ((Ext.refl _).drew))).mono ?_
          rintro e w9 ⟨rfl, hx9⟩
          have hc9 := hx9.cell hHeld
          refine hK.out _ _ ?_ (fun hHeld => ?_)
          · first | assumption | exact hHeld.trans (by assumption)
          clear hK K
          (try simp only [Act.put, List.setIfInBounds_toArray, List.set_cons_zero, List.set_cons_succ])
          refine take_ (i := 16) (N := (some 93)) (v := ?_) (a' := ?_) #[true, true, true, true, true, true, true, true, true, true, true, true, true, true, true, true, true, false] rfl rfl (by kernel_rfl) (fun _ _ _ h => h) (Or.inl ⟨by rfl, ?_⟩) (by assumption) ?_ ?_
          rotate_left
          · intro w' hSw; (try dsimp only at hSw)
            go_simp
            try with_reducible rfl
          rotate_left
          · simp only [Act.put, List.setIfInBounds_toArray, List.set_cons_zero, List.set_cons_succ]
            rfl
          refine take_ (i := 17) (N := (some 94)) (v := ?_) (a' := ?_) #[true, true, true, true, true, true, true, true, true, true, true, true, true, true, true, true, true, true] rfl rfl (by kernel_rfl) (fun _ _ _ h => h) (Or.inl ⟨by rfl, ?_⟩) (by assumption) ?_ ?_
          rotate_left
          · intro w' hSw; (try dsimp only at hSw)
            go_simp
            try with_reducible rfl
          rotate_left
          · simp only [Act.put, List.setIfInBounds_toArray, List.set_cons_zero, List.set_cons_succ]
            rfl
          refine done_ (by kernel_rfl) ?_
          have hX9 := (Ext.refl w6).drew.trans hx9
          clear hHeld hc9 hcb
          go_wp2
          go_roundw
          case rel => exact ⟨k + 1, bs2, bad2, by omega, by go_num, Nat.le_trans hl2.out hbl, (hX6.trans hX9), hR6.ext hX9, hQ6.ext hX9⟩
          case measure => simp [intOf]; omega
    · have hke : k = l.length := by omega
      subst hke
      go_wp2
      go_ret
      exact ⟨rfl, hX⟩

end Go.Proofs.Ytaiofbagdcpfgaa
