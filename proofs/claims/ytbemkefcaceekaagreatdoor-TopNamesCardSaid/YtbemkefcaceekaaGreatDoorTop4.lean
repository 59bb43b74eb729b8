/- Top4: a house in memory; New, Have, Reds. -/
import Derived.Test.YtbemkefcaceekaaGreatDoorTop3
set_option linter.unusedVariables false
set_option linter.unusedSimpArgs false
set_option maxRecDepth 100000
namespace Go.Proofs.YtbemkefcaceekaaGreatDoor
open Go.RowKit Go.Lib Go.Proofs.YtbemkefcaceekaaGreatDoorW.PrintWords Go.Proofs.YtbemkefcaceekaaGreatDoorW.PrintLast

/-- What a house holds. -/
structure Hse where
  have' : V7
  blue : List EntD
  bc : Nat
  red : Value
  nred : Nat
  users : List EntT
  uc : Nat
  closed : List EntD
  cc : Nat
def Hse.L (H : Hse) (bm um dm cm : Nat) : List Value :=
  [.int .i64 (H.have' 0), .int .i64 (H.have' 1), .int .i64 (H.have' 2), .int .i64 (H.have' 3), .int .i64 (H.have' 4), .int .i64 (H.have' 5), .int .i64 (H.have' 6), .map (some bm), H.red, .map (some um), .map (some dm), .map (some cm)]
/-- Block hb is a house. -/
structure HAt (w : World) (base bm um dm cm hb : Nat) (H : Hse) : Prop where
  all : w.heap[hb]? = some (.cells (H.L bm um dm cm).toArray 60)
  blue : MapD w bm H.blue H.bc
  users : MapT w um H.users H.uc
  drawn : MapT w dm [] 0
  closed : MapD w cm H.closed H.cc
  red : ∃ xs, w.ownsRow base 86 19 H.red H.nred xs
  nd : [bm, um, dm, cm, hb].Nodup
  lt : bm < base ∧ um < base ∧ dm < base ∧ cm < base ∧ hb < base
section
variable {w : World} {base bm um dm cm hb : Nat} {H : Hse}
theorem HAt.cell (h : HAt w base bm um dm cm hb H) (i : Nat) (v : Value) (hv : (H.L bm um dm cm)[i]? = some v) : w.cell? ⟨hb, i, none⟩ = some v := by
  simp only [World.cell?, h.all]
  simpa using hv
theorem HAt.cells (h : HAt w base bm um dm cm hb H) : w.cell? ⟨hb, 0, none⟩ = some (.int .i64 (H.have' 0)) ∧ w.cell? ⟨hb, 1, none⟩ = some (.int .i64 (H.have' 1)) ∧ w.cell? ⟨hb, 2, none⟩ = some (.int .i64 (H.have' 2)) ∧ w.cell? ⟨hb, 3, none⟩ = some (.int .i64 (H.have' 3)) ∧ w.cell? ⟨hb, 4, none⟩ = some (.int .i64 (H.have' 4)) ∧ w.cell? ⟨hb, 5, none⟩ = some (.int .i64 (H.have' 5)) ∧ w.cell? ⟨hb, 6, none⟩ = some (.int .i64 (H.have' 6)) ∧
    w.cell? ⟨hb, 7, none⟩ = some (.map (some bm)) ∧ w.cell? ⟨hb, 8, none⟩ = some H.red ∧ w.cell? ⟨hb, 9, none⟩ = some (.map (some um)) ∧ w.cell? ⟨hb, 10, none⟩ = some (.map (some dm)) ∧ w.cell? ⟨hb, 11, none⟩ = some (.map (some cm)) :=
  ⟨h.cell 0 _ rfl, h.cell 1 _ rfl, h.cell 2 _ rfl, h.cell 3 _ rfl, h.cell 4 _ rfl, h.cell 5 _ rfl, h.cell 6 _ rfl, h.cell 7 _ rfl, h.cell 8 _ rfl, h.cell 9 _ rfl, h.cell 10 _ rfl, h.cell 11 _ rfl⟩
theorem HAt.fr (h : HAt w base bm um dm cm hb H) (i : Nat) : w.frozen? ⟨hb, i, none⟩ = false := by
  simp [World.frozen?, h.all]
theorem HAt.sizes (h : HAt w base bm um dm cm hb H) : bm < w.heap.size ∧ um < w.heap.size ∧ dm < w.heap.size ∧ cm < w.heap.size ∧ hb < w.heap.size :=
  ⟨(Array.getElem?_eq_some_iff.1 h.blue).1, (Array.getElem?_eq_some_iff.1 h.users).1, (Array.getElem?_eq_some_iff.1 h.drawn).1, (Array.getElem?_eq_some_iff.1 h.closed).1, (Array.getElem?_eq_some_iff.1 h.all).1⟩
theorem HAt.ext {w' : World} (h : HAt w base bm um dm cm hb H) (x : Ext w w') : HAt w' base bm um dm cm hb H := by
  obtain ⟨s1, s2, s3, s4, s5⟩ := h.sizes
  obtain ⟨xs, hx⟩ := h.red
  exact ⟨(x.out.block _ s5).trans h.all, (x.out.block _ s1).trans h.blue, (x.out.block _ s2).trans h.users, (x.out.block _ s3).trans h.drawn, (x.out.block _ s4).trans h.closed, ⟨xs, pw_own_below hx x⟩, h.nd, h.lt⟩
end
def H0 : Hse := ⟨fun _ => 0, [], 0, .slice none 0 0, 0, [], 0, [], 0⟩
theorem new_any (w : World) : Calls Tryz.prog 9 #[] w fun e w' => ∃ bm um dm cm hb, e = .returned (.pointer (some ⟨hb, 0, none⟩)) ∧ w.heap.size ≤ bm ∧ w.heap.size ≤ um ∧ w.heap.size ≤ dm ∧ w.heap.size ≤ cm ∧ w.heap.size ≤ hb ∧ HAt w' w'.heap.size bm um dm cm hb H0 ∧ Ext w w' := by
  go_enter Tryz.func9, Tryz.ntmps9
  have hmm := @run_makeMap Tryz.prog
  go_wp2
  go_ret
  obtain ⟨w1, e1⟩ : ∃ x, x = w.alloc (.map #[] 0) := ⟨_, rfl⟩
  obtain ⟨w2, e2⟩ : ∃ x, x = w1.alloc (.map #[] 0) := ⟨_, rfl⟩
  obtain ⟨w3, e3⟩ : ∃ x, x = w2.alloc (.map #[] 0) := ⟨_, rfl⟩
  obtain ⟨w4, e4⟩ : ∃ x, x = w3.alloc (.map #[] 0) := ⟨_, rfl⟩
  rw [← e1, ← e2, ← e3, ← e4]
  have s1 : w1.heap.size = w.heap.size + 1 := by rw [e1]; exact Array.size_push _
  have s2 : w2.heap.size = w.heap.size + 1 + 1 := by rw [e2, ← s1]; exact Array.size_push _
  have s3 : w3.heap.size = w.heap.size + 1 + 1 + 1 := by rw [e3, ← s2]; exact Array.size_push _
  have s4 : w4.heap.size = w.heap.size + 1 + 1 + 1 + 1 := by rw [e4, ← s3]; exact Array.size_push _
  have x1 : Ext w w1 := by rw [e1]; exact (Ext.refl _).alloc _
  have x2 : Ext w1 w2 := by rw [e2]; exact (Ext.refl _).alloc _
  have x3 : Ext w2 w3 := by rw [e3]; exact (Ext.refl _).alloc _
  have x4 : Ext w3 w4 := by rw [e4]; exact (Ext.refl _).alloc _
  have b1 : w1.heap[w.heap.size]? = some (.map #[] 0) := by rw [e1]; exact Array.getElem?_push_size
  have b2 : w2.heap[w.heap.size + 1]? = some (.map #[] 0) := by rw [e2, ← s1]; exact Array.getElem?_push_size
  have b3 : w3.heap[w.heap.size + 1 + 1]? = some (.map #[] 0) := by rw [e3, ← s2]; exact Array.getElem?_push_size
  have b4 : w4.heap[w.heap.size + 1 + 1 + 1]? = some (.map #[] 0) := by rw [e4, ← s3]; exact Array.getElem?_push_size
  refine ⟨w.heap.size, w.heap.size + 1, w.heap.size + 1 + 1, w.heap.size + 1 + 1 + 1, w.heap.size + 1 + 1 + 1 + 1, rfl, by omega, by omega, by omega, by omega, by omega, ?_, (x1.trans (x2.trans (x3.trans x4))).alloc _⟩
  generalize hcs : (#[Value.int .i64 0, .int .i64 0, .int .i64 0, .int .i64 0, .int .i64 0, .int .i64 0, .int .i64 0, .map (some w.heap.size), .slice none 0 0, .map (some (w.heap.size + 1)), .map (some (w.heap.size + 1 + 1)), .map (some (w.heap.size + 1 + 1 + 1))] : Array Value) = cs
  have x5 : Ext w4 (w4.alloc (.cells cs 60)) := (Ext.refl _).alloc _
  have s5 : (w4.alloc (.cells cs 60)).heap.size = w.heap.size + 1 + 1 + 1 + 1 + 1 := by rw [← s4]; exact Array.size_push _
  refine ⟨?_, ?_, ?_, ?_, ?_, ⟨[], ?_⟩, by simp <;> omega, by rw [s5]; omega⟩
  · rw [← s4, ← hcs]; exact Array.getElem?_push_size
  · exact ((x2.trans (x3.trans (x4.trans x5))).out.block _ (by omega)).trans b1
  · exact ((x3.trans (x4.trans x5)).out.block _ (by omega)).trans b2
  · exact ((x4.trans x5).out.block _ (by omega)).trans b3
  · exact (x5.out.block _ (by omega)).trans b4
  · exact World.ownsRow_nil _ _ _ _
theorem have_any (w : World) (base bm um dm cm hb : Nat) (H : Hse) (h : HAt w base bm um dm cm hb H) : Calls Tryz.prog 40 #[.pointer (some ⟨hb, 0, none⟩)] w fun e w' => e = .returned (vf H.have') ∧ Ext w w' := by
  obtain ⟨g, Hg⟩ : ∃ h, Hid (w.heap.size = h) := ⟨_, Lib.hid rfl⟩
  obtain ⟨w1, H1, S1, hx1, ha1, fa1, -⟩ := alloc7 w (fun _ => 0) 57 g Hg.out
  obtain ⟨w2, H2, ha2, k2, -, -, -⟩ := put7 w1 g _ H.have' ha1
  obtain ⟨c0, c1, c2, c3, c4, c5, c6, c7, c8, c9, c10, c11⟩ := (h.ext hx1).cells
  have X2 := k2 w hx1 (Nat.le_of_eq Hg.out)
  have a0 := ha1 0 (by omega)
  have a1 := ha1 1 (by omega)
  have a2 := ha1 2 (by omega)
  have a3 := ha1 3 (by omega)
  have a4 := ha1 4 (by omega)
  have a5 := ha1 5 (by omega)
  have a6 := ha1 6 (by omega)
  have f0 := fa1 0 (by omega)
  have f1 := fa1 1 (by omega)
  have f2 := fa1 2 (by omega)
  have f3 := fa1 3 (by omega)
  have f4 := fa1 4 (by omega)
  have f5 := fa1 5 (by omega)
  have f6 := fa1 6 (by omega)
  have b0 := ha2 0 (by omega)
  have b1 := ha2 1 (by omega)
  have b2 := ha2 2 (by omega)
  have b3 := ha2 3 (by omega)
  have b4 := ha2 4 (by omega)
  have b5 := ha2 5 (by omega)
  have b6 := ha2 6 (by omega)
  simp only [Nat.zero_add] at a0 a1 a2 a3 a4 a5 a6 b0 b1 b2 b3 b4 b5 b6 f0 f1 f2 f3 f4 f5 f6
  have hg := Hg.out
  have h1 := H1.out
  have h2 := H2.out
  clear k2 ha1 fa1 ha2
  go_enter Tryz.func40, Tryz.ntmps40
  go_wp2
  refine bodyPost_ret (v := vf H.have') (by simp [results, Tryz.results40, go_sem, vf, b0, b1, b2, b3, b4, b5, b6]) rfl ⟨rfl, X2⟩
theorem reds_any (w : World) (base bm um dm cm hb : Nat) (H : Hse) (h : HAt w base bm um dm cm hb H) : Calls Tryz.prog 64 #[.pointer (some ⟨hb, 0, none⟩)] w fun e w' => e = .returned (.int .i64 H.nred) ∧ Ext w w' := by
  obtain ⟨c0, c1, c2, c3, c4, c5, c6, c7, c8, c9, c10, c11⟩ := h.cells
  obtain ⟨xs, hx⟩ := h.red
  obtain ⟨A, c, hr⟩ : ∃ A c, H.red = .slice A H.nred c := by
    rcases hx.2 with ⟨e, e0⟩ | ⟨g, cap, cur, e, _⟩
    · exact ⟨none, 0, by rw [e, e0]⟩
    · exact ⟨_, _, e⟩
  rw [hr] at c8
  go_enter Tryz.func64, Tryz.ntmps64
  go_wp2
  go_ret
  exact ⟨rfl, Ext.refl _⟩
end Go.Proofs.YtbemkefcaceekaaGreatDoor
