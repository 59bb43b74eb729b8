/- ShBase: a shadow as it lies in memory. -/
import Derived.Test.YtlffbappgfimeaaDoorRefName3
import Derived.Test.YtlffbappgfimeaaDoorRefVec2
import Derived.Test.YtlffbappgfimeaaDoorVecPG
set_option linter.unusedVariables false
set_option maxRecDepth 100000
namespace Go.Proofs.YtlffbappgfimeaaDoor
open Go.RowKit Go.Proofs.YtlffbappgfimeaaDoorW.PrintWords

/-- A shadow's value. -/
def shv (r n : Int) (v : V7) (k : Int) (key text : ByteArray) (b t : Int) : Value := .agg #[.int .i64 r, .int .i64 n, .int .i64 (v 0), .int .i64 (v 1), .int .i64 (v 2), .int .i64 (v 3), .int .i64 (v 4), .int .i64 (v 5), .int .i64 (v 6), .int .i64 k, .string key, .string text, .int .i64 b, .int .i64 t]
/-- At g lies a block that is this shadow. -/
def BkS (T : TypeId) (w : World) (g : Nat) (r n : Int) (v : V7) (k : Int) (key text : ByteArray) (b t : Int) : Prop := w.heap[g]? = some (.cells #[.int .i64 r, .int .i64 n, .int .i64 (v 0), .int .i64 (v 1), .int .i64 (v 2), .int .i64 (v 3), .int .i64 (v 4), .int .i64 (v 5), .int .i64 (v 6), .int .i64 k, .string key, .string text, .int .i64 b, .int .i64 t] T (0, 0))
theorem allocS (w : World) (r n : Int) (v : V7) (k : Int) (key text : ByteArray) (b t : Int) (T : TypeId) (h : Nat) (hh : w.heap.size = h) : ∃ w1, Hid (w.alloc (.cells #[.int .i64 r, .int .i64 n, .int .i64 (v 0), .int .i64 (v 1), .int .i64 (v 2), .int .i64 (v 3), .int .i64 (v 4), .int .i64 (v 5), .int .i64 (v 6), .int .i64 k, .string key, .string text, .int .i64 b, .int .i64 t] T) = w1) ∧ Hid (w1.heap.size = h + 1) ∧ Ext w w1 ∧ BkS T w1 h r n v k key text b t := by
  subst hh
  exact ⟨_, Lib.hid rfl, Lib.hid (Array.size_push _), (Ext.refl _).alloc _, heap_alloc_new _ _⟩
section
variable {T : TypeId} {w : World} {g : Nat} {r n : Int} {v : V7} {k : Int} {key text : ByteArray} {b t : Int}
theorem BkS.lt (h : BkS T w g r n v k key text b t) : g < w.heap.size := (Array.getElem?_eq_some_iff.1 h).1
theorem BkS.ext {w' : World} (h : BkS T w g r n v k key text b t) (e : Ext w w') : BkS T w' g r n v k key text b t := by
  unfold BkS
  rw [e.out.block g h.lt]
  exact h
theorem BkS.but {w' : World} {j : Nat} (h : BkS T w g r n v k key text b t) (e : But j w w') (hne : g ≠ j) : BkS T w' g r n v k key text b t := by
  unfold BkS
  rw [e.block g h.lt hne]
  exact h
theorem BkS.cell (h : BkS T w g r n v k key text b t) (i : Nat) (x : Value) (hx : (#[.int .i64 r, .int .i64 n, .int .i64 (v 0), .int .i64 (v 1), .int .i64 (v 2), .int .i64 (v 3), .int .i64 (v 4), .int .i64 (v 5), .int .i64 (v 6), .int .i64 k, .string key, .string text, .int .i64 b, .int .i64 t] : Array Value)[i]? = some x) : w.cell? ⟨g, i, none⟩ = some x := by
  have h' : w.heap[g]? = _ := h
  simp only [World.cell?, h']
  exact hx
theorem BkS.fr (h : BkS T w g r n v k key text b t) (i : Nat) : w.frozen? ⟨g, i, none⟩ = false := by
  have h' : w.heap[g]? = _ := h
  simp [World.frozen?, h']
theorem BkS.no (h : BkS T w g r n v k key text b t) : ∀ ad x, w.cell? ad = some x → ad.block = g → ∀ n, x ≠ .int .u8 n := by
  intro ad x hc hb n hv
  subst hb hv
  have h' : w.heap[ad.block]? = _ := h
  obtain ⟨b, o, s⟩ := ad
  simp only [World.cell?, h'] at hc
  split at hc
  · cases hc
  · rw [Array.getElem?_eq_some_iff] at hc
    obtain ⟨hl, hc⟩ := hc
    simp at hl
    match o, hl with
    | 0, _ => simp at hc
    | 1, _ => simp at hc
    | 2, _ => simp at hc
    | 3, _ => simp at hc
    | 4, _ => simp at hc
    | 5, _ => simp at hc
    | 6, _ => simp at hc
    | 7, _ => simp at hc
    | 8, _ => simp at hc
    | 9, _ => simp at hc
    | 10, _ => simp at hc
    | 11, _ => simp at hc
    | 12, _ => simp at hc
    | 13, _ => simp at hc
theorem BkS.at7 (h : BkS T w g r n v k key text b t) : At7 w g 2 v := by
  intro i hi
  match i, hi with
  | 0, _ => exact h.cell 2 _ rfl
  | 1, _ => exact h.cell 3 _ rfl
  | 2, _ => exact h.cell 4 _ rfl
  | 3, _ => exact h.cell 5 _ rfl
  | 4, _ => exact h.cell 6 _ rfl
  | 5, _ => exact h.cell 7 _ rfl
  | 6, _ => exact h.cell 8 _ rfl
theorem BkS.cells (h : BkS T w g r n v k key text b t) : w.cell? ⟨g, 0, none⟩ = some (.int .i64 r) ∧ w.cell? ⟨g, 1, none⟩ = some (.int .i64 n) ∧ w.cell? ⟨g, 2, none⟩ = some (.int .i64 (v 0)) ∧ w.cell? ⟨g, 3, none⟩ = some (.int .i64 (v 1)) ∧ w.cell? ⟨g, 4, none⟩ = some (.int .i64 (v 2)) ∧ w.cell? ⟨g, 5, none⟩ = some (.int .i64 (v 3)) ∧ w.cell? ⟨g, 6, none⟩ = some (.int .i64 (v 4)) ∧ w.cell? ⟨g, 7, none⟩ = some (.int .i64 (v 5)) ∧ w.cell? ⟨g, 8, none⟩ = some (.int .i64 (v 6)) ∧ w.cell? ⟨g, 9, none⟩ = some (.int .i64 k) ∧ w.cell? ⟨g, 10, none⟩ = some (.string key) ∧ w.cell? ⟨g, 11, none⟩ = some (.string text) ∧ w.cell? ⟨g, 12, none⟩ = some (.int .i64 b) ∧ w.cell? ⟨g, 13, none⟩ = some (.int .i64 t) :=
  ⟨h.cell 0 _ rfl, h.cell 1 _ rfl, h.cell 2 _ rfl, h.cell 3 _ rfl, h.cell 4 _ rfl, h.cell 5 _ rfl, h.cell 6 _ rfl, h.cell 7 _ rfl, h.cell 8 _ rfl, h.cell 9 _ rfl, h.cell 10 _ rfl, h.cell 11 _ rfl, h.cell 12 _ rfl, h.cell 13 _ rfl⟩
theorem BkS.rules (h : BkS T w g r n v k key text b t) : (∀ W, Ext w W → W.cell? ⟨g, 0, none⟩ = some (.int .i64 r)) ∧ (∀ W, Ext w W → W.cell? ⟨g, 1, none⟩ = some (.int .i64 n)) ∧ (∀ W, Ext w W → W.cell? ⟨g, 2, none⟩ = some (.int .i64 (v 0))) ∧ (∀ W, Ext w W → W.cell? ⟨g, 3, none⟩ = some (.int .i64 (v 1))) ∧ (∀ W, Ext w W → W.cell? ⟨g, 4, none⟩ = some (.int .i64 (v 2))) ∧ (∀ W, Ext w W → W.cell? ⟨g, 5, none⟩ = some (.int .i64 (v 3))) ∧ (∀ W, Ext w W → W.cell? ⟨g, 6, none⟩ = some (.int .i64 (v 4))) ∧ (∀ W, Ext w W → W.cell? ⟨g, 7, none⟩ = some (.int .i64 (v 5))) ∧ (∀ W, Ext w W → W.cell? ⟨g, 8, none⟩ = some (.int .i64 (v 6))) ∧ (∀ W, Ext w W → W.cell? ⟨g, 9, none⟩ = some (.int .i64 k)) ∧ (∀ W, Ext w W → W.cell? ⟨g, 10, none⟩ = some (.string key)) ∧ (∀ W, Ext w W → W.cell? ⟨g, 11, none⟩ = some (.string text)) ∧ (∀ W, Ext w W → W.cell? ⟨g, 12, none⟩ = some (.int .i64 b)) ∧ (∀ W, Ext w W → W.cell? ⟨g, 13, none⟩ = some (.int .i64 t)) :=
  ⟨fun W e => (h.ext e).cell 0 _ rfl, fun W e => (h.ext e).cell 1 _ rfl, fun W e => (h.ext e).cell 2 _ rfl, fun W e => (h.ext e).cell 3 _ rfl, fun W e => (h.ext e).cell 4 _ rfl, fun W e => (h.ext e).cell 5 _ rfl, fun W e => (h.ext e).cell 6 _ rfl, fun W e => (h.ext e).cell 7 _ rfl, fun W e => (h.ext e).cell 8 _ rfl, fun W e => (h.ext e).cell 9 _ rfl, fun W e => (h.ext e).cell 10 _ rfl, fun W e => (h.ext e).cell 11 _ rfl, fun W e => (h.ext e).cell 12 _ rfl, fun W e => (h.ext e).cell 13 _ rfl⟩
theorem BkS.frs (h : BkS T w g r n v k key text b t) : w.frozen? ⟨g, 0, none⟩ = false ∧ w.frozen? ⟨g, 1, none⟩ = false ∧ w.frozen? ⟨g, 2, none⟩ = false ∧ w.frozen? ⟨g, 3, none⟩ = false ∧ w.frozen? ⟨g, 4, none⟩ = false ∧ w.frozen? ⟨g, 5, none⟩ = false ∧ w.frozen? ⟨g, 6, none⟩ = false ∧ w.frozen? ⟨g, 7, none⟩ = false ∧ w.frozen? ⟨g, 8, none⟩ = false ∧ w.frozen? ⟨g, 9, none⟩ = false ∧ w.frozen? ⟨g, 10, none⟩ = false ∧ w.frozen? ⟨g, 11, none⟩ = false ∧ w.frozen? ⟨g, 12, none⟩ = false ∧ w.frozen? ⟨g, 13, none⟩ = false :=
  ⟨h.fr 0, h.fr 1, h.fr 2, h.fr 3, h.fr 4, h.fr 5, h.fr 6, h.fr 7, h.fr 8, h.fr 9, h.fr 10, h.fr 11, h.fr 12, h.fr 13⟩
theorem BkS.set0 (h : BkS T w g r n v k key text b t) (x : Int) : BkS T (w.setCell ⟨g, 0, none⟩ (.int .i64 x)) g x n v k key text b t := by
  have h' := Joins.block_setCell h (i := 0) (.int .i64 x)
  unfold BkS
  rw [h']
  rfl
theorem BkS.set1 (h : BkS T w g r n v k key text b t) (x : Int) : BkS T (w.setCell ⟨g, 1, none⟩ (.int .i64 x)) g r x v k key text b t := by
  have h' := Joins.block_setCell h (i := 1) (.int .i64 x)
  unfold BkS
  rw [h']
  rfl
theorem BkS.set9 (h : BkS T w g r n v k key text b t) (x : Int) : BkS T (w.setCell ⟨g, 9, none⟩ (.int .i64 x)) g r n v x key text b t := by
  have h' := Joins.block_setCell h (i := 9) (.int .i64 x)
  unfold BkS
  rw [h']
  rfl
theorem BkS.set10 (h : BkS T w g r n v k key text b t) (x : ByteArray) : BkS T (w.setCell ⟨g, 10, none⟩ (.string x)) g r n v k x text b t := by
  have h' := Joins.block_setCell h (i := 10) (.string x)
  unfold BkS
  rw [h']
  rfl
theorem BkS.set11 (h : BkS T w g r n v k key text b t) (x : ByteArray) : BkS T (w.setCell ⟨g, 11, none⟩ (.string x)) g r n v k key x b t := by
  have h' := Joins.block_setCell h (i := 11) (.string x)
  unfold BkS
  rw [h']
  rfl
theorem BkS.set12 (h : BkS T w g r n v k key text b t) (x : Int) : BkS T (w.setCell ⟨g, 12, none⟩ (.int .i64 x)) g r n v k key text x t := by
  have h' := Joins.block_setCell h (i := 12) (.int .i64 x)
  unfold BkS
  rw [h']
  rfl
theorem BkS.set13 (h : BkS T w g r n v k key text b t) (x : Int) : BkS T (w.setCell ⟨g, 13, none⟩ (.int .i64 x)) g r n v k key text b x := by
  have h' := Joins.block_setCell h (i := 13) (.int .i64 x)
  unfold BkS
  rw [h']
  rfl
theorem BkS.setv1 (h : BkS T w g r n v k key text b t) (x : Int) (i : Nat) (hi : i < 7) : BkS T (w.setCell ⟨g, i + 2, none⟩ (.int .i64 x)) g r n (upd v i x) k key text b t := by
  have h' := Joins.block_setCell h (i := i + 2) (.int .i64 x)
  unfold BkS
  rw [h']
  congr 2
  match i, hi with
  | 0, _ => rfl
  | 1, _ => rfl
  | 2, _ => rfl
  | 3, _ => rfl
  | 4, _ => rfl
  | 5, _ => rfl
  | 6, _ => rfl
theorem BkS.congr {v' : V7} (h : BkS T w g r n v k key text b t) (e : ∀ i, i < 7 → v i = v' i) : BkS T w g r n v' k key text b t := by
  unfold BkS
  rw [← e 0 (by omega), ← e 1 (by omega), ← e 2 (by omega), ← e 3 (by omega), ← e 4 (by omega), ← e 5 (by omega), ← e 6 (by omega)]
  exact h
theorem BkS.setv (h : BkS T w g r n v k key text b t) (x : V7) : BkS T (((((((w.setCell ⟨g, 2, none⟩ (.int .i64 (x 0))).setCell ⟨g, 3, none⟩ (.int .i64 (x 1))).setCell ⟨g, 4, none⟩ (.int .i64 (x 2))).setCell ⟨g, 5, none⟩ (.int .i64 (x 3))).setCell ⟨g, 6, none⟩ (.int .i64 (x 4))).setCell ⟨g, 7, none⟩ (.int .i64 (x 5))).setCell ⟨g, 8, none⟩ (.int .i64 (x 6))) g r n x k key text b t := by
  refine (((((((h.setv1 (x 0) 0 (by omega)).setv1 (x 1) 1 (by omega)).setv1 (x 2) 2 (by omega)).setv1 (x 3) 3 (by omega)).setv1 (x 4) 4 (by omega)).setv1 (x 5) 5 (by omega)).setv1 (x 6) 6 (by omega)).congr (fun i hi => ?_)
  match i, hi with
  | 0, _ => rfl
  | 1, _ => rfl
  | 2, _ => rfl
  | 3, _ => rfl
  | 4, _ => rfl
  | 5, _ => rfl
  | 6, _ => rfl
end
theorem putS {T : TypeId} (w : World) (g : Nat) (r n : Int) (v : V7) (k : Int) (key text : ByteArray) (b t : Int) (r' n' : Int) (v' : V7) (k' : Int) (key' text' : ByteArray) (b' t' : Int) (h : BkS T w g r n v k key text b t) : ∃ w1, Hid (((((((((((((((w.setCell ⟨g, 0, none⟩ (.int .i64 r')).setCell ⟨g, 1, none⟩ (.int .i64 n')).setCell ⟨g, 2, none⟩ (.int .i64 (v' 0))).setCell ⟨g, 3, none⟩ (.int .i64 (v' 1))).setCell ⟨g, 4, none⟩ (.int .i64 (v' 2))).setCell ⟨g, 5, none⟩ (.int .i64 (v' 3))).setCell ⟨g, 6, none⟩ (.int .i64 (v' 4))).setCell ⟨g, 7, none⟩ (.int .i64 (v' 5))).setCell ⟨g, 8, none⟩ (.int .i64 (v' 6))).setCell ⟨g, 9, none⟩ (.int .i64 k')).setCell ⟨g, 10, none⟩ (.string key')).setCell ⟨g, 11, none⟩ (.string text')).setCell ⟨g, 12, none⟩ (.int .i64 b')).setCell ⟨g, 13, none⟩ (.int .i64 t')) = w1) ∧ BkS T w1 g r' n' v' k' key' text' b' t' ∧ (∀ w0, Ext w0 w → w0.heap.size ≤ g → Ext w0 w1) ∧ (∀ w0, But g w0 w → But g w0 w1) ∧ Hid (w1.heap.size = w.heap.size) := by
  refine ⟨_, Lib.hid rfl, ((((((((h.set0 r').set1 n').setv v').set9 k').set10 key').set11 text').set12 b').set13 t'), fun w0 hw hg => ((((((((((((((hw.setCell hg _).setCell hg _).setCell hg _).setCell hg _).setCell hg _).setCell hg _).setCell hg _).setCell hg _).setCell hg _).setCell hg _).setCell hg _).setCell hg _).setCell hg _).setCell hg _), fun w0 hw => ((((((((((((((hw.setCell _ _).setCell _ _).setCell _ _).setCell _ _).setCell _ _).setCell _ _).setCell _ _).setCell _ _).setCell _ _).setCell _ _).setCell _ _).setCell _ _).setCell _ _).setCell _ _), Lib.hid ?_⟩
  simp only [World.size_setCell]
end Go.Proofs.YtlffbappgfimeaaDoor
