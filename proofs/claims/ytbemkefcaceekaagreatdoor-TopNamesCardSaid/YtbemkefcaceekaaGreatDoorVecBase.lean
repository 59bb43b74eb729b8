/- VecBase: seven numbers as they lie in memory. -/
import Derived.Test.YtbemkefcaceekaaGreatDoorBase
import Derived.WalkSpells
import Derived.ChangeKeysEq
import Derived.Laws.StructEq
set_option linter.unusedVariables false
set_option maxRecDepth 100000
namespace Go.Proofs.YtbemkefcaceekaaGreatDoor
open Go.RowKit Go.Proofs.YtbemkefcaceekaaGreatDoorW.PrintWords

/-- Seven numbers: what lies beyond the seventh does not count. -/
abbrev V7 := Nat → Int
def vf (f : V7) : Value := .agg #[.int .i64 (f 0), .int .i64 (f 1), .int .i64 (f 2), .int .i64 (f 3), .int .i64 (f 4), .int .i64 (f 5), .int .i64 (f 6)]
/-- At g, from o on, lie these seven. -/
def At7 (w : World) (g o : Nat) (f : V7) : Prop := ∀ i, i < 7 → w.cell? ⟨g, o + i, none⟩ = some (.int .i64 (f i))
def Fr7 (w : World) (g o : Nat) : Prop := ∀ i, i < 7 → w.frozen? ⟨g, o + i, none⟩ = false
def upd (f : V7) (k : Nat) (x : Int) : V7 := fun i => if i = k then x else f i

theorem vf_congr {f f' : V7} (h : ∀ i, i < 7 → f i = f' i) : vf f = vf f' := by
  unfold vf
  rw [h 0 (by omega), h 1 (by omega), h 2 (by omega), h 3 (by omega), h 4 (by omega), h 5 (by omega), h 6 (by omega)]
theorem At7.congr {w : World} {g o : Nat} {f f' : V7} (h : At7 w g o f) (e : ∀ i, i < 7 → f i = f' i) : At7 w g o f' := fun i hi => by rw [← e i hi]; exact h i hi
theorem At7.ext {w w' : World} {g o : Nat} {f : V7} (h : At7 w g o f) (e : Ext w w') : At7 w' g o f := fun i hi => e.cell (h i hi)
theorem At7.lt {w : World} {g o : Nat} {f : V7} (h : At7 w g o f) : g < w.heap.size := World.block_lt_of_cell? _ _ (h 0 (by omega))
theorem At7.drew {w : World} {g o : Nat} {f : V7} (h : At7 w g o f) : At7 w.drew g o f := fun i hi => h i hi
theorem Fr7.drew {w : World} {g o : Nat} (h : Fr7 w g o) : Fr7 w.drew g o := fun i hi => h i hi
theorem At7.set {w : World} {g o : Nat} {f : V7} (h : At7 w g o f) {k : Nat} (hk : k < 7) (x : Int) : At7 (w.setCell ⟨g, o + k, none⟩ (.int .i64 x)) g o (upd f k x) := by
  intro i hi
  unfold upd
  by_cases e : i = k
  · subst e
    rw [if_pos rfl]
    exact World.cell?_setCell_same _ _ _ (h i hi)
  · rw [if_neg e, World.cell?_setCell_other _ _ _ _ (fun he => e (by injection he; omega))]
    exact h i hi
theorem At7.other {w : World} {g o : Nat} {f : V7} (h : At7 w g o f) {a : Addr} {v : Value} (hne : a.block ≠ g ∨ a.off < o ∨ o + 7 ≤ a.off) : At7 (w.setCell a v) g o f := by
  intro i hi
  rw [World.cell?_setCell_other _ _ _ _ (fun he => by subst he; simp at hne; omega)]
  exact h i hi
theorem Fr7.set {w : World} {g o : Nat} (h : Fr7 w g o) (a : Addr) (v : Value) : Fr7 (w.setCell a v) g o := fun i hi => by rw [World.frozen?_setCell]; exact h i hi
theorem At7.cells {w : World} {g o : Nat} {f : V7} (h : At7 w g o f) : w.cell? ⟨g, o, none⟩ = some (.int .i64 (f 0)) ∧ w.cell? ⟨g, o + 1, none⟩ = some (.int .i64 (f 1)) ∧ w.cell? ⟨g, o + 2, none⟩ = some (.int .i64 (f 2)) ∧ w.cell? ⟨g, o + 3, none⟩ = some (.int .i64 (f 3)) ∧ w.cell? ⟨g, o + 4, none⟩ = some (.int .i64 (f 4)) ∧ w.cell? ⟨g, o + 5, none⟩ = some (.int .i64 (f 5)) ∧ w.cell? ⟨g, o + 6, none⟩ = some (.int .i64 (f 6)) :=
  ⟨h 0 (by omega), h 1 (by omega), h 2 (by omega), h 3 (by omega), h 4 (by omega), h 5 (by omega), h 6 (by omega)⟩
theorem Fr7.cells {w : World} {g o : Nat} (h : Fr7 w g o) : w.frozen? ⟨g, o, none⟩ = false ∧ w.frozen? ⟨g, o + 1, none⟩ = false ∧ w.frozen? ⟨g, o + 2, none⟩ = false ∧ w.frozen? ⟨g, o + 3, none⟩ = false ∧ w.frozen? ⟨g, o + 4, none⟩ = false ∧ w.frozen? ⟨g, o + 5, none⟩ = false ∧ w.frozen? ⟨g, o + 6, none⟩ = false :=
  ⟨h 0 (by omega), h 1 (by omega), h 2 (by omega), h 3 (by omega), h 4 (by omega), h 5 (by omega), h 6 (by omega)⟩
theorem At7.zero {w : World} {g : Nat} {f : V7} (h : At7 w g 0 f) (k : Nat) (hk : k < 7) : w.cell? ⟨g, k, none⟩ = some (.int .i64 (f k)) := by
  have := h k hk
  rwa [Nat.zero_add] at this
theorem Fr7.zero {w : World} {g : Nat} (h : Fr7 w g 0) (k : Nat) (hk : k < 7) : w.frozen? ⟨g, k, none⟩ = false := by
  have := h k hk
  rwa [Nat.zero_add] at this
theorem At7.alloc (w : World) (f : V7) (T : TypeId) : At7 (w.alloc (.cells #[.int .i64 (f 0), .int .i64 (f 1), .int .i64 (f 2), .int .i64 (f 3), .int .i64 (f 4), .int .i64 (f 5), .int .i64 (f 6)] T)) w.heap.size 0 f := by
  intro i hi
  simp only [World.cell?, World.alloc, Array.getElem?_push_size, Nat.zero_add]
  match i, hi with
  | 0, _ => rfl
  | 1, _ => rfl
  | 2, _ => rfl
  | 3, _ => rfl
  | 4, _ => rfl
  | 5, _ => rfl
  | 6, _ => rfl
theorem Fr7.alloc (w : World) (c : Array Value) (T : TypeId) : Fr7 (w.alloc (.cells c T)) w.heap.size 0 := fun i hi => World.frozen?_alloc_new _ _ _ _
theorem Fr7.ext_alloc {w : World} {g o : Nat} (h : Fr7 w g o) (ob : Obj) (hg : g < w.heap.size) : Fr7 (w.alloc ob) g o := fun i hi => by rw [World.frozen?_alloc_old _ _ _ (by simp; omega)]; exact h i hi

/-- A new block of seven, under a letter of its own. -/
theorem alloc7 (w : World) (f : V7) (T : TypeId) (h : Nat) (hh : w.heap.size = h) : ∃ w1, Hid (w.alloc (.cells #[.int .i64 (f 0), .int .i64 (f 1), .int .i64 (f 2), .int .i64 (f 3), .int .i64 (f 4), .int .i64 (f 5), .int .i64 (f 6)] T) = w1) ∧ Hid (w1.heap.size = h + 1) ∧ Ext w w1 ∧ At7 w1 h 0 f ∧ Fr7 w1 h 0 ∧ ∀ g o, g < h → Fr7 w g o → Fr7 w1 g o := by
  subst hh
  refine ⟨_, Lib.hid rfl, Lib.hid (Array.size_push _), (Ext.refl _).alloc _, At7.alloc _ _ _, Fr7.alloc _ _ _, fun g o hg hf => hf.ext_alloc _ hg⟩

/-- Seven put whole. -/
theorem put7 (w : World) (g : Nat) (f f' : V7) (h : At7 w g 0 f) : ∃ w1, Hid ((((((((w.setCell ⟨g, 0, none⟩ (.int .i64 (f' 0))).setCell ⟨g, 1, none⟩ (.int .i64 (f' 1))).setCell ⟨g, 2, none⟩ (.int .i64 (f' 2))).setCell ⟨g, 3, none⟩ (.int .i64 (f' 3))).setCell ⟨g, 4, none⟩ (.int .i64 (f' 4))).setCell ⟨g, 5, none⟩ (.int .i64 (f' 5))).setCell ⟨g, 6, none⟩ (.int .i64 (f' 6))) = w1) ∧ At7 w1 g 0 f' ∧ (∀ w0, Ext w0 w → w0.heap.size ≤ g → Ext w0 w1) ∧
    (∀ g' o' f, g' ≠ g → At7 w g' o' f → At7 w1 g' o' f) ∧ (∀ g' o', Fr7 w g' o' → Fr7 w1 g' o') ∧ Hid (w1.heap.size = w.heap.size) := by
  have s := ((((((h.set (k := 0) (by omega) (f' 0)).set (k := 1) (by omega) (f' 1)).set (k := 2) (by omega) (f' 2)).set (k := 3) (by omega) (f' 3)).set (k := 4) (by omega) (f' 4)).set (k := 5) (by omega) (f' 5)).set (k := 6) (by omega) (f' 6)
  refine ⟨_, Lib.hid rfl, ?_, fun w0 hw hg => ((((((hw.setCell hg _).setCell hg _).setCell hg _).setCell hg _).setCell hg _).setCell hg _).setCell hg _, ?_, ?_, ?_⟩
  · refine s.congr (fun i hi => ?_)
    match i, hi with
    | 0, _ => rfl
    | 1, _ => rfl
    | 2, _ => rfl
    | 3, _ => rfl
    | 4, _ => rfl
    | 5, _ => rfl
    | 6, _ => rfl
  · intro g' o' f hne hf
    have hn : ∀ o : Nat, (⟨g, o, none⟩ : Addr).block ≠ g' ∨ o < o' ∨ o' + 7 ≤ o := fun o => Or.inl (Ne.symm hne)
    exact ((((((hf.other (hn 0)).other (hn 1)).other (hn 2)).other (hn 3)).other (hn 4)).other (hn 5)).other (hn 6)
  · intro g' o' hf
    exact ((((((hf.set _ _).set _ _).set _ _).set _ _).set _ _).set _ _).set _ _
  · refine Lib.hid ?_
    simp only [World.size_setCell]
theorem At7.cells0 {w : World} {g : Nat} {f : V7} (h : At7 w g 0 f) : w.cell? ⟨g, 0, none⟩ = some (.int .i64 (f 0)) ∧ w.cell? ⟨g, 1, none⟩ = some (.int .i64 (f 1)) ∧ w.cell? ⟨g, 2, none⟩ = some (.int .i64 (f 2)) ∧ w.cell? ⟨g, 3, none⟩ = some (.int .i64 (f 3)) ∧ w.cell? ⟨g, 4, none⟩ = some (.int .i64 (f 4)) ∧ w.cell? ⟨g, 5, none⟩ = some (.int .i64 (f 5)) ∧ w.cell? ⟨g, 6, none⟩ = some (.int .i64 (f 6)) :=
  ⟨h.zero 0 (by omega), h.zero 1 (by omega), h.zero 2 (by omega), h.zero 3 (by omega), h.zero 4 (by omega), h.zero 5 (by omega), h.zero 6 (by omega)⟩
theorem Fr7.cells0 {w : World} {g : Nat} (h : Fr7 w g 0) : w.frozen? ⟨g, 0, none⟩ = false ∧ w.frozen? ⟨g, 1, none⟩ = false ∧ w.frozen? ⟨g, 2, none⟩ = false ∧ w.frozen? ⟨g, 3, none⟩ = false ∧ w.frozen? ⟨g, 4, none⟩ = false ∧ w.frozen? ⟨g, 5, none⟩ = false ∧ w.frozen? ⟨g, 6, none⟩ = false :=
  ⟨h.zero 0 (by omega), h.zero 1 (by omega), h.zero 2 (by omega), h.zero 3 (by omega), h.zero 4 (by omega), h.zero 5 (by omega), h.zero 6 (by omega)⟩

/-- A dot. -/
def dotv (r n : Int) : Value := .agg #[.int .i64 r, .int .i64 n]
/-- At g lies this dot. -/
def At2 (w : World) (g : Nat) (r n : Int) : Prop := w.cell? ⟨g, 0, none⟩ = some (.int .i64 r) ∧ w.cell? ⟨g, 1, none⟩ = some (.int .i64 n)
def Fr2 (w : World) (g : Nat) : Prop := w.frozen? ⟨g, 0, none⟩ = false ∧ w.frozen? ⟨g, 1, none⟩ = false
theorem At2.ext {w w' : World} {g : Nat} {r n : Int} (h : At2 w g r n) (e : Ext w w') : At2 w' g r n := ⟨e.cell h.1, e.cell h.2⟩
theorem At2.other {w : World} {g : Nat} {r n : Int} (h : At2 w g r n) {a : Addr} {v : Value} (hne : a.block ≠ g) : At2 (w.setCell a v) g r n :=
  ⟨by rw [World.cell?_setCell_other _ _ _ _ (fun he => by subst he; simp at hne)]; exact h.1, by rw [World.cell?_setCell_other _ _ _ _ (fun he => by subst he; simp at hne)]; exact h.2⟩
theorem At2.lt {w : World} {g : Nat} {r n : Int} (h : At2 w g r n) : g < w.heap.size := World.block_lt_of_cell? _ _ h.1
theorem Fr7.ext {w w' : World} {g o : Nat} (h : Fr7 w g o) (e : Ext w w') (hg : g < w.heap.size) : Fr7 w' g o := fun i hi => by rw [Below.frozen e.out hg]; exact h i hi
theorem Fr2.ext {w w' : World} {g : Nat} (h : Fr2 w g) (e : Ext w w') (hg : g < w.heap.size) : Fr2 w' g := ⟨by rw [Below.frozen e.out hg]; exact h.1, by rw [Below.frozen e.out hg]; exact h.2⟩
theorem Fr2.set {w : World} {g : Nat} (h : Fr2 w g) (a : Addr) (v : Value) : Fr2 (w.setCell a v) g := ⟨by rw [World.frozen?_setCell]; exact h.1, by rw [World.frozen?_setCell]; exact h.2⟩
theorem alloc2 (w : World) (r n : Int) (T : TypeId) (h : Nat) (hh : w.heap.size = h) : ∃ w1, Hid (w.alloc (.cells #[.int .i64 r, .int .i64 n] T) = w1) ∧ Hid (w1.heap.size = h + 1) ∧ Ext w w1 ∧ At2 w1 h r n ∧ Fr2 w1 h ∧ (∀ g o, g < h → Fr7 w g o → Fr7 w1 g o) := by
  subst hh
  refine ⟨_, Lib.hid rfl, Lib.hid (Array.size_push _), (Ext.refl _).alloc _, ⟨?_, ?_⟩, ⟨World.frozen?_alloc_new _ _ _ _, World.frozen?_alloc_new _ _ _ _⟩, fun g o hg hf => hf.ext_alloc _ hg⟩
  · simp only [World.cell?, World.alloc, Array.getElem?_push_size]; rfl
  · simp only [World.cell?, World.alloc, Array.getElem?_push_size]; rfl
theorem put2 (w : World) (g : Nat) (r n r' n' : Int) (h : At2 w g r n) : ∃ w1, Hid ((w.setCell ⟨g, 0, none⟩ (.int .i64 r')).setCell ⟨g, 1, none⟩ (.int .i64 n') = w1) ∧ At2 w1 g r' n' ∧ (∀ w0, Ext w0 w → w0.heap.size ≤ g → Ext w0 w1) ∧ (∀ g' o' f, g' ≠ g → At7 w g' o' f → At7 w1 g' o' f) := by
  have h1 : (w.setCell ⟨g, 0, none⟩ (.int .i64 r')).cell? ⟨g, 1, none⟩ = some (.int .i64 n) := by rw [World.cell?_setCell_other _ _ _ _ (fun he => by injection he; omega)]; exact h.2
  refine ⟨_, Lib.hid rfl, ⟨?_, World.cell?_setCell_same _ _ _ h1⟩, fun w0 hw hg => (hw.setCell hg _).setCell hg _, fun g' o' f hne hf => (hf.other (Or.inl (by simpa using Ne.symm hne))).other (Or.inl (by simpa using Ne.symm hne))⟩
  rw [World.cell?_setCell_other _ _ _ _ (fun he => by injection he; omega)]
  exact World.cell?_setCell_same _ _ _ h.1
theorem put7_2 {w : World} {g g2 : Nat} {f' : V7} {w1 : World} {r n : Int} (H : Hid ((((((((w.setCell ⟨g, 0, none⟩ (.int .i64 (f' 0))).setCell ⟨g, 1, none⟩ (.int .i64 (f' 1))).setCell ⟨g, 2, none⟩ (.int .i64 (f' 2))).setCell ⟨g, 3, none⟩ (.int .i64 (f' 3))).setCell ⟨g, 4, none⟩ (.int .i64 (f' 4))).setCell ⟨g, 5, none⟩ (.int .i64 (f' 5))).setCell ⟨g, 6, none⟩ (.int .i64 (f' 6))) = w1)) (h : At2 w g2 r n) (hf : Fr2 w g2) (hne : g ≠ g2) : At2 w1 g2 r n ∧ Fr2 w1 g2 := by
  rw [← H.out]
  refine ⟨((((((h.other hne).other hne).other hne).other hne).other hne).other hne).other hne, ?_, ?_⟩
  · simp only [World.frozen?_setCell]; exact hf.1
  · simp only [World.frozen?_setCell]; exact hf.2

theorem put7_keeps {w : World} {g g2 o : Nat} {f f' : V7} {w1 : World} (H : Hid ((((((((w.setCell ⟨g, 0, none⟩ (.int .i64 (f' 0))).setCell ⟨g, 1, none⟩ (.int .i64 (f' 1))).setCell ⟨g, 2, none⟩ (.int .i64 (f' 2))).setCell ⟨g, 3, none⟩ (.int .i64 (f' 3))).setCell ⟨g, 4, none⟩ (.int .i64 (f' 4))).setCell ⟨g, 5, none⟩ (.int .i64 (f' 5))).setCell ⟨g, 6, none⟩ (.int .i64 (f' 6))) = w1)) (hne : g ≠ g2) (hf : At7 w g2 o f) : At7 w1 g2 o f := by
  rw [← H.out]
  have hn : ∀ j : Nat, (⟨g, j, none⟩ : Addr).block ≠ g2 ∨ j < o ∨ o + 7 ≤ j := fun j => Or.inl hne
  exact ((((((hf.other (hn 0)).other (hn 1)).other (hn 2)).other (hn 3)).other (hn 4)).other (hn 5)).other (hn 6)
theorem put2_keeps {w : World} {g g2 o : Nat} {f : V7} {r n : Int} {w1 : World} (H : Hid ((w.setCell ⟨g, 0, none⟩ (.int .i64 r)).setCell ⟨g, 1, none⟩ (.int .i64 n) = w1)) (hne : g ≠ g2) (hf : At7 w g2 o f) : At7 w1 g2 o f := by
  rw [← H.out]
  exact (hf.other (Or.inl hne)).other (Or.inl hne)

theorem At7.rules {w : World} {g : Nat} {f : V7} (h : At7 w g 0 f) : (∀ W, Ext w W → W.cell? ⟨g, 0, none⟩ = some (.int .i64 (f 0))) ∧ (∀ W, Ext w W → W.cell? ⟨g, 1, none⟩ = some (.int .i64 (f 1))) ∧ (∀ W, Ext w W → W.cell? ⟨g, 2, none⟩ = some (.int .i64 (f 2))) ∧ (∀ W, Ext w W → W.cell? ⟨g, 3, none⟩ = some (.int .i64 (f 3))) ∧ (∀ W, Ext w W → W.cell? ⟨g, 4, none⟩ = some (.int .i64 (f 4))) ∧ (∀ W, Ext w W → W.cell? ⟨g, 5, none⟩ = some (.int .i64 (f 5))) ∧ (∀ W, Ext w W → W.cell? ⟨g, 6, none⟩ = some (.int .i64 (f 6))) :=
  ⟨fun W e => (h.ext e).zero 0 (by omega), fun W e => (h.ext e).zero 1 (by omega), fun W e => (h.ext e).zero 2 (by omega), fun W e => (h.ext e).zero 3 (by omega), fun W e => (h.ext e).zero 4 (by omega), fun W e => (h.ext e).zero 5 (by omega), fun W e => (h.ext e).zero 6 (by omega)⟩
theorem At2.rules {w : World} {g : Nat} {r n : Int} (h : At2 w g r n) : (∀ W, Ext w W → W.cell? ⟨g, 0, none⟩ = some (.int .i64 r)) ∧ (∀ W, Ext w W → W.cell? ⟨g, 1, none⟩ = some (.int .i64 n)) := ⟨fun W e => (h.ext e).1, fun W e => (h.ext e).2⟩

/-- Seven put whole behind seven others. -/
theorem put7d (w : World) (g : Nat) (f f' : V7) (h : At7 w g 7 f) : ∃ w1, Hid ((((((((w.setCell ⟨g, 7, none⟩ (.int .i64 (f' 0))).setCell ⟨g, 8, none⟩ (.int .i64 (f' 1))).setCell ⟨g, 9, none⟩ (.int .i64 (f' 2))).setCell ⟨g, 10, none⟩ (.int .i64 (f' 3))).setCell ⟨g, 11, none⟩ (.int .i64 (f' 4))).setCell ⟨g, 12, none⟩ (.int .i64 (f' 5))).setCell ⟨g, 13, none⟩ (.int .i64 (f' 6))) = w1) ∧ At7 w1 g 7 f' ∧
    (∀ f, At7 w g 0 f → At7 w1 g 0 f) ∧ (∀ g' o', Fr7 w g' o' → Fr7 w1 g' o') := by
  have s := ((((((h.set (k := 0) (by omega) (f' 0)).set (k := 1) (by omega) (f' 1)).set (k := 2) (by omega) (f' 2)).set (k := 3) (by omega) (f' 3)).set (k := 4) (by omega) (f' 4)).set (k := 5) (by omega) (f' 5)).set (k := 6) (by omega) (f' 6)
  refine ⟨_, Lib.hid rfl, ?_, ?_, ?_⟩
  · refine s.congr (fun i hi => ?_)
    match i, hi with
    | 0, _ => rfl
    | 1, _ => rfl
    | 2, _ => rfl
    | 3, _ => rfl
    | 4, _ => rfl
    | 5, _ => rfl
    | 6, _ => rfl
  · intro f hf
    have hn : ∀ o : Nat, 7 ≤ o → ((⟨g, o, none⟩ : Addr).block ≠ g ∨ o < 0 ∨ 0 + 7 ≤ o) := fun o ho => Or.inr (Or.inr (by omega))
    exact ((((((hf.other (hn 7 (by omega))).other (hn 8 (by omega))).other (hn 9 (by omega))).other (hn 10 (by omega))).other (hn 11 (by omega))).other (hn 12 (by omega))).other (hn 13 (by omega))
  · intro g' o' hf
    exact ((((((hf.set _ _).set _ _).set _ _).set _ _).set _ _).set _ _).set _ _
theorem put7_lo (w : World) (g : Nat) (f' : V7) {w1 : World} (H : Hid ((((((((w.setCell ⟨g, 0, none⟩ (.int .i64 (f' 0))).setCell ⟨g, 1, none⟩ (.int .i64 (f' 1))).setCell ⟨g, 2, none⟩ (.int .i64 (f' 2))).setCell ⟨g, 3, none⟩ (.int .i64 (f' 3))).setCell ⟨g, 4, none⟩ (.int .i64 (f' 4))).setCell ⟨g, 5, none⟩ (.int .i64 (f' 5))).setCell ⟨g, 6, none⟩ (.int .i64 (f' 6))) = w1)) : ∀ f, At7 w g 7 f → At7 w1 g 7 f := by
  intro f hf
  rw [← H.out]
  have hn : ∀ o : Nat, o < 7 → ((⟨g, o, none⟩ : Addr).block ≠ g ∨ o < 7 ∨ 7 + 7 ≤ o) := fun o ho => Or.inr (Or.inl ho)
  exact ((((((hf.other (hn 0 (by omega))).other (hn 1 (by omega))).other (hn 2 (by omega))).other (hn 3 (by omega))).other (hn 4 (by omega))).other (hn 5 (by omega))).other (hn 6 (by omega))
theorem At7.cells7 {w : World} {g : Nat} {f : V7} (h : At7 w g 7 f) : w.cell? ⟨g, 7, none⟩ = some (.int .i64 (f 0)) ∧ w.cell? ⟨g, 8, none⟩ = some (.int .i64 (f 1)) ∧ w.cell? ⟨g, 9, none⟩ = some (.int .i64 (f 2)) ∧ w.cell? ⟨g, 10, none⟩ = some (.int .i64 (f 3)) ∧ w.cell? ⟨g, 11, none⟩ = some (.int .i64 (f 4)) ∧ w.cell? ⟨g, 12, none⟩ = some (.int .i64 (f 5)) ∧ w.cell? ⟨g, 13, none⟩ = some (.int .i64 (f 6)) := h.cells
theorem Fr7.cells7 {w : World} {g : Nat} (h : Fr7 w g 7) : w.frozen? ⟨g, 7, none⟩ = false ∧ w.frozen? ⟨g, 8, none⟩ = false ∧ w.frozen? ⟨g, 9, none⟩ = false ∧ w.frozen? ⟨g, 10, none⟩ = false ∧ w.frozen? ⟨g, 11, none⟩ = false ∧ w.frozen? ⟨g, 12, none⟩ = false ∧ w.frozen? ⟨g, 13, none⟩ = false := h.cells
theorem At7.rules7 {w : World} {g : Nat} {f : V7} (h : At7 w g 7 f) : (∀ W, Ext w W → W.cell? ⟨g, 7, none⟩ = some (.int .i64 (f 0))) ∧ (∀ W, Ext w W → W.cell? ⟨g, 8, none⟩ = some (.int .i64 (f 1))) ∧ (∀ W, Ext w W → W.cell? ⟨g, 9, none⟩ = some (.int .i64 (f 2))) ∧ (∀ W, Ext w W → W.cell? ⟨g, 10, none⟩ = some (.int .i64 (f 3))) ∧ (∀ W, Ext w W → W.cell? ⟨g, 11, none⟩ = some (.int .i64 (f 4))) ∧ (∀ W, Ext w W → W.cell? ⟨g, 12, none⟩ = some (.int .i64 (f 5))) ∧ (∀ W, Ext w W → W.cell? ⟨g, 13, none⟩ = some (.int .i64 (f 6))) :=
  ⟨fun W e => (h.ext e).cells7.1, fun W e => (h.ext e).cells7.2.1, fun W e => (h.ext e).cells7.2.2.1, fun W e => (h.ext e).cells7.2.2.2.1, fun W e => (h.ext e).cells7.2.2.2.2.1, fun W e => (h.ext e).cells7.2.2.2.2.2.1, fun W e => (h.ext e).cells7.2.2.2.2.2.2⟩

def all7 (p : Nat → Bool) : Bool := p 0 && (p 1 && (p 2 && (p 3 && (p 4 && (p 5 && p 6)))))
theorem all7_of {p : Nat → Bool} (h : ∀ i, i < 7 → p i = true) : all7 p = true := by
  simp only [all7, h 0 (by omega), h 1 (by omega), h 2 (by omega), h 3 (by omega), h 4 (by omega), h 5 (by omega), h 6 (by omega), Bool.and_self]
theorem all7_at {p : Nat → Bool} (h : all7 p = true) : ∀ i, i < 7 → p i = true := by
  simp only [all7, Bool.and_eq_true] at h
  obtain ⟨h0, h1, h2, h3, h4, h5, h6⟩ := h
  intro i hi
  match i, hi with
  | 0, _ => exact h0
  | 1, _ => exact h1
  | 2, _ => exact h2
  | 3, _ => exact h3
  | 4, _ => exact h4
  | 5, _ => exact h5
  | 6, _ => exact h6
theorem all7_not {p : Nat → Bool} (k : Nat) (hk : k < 7) (h : p k = false) : all7 p = false := by
  cases e : all7 p with
  | false => rfl
  | true => rw [all7_at e k hk] at h; cases h
def le7 (a b : V7) : Bool := all7 fun i => decide (a i ≤ b i)
def eq7 (a b : V7) : Bool := all7 fun i => decide (a i = b i)
theorem eq7_refl (a : V7) : eq7 a a = true := all7_of fun i _ => decide_eq_true rfl
theorem eq7_iff {a b : V7} : eq7 a b = true ↔ ∀ i, i < 7 → a i = b i := ⟨fun h i hi => of_decide_eq_true (all7_at h i hi), fun h => all7_of fun i hi => decide_eq_true (h i hi)⟩
theorem le7_iff {a b : V7} : le7 a b = true ↔ ∀ i, i < 7 → a i ≤ b i := ⟨fun h i hi => of_decide_eq_true (all7_at h i hi), fun h => all7_of fun i hi => decide_eq_true (h i hi)⟩

theorem vf_get (f : V7) (k : Nat) (hk : k < 7) : (#[.int .i64 (f 0), .int .i64 (f 1), .int .i64 (f 2), .int .i64 (f 3), .int .i64 (f 4), .int .i64 (f 5), .int .i64 (f 6)] : Array Value)[k]? = some (.int .i64 (f k)) := by
  match k, hk with
  | 0, _ => rfl
  | 1, _ => rfl
  | 2, _ => rfl
  | 3, _ => rfl
  | 4, _ => rfl
  | 5, _ => rfl
  | 6, _ => rfl
theorem run_agg64 (w : World) : (isAgg 2).run Tryz.prog w = .ok false w := by
  unfold isAgg
  rw [Sem.run_bind, run_underlying Tryz.underlying2 w]
  rfl
theorem run_part64 (cs : Array Value) (k : Nat) (v : Value) (h : cs[k]? = some v) (w : World) : (part 2 cs k).run Tryz.prog w = .ok v w := by
  unfold part
  simp [Sem.run_bind, h]
theorem run_eqItems64 (f g : V7) (w : World) : ∀ (is : List Nat), (∀ i ∈ is, i < 7) → (Op.eqItems 9999 2 1 #[.int .i64 (f 0), .int .i64 (f 1), .int .i64 (f 2), .int .i64 (f 3), .int .i64 (f 4), .int .i64 (f 5), .int .i64 (f 6)] #[.int .i64 (g 0), .int .i64 (g 1), .int .i64 (g 2), .int .i64 (g 3), .int .i64 (g 4), .int .i64 (g 5), .int .i64 (g 6)] is).run Tryz.prog w = .ok (is.all fun i => decide (f i = g i)) w
  | [], _ => by simp [Op.eqItems]
  | i :: is, h => by
    have hi := h i (by simp)
    have ih := run_eqItems64 f g w is (fun j hj => h j (by simp [hj]))
    have e := run_equalIn_int (P := Tryz.prog) w 9998 2 .i64 .i64 (f i) (g i) Tryz.underlying2
    simp only [Op.eqItems, Sem.run_bind, Nat.mul_one, run_part64 _ i _ (vf_get f i hi), run_part64 _ i _ (vf_get g i hi), Result.andThen_ok, e]
    rw [List.all_cons]
    by_cases q : f i = g i
    · have qb : (f i == g i) = true := by simp [q]
      rw [qb, decide_eq_true q, Bool.true_and]
      exact ih
    · have qb : (f i == g i) = false := by simp [q]
      rw [qb, decide_eq_false q, Bool.false_and]
      rfl
theorem all7_range (p : Nat → Bool) : (List.range 7).all p = all7 p := by
  simp [List.range, List.range.loop, all7]
theorem run_eq7 {T : TypeId} (hu : Tryz.prog.underlying T = some (.array 7 2)) (f g : V7) (w : World) : (Op.equalIn 10000 T (.agg #[.int .i64 (f 0), .int .i64 (f 1), .int .i64 (f 2), .int .i64 (f 3), .int .i64 (f 4), .int .i64 (f 5), .int .i64 (f 6)]) (.agg #[.int .i64 (g 0), .int .i64 (g 1), .int .i64 (g 2), .int .i64 (g 3), .int .i64 (g 4), .int .i64 (g 5), .int .i64 (g 6)])).run Tryz.prog w = .ok (eq7 f g) w := by
  obtain ⟨i, hi⟩ : ∃ i, Tryz.prog.info? 2 = some i := Option.isSome_iff_exists.1 (by kernel_rfl)
  rw [show (10000 : Nat) = 9999 + 1 from rfl, run_equalIn_array w 9999 _ _ hu hi, show Tryz.prog.cellsOf 2 = 1 from by kernel_rfl, run_eqItems64 f g w _ (fun i hi => List.mem_range.1 hi), all7_range]
  rfl
theorem run_eq7_same {T : TypeId} (hu : Tryz.prog.underlying T = some (.array 7 2)) (a0 a1 a2 a3 a4 a5 a6 : Int) (w : World) : (Op.equalIn 10000 T (.agg #[.int .i64 a0, .int .i64 a1, .int .i64 a2, .int .i64 a3, .int .i64 a4, .int .i64 a5, .int .i64 a6]) (.agg #[.int .i64 a0, .int .i64 a1, .int .i64 a2, .int .i64 a3, .int .i64 a4, .int .i64 a5, .int .i64 a6])).run Tryz.prog w = .ok true w := by
  have h := run_eq7 hu (fun i => match i with | 0 => a0 | 1 => a1 | 2 => a2 | 3 => a3 | 4 => a4 | 5 => a5 | _ => a6) (fun i => match i with | 0 => a0 | 1 => a1 | 2 => a2 | 3 => a3 | 4 => a4 | 5 => a5 | _ => a6) w
  rw [eq7_refl] at h
  exact h
theorem run_idx7 {T : TypeId} (hu : Tryz.prog.underlying T = some (.array 7 2)) (f : V7) (k : Nat) (hk : k < 7) (w : World) : (Instr.index T (.agg #[.int .i64 (f 0), .int .i64 (f 1), .int .i64 (f 2), .int .i64 (f 3), .int .i64 (f 4), .int .i64 (f 5), .int .i64 (f 6)]) (.int .i64 (k : Int))).run Tryz.prog w = .ok (.int .i64 (f k)) w := by
  obtain ⟨i, hi⟩ : ∃ i, Tryz.prog.info? 2 = some i := Option.isSome_iff_exists.1 (by kernel_rfl)
  have hc : Tryz.prog.cellsOf 2 = 1 := by kernel_rfl
  have hk2 : 0 ≤ (k : Int) ∧ (k : Int) < ((7 : Nat) : Int) := by omega
  have hs := run_sizeOf w hi
  rw [hc] at hs
  simp only [Instr.index, asIntOf, Sem.run_bind, Sem.run_pure, Result.andThen_ok, run_underlying hu w, hk2, and_self, if_true, hs, Nat.mul_one, Int.toNat_natCast]
  exact run_part64 _ k _ (vf_get f k hk) w

theorem max2_int (k k' : IntKind) (x y : Int) : Builtin.max2 (.int k x) (.int k' y) = pure (.int k (max x y)) := by
  simp only [Builtin.max2, gt_iff_lt]
  congr 2
  omega
theorem max_two (ats : Array TypeId) (ty : TypeId) (k : IntKind) (a b : Int) : Builtin.max_ ats ty #[.int k a, .int k b] = pure (.int k (max a b)) := by
  simp only [Builtin.max_, List.foldlM_cons, List.foldlM_nil, max2_int]
  rfl
theorem min2_i (k k' : IntKind) (x y : Int) : Builtin.min2 (.int k x) (.int k' y) = pure (.int k (min x y)) := by
  simp only [Builtin.min2]
  congr 2
  omega
theorem min_twoi (ats : Array TypeId) (ty : TypeId) (k : IntKind) (a b : Int) : Builtin.min_ ats ty #[.int k a, .int k b] = pure (.int k (min a b)) := by
  simp only [Builtin.min_, List.foldlM_cons, List.foldlM_nil, min2_i]
  rfl
end Go.Proofs.YtbemkefcaceekaaGreatDoor
