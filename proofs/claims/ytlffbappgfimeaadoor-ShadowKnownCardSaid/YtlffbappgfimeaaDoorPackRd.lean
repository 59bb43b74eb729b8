/- PackRd: a reader in memory; the walks of Read, fail, Bad, End. -/
import Derived.Test.YtlffbappgfimeaaDoorPackPut
import Derived.RegionTactic
import Derived.BigRegion
set_option linter.unusedVariables false
set_option maxRecDepth 100000
namespace Go.Proofs.YtlffbappgfimeaaDoor
open Go.RowKit Go.Proofs.YtlffbappgfimeaaDoorW.PrintWords PackPure

/-- All that was there is as it was, but for one block. -/
structure But (g : Nat) (w w' : World) : Prop where
  os : w'.os = w.os
  tape : w'.tape = w.tape
  output : w'.output = w.output
  size : w.heap.size ≤ w'.heap.size
  block : ∀ k, k < w.heap.size → k ≠ g → w'.heap[k]? = w.heap[k]?
theorem But.refl (g : Nat) (w : World) : But g w w := ⟨rfl, rfl, rfl, Nat.le_refl _, fun _ _ _ => rfl⟩
theorem But.trans {g : Nat} {a b c : World} (h : But g a b) (k : But g b c) : But g a c :=
  ⟨k.os.trans h.os, k.tape.trans h.tape, k.output.trans h.output, Nat.le_trans h.size k.size, fun i hi hg => (k.block i (Nat.lt_of_lt_of_le hi h.size) hg).trans (h.block i hi hg)⟩
theorem But.ext {g : Nat} {a b c : World} (h : But g a b) (k : Ext b c) : But g a c :=
  ⟨k.out.os.trans h.os, k.out.tape.trans h.tape, k.out.output.trans h.output, Nat.le_trans h.size k.size, fun i hi hg => (k.out.block i (Nat.lt_of_lt_of_le hi h.size)).trans (h.block i hi hg)⟩
theorem But.of_ext {g : Nat} {a b : World} (k : Ext a b) : But g a b := (But.refl g a).ext k
theorem But.setCell {g : Nat} {a b : World} (h : But g a b) (o : Nat) (v : Value) : But g a (b.setCell ⟨g, o, none⟩ v) :=
  h.trans ⟨rfl, rfl, rfl, by simp [World.setCell], fun k _ hk => Below.heap_setCell _ _ _ _ hk⟩
theorem But.drew {g : Nat} {a b : World} (h : But g a b) : But g a b.drew := h.ext ((Ext.refl _).drew)
theorem Ext.but {g : Nat} {w W w' : World} (h : Ext w W) (k : But g W w') (hg : w.heap.size ≤ g) : Ext w w' :=
  Ext.of ⟨k.os.trans h.out.os, k.tape.trans h.out.tape, k.output.trans h.out.output, Nat.le_trans h.size k.size, fun i hi => (k.block i (Nat.lt_of_lt_of_le hi h.size) (by omega)).trans (h.out.block i hi)⟩
/-- No byte lies in the block. -/
def NoU8 (w : World) (g : Nat) : Prop := ∀ o v, w.cell? ⟨g, o, none⟩ = some v → ∀ n, v ≠ .int .u8 n
theorem Bs.but {g : Nat} {w w' : World} {A : Option Addr} {l : List UInt8} (h : Bs w A l) (hb : But g w w') (hno : ∀ ad v, w.cell? ad = some v → ad.block = g → ∀ n, v ≠ .int .u8 n) : Bs w' A l := by
  refine ⟨h.1, h.2.1, fun hn => ?_⟩
  obtain ⟨ad, rfl, hc⟩ := h.2.2 hn
  refine ⟨ad, rfl, fun j p hp => ?_⟩
  obtain ⟨c, hs, hk, hcell⟩ := hc j p hp
  refine ⟨c, hs, hk, fun i u hu => ?_⟩
  have h1 := hcell i u hu
  have hlt := World.block_lt_of_cell? w _ h1
  have hne : (ad.add (j * (Kd.int .u8).sz + i)).block ≠ g := by
    intro he
    have hu8 : u = .int .u8 p := by
      have hk' : c = [.int .u8 p] := hk
      subst hk'
      cases i with
      | zero => simpa using hu.symm
      | succ i => simp at hu
    exact hno _ _ h1 he p hu8
  rw [← h1]
  exact World.cell?_of_block (hb.block _ hlt hne)

/-- A reader: what is left, is it bad. -/
def Rd (w : World) (g : Nat) (l : List UInt8) (bad : Bool) : Prop := ∃ A c, w.heap[g]? = some (.cells #[.slice A l.length c, .bool bad] 73 (0, 0)) ∧ l.length ≤ c ∧ Bs w A l
theorem Rd.lt {w : World} {g : Nat} {l : List UInt8} {bad : Bool} (h : Rd w g l bad) : g < w.heap.size := by
  obtain ⟨A, c, hh, _⟩ := h
  exact (Array.getElem?_eq_some_iff.1 hh).1
theorem Rd.no {w : World} {g : Nat} {l : List UInt8} {bad : Bool} (h : Rd w g l bad) : ∀ ad v, w.cell? ad = some v → ad.block = g → ∀ n, v ≠ .int .u8 n := by
  obtain ⟨A, c, hh, _⟩ := h
  intro ad v hv hg n hn
  subst hn
  subst hg
  have h1 : w.cell? ad = if ad.spot.isSome = true then none else #[Value.slice A l.length c, Value.bool bad][ad.off]? := by simp only [World.cell?, hh]
  rw [h1] at hv
  split at hv
  · cases hv
  generalize ad.off = o at hv
  match o, hv with
  | 0, hv => simp at hv
  | 1, hv => simp at hv
  | o + 2, hv => simp at hv
theorem Rd.ext {w w' : World} {g : Nat} {l : List UInt8} {bad : Bool} (h : Rd w g l bad) (hx : Ext w w') : Rd w' g l bad := by
  have hlt := h.lt
  obtain ⟨A, c, hh, hl, hB⟩ := h
  exact ⟨A, c, (hx.out.block g hlt).trans hh, hl, hB.ext hx⟩
/-- Another thing has been written. -/
theorem Rd.but {w w' : World} {g g' : Nat} {l : List UInt8} {bad : Bool} (h : Rd w g l bad) (hb : But g' w w') (hne : g ≠ g') (hno : ∀ ad v, w.cell? ad = some v → ad.block = g' → ∀ n, v ≠ .int .u8 n) : Rd w' g l bad := by
  have hlt := h.lt
  obtain ⟨A, c, hh, hl, hB⟩ := h
  exact ⟨A, c, (hb.block g hlt hne).trans hh, hl, hB.but hb hno⟩
theorem Rd.cells {w : World} {g : Nat} {l : List UInt8} {bad : Bool} (h : Rd w g l bad) : ∃ A c, w.heap[g]? = some (.cells #[.slice A l.length c, .bool bad] 73 (0, 0)) ∧ w.cell? ⟨g, 0, none⟩ = some (.slice A l.length c) ∧ w.cell? ⟨g, 1, none⟩ = some (.bool bad) ∧ w.frozen? ⟨g, 0, none⟩ = false ∧ w.frozen? ⟨g, 1, none⟩ = false ∧ l.length ≤ c ∧ Bs w A l := by
  obtain ⟨A, c, hh, hl, hB⟩ := h
  exact ⟨A, c, hh, by simp [World.cell?, hh], by simp [World.cell?, hh], by simp [World.frozen?, hh], by simp [World.frozen?, hh], hl, hB⟩

set_option maxHeartbeats 400000 in
theorem read_any (A : Option Addr) (n c : Nat) (l : List UInt8) (w : World) (h : Bs w A l) (hn : n = l.length) (hm : n ≤ 140737488355328) :
    Calls Tryd.prog 20 #[.slice A n c] w fun e w' => ∃ g, e = .returned (.pointer (some ⟨g, 0, none⟩)) ∧ w.heap.size ≤ g ∧ Rd w' g l false ∧ Ext w w' := by
  have Hn := Lib.hid hn
  clear hn
  go_enter Tryd.func20, Tryd.ntmps20
  go_wp2_with fail
  refine (clone_any A n c l w h Hn.out (by omega)).mono ?_
  rintro e w1 ⟨v1, rfl, ho1, hb1⟩
  obtain ⟨A1, c1, rfl, hl1, hB1⟩ := ho1.reads
  go_wp2
  go_ret
  refine ⟨_, rfl, hb1.size, ⟨A1, c1, ?_, hl1, hB1.ext ((Ext.refl _).alloc _)⟩, hb1.alloc _⟩
  exact heap_alloc_new _ _

set_option maxHeartbeats 400000 in
theorem fail_any (g : Nat) (l : List UInt8) (bad : Bool) (w : World) (h : Rd w g l bad) :
    Calls Tryd.prog 45 #[.pointer (some ⟨g, 0, none⟩)] w fun e w' => e = .returned (.int .i64 0) ∧ Rd w' g [] true ∧ But g w w' := by
  obtain ⟨A, c, hh, h0, h1, f0, f1, hl, hB⟩ := h.cells
  have Hh := Lib.hid hh
  clear hh
  go_enter Tryd.func45, Tryd.ntmps45
  go_wp2
  go_ret
  refine ⟨rfl, ?_, ((But.refl g w).setCell 0 _).setCell 1 _⟩
  exact ⟨none, 0, Joins.block_setCell (Joins.block_setCell Hh.out (i := 0) (.slice none 0 0)) (i := 1) (.bool true), Nat.le_refl _, rfl, by decide, fun h => absurd h (by decide)⟩

set_option maxHeartbeats 400000 in
theorem bad_any (g : Nat) (l : List UInt8) (bad : Bool) (w : World) (h : Rd w g l bad) :
    Calls Tryd.prog 46 #[.pointer (some ⟨g, 0, none⟩)] w fun e w' => e = .returned (.bool bad) ∧ w = w' := by
  obtain ⟨A, c, hh, h0, h1, f0, f1, hl, hB⟩ := h.cells
  clear hh
  go_enter Tryd.func46, Tryd.ntmps46
  go_wp2
  go_ret
  exact ⟨rfl, rfl⟩

set_option maxHeartbeats 400000 in
theorem end_any (g : Nat) (l : List UInt8) (bad : Bool) (w : World) (h : Rd w g l bad) :
    Calls Tryd.prog 24 #[.pointer (some ⟨g, 0, none⟩)] w fun e w' => e = .returned (.bool (!bad && l.isEmpty)) ∧ w = w' := by
  obtain ⟨A, c, hh, h0, h1, f0, f1, hl, hB⟩ := h.cells
  clear hh
  go_enter Tryd.func24, Tryd.ntmps24
  cases bad with
  | true =>
    go_wp2
    go_ret
    exact ⟨rfl, rfl⟩
  | false =>
    have he : ((l.length : Int) == 0) = l.isEmpty := by cases l <;> simp <;> omega
    generalize l.isEmpty = b at *
    go_wp2
    go_ret
    exact ⟨by simp, rfl⟩

end Go.Proofs.YtlffbappgfimeaaDoor
