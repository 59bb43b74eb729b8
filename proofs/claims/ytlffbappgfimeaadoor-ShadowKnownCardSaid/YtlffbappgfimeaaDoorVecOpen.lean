/- How clocks and dots that came in are read. -/
import Derived.Test.YtlffbappgfimeaaDoorOpen
import Derived.Test.YtlffbappgfimeaaDoorVecBase
import Derived.Deep.Fields
set_option linter.unusedVariables false
set_option linter.unusedSimpArgs false
set_option maxRecDepth 100000
namespace Go.Proofs.YtlffbappgfimeaaDoor
open Go.ChangeShapes Go.WideShapes Go.ChangeAt Go.RowKit Go.Proofs.YtlffbappgfimeaaDoorW.PrintWords Go.Deep

theorem okWide_arr {P : Program} {w : World} {r : Reach} {base : Nat} {t e : TypeId} {n : Nat} {v : Value} (ht : P.underlying t = some (.array n e)) (h : Value.okWide P w r base t v) : ∃ cs, v = .agg cs ∧ cs.size = P.cellsOf t := by
  simp only [Value.okWide, ht] at h
  obtain ⟨cs, h1, h2, _⟩ := h
  exact ⟨cs, h1, h2⟩

/-- Seven numbers out of a reading. -/
theorem ints7 {H : Type} {enc : TypeId × Value → H} {P : Program} {W : World} {base : Nat} {spare : Nat → Bool} {held : Bool} {t e : TypeId} {fuel : Nat} {cs : List Value} {x : DataW H × List MemPlace}
    (hu : P.underlying t = some (.array 7 e)) (he : P.underlying e = some (.int .i64)) (hc : P.cellsOf e = 1) (ht : P.cellsOf t = 7) (h : DataW.trod enc P W base spare held fuel t cs = some x) :
    ∃ f : V7, cs = [.int .i64 (f 0), .int .i64 (f 1), .int .i64 (f 2), .int .i64 (f 3), .int .i64 (f 4), .int .i64 (f 5), .int .i64 (f 6)] ∧ ∀ i, i < 7 → -9223372036854775808 ≤ f i ∧ f i ≤ 9223372036854775807 := by
  obtain ⟨xs, m, _, _, hcl, hxl, hf⟩ := DataW.trod_array hu h
  rw [ht] at hcl
  rw [hc] at hf
  match cs, hcl with
  | [c0, c1, c2, c3, c4, c5, c6], _ =>
  match xs, hxl with
  | [x0, x1, x2, x3, x4, x5, x6], _ =>
  have f0 := hf 0 (by omega)
  have f1 := hf 1 (by omega)
  have f2 := hf 2 (by omega)
  have f3 := hf 3 (by omega)
  have f4 := hf 4 (by omega)
  have f5 := hf 5 (by omega)
  have f6 := hf 6 (by omega)
  simp only [Nat.mul_one, List.drop, List.take, List.getElem?_cons_zero, List.getElem?_cons_succ] at f0 f1 f2 f3 f4 f5 f6
  obtain ⟨n0, e0, -, w0⟩ := DataW.trod_int he f0
  obtain ⟨n1, e1, -, w1⟩ := DataW.trod_int he f1
  obtain ⟨n2, e2, -, w2⟩ := DataW.trod_int he f2
  obtain ⟨n3, e3, -, w3⟩ := DataW.trod_int he f3
  obtain ⟨n4, e4, -, w4⟩ := DataW.trod_int he f4
  obtain ⟨n5, e5, -, w5⟩ := DataW.trod_int he f5
  obtain ⟨n6, e6, -, w6⟩ := DataW.trod_int he f6
  have bd : ∀ v : Int, (Lit.int .i64 v).wf = true → -9223372036854775808 ≤ v ∧ v ≤ 9223372036854775807 := fun v h => by simpa [Lit.wf, IntKind.min, IntKind.max, IntKind.signed, IntKind.bits] using h
  refine ⟨fun i => match i with | 0 => n0 | 1 => n1 | 2 => n2 | 3 => n3 | 4 => n4 | 5 => n5 | _ => n6, by simp_all, fun i hi => ?_⟩
  match i, hi with
  | 0, _ => exact bd _ w0
  | 1, _ => exact bd _ w1
  | 2, _ => exact bd _ w2
  | 3, _ => exact bd _ w3
  | 4, _ => exact bd _ w4
  | 5, _ => exact bd _ w5
  | 6, _ => exact bd _ w6

/-- A clock that came in. -/
theorem open_vec {H : Type} {enc : TypeId × Value → H} {W : World} {base b0 : Nat} {held : Bool} {v : Value} {d : DataW H} {ps : List MemPlace} {r : Reach}
    (hu : Tryd.prog.underlying 26 = some (.array 7 2)) (h : DataW.Trod enc Tryd.prog W base (fun _ => true) held 26 v d ps) (hval : Value.okWide Tryd.prog W r b0 26 v) :
    ∃ f : V7, v = vf f ∧ ∀ i, i < 7 → -9223372036854775808 ≤ f i ∧ f i ≤ 9223372036854775807 := by
  obtain ⟨cs, rfl, hs⟩ := okWide_arr hu hval
  obtain ⟨fuel, hf⟩ := h
  obtain ⟨f, hcs, hb⟩ := ints7 hu Tryd.underlying2 (by kernel_rfl) (by kernel_rfl) hf
  refine ⟨f, ?_, hb⟩
  unfold vf
  congr 1
  apply Array.toList_inj.1
  simpa [Value.cells] using hcs

/-- A dot that came in. -/
theorem open_dot {H : Type} {enc : TypeId × Value → H} {W : World} {base b0 : Nat} {held : Bool} {v : Value} {d : DataW H} {ps : List MemPlace} {r : Reach} {fs : Array Field}
    (hu : Tryd.prog.underlying 24 = some (.struct fs)) (h : DataW.Trod enc Tryd.prog W base (fun _ => true) held 24 v d ps) (hval : Value.okWide Tryd.prog W r b0 24 v) :
    ∃ r n, v = dotv r n := by
  obtain ⟨cs, rfl, hs⟩ := okWide_struct hu hval
  obtain ⟨fuel, hf⟩ := h
  obtain ⟨xs, m, _, _, hcl, hxl, hf⟩ := DataW.trod_struct Tryd.underlying24 hf
  have hc2 : Tryd.prog.cellsOf 24 = 2 := by kernel_rfl
  have hci : Tryd.prog.cellsOf 3 = 1 := by kernel_rfl
  have hcj : Tryd.prog.cellsOf 2 = 1 := by kernel_rfl
  rw [hc2] at hcl
  obtain ⟨cl⟩ := cs
  simp only [Value.cells] at hcl hf
  match cl, hcl with
  | [c0, c1], _ =>
  match xs, hxl with
  | [x0, x1], _ =>
  have f0 := hf 0 _ rfl
  have f1 := hf 1 _ rfl
  simp only [hci, hcj, List.drop, List.take, List.getElem?_cons_zero, List.getElem?_cons_succ] at f0 f1
  obtain ⟨n0, e0, -, -⟩ := DataW.trod_int Tryd.underlying3 f0
  obtain ⟨n1, e1, -, -⟩ := DataW.trod_int Tryd.underlying2 f1
  exact ⟨n0, n1, by simp_all [dotv]⟩

end Go.Proofs.YtlffbappgfimeaaDoor
