/- How a shadow that came in is read. -/
import Derived.Test.YtlffbappgfimeaaDoorVecOpen
import Derived.Test.YtlffbappgfimeaaDoorShBase
set_option linter.unusedVariables false
set_option linter.unusedSimpArgs false
set_option maxRecDepth 100000
namespace Go.Proofs.YtlffbappgfimeaaDoor
open Go.ChangeShapes Go.WideShapes Go.ChangeAt Go.RowKit Go.Proofs.YtlffbappgfimeaaDoorW.PrintWords Go.Deep

theorem open_sh {H : Type} {enc : TypeId × Value → H} {W : World} {base b0 : Nat} {held : Bool} {v : Value} {d : DataW H} {ps : List MemPlace} {r : Reach} {fs : Array Field}
    (hu : Tryd.prog.underlying 28 = some (.struct fs)) (h : DataW.Trod enc Tryd.prog W base (fun _ => true) held 28 v d ps) (hval : Value.okWide Tryd.prog W r b0 28 v) :
    ∃ (r n : Int) (f : V7) (k : Int) (key text : ByteArray) (b t : Int), v = shv r n f k key text b t ∧ (-9223372036854775808 ≤ k ∧ k ≤ 9223372036854775807) := by
  obtain ⟨cs, rfl, hs⟩ := okWide_struct hu hval
  obtain ⟨fuel, hf⟩ := h
  obtain ⟨xs, m, _, _, hcl, hxl, hf⟩ := DataW.trod_struct Tryd.underlying28 hf
  have hc : Tryd.prog.cellsOf 28 = 14 := by kernel_rfl
  have hcd : Tryd.prog.cellsOf 24 = 2 := by kernel_rfl
  have hcv : Tryd.prog.cellsOf 26 = 7 := by kernel_rfl
  have hci : Tryd.prog.cellsOf 3 = 1 := by kernel_rfl
  have hcj : Tryd.prog.cellsOf 2 = 1 := by kernel_rfl
  have hcs : Tryd.prog.cellsOf 9 = 1 := by kernel_rfl
  rw [hc] at hcl
  obtain ⟨cl⟩ := cs
  simp only [Value.cells] at hcl hf
  match cl, hcl with
  | [c0, c1, c2, c3, c4, c5, c6, c7, c8, c9, c10, c11, c12, c13], _ =>
  match xs, hxl with
  | [x0, x1, x2, x3, x4, x5, x6], _ =>
  have f0 : DataW.trod enc Tryd.prog W base (fun _ => true) held m 24 [c0, c1] = some x0 := by simpa [hcd] using hf 0 _ rfl
  have f1 : DataW.trod enc Tryd.prog W base (fun _ => true) held m 26 [c2, c3, c4, c5, c6, c7, c8] = some x1 := by simpa [hcv] using hf 1 _ rfl
  have f2 : DataW.trod enc Tryd.prog W base (fun _ => true) held m 3 [c9] = some x2 := by simpa [hci] using hf 2 _ rfl
  have f3 : DataW.trod enc Tryd.prog W base (fun _ => true) held m 9 [c10] = some x3 := by simpa [hcs] using hf 3 _ rfl
  have f4 : DataW.trod enc Tryd.prog W base (fun _ => true) held m 9 [c11] = some x4 := by simpa [hcs] using hf 4 _ rfl
  have f5 : DataW.trod enc Tryd.prog W base (fun _ => true) held m 2 [c12] = some x5 := by simpa [hcj] using hf 5 _ rfl
  have f6 : DataW.trod enc Tryd.prog W base (fun _ => true) held m 2 [c13] = some x6 := by simpa [hcj] using hf 6 _ rfl
  obtain ⟨ys, m2, _, _, hdl, hyl, hg⟩ := DataW.trod_struct Tryd.underlying24 f0
  match ys, hyl with
  | [y0, y1], _ =>
  have g0 : DataW.trod enc Tryd.prog W base (fun _ => true) held m2 3 [c0] = some y0 := by simpa [hci] using hg 0 _ rfl
  have g1 : DataW.trod enc Tryd.prog W base (fun _ => true) held m2 2 [c1] = some y1 := by simpa [hcj] using hg 1 _ rfl
  obtain ⟨n0, e0, -, -⟩ := DataW.trod_int Tryd.underlying3 g0
  obtain ⟨n1, e1, -, -⟩ := DataW.trod_int Tryd.underlying2 g1
  obtain ⟨f, ef, -⟩ := ints7 Tryd.underlying26 Tryd.underlying2 hcj hcv f1
  obtain ⟨n2, e2, -, w2⟩ := DataW.trod_int Tryd.underlying3 f2
  obtain ⟨s3, e3, -⟩ := DataW.trod_string Tryd.underlying9 f3
  obtain ⟨s4, e4, -⟩ := DataW.trod_string Tryd.underlying9 f4
  obtain ⟨n5, e5, -, -⟩ := DataW.trod_int Tryd.underlying2 f5
  obtain ⟨n6, e6, -, -⟩ := DataW.trod_int Tryd.underlying2 f6
  clear hu hs hf hg hcl hdl hxl hyl f0 f1 f2 f3 f4 f5 f6 g0 g1
  simp only [List.cons.injEq, and_true] at e0 e1 ef e2 e3 e4 e5 e6
  obtain ⟨v0, v1, v2, v3, v4, v5, v6⟩ := ef
  subst e0 e1 v0 v1 v2 v3 v4 v5 v6 e2 e3 e4 e5 e6
  refine ⟨n0, n1, f, n2, s3, s4, n5, n6, rfl, ?_⟩
  simpa [Lit.wf, IntKind.min, IntKind.max, IntKind.signed, IntKind.bits] using w2

end Go.Proofs.YtlffbappgfimeaaDoor
