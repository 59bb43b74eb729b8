/- How a row of int64 that came in is read. -/
import Derived.Test.YtbmhchfjapdicaaOpen
import Derived.Test.YtbmhchfjapdicaaNetOnceW
set_option linter.unusedVariables false
set_option linter.unusedSimpArgs false
set_option maxRecDepth 100000
namespace Go.Proofs.Ytbmhchfjapdicaa
open Go.ChangeShapes Go.WideShapes Go.ChangeAt Go.RowKit Go.Proofs.YtbmhchfjapdicaaW.PrintWords Go.Deep

theorem open_is {H : Type} {enc : TypeId × Value → H} {W : World} {base b0 : Nat} {held : Bool} {t e : TypeId} {v : Value} {d : DataW H} {ps : List MemPlace} {r : Reach}
    (hu : Try.prog.underlying t = some (.slice e)) (he : Try.prog.underlying e = some (.int .i64)) (hce : Try.prog.cellsOf e = 1) (h : DataW.Trod enc Try.prog W base (fun _ => true) held t v d ps) (hval : Value.okWide Try.prog W r b0 t v) :
    ∃ a cap l, v = .slice a l.length cap ∧ l.length ≤ cap ∧ Is W a l := by
  obtain ⟨a, len, cap, rfl⟩ := okWide_slice hu hval
  obtain ⟨fuel, hf⟩ := h
  rcases open_ints hu he hce hf with ⟨hcs, _⟩ | ⟨x, l, c, zs, hcs, _, hl, hm, hz, _, hcell, hwz⟩
  · simp [Value.cells] at hcs
    obtain ⟨rfl, rfl, rfl⟩ := hcs
    exact ⟨none, 0, [], rfl, Nat.le_refl _, fun i x h => by simp at h⟩
  · simp [Value.cells] at hcs
    obtain ⟨rfl, rfl, rfl⟩ := hcs
    have hzl : zs.length = cap := by simpa using hz
    refine ⟨some x, cap, zs.take len, by simp; omega, by simp; omega, fun i y hy => ⟨x, rfl, ?_⟩⟩
    have hi : i < len := by
      have := (List.getElem?_eq_some_iff.1 hy).1
      simp at this; omega
    have := hcell i (by omega)
    rw [List.getElem?_take_of_lt hi] at hy
    simpa [List.getD_eq_getElem?_getD, hy] using this

/-- A []int that came in. -/
theorem open_ints' {H : Type} {enc : TypeId × Value → H} {W : World} {base b0 : Nat} {held : Bool} {t : TypeId} {v : Value} {d : DataW H} {ps : List MemPlace} {r : Reach}
    (hu : Try.prog.underlying t = some (.slice 3)) (h : DataW.Trod enc Try.prog W base (fun _ => true) held t v d ps) (hval : Value.okWide Try.prog W r b0 t v) :
    ∃ a cap l, v = .slice a l.length cap ∧ l.length ≤ cap ∧ Is W a l := open_is hu Try.underlying3 (by kernel_rfl) h hval

end Go.Proofs.Ytbmhchfjapdicaa
