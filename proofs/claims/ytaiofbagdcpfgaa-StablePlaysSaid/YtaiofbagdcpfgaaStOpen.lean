/- How rows of clocks that came in are read. -/
import Derived.Test.YtaiofbagdcpfgaaVecOpen
import Derived.Test.YtaiofbagdcpfgaaStAgain
import Derived.Test.YtaiofbagdcpfgaaIntsOpen
set_option linter.unusedVariables false
set_option linter.unusedSimpArgs false
set_option maxRecDepth 100000
namespace Go.Proofs.Ytaiofbagdcpfgaa
open Go.ChangeShapes Go.WideShapes Go.ChangeAt Go.RowKit Go.Proofs.YtaiofbagdcpfgaaW.PrintWords Go.Deep

/-- A []vec.Vec that came in. -/
theorem open_vecs {H : Type} {enc : TypeId × Value → H} {W : World} {base b0 : Nat} {held : Bool} {t : TypeId} {v : Value} {d : DataW H} {ps : List MemPlace} {r : Reach}
    (hu : Try.prog.underlying t = some (.slice 51)) (h : DataW.Trod enc Try.prog W base (fun _ => true) held t v d ps) (hval : Value.okWide Try.prog W r b0 t v) :
    ∃ a cap l, v = .slice a l.length cap ∧ l.length ≤ cap ∧ Vs W a l := by
  obtain ⟨a, len, cap, rfl⟩ := okWide_slice hu hval
  obtain ⟨fuel, hf⟩ := h
  have hc7 : Try.prog.cellsOf 51 = 7 := by kernel_rfl
  rcases open_slice hu hf with ⟨hcs, _⟩ | ⟨x, l, c, m, n, D, Pl, hcs, _, hlc, _, hm, _, hall⟩
  · simp [Value.cells] at hcs
    obtain ⟨rfl, rfl, rfl⟩ := hcs
    exact ⟨none, 0, [], rfl, Nat.le_refl _, fun i f h => by simp at h⟩
  · simp [Value.cells] at hcs
    obtain ⟨rfl, rfl, rfl⟩ := hcs
    have hm : m = cap := by simpa using hm
    subst hm
    have key : ∀ i, ∃ f : V7, i < m → ∃ cs', W.cells? base (x.add (i * 7)) 7 = some cs' ∧ cs' = [.int .i64 (f 0), .int .i64 (f 1), .int .i64 (f 2), .int .i64 (f 3), .int .i64 (f 4), .int .i64 (f 5), .int .i64 (f 6)] := by
      intro i
      by_cases hi : i < m
      · obtain ⟨cs', h1, h2⟩ := hall i hi
        rw [hc7] at h1
        obtain ⟨f, hcs, _⟩ := ints7 Try.underlying51 Try.underlying2 (by kernel_rfl) (by kernel_rfl) h2
        exact ⟨f, fun _ => ⟨cs', h1, hcs⟩⟩
      · exact ⟨fun _ => 0, fun h => absurd h hi⟩
    obtain ⟨Y, hY⟩ := Classical.axiomOfChoice key
    refine ⟨some x, m, (List.range len).map Y, by simp, by simpa using hlc, fun i y hy => ⟨x, rfl, ?_⟩⟩
    obtain ⟨hi, rfl⟩ := List.getElem?_eq_some_iff.1 hy
    have hi' : i < m := by simp at hi; omega
    obtain ⟨cs', h1, h2⟩ := hY i hi'
    obtain ⟨_, _, h3⟩ := World.cells?_some h1
    subst h2
    have c0 := h3 0 (by decide)
    have c1 := h3 1 (by decide)
    have c2 := h3 2 (by decide)
    have c3 := h3 3 (by decide)
    have c4 := h3 4 (by decide)
    have c5 := h3 5 (by decide)
    have c6 := h3 6 (by decide)
    simp only [List.getElem_map, List.getElem_range]
    refine ⟨?_, ?_, ?_, ?_, ?_, ?_, ?_⟩
    · simpa [Addr.add] using c0
    · simpa [Addr.add] using c1
    · simpa [Addr.add] using c2
    · simpa [Addr.add] using c3
    · simpa [Addr.add] using c4
    · simpa [Addr.add] using c5
    · simpa [Addr.add] using c6

end Go.Proofs.Ytaiofbagdcpfgaa
