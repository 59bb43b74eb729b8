/- How a list of acts that came in is read. -/
import Derived.Test.YtaiofbagdcpfgaaOpen
import Derived.Test.YtaiofbagdcpfgaaPackReads
import Derived.Deep.Fields
set_option linter.unusedVariables false
set_option linter.unusedSimpArgs false
set_option maxRecDepth 100000
namespace Go.Proofs.Ytaiofbagdcpfgaa
open Go.ChangeShapes Go.WideShapes Go.ChangeAt Go.RowKit Go.Proofs.YtaiofbagdcpfgaaW.PrintWords Go.Deep

theorem one_act {H : Type} {enc : TypeId × Value → H} {W : World} {base : Nat} {spare : Nat → Bool} {held : Bool} {n : Nat} {cs : List Value} {x : DataW H × List MemPlace}
    (h : DataW.trod enc Try.prog W base spare held n 45 cs = some x) :
    ∃ y : Int × Int × Int × Int, cs = [.int .i64 y.1, .int .i64 y.2.1, .int .i64 y.2.2.1, .int .i64 y.2.2.2] := by
  obtain ⟨xs, m, _, rfl, hcl, hxl, hf⟩ := DataW.trod_struct Try.underlying45 h
  have hc4 : Try.prog.cellsOf 45 = 4 := by kernel_rfl
  have hci : Try.prog.cellsOf 3 = 1 := by kernel_rfl
  have hcj : Try.prog.cellsOf 2 = 1 := by kernel_rfl
  rw [hc4] at hcl
  match cs, hcl with
  | [c0, c1, c2, c3], _ =>
  match xs, hxl with
  | [x0, x1, x2, x3], _ =>
  have f0 := hf 0 _ rfl
  have f1 := hf 1 _ rfl
  have f2 := hf 2 _ rfl
  have f3 := hf 3 _ rfl
  simp only [hci, hcj, List.drop, List.take, List.getElem?_cons_zero, List.getElem?_cons_succ] at f0 f1 f2 f3
  obtain ⟨n0, e0, -, -⟩ := DataW.trod_int Try.underlying3 f0
  obtain ⟨n1, e1, -, -⟩ := DataW.trod_int Try.underlying3 f1
  obtain ⟨n2, e2, -, -⟩ := DataW.trod_int Try.underlying2 f2
  obtain ⟨n3, e3, -, -⟩ := DataW.trod_int Try.underlying2 f3
  exact ⟨(n0, n1, n2, n3), by simp_all⟩

/-- A []Act that came in. -/
theorem open_acts {H : Type} {enc : TypeId × Value → H} {W : World} {base b0 : Nat} {held : Bool} {t : TypeId} {v : Value} {d : DataW H} {ps : List MemPlace} {r : Reach}
    (hu : Try.prog.underlying t = some (.slice 45)) (h : DataW.Trod enc Try.prog W base (fun _ => true) held t v d ps) (hval : Value.okWide Try.prog W r b0 t v) :
    ∃ a cap l, v = .slice a l.length cap ∧ l.length ≤ cap ∧ Acts W a l := by
  obtain ⟨a, len, cap, rfl⟩ := okWide_slice hu hval
  obtain ⟨fuel, hf⟩ := h
  have hc4 : Try.prog.cellsOf 45 = 4 := by kernel_rfl
  rcases open_slice hu hf with ⟨hcs, _⟩ | ⟨x, l, c, m, n, D, Pl, hcs, _, hlc, _, hm, _, hall⟩
  · simp [Value.cells] at hcs
    obtain ⟨rfl, rfl, rfl⟩ := hcs
    exact ⟨none, 0, [], rfl, Nat.le_refl _, Or.inl rfl⟩
  · simp [Value.cells] at hcs
    obtain ⟨rfl, rfl, rfl⟩ := hcs
    have hm : m = cap := by simpa using hm
    subst hm
    have key : ∀ i, ∃ y : Int × Int × Int × Int, i < m → ∃ cs', W.cells? base (x.add (i * 4)) 4 = some cs' ∧ cs' = [.int .i64 y.1, .int .i64 y.2.1, .int .i64 y.2.2.1, .int .i64 y.2.2.2] := by
      intro i
      by_cases hi : i < m
      · obtain ⟨cs', h1, h2⟩ := hall i hi
        rw [hc4] at h1
        obtain ⟨y, hy⟩ := one_act h2
        exact ⟨y, fun _ => ⟨cs', h1, hy⟩⟩
      · exact ⟨(0,0,0,0), fun h => absurd h hi⟩
    obtain ⟨Y, hY⟩ := Classical.axiomOfChoice key
    refine ⟨some x, m, (List.range len).map Y, by simp, by simpa using hlc, Or.inr ⟨x, rfl, fun i y hy => ?_⟩⟩
    obtain ⟨hi, rfl⟩ := List.getElem?_eq_some_iff.1 hy
    have hi' : i < m := by simp at hi; omega
    obtain ⟨cs', h1, h2⟩ := hY i hi'
    obtain ⟨_, _, h3⟩ := World.cells?_some h1
    subst h2
    have c0 := h3 0 (by decide)
    have c1 := h3 1 (by decide)
    have c2 := h3 2 (by decide)
    have c3 := h3 3 (by decide)
    simp only [List.getElem_map, List.getElem_range]
    refine ⟨?_, ?_, ?_, ?_⟩
    · simpa [Addr.add] using c0
    · simpa [Addr.add] using c1
    · simpa [Addr.add] using c2
    · simpa [Addr.add] using c3

end Go.Proofs.Ytaiofbagdcpfgaa
