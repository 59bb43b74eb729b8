/- RowsOpen: how a row of rows of bytes that came in is read. -/
import Derived.Test.YtbmhchfjapdicaaOpen
import Derived.Deep.Slices
set_option linter.unusedVariables false
set_option linter.unusedSimpArgs false
set_option maxRecDepth 100000
namespace Go.Proofs.Ytbmhchfjapdicaa
open Go.ChangeShapes Go.WideShapes Go.ChangeAt Go.RowKit Go.Proofs.YtbmhchfjapdicaaW.PrintWords Go.Deep

/-- A []byte among cells that came in. -/
theorem open_bytes_at {H : Type} {enc : TypeId × Value → H} {W : World} {base : Nat} {held : Bool} {t : TypeId} {cs : List Value} {x : DataW H × List MemPlace} {fuel : Nat}
    (hu : Try.prog.underlying t = some (.slice 5)) (hf : DataW.trod enc Try.prog W base (fun _ => true) held fuel t cs = some x) :
    ∃ a cap l, cs = [.slice a l.length cap] ∧ l.length ≤ cap ∧ Bs W a l := by
  rcases open_ints hu Try.underlying5 (by kernel_rfl) hf with ⟨hcs, _⟩ | ⟨x, len, cap, zs, hcs, _, hl, hm, hz, _, hcell, hwz⟩
  · subst hcs
    exact ⟨none, 0, [], rfl, Nat.le_refl _, rfl, by decide, fun h => absurd h (by decide)⟩
  · subst hcs
    have hzl : len ≤ zs.length := by
      have : zs.length = cap := by simpa using hz
      omega
    refine ⟨some x, cap, (zs.take len).map fun n => UInt8.ofNat n.toNat, by simp [hzl], by simp; omega, ?_⟩
    have hb : B ((zs.take len).map fun n => UInt8.ofNat n.toNat) = zs.take len := by
      simp only [B, List.map_map]
      conv => rhs; rw [← List.map_id (zs.take len)]
      apply List.map_congr_left
      intro n hn
      have hw := hwz n (List.mem_of_mem_take hn)
      have hr : 0 ≤ n ∧ n ≤ 255 := by simpa [Lit.wf, IntKind.min, IntKind.max, IntKind.signed, IntKind.bits] using hw
      simp only [Function.comp_apply, id]
      rw [UInt8.toNat_ofNat']
      omega
    refine ⟨by rw [B_length], by simp only [maxLen] at hm; simp; omega, fun _ => ⟨x, rfl, fun j p hp => ⟨[.int .u8 p], rfl, rfl, fun i u hu' => ?_⟩⟩⟩
    cases i with
    | succ i => simp at hu'
    | zero =>
      obtain rfl : Value.int .u8 p = u := by simpa using hu'
      rw [hb] at hp
      have hj : j < len := by
        have := (List.getElem?_eq_some_iff.1 hp).1
        simp at this; omega
      have := hcell j (by omega)
      rw [List.getElem?_take_of_lt hj] at hp
      simpa [Kd.int, Kd.scalar, List.getD_eq_getElem?_getD, hp] using this

/-- A [][]byte that came in. -/
theorem open_rows {H : Type} {enc : TypeId × Value → H} {W : World} {base b0 : Nat} {held : Bool} {t : TypeId} {v : Value} {d : DataW H} {ps : List MemPlace} {r : Reach}
    (hu : Try.prog.underlying t = some (.slice 30)) (h : DataW.Trod enc Try.prog W base (fun _ => true) held t v d ps) (hval : Value.okWide Try.prog W r b0 t v) :
    ∃ a cap l, v = .slice a l.length cap ∧ l.length ≤ cap ∧ Bss W a l := by
  obtain ⟨a, len, cap, rfl⟩ := okWide_slice hu hval
  obtain ⟨fuel, hf⟩ := h
  have hc1 : Try.prog.cellsOf 30 = 1 := by kernel_rfl
  rcases open_slice hu hf with ⟨hcs, _⟩ | ⟨x, len', c, m, n, D, Pl, hcs, _, hlc, hmx, hm, _, hall⟩
  · simp [Value.cells] at hcs
    obtain ⟨rfl, rfl, rfl⟩ := hcs
    exact ⟨none, 0, [], rfl, Nat.le_refl _, rfl, by decide, fun h => absurd h (by decide)⟩
  · simp [Value.cells] at hcs
    obtain ⟨rfl, rfl, rfl⟩ := hcs
    have hm : m = cap := by simpa using hm
    subst hm
    have key : ∀ i, ∃ y : Option Addr × Nat × List UInt8, i < m → W.cell? (x.add i) = some (.slice y.1 y.2.2.length y.2.1) ∧ y.2.2.length ≤ y.2.1 ∧ Bs W y.1 y.2.2 := by
      intro i
      by_cases hi : i < m
      · obtain ⟨cs', h1, h2⟩ := hall i hi
        rw [hc1, Nat.mul_one] at h1
        obtain ⟨a1, c1, l1, rfl, hl1, hB1⟩ := open_bytes_at Try.underlying30 h2
        obtain ⟨_, _, h3⟩ := World.cells?_some h1
        have h4 := h3 0 (by decide)
        refine ⟨(a1, c1, l1), fun _ => ⟨?_, hl1, hB1⟩⟩
        simpa [Addr.add] using h4
      · exact ⟨(none, 0, []), fun h => absurd h hi⟩
    obtain ⟨Y, hY⟩ := Classical.axiomOfChoice key
    refine ⟨some x, m, (List.range len).map fun i => (Y i).2.2, by simp, by simpa using hlc, by simp, by simp only [maxLen] at hmx; simp; omega, fun _ => ⟨x, rfl, fun j p hp => ?_⟩⟩
    simp only [List.map_map, List.getElem?_map, Option.map_eq_some_iff] at hp
    obtain ⟨i, hi, rfl⟩ := hp
    obtain ⟨hj, rfl⟩ := List.getElem?_eq_some_iff.1 hi
    have hjl : j < len := by simpa using hj
    obtain ⟨h1, h2, h3⟩ := hY j (by omega)
    simp only [List.getElem_range, Function.comp_apply]
    refine ⟨[.slice (Y j).1 (Y j).2.2.length (Y j).2.1], rfl, ⟨(Y j).1, (Y j).2.1, by simp [B_length], by simpa [B_length] using h2, by simpa [Bs, B_length] using h3⟩, fun i u hu => ?_⟩
    cases i with
    | succ i => simp at hu
    | zero =>
      obtain rfl : Value.slice (Y j).1 (Y j).2.2.length (Y j).2.1 = u := by simpa using hu
      simpa [Kd.slice] using h1

end Go.Proofs.Ytbmhchfjapdicaa
