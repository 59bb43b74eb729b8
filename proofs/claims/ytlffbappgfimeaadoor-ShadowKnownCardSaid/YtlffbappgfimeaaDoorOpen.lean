/- Open: how arguments that came in are read. -/
import Derived.Test.YtlffbappgfimeaaDoorBase
import Derived.SizedLaws
import Derived.ChangeSlices
import Derived.OpenShut
import Derived.ChangeOld
set_option linter.unusedVariables false
namespace Go.Proofs.YtlffbappgfimeaaDoor
open Go.ChangeShapes Go.WideShapes Go.ChangeAt Go.RowKit Go.Proofs.YtlffbappgfimeaaDoorW.PrintWords

/-- A row's slice of bytes is no longer than its weight allows. -/
theorem sized_bytes {H : Type} {enc : TypeId × Value → H} {P : Program} {W : World} {base : Nat} {spare : Nat → Bool} {held : Bool} {t e : TypeId} {k : IntKind} {a : Option Addr} {len cap : Nat} {d : DataW H} {ps : List MemPlace} {ts : List TypeId} {ds : List (DataW H)} {j : Nat}
    (hsz : (DataW.weightsEach P ts ds).all (· ≤ reachBytes) = true) (ht : ts[j]? = some t) (hd : ds[j]? = some d) (hu : P.underlying t = some (.slice e)) (he : P.underlying e = some (.int k)) (hc : P.cellsOf e = 1) {n : Nat} (hB : P.bytesOf e = n)
    (h : DataW.Trod enc P W base spare held t (.slice a len cap) d ps) : len * n ≤ 140737488351232 := by
  obtain ⟨fuel, hf⟩ := h
  rcases open_ints hu he hc hf with ⟨hcs, _⟩ | ⟨x, l, c, zs, hcs, _, hl, _, hz, hx, _, _⟩
  · simp [Value.cells] at hcs
    obtain ⟨rfl, rfl, rfl⟩ := hcs
    simp
  · simp [Value.cells] at hcs
    obtain ⟨rfl, rfl, rfl⟩ := hcs
    obtain ⟨hx, _⟩ := Prod.mk.inj hx
    subst hx
    have z := sized_slice hsz ht hd hu
    rw [hB] at z
    have hl2 : len ≤ zs.length := by
      rw [hz]
      split
      · exact hl
      · exact Nat.le_refl _
    have h1 : (lits (H := H) k (zs.take len)).length + (lits (H := H) k (zs.drop len)).length = zs.length := by
      simp [lits]
      omega
    rw [h1] at z
    exact Nat.le_trans (Nat.mul_le_mul_right _ hl2) z

set_option maxRecDepth 100000 in
/-- A []byte that came in. -/
theorem open_bytes {H : Type} {enc : TypeId × Value → H} {W : World} {base b0 : Nat} {held : Bool} {t : TypeId} {v : Value} {d : DataW H} {ps : List MemPlace} {r : Reach}
    (hu : Tryd.prog.underlying t = some (.slice 5)) (h : DataW.Trod enc Tryd.prog W base (fun _ => true) held t v d ps) (hval : Value.okWide Tryd.prog W r b0 t v) :
    ∃ a cap l, v = .slice a l.length cap ∧ l.length ≤ cap ∧ Bs W a l := by
  obtain ⟨a, len, cap, rfl⟩ := okWide_slice hu hval
  obtain ⟨fuel, hf⟩ := h
  rcases open_ints hu Tryd.underlying5 (by kernel_rfl) hf with ⟨hcs, _⟩ | ⟨x, l, c, zs, hcs, _, hl, hm, hz, _, hcell, hwz⟩
  · simp [Value.cells] at hcs
    obtain ⟨rfl, rfl, rfl⟩ := hcs
    exact ⟨none, 0, [], rfl, Nat.le_refl _, rfl, by decide, fun h => absurd h (by decide)⟩
  · simp [Value.cells] at hcs
    obtain ⟨rfl, rfl, rfl⟩ := hcs
    have hzl : len ≤ zs.length := by
      have : zs.length = cap := by simpa using hz
      omega
    refine ⟨some x, cap, (zs.take len).map fun n => UInt8.ofNat n.toNat, by simp [hzl], by simp; omega, ?_⟩
    have hb : B ((zs.take len).map fun n => UInt8.ofNat n.toNat) = zs.take len := by
      simp only [B, List.map_map]
      conv => rhs; rw [← List.map_id (zs.take len)]
      apply List.map_congr_left
      intro n hn
      have hw := hwz n (List.mem_of_mem_take hn)
      have hr : 0 ≤ n ∧ n ≤ 255 := by simpa [Lit.wf, IntKind.min, IntKind.max, IntKind.signed, IntKind.bits] using hw
      simp only [Function.comp_apply, id]
      rw [UInt8.toNat_ofNat']
      omega
    refine ⟨by rw [B_length], by simp only [maxLen] at hm; simp; omega, fun _ => ⟨x, rfl, fun j p hp => ⟨[.int .u8 p], rfl, rfl, fun i u hu' => ?_⟩⟩⟩
    cases i with
    | succ i => simp at hu'
    | zero =>
      obtain rfl : Value.int .u8 p = u := by simpa using hu'
      rw [hb] at hp
      have hj : j < len := by
        have := (List.getElem?_eq_some_iff.1 hp).1
        simp at this; omega
      have := hcell j (by omega)
      rw [List.getElem?_take_of_lt hj] at hp
      simpa [Kd.int, Kd.scalar, List.getD_eq_getElem?_getD, hp] using this

end Go.Proofs.YtlffbappgfimeaaDoor
