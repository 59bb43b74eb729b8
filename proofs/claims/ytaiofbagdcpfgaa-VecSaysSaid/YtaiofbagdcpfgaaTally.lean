/- Tally: the walks of tally.New, Add, Value, Merge, Up, Down. -/
import Derived.Test.YtaiofbagdcpfgaaVecCmp
import Derived.Test.YtaiofbagdcpfgaaPackRd
set_option linter.unusedVariables false
set_option linter.unusedSimpArgs false
set_option maxRecDepth 100000
namespace Go.Proofs.Ytaiofbagdcpfgaa
open Go.RowKit Go.Proofs.YtaiofbagdcpfgaaW.PrintWords

/-- A tally in memory. -/
structure TT (w : World) (g : Nat) (u d : V7) : Prop where
  up : At7 w g 0 u
  down : At7 w g 7 d
  fu : Fr7 w g 0
  fd : Fr7 w g 7
theorem TT.lt {w : World} {g : Nat} {u d : V7} (h : TT w g u d) : g < w.heap.size := h.up.lt
theorem TT.ext {w w' : World} {g : Nat} {u d : V7} (h : TT w g u d) (e : Ext w w') : TT w' g u d := ⟨h.up.ext e, h.down.ext e, h.fu.ext e h.lt, h.fd.ext e h.lt⟩
theorem TT.but {w w' : World} {g k : Nat} {u d : V7} (h : TT w g u d) (e : But k w w') (hne : g ≠ k) : TT w' g u d := by
  have hb := e.block g h.lt hne
  exact ⟨fun i hi => by rw [World.cell?_of_block (w := w) hb]; exact h.up i hi, fun i hi => by rw [World.cell?_of_block (w := w) hb]; exact h.down i hi, fun i hi => by rw [World.frozen?_of_block (w := w) hb]; exact h.fu i hi, fun i hi => by rw [World.frozen?_of_block (w := w) hb]; exact h.fd i hi⟩
theorem At7.at7 {w : World} {g : Nat} {f : V7} (h : At7 w g 7 f) (k : Nat) (hk : k < 7) : w.cell? ⟨g, 7 + k, none⟩ = some (.int .i64 (f k)) := h k hk

def zero7' : V7 := fun _ => 0

theorem tnew_any (w : World) :
    Calls Try.prog 22 #[] w fun e w' => e = .returned (.pointer (some ⟨w.heap.size, 0, none⟩)) ∧ TT w' w.heap.size (fun _ => 0) (fun _ => 0) ∧ Ext w w' := by
  go_enter Try.func22, Try.ntmps22
  go_wp2
  go_ret
  refine ⟨rfl, ⟨?_, ?_, fun i hi => World.frozen?_alloc_new _ _ _ _, fun i hi => World.frozen?_alloc_new _ _ _ _⟩, (Ext.refl _).alloc _⟩
  all_goals
    intro i hi
    simp only [World.cell?, World.alloc, Array.getElem?_push_size]
    match i, hi with
    | 0, _ => rfl
    | 1, _ => rfl
    | 2, _ => rfl
    | 3, _ => rfl
    | 4, _ => rfl
    | 5, _ => rfl
    | 6, _ => rfl

/-- What Add makes. -/
def tadd (u d : V7) (r by_ : Int) : Int × V7 × V7 :=
  if rep7 r = false ∨ by_ < -1099511627776 ∨ 1099511627776 < by_ then (1, u, d)
  else if by_ < 0 then
    if 1125899906842624 - d r.toNat < -by_ then (2, u, d) else (0, u, upd d r.toNat (d r.toNat + -by_))
  else if 1125899906842624 - u r.toNat < by_ then (2, u, d) else (0, upd u r.toNat (u r.toNat + by_), d)

def Bnd (u : V7) : Prop := ∀ i, i < 7 → 0 ≤ u i ∧ u i ≤ 1125899906842624

set_option maxHeartbeats 1000000 in
theorem tadd_any (g : Nat) (u d : V7) (r b : Int) (w : World) (h : TT w g u d) (hu : Bnd u) (hd : Bnd d) :
    Calls Try.prog 23 #[.pointer (some ⟨g, 0, none⟩), .int .i64 r, .int .i64 b] w fun e w' => e = .returned (.int .i64 (tadd u d r b).1) ∧ TT w' g (tadd u d r b).2.1 (tadd u d r b).2.2 ∧ But g w w' := by
  go_enter Try.func23, Try.ntmps23
  go_wp2_with fail
  refine (rep_any r _).mono ?_
  rintro e w' ⟨rfl, rfl⟩
  cases q1 : rep7 r with
  | false =>
    have hres : tadd u d r b = (1, u, d) := by simp [tadd, q1]
    go_wp2
    go_ret
    rw [hres]
    exact ⟨rfl, h, But.refl _ _⟩
  | true =>
    by_cases hb1 : b < -1099511627776
    · have hres : tadd u d r b = (1, u, d) := by simp [tadd, hb1]
      go_wp2
      go_ret
      rw [hres]
      exact ⟨rfl, h, But.refl _ _⟩
    by_cases hb2 : 1099511627776 < b
    · have hres : tadd u d r b = (1, u, d) := by simp [tadd, hb2]
      go_wp2
      go_ret
      rw [hres]
      exact ⟨rfl, h, But.refl _ _⟩
    have hr : 0 ≤ r ∧ r < 7 := by simpa [rep7] using q1
    obtain ⟨k, rfl⟩ := Int.eq_ofNat_of_zero_le hr.1
    have hk : k < 7 := by omega
    by_cases hneg : b < 0
    · have p0 := h.down.at7 k hk
      have p1 := h.fd k hk
      have hb := hd k hk
      have hs := h.down.set hk (d k + -b)
      obtain ⟨x, Hx⟩ : ∃ x, Hid (d k = x) := ⟨_, Lib.hid rfl⟩
      rw [Hx.out] at p0 hb hs
      by_cases hlim : 1125899906842624 - x < -b
      · have hres : tadd u d (k : Int) b = (2, u, d) := by simp [tadd, q1, hb1, hb2, hneg, Hx.out, hlim]
        go_wp2
        go_ret
        rw [hres]
        exact ⟨rfl, h, But.refl _ _⟩
      · have hres : tadd u d (k : Int) b = (0, u, upd d k (x + -b)) := by simp [tadd, q1, hb1, hb2, hneg, Hx.out, hlim]
        go_wp2
        go_region
        go_wp2
        go_ret
        rw [hres]
        exact ⟨rfl, ⟨(h.up.other (Or.inr (Or.inr (by simp)))).drew, hs.drew, (h.fu.set _ _).drew, (h.fd.set _ _).drew⟩, ((But.refl g w).setCell _ _).drew⟩
    · have p0 := h.up.zero k hk
      have p1 := h.fu.zero k hk
      have hb := hu k hk
      have hs := h.up.set hk (u k + b)
      obtain ⟨x, Hx⟩ : ∃ x, Hid (u k = x) := ⟨_, Lib.hid rfl⟩
      rw [Hx.out] at p0 hb hs
      rw [Nat.zero_add] at hs
      by_cases hlim : 1125899906842624 - x < b
      · have hres : tadd u d (k : Int) b = (2, u, d) := by simp [tadd, q1, hb1, hb2, hneg, Hx.out, hlim]
        go_wp2
        go_ret
        rw [hres]
        exact ⟨rfl, h, But.refl _ _⟩
      · have hres : tadd u d (k : Int) b = (0, upd u k (x + b), d) := by simp [tadd, q1, hb1, hb2, hneg, Hx.out, hlim]
        go_wp2
        go_region
        go_wp2
        go_ret
        rw [hres]
        exact ⟨rfl, ⟨hs.drew, (h.down.other (Or.inr (Or.inl (by simpa using hk)))).drew, (h.fu.set _ _).drew, (h.fd.set _ _).drew⟩, ((But.refl g w).setCell _ _).drew⟩

/-- What the first k come to. -/
def tsum (u d : V7) : Nat → Int
  | 0 => 0
  | k + 1 => tsum u d k + (u k - d k)
theorem tsum_bnd {u d : V7} (hu : Bnd u) (hd : Bnd d) : ∀ k : Nat, k ≤ 7 → -1125899906842624 * (k : Int) ≤ tsum u d k ∧ tsum u d k ≤ 1125899906842624 * (k : Int)
  | 0, _ => by simp [tsum]
  | k + 1, h => by
    have ih := tsum_bnd hu hd k (by omega)
    have h1 := hu k (by omega)
    have h2 := hd k (by omega)
    simp only [tsum]
    omega
theorem tval_any (g : Nat) (u d : V7) (w : World) (h : TT w g u d) (hu : Bnd u) (hd : Bnd d) :
    Calls Try.prog 24 #[.pointer (some ⟨g, 0, none⟩)] w fun e w' => e = .returned (.int .i64 (tsum u d 7)) ∧ Ext w w' := by
  go_enter Try.func24, Try.ntmps24
  go_wp2
  go_loopw [3, 5] (fun s i wr => ∃ (k : Nat), k ≤ 7 ∧ i = .int .i64 k ∧ s = .int .i64 (tsum u d k) ∧ Ext w wr) (fun _ i _ => 7 - (intOf i).toNat)
  case atStart => exact ⟨0, by omega, rfl, rfl, Ext.refl _⟩
  case round =>
    obtain ⟨k, hk, rfl, rfl, hX⟩ := hrel
    by_cases hkl : k < 7
    · have h' := h.ext hX
      have p0 := h'.up.zero k hkl
      have p1 := h'.down.at7 k hkl
      have b0 := hu k hkl
      have b1 := hd k hkl
      have b2 := tsum_bnd hu hd k hk
      have e3 : tsum u d (k + 1) = tsum u d k + (u k - d k) := rfl
      obtain ⟨x, Hx⟩ : ∃ x, Hid (u k = x) := ⟨_, Lib.hid rfl⟩
      obtain ⟨y, Hy⟩ : ∃ x, Hid (d k = x) := ⟨_, Lib.hid rfl⟩
      obtain ⟨z, Hz⟩ : ∃ x, Hid (tsum u d k = x) := ⟨_, Lib.hid rfl⟩
      rw [Hx.out] at p0 b0
      rw [Hy.out] at p1 b1
      rw [Hz.out] at b2
      rw [Hx.out, Hy.out, Hz.out] at e3
      have E3 := Lib.hid e3
      clear e3
      rw [Hz.out]
      go_wp2
      go_region
      go_wp2
      go_roundw
      case rel => exact ⟨k + 1, by omega, by go_num, by rw [E3.out], hX.drew⟩
      case measure => simp [intOf]; omega
    · have hk7 : k = 7 := by omega
      subst hk7
      go_wp2
      go_ret
      exact ⟨rfl, hX⟩

end Go.Proofs.Ytaiofbagdcpfgaa
