/- Stable: the walks of the matrix. -/
import Derived.Test.YtaiofbagdcpfgaaVecCmp
import Derived.Test.YtaiofbagdcpfgaaPackRd
set_option linter.unusedVariables false
set_option linter.unusedSimpArgs false
set_option maxRecDepth 100000
namespace Go.Proofs.Ytaiofbagdcpfgaa
open Go.RowKit Go.Proofs.YtaiofbagdcpfgaaW.PrintWords

/-- A matrix in memory. -/
structure MM (w : World) (g s n : Nat) (R : Nat → V7) : Prop where
  hd : w.cell? ⟨g, 0, none⟩ = some (.slice (some ⟨s, 0, none⟩) n n)
  ne : g ≠ s
  row : ∀ r, r < n → At7 w s (r * 7) (R r)
  fr : ∀ r, r < n → Fr7 w s (r * 7)
  n1 : 1 ≤ n
  n7 : n ≤ 7
theorem MM.lt {w : World} {g s n : Nat} {R : Nat → V7} (h : MM w g s n R) : g < w.heap.size := World.block_lt_of_cell? _ _ h.hd
theorem MM.slt {w : World} {g s n : Nat} {R : Nat → V7} (h : MM w g s n R) : s < w.heap.size := (h.row 0 h.n1).lt
theorem MM.ext {w w' : World} {g s n : Nat} {R : Nat → V7} (h : MM w g s n R) (e : Ext w w') : MM w' g s n R := ⟨e.cell h.hd, h.ne, fun r hr => (h.row r hr).ext e, fun r hr => (h.fr r hr).ext e h.slt, h.n1, h.n7⟩
theorem MM.but {w w' : World} {g s n k : Nat} {R : Nat → V7} (h : MM w g s n R) (e : But k w w') (h1 : g ≠ k) (h2 : s ≠ k) : MM w' g s n R := by
  have hb := e.block g h.lt h1
  have hc := e.block s h.slt h2
  exact ⟨by rw [World.cell?_of_block (w := w) hb]; exact h.hd, h.ne, fun r hr i hi => by rw [World.cell?_of_block (w := w) hc]; exact h.row r hr i hi, fun r hr i hi => by rw [World.frozen?_of_block (w := w) hc]; exact h.fr r hr i hi, h.n1, h.n7⟩

def mhas (n : Nat) (r : Int) : Bool := decide (0 ≤ r) && decide (r < n)

theorem mhas_any (g s n : Nat) (R : Nat → V7) (r : Int) (w : World) (h : MM w g s n R) :
    Calls Try.prog 87 #[.pointer (some ⟨g, 0, none⟩), .int .i64 r] w fun e w' => e = .returned (.bool (mhas n r)) ∧ w = w' := by
  have hd := h.hd
  go_enter Try.func87, Try.ntmps87
  by_cases h0 : 0 ≤ r
  · go_wp2
    go_ret
    exact ⟨by rw [mhas, decide_eq_true h0]; rfl, rfl⟩
  · go_wp2
    go_ret
    exact ⟨by rw [mhas, decide_eq_false (by omega)]; rfl, rfl⟩

/-- Row by row the least, the most. -/
def stab (R : Nat → V7) : Nat → V7
  | 0 => R 0
  | k + 1 => lst (stab R k) (R k)
def top (R : Nat → V7) : Nat → V7
  | 0 => fun _ => 0
  | k + 1 => mrg (top R k) (R k)

def mrow (R : Nat → V7) (n : Nat) (r : Int) : V7 := if mhas n r = true then R r.toNat else fun _ => 0
theorem mrow_any (g s n : Nat) (R : Nat → V7) (r : Int) (w : World) (h : MM w g s n R) :
    Calls Try.prog 55 #[.pointer (some ⟨g, 0, none⟩), .int .i64 r] w fun e w' => e = .returned (vf (mrow R n r)) ∧ Ext w w' := by
  obtain ⟨h0, Hh⟩ : ∃ h, Hid (w.heap.size = h) := ⟨_, Lib.hid rfl⟩
  obtain ⟨w1, H1, S1, hx1, hz1, fz1, -⟩ := alloc7 w (fun _ => 0) 51 h0 Hh.out
  have hh := Hh.out
  have h1 := H1.out
  have hM := h.ext hx1
  have hd := hM.hd
  go_enter Try.func55, Try.ntmps55
  go_wp2_with fail
  refine (mhas_any g s n R r _ hM).mono ?_
  rintro e w' ⟨rfl, rfl⟩
  clear h1 hh
  cases q : mhas n r with
  | false =>
    have hres : mrow R n r = fun _ => 0 := by simp [mrow, q]
    obtain ⟨w5, H5, hP, kx, -, -, -⟩ := put7 w1 h0 _ (fun _ => 0) hz1
    obtain ⟨c0, c1, c2, c3, c4, c5, c6⟩ := hz1.cells0
    obtain ⟨d0, d1, d2, d3, d4, d5, d6⟩ := hP.cells0
    obtain ⟨f0, f1, f2, f3, f4, f5, f6⟩ := fz1.cells0
    have h5 := H5.out
    clear hP
    go_wp2
    refine bodyPost_ret (v := vf (fun _ => 0)) (by simp [results, Try.results55, go_sem, vf, d0, d1, d2, d3, d4, d5, d6]) rfl ⟨by rw [hres], kx _ hx1 (by rw [Hh.out]; exact Nat.le_refl _)⟩
  | true =>
    have hr : 0 ≤ r ∧ r < n := by simpa [mhas] using q
    obtain ⟨k, rfl⟩ := Int.eq_ofNat_of_zero_le hr.1
    have hk : k < n := by omega
    obtain ⟨x, Hx⟩ : ∃ x, Hid (R k = x) := ⟨_, Lib.hid rfl⟩
    have hrow := hM.row k hk
    rw [Hx.out] at hrow
    have hres : mrow R n (k : Int) = x := by simp [mrow, q, Hx.out]
    obtain ⟨w5, H5, hP, kx, -, -, -⟩ := put7 w1 h0 _ x hz1
    obtain ⟨a0, a1, a2, a3, a4, a5, a6⟩ := hrow.cells
    obtain ⟨c0, c1, c2, c3, c4, c5, c6⟩ := hz1.cells0
    obtain ⟨d0, d1, d2, d3, d4, d5, d6⟩ := hP.cells0
    obtain ⟨f0, f1, f2, f3, f4, f5, f6⟩ := fz1.cells0
    have h5 := H5.out
    clear hP
    go_wp2
    refine bodyPost_ret (v := vf x) (by simp [results, Try.results55, go_sem, vf, d0, d1, d2, d3, d4, d5, d6]) rfl ⟨by rw [hres], kx _ hx1 (by rw [Hh.out]; exact Nat.le_refl _)⟩

theorem mmost_any (g s n : Nat) (R : Nat → V7) (w : World) (h : MM w g s n R) :
    Calls Try.prog 53 #[.pointer (some ⟨g, 0, none⟩)] w fun e w' => e = .returned (vf (top R n)) ∧ Ext w w' := by
  obtain ⟨h0, Hh⟩ : ∃ h, Hid (w.heap.size = h) := ⟨_, Lib.hid rfl⟩
  obtain ⟨w1, H1, S1, hx1, hz1, fz1, -⟩ := alloc7 w (fun _ => 0) 51 h0 Hh.out
  obtain ⟨w2, H2, S2, hx2, hz2, fz2, k2⟩ := alloc7 w1 (fun _ => 0) 51 (h0 + 1) S1.out
  have fr2 := k2 _ _ (by omega) fz1
  have hX2 := hx1.trans hx2
  have hM := h.ext hX2
  have hd := hM.hd
  have hn7 := h.n7
  have hh := Hh.out
  have s1 := S1.out
  have h1 := H1.out
  have h2 := H2.out
  go_enter Try.func53, Try.ntmps53
  go_wp2
  clear h1 h2 s1 hh
  go_loopw [5, 11] (fun _ i wr => ∃ (k : Nat), k ≤ n ∧ i = .int .i64 k ∧ Ext w wr ∧ At7 wr (h0 + 1) 0 (top R k) ∧ Fr7 wr (h0 + 1) 0 ∧ At7 wr h0 0 (fun _ => 0) ∧ Fr7 wr h0 0) (fun _ i _ => n - (intOf i).toNat)
  case atStart => exact ⟨0, Nat.zero_le _, rfl, hX2, hz2, fz2, hz1.ext hx2, fr2⟩
  case round =>
    obtain ⟨k, hk, rfl, hX, hV, hVf, hO, hOf⟩ := hrel
    by_cases hkl : k < n
    · have hMr := h.ext hX
      obtain ⟨x, Hx⟩ : ∃ x, Hid (R k = x) := ⟨_, Lib.hid rfl⟩
      obtain ⟨v, Hv⟩ : ∃ x, Hid (top R k = x) := ⟨_, Lib.hid rfl⟩
      obtain ⟨v', Hv'⟩ : ∃ x, Hid (top R (k + 1) = x) := ⟨_, Lib.hid rfl⟩
      have hc := fun W => mrg_any v x W
      rw [show mrg v x = v' from by rw [← Hx.out, ← Hv.out, ← Hv'.out]; rfl] at hc
      have hrow := hMr.row k hkl
      rw [Hx.out] at hrow
      rw [Hv.out] at hV
      obtain ⟨j, Hj⟩ : ∃ h, Hid (wr.heap.size = h) := ⟨_, Lib.hid rfl⟩
      obtain ⟨w4, H4, S4, hx4, hz4, fz4, k4⟩ := alloc7 wr (fun _ => 0) 51 j Hj.out
      obtain ⟨w5, H5, hP5, kx5, kr5, kf5, -⟩ := put7 w4 j _ x hz4
      have hX5 := kx5 _ (hX.trans hx4) (by rw [← Hj.out]; exact hX.size)
      have hjv : h0 + 1 ≠ j := by rw [← Hj.out]; exact Nat.ne_of_lt hV.lt
      have hjo : h0 ≠ j := by rw [← Hj.out]; exact Nat.ne_of_lt hO.lt
      have hV5 := kr5 _ _ _ hjv (hV.ext hx4)
      have hO5 := kr5 _ _ _ hjo (hO.ext hx4)
      have hVf5 := kf5 _ _ (hVf.ext hx4 hV.lt)
      have hOf5 := kf5 _ _ (hOf.ext hx4 hO.lt)
      obtain ⟨a0, a1, a2, a3, a4, a5, a6⟩ := hrow.cells
      obtain ⟨b0, b1, b2, b3, b4, b5, b6⟩ := (hrow.ext hx4).cells
      obtain ⟨c0, c1, c2, c3, c4, c5, c6⟩ := hz4.cells0
      obtain ⟨f0, f1, f2, f3, f4, f5, f6⟩ := fz4.cells0
      obtain ⟨d0, d1, d2, d3, d4, d5, d6⟩ := hP5.cells0
      obtain ⟨e0, e1, e2, e3, e4, e5, e6⟩ := hV5.cells0
      have hj := Hj.out
      have h4 := H4.out
      have h5 := H5.out
      go_wp2_with fail
      clear h4 h5 hj a0 a1 a2 a3 a4 a5 a6 b0 b1 b2 b3 b4 b5 b6 c0 c1 c2 c3 c4 c5 c6 f0 f1 f2 f3 f4 f5 f6 d0 d1 d2 d3 d4 d5 d6 e0 e1 e2 e3 e4 e5 e6
      refine (hc _).mono ?_
      unfold vf
      rintro e w6 ⟨rfl, hx6⟩
      obtain ⟨w7, H7, hP7, kx7, kr7, kf7, -⟩ := put7 w6 (h0 + 1) _ v' (hV5.ext hx6)
      have hX7 := kx7 _ (hX5.trans hx6) (by rw [Hh.out]; omega)
      obtain ⟨c0, c1, c2, c3, c4, c5, c6⟩ := (hV5.ext hx6).cells0
      have fv6 := hVf5.ext hx6 hV5.lt
      obtain ⟨f0, f1, f2, f3, f4, f5, f6⟩ := fv6.cells0
      have h7 := H7.out
      go_wp2
      go_roundw
      case rel => exact ⟨k + 1, by omega, by go_num, hX7, by rw [Hv'.out]; exact hP7, kf7 _ _ fv6, kr7 _ _ _ (by omega) (hO5.ext hx6), kf7 _ _ (hOf5.ext hx6 hO5.lt)⟩
      case measure => simp [intOf]; omega
    · have hkn : k = n := by omega
      subst hkn
      obtain ⟨v, Hv⟩ : ∃ x, Hid (top R k = x) := ⟨_, Lib.hid rfl⟩
      rw [Hv.out] at hV
      obtain ⟨w5, H5, hP, kx, -, -, -⟩ := put7 wr h0 _ v hO
      obtain ⟨a0, a1, a2, a3, a4, a5, a6⟩ := hV.cells0
      obtain ⟨c0, c1, c2, c3, c4, c5, c6⟩ := hO.cells0
      obtain ⟨d0, d1, d2, d3, d4, d5, d6⟩ := hP.cells0
      obtain ⟨f0, f1, f2, f3, f4, f5, f6⟩ := hOf.cells0
      have h5 := H5.out
      clear hP
      go_wp2
      refine bodyPost_ret (v := vf v) (by simp [results, Try.results53, go_sem, vf, d0, d1, d2, d3, d4, d5, d6]) rfl ⟨by rw [Hv.out], kx _ hX (by rw [Hh.out]; exact Nat.le_refl _)⟩

theorem mstab_any (g s n : Nat) (R : Nat → V7) (w : World) (h : MM w g s n R) :
    Calls Try.prog 51 #[.pointer (some ⟨g, 0, none⟩)] w fun e w' => e = .returned (vf (stab R n)) ∧ Ext w w' := by
  obtain ⟨h0, Hh⟩ : ∃ h, Hid (w.heap.size = h) := ⟨_, Lib.hid rfl⟩
  obtain ⟨w1, H1, S1, hx1, hz1, fz1, -⟩ := alloc7 w (fun _ => 0) 51 h0 Hh.out
  obtain ⟨w2, H2, S2, hx2, hz2, fz2, k2⟩ := alloc7 w1 (fun _ => 0) 51 (h0 + 1) S1.out
  have fr2 := k2 _ _ (by omega) fz1
  have hX2 := hx1.trans hx2
  have hM := h.ext hX2
  have hd := hM.hd
  have hn7 := h.n7
  have hd1 := (h.ext hx1).hd
  have hrow := (h.ext hx1).row 0 h.n1
  rw [Nat.zero_mul] at hrow
  obtain ⟨a0, a1, a2, a3, a4, a5, a6⟩ := hrow.cells0
  obtain ⟨b0, b1, b2, b3, b4, b5, b6⟩ := (hrow.ext hx2).cells0
  obtain ⟨w3, H3, hP, kx3, kr3, kf3, -⟩ := put7 w2 (h0 + 1) _ (R 0) hz2
  have hX3 : Ext w w3 := kx3 _ hX2 (by rw [Hh.out]; omega)
  have hz3 := kr3 h0 _ _ (by omega) (hz1.ext hx2)
  have fz3 := kf3 _ _ fr2
  have fv3 := kf3 _ _ fz2
  obtain ⟨c0, c1, c2, c3, c4, c5, c6⟩ := hz2.cells0
  obtain ⟨f0, f1, f2, f3, f4, f5, f6⟩ := fz2.cells0
  have h3 := H3.out
  have hM3 := h.ext hX3
  have hd3 := hM3.hd
  have hn1 := h.n1
  have hh := Hh.out
  have s1 := S1.out
  have h1 := H1.out
  have h2 := H2.out
  go_enter Try.func51, Try.ntmps51
  go_wp2
  clear h3 a0 a1 a2 a3 a4 a5 a6 b0 b1 b2 b3 b4 b5 b6 c0 c1 c2 c3 c4 c5 c6 f0 f1 f2 f3 f4 f5 f6
  clear h1 h2 s1 hh
  go_loopw [5, 17] (fun _ i wr => ∃ (k : Nat), k ≤ n ∧ i = .int .i64 k ∧ Ext w wr ∧ At7 wr (h0 + 1) 0 (stab R k) ∧ Fr7 wr (h0 + 1) 0 ∧ At7 wr h0 0 (fun _ => 0) ∧ Fr7 wr h0 0) (fun _ i _ => n - (intOf i).toNat)
  case atStart => exact ⟨0, Nat.zero_le _, rfl, hX3, hP, fv3, hz3, fz3⟩
  case round =>
    obtain ⟨k, hk, rfl, hX, hV, hVf, hO, hOf⟩ := hrel
    by_cases hkl : k < n
    · have hMr := h.ext hX
      obtain ⟨x, Hx⟩ : ∃ x, Hid (R k = x) := ⟨_, Lib.hid rfl⟩
      obtain ⟨v, Hv⟩ : ∃ x, Hid (stab R k = x) := ⟨_, Lib.hid rfl⟩
      obtain ⟨v', Hv'⟩ : ∃ x, Hid (stab R (k + 1) = x) := ⟨_, Lib.hid rfl⟩
      have hc := fun W => lst_any v x W
      rw [show lst v x = v' from by rw [← Hx.out, ← Hv.out, ← Hv'.out]; rfl] at hc
      have hrow := hMr.row k hkl
      rw [Hx.out] at hrow
      rw [Hv.out] at hV
      obtain ⟨j, Hj⟩ : ∃ h, Hid (wr.heap.size = h) := ⟨_, Lib.hid rfl⟩
      obtain ⟨w4, H4, S4, hx4, hz4, fz4, k4⟩ := alloc7 wr (fun _ => 0) 51 j Hj.out
      obtain ⟨w5, H5, hP5, kx5, kr5, kf5, -⟩ := put7 w4 j _ x hz4
      have hX5 := kx5 _ (hX.trans hx4) (by rw [← Hj.out]; exact hX.size)
      have hjv : h0 + 1 ≠ j := by rw [← Hj.out]; exact Nat.ne_of_lt hV.lt
      have hjo : h0 ≠ j := by rw [← Hj.out]; exact Nat.ne_of_lt hO.lt
      have hV5 := kr5 _ _ _ hjv (hV.ext hx4)
      have hO5 := kr5 _ _ _ hjo (hO.ext hx4)
      have hVf5 := kf5 _ _ (hVf.ext hx4 hV.lt)
      have hOf5 := kf5 _ _ (hOf.ext hx4 hO.lt)
      obtain ⟨a0, a1, a2, a3, a4, a5, a6⟩ := hrow.cells
      obtain ⟨b0, b1, b2, b3, b4, b5, b6⟩ := (hrow.ext hx4).cells
      obtain ⟨c0, c1, c2, c3, c4, c5, c6⟩ := hz4.cells0
      obtain ⟨f0, f1, f2, f3, f4, f5, f6⟩ := fz4.cells0
      obtain ⟨d0, d1, d2, d3, d4, d5, d6⟩ := hP5.cells0
      obtain ⟨e0, e1, e2, e3, e4, e5, e6⟩ := hV5.cells0
      have hj := Hj.out
      have h4 := H4.out
      have h5 := H5.out
      go_wp2_with fail
      clear h4 h5 hj a0 a1 a2 a3 a4 a5 a6 b0 b1 b2 b3 b4 b5 b6 c0 c1 c2 c3 c4 c5 c6 f0 f1 f2 f3 f4 f5 f6 d0 d1 d2 d3 d4 d5 d6 e0 e1 e2 e3 e4 e5 e6
      refine (hc _).mono ?_
      unfold vf
      rintro e w6 ⟨rfl, hx6⟩
      obtain ⟨w7, H7, hP7, kx7, kr7, kf7, -⟩ := put7 w6 (h0 + 1) _ v' (hV5.ext hx6)
      have hX7 := kx7 _ (hX5.trans hx6) (by rw [Hh.out]; omega)
      obtain ⟨c0, c1, c2, c3, c4, c5, c6⟩ := (hV5.ext hx6).cells0
      have fv6 := hVf5.ext hx6 hV5.lt
      obtain ⟨f0, f1, f2, f3, f4, f5, f6⟩ := fv6.cells0
      have h7 := H7.out
      go_wp2
      go_roundw
      case rel => exact ⟨k + 1, by omega, by go_num, hX7, by rw [Hv'.out]; exact hP7, kf7 _ _ fv6, kr7 _ _ _ (by omega) (hO5.ext hx6), kf7 _ _ (hOf5.ext hx6 hO5.lt)⟩
      case measure => simp [intOf]; omega
    · have hkn : k = n := by omega
      subst hkn
      obtain ⟨v, Hv⟩ : ∃ x, Hid (stab R k = x) := ⟨_, Lib.hid rfl⟩
      rw [Hv.out] at hV
      obtain ⟨w5, H5, hP, kx, -, -, -⟩ := put7 wr h0 _ v hO
      obtain ⟨a0, a1, a2, a3, a4, a5, a6⟩ := hV.cells0
      obtain ⟨c0, c1, c2, c3, c4, c5, c6⟩ := hO.cells0
      obtain ⟨d0, d1, d2, d3, d4, d5, d6⟩ := hP.cells0
      obtain ⟨f0, f1, f2, f3, f4, f5, f6⟩ := hOf.cells0
      have h5 := H5.out
      clear hP
      go_wp2
      refine bodyPost_ret (v := vf v) (by simp [results, Try.results51, go_sem, vf, d0, d1, d2, d3, d4, d5, d6]) rfl ⟨by rw [Hv.out], kx _ hX (by rw [Hh.out]; exact Nat.le_refl _)⟩

end Go.Proofs.Ytaiofbagdcpfgaa
