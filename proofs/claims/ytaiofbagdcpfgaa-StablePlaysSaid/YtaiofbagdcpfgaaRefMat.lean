/- RefMat: the walks of the reference's matrix. -/
import Derived.Test.YtaiofbagdcpfgaaRefVec
import Derived.Test.YtaiofbagdcpfgaaStAgain
import Derived.Test.YtaiofbagdcpfgaaRegion
set_option linter.unusedVariables false
set_option linter.unusedSimpArgs false
set_option maxRecDepth 100000
namespace Go.Proofs.Ytaiofbagdcpfgaa
open Go.RowKit Go.Proofs.YtaiofbagdcpfgaaW.PrintWords Go.Proofs.YtaiofbagdcpfgaaW.PrintLast

/-- The reference's matrix in memory. -/
structure RM (w : World) (q n : Nat) (R : Nat → V7) : Prop where
  hd : w.cell? ⟨q, 0, none⟩ = some (.int .i64 (n : Int))
  row : ∀ r, r < 7 → At7 w q (1 + r * 7) (R r)
  fr : ∀ r, r < 7 → Fr7 w q (1 + r * 7)
  n1 : 1 ≤ n
  n7 : n ≤ 7
theorem RM.lt {w : World} {q n : Nat} {R : Nat → V7} (h : RM w q n R) : q < w.heap.size := World.block_lt_of_cell? _ _ h.hd
theorem RM.ext {w w' : World} {q n : Nat} {R : Nat → V7} (h : RM w q n R) (e : Ext w w') : RM w' q n R := ⟨e.cell h.hd, fun r hr => (h.row r hr).ext e, fun r hr => (h.fr r hr).ext e h.lt, h.n1, h.n7⟩
theorem RM.but {w w' : World} {q n k : Nat} {R : Nat → V7} (h : RM w q n R) (e : But k w w') (h1 : q ≠ k) : RM w' q n R := by
  have hb := e.block q h.lt h1
  exact ⟨by rw [World.cell?_of_block (w := w) hb]; exact h.hd, fun r hr i hi => by rw [World.cell?_of_block (w := w) hb]; exact h.row r hr i hi, fun r hr i hi => by rw [World.frozen?_of_block (w := w) hb]; exact h.fr r hr i hi, h.n1, h.n7⟩

theorem rrow_any (q n : Nat) (R : Nat → V7) (r : Int) (w : World) (h : RM w q n R) :
    Calls Try.prog 56 #[.pointer (some ⟨q, 0, none⟩), .int .i64 r] w fun e w' => e = .returned (vf (mrow R n r)) ∧ Ext w w' := by
  obtain ⟨h0, Hh⟩ : ∃ h, Hid (w.heap.size = h) := ⟨_, Lib.hid rfl⟩
  obtain ⟨w1, H1, S1, hx1, hz1, fz1, -⟩ := alloc7 w (fun _ => 0) 66 h0 Hh.out
  have hh := Hh.out
  have h1 := H1.out
  have hM := h.ext hx1
  have hd := hM.hd
  have hn7 := h.n7
  go_enter Try.func56, Try.ntmps56
  by_cases q0 : 0 ≤ r ∧ r < n
  case neg =>
    have q : mhas n r = false := by simp only [mhas, Bool.and_eq_false_iff, decide_eq_false_iff_not]; omega
    have hres : mrow R n r = fun _ => 0 := by simp [mrow, q]
    obtain ⟨w5, H5, hP, kx, -, -, -⟩ := put7 w1 h0 _ (fun _ => 0) hz1
    obtain ⟨c0, c1, c2, c3, c4, c5, c6⟩ := hz1.cells0
    obtain ⟨d0, d1, d2, d3, d4, d5, d6⟩ := hP.cells0
    obtain ⟨f0, f1, f2, f3, f4, f5, f6⟩ := fz1.cells0
    have h5 := H5.out
    clear hP
    by_cases q1 : r < 0
    · go_wp2
      refine bodyPost_ret (v := vf (fun _ => 0)) (by simp [results, Try.results56, go_sem, vf, d0, d1, d2, d3, d4, d5, d6]) rfl ⟨by first | rfl | rw [hres], kx _ hx1 (by rw [Hh.out]; exact Nat.le_refl _)⟩
    · have q2 : (n : Int) ≤ r := by omega
      clear q0
      go_wp2
      refine bodyPost_ret (v := vf (fun _ => 0)) (by simp [results, Try.results56, go_sem, vf, d0, d1, d2, d3, d4, d5, d6]) rfl ⟨by first | rfl | rw [hres], kx _ hx1 (by rw [Hh.out]; exact Nat.le_refl _)⟩
  case pos =>
    obtain ⟨k, rfl⟩ := Int.eq_ofNat_of_zero_le q0.1
    have hk : k < n := by omega
    have q : mhas n (k : Int) = true := by simp only [mhas, Bool.and_eq_true, decide_eq_true_eq]; omega
    obtain ⟨x, Hx⟩ : ∃ x, Hid (R k = x) := ⟨_, Lib.hid rfl⟩
    have hrow := hM.row k (by omega)
    rw [Hx.out] at hrow
    have hres : mrow R n (k : Int) = x := by simp [mrow, q, Hx.out]
    obtain ⟨w5, H5, hP, kx, -, -, -⟩ := put7 w1 h0 _ x hz1
    obtain ⟨a0, a1, a2, a3, a4, a5, a6⟩ := hrow.cells
    obtain ⟨c0, c1, c2, c3, c4, c5, c6⟩ := hz1.cells0
    obtain ⟨d0, d1, d2, d3, d4, d5, d6⟩ := hP.cells0
    obtain ⟨f0, f1, f2, f3, f4, f5, f6⟩ := fz1.cells0
    have h5 := H5.out
    clear hP
    go_wp2
    refine bodyPost_ret (v := vf x) (by simp [results, Try.results56, go_sem, vf, d0, d1, d2, d3, d4, d5, d6]) rfl ⟨by first | rfl | rw [hres], kx _ hx1 (by rw [Hh.out]; exact Nat.le_refl _)⟩

def rtop (R : Nat → V7) : Nat → V7
  | 0 => R 0
  | k + 1 => mrg (rtop R k) (R k)
theorem stab_one (R : Nat → V7) : stab R 1 = R 0 := funext fun i => by simp only [stab, lst]; omega
theorem rtop_one (R : Nat → V7) : rtop R 1 = R 0 := funext fun i => by simp only [rtop, mrg]; omega
theorem rtop_top {R : Nat → V7} (h : ∀ r i, i < 7 → 0 ≤ R r i) : ∀ n, 1 ≤ n → ∀ i, i < 7 → rtop R n i = top R n i
  | 1, _, i, hi => by
    have := h 0 i hi
    simp only [rtop, top, mrg]
    omega
  | n + 2, _, i, hi => by
    have ih := rtop_top h (n + 1) (by omega) i hi
    show mrg (rtop R (n + 1)) (R (n + 1)) i = mrg (top R (n + 1)) (R (n + 1)) i
    simp only [mrg, ih]

set_option maxHeartbeats 2000000 in
theorem rmstab_any (q n : Nat) (R : Nat → V7) (w : World) (h : RM w q n R) :
    Calls Try.prog 52 #[.pointer (some ⟨q, 0, none⟩)] w fun e w' => e = .returned (vf (stab R n)) ∧ Ext w w' := by
  obtain ⟨h0, Hh⟩ : ∃ h, Hid (w.heap.size = h) := ⟨_, Lib.hid rfl⟩
  obtain ⟨w1, H1, S1, hx1, hz1, fz1, -⟩ := alloc7 w (fun _ => 0) 66 h0 Hh.out
  obtain ⟨w2, H2, S2, hx2, hz2, fz2, k2⟩ := alloc7 w1 (fun _ => 0) 66 (h0 + 1) S1.out
  have fr2 := k2 _ _ (by omega) fz1
  have hX2 := hx1.trans hx2
  have hM := h.ext hX2
  have hn7 := h.n7
  have hn1 := h.n1
  obtain ⟨r0, Hr0⟩ : ∃ x, Hid (R 0 = x) := ⟨_, Lib.hid rfl⟩
  have hrow := (h.ext hx1).row 0 (by omega)
  rw [Nat.zero_mul, Nat.add_zero, Hr0.out] at hrow
  obtain ⟨a0, a1, a2, a3, a4, a5, a6⟩ := hrow.cells
  obtain ⟨b0, b1, b2, b3, b4, b5, b6⟩ := (hrow.ext hx2).cells
  obtain ⟨w3, H3, hP, kx3, kr3, kf3, -⟩ := put7 w2 (h0 + 1) _ r0 hz2
  have hX3 : Ext w w3 := kx3 _ hX2 (by rw [Hh.out]; omega)
  have hz3 := kr3 h0 _ _ (by omega) (hz1.ext hx2)
  have fz3 := kf3 _ _ fr2
  have fv3 := kf3 _ _ fz2
  obtain ⟨c0, c1, c2, c3, c4, c5, c6⟩ := hz2.cells0
  obtain ⟨f0, f1, f2, f3, f4, f5, f6⟩ := fz2.cells0
  have h3 := H3.out
  have hh := Hh.out
  have s1 := S1.out
  have h1 := H1.out
  have h2 := H2.out
  simp only [Nat.reduceAdd] at a1 a2 a3 a4 a5 a6 b1 b2 b3 b4 b5 b6
  go_enter Try.func52, Try.ntmps52
  go_wp2
  clear h3 a0 a1 a2 a3 a4 a5 a6 b0 b1 b2 b3 b4 b5 b6 c0 c1 c2 c3 c4 c5 c6 f0 f1 f2 f3 f4 f5 f6 h1 h2 s1 hh
  go_loopw [4] (fun i wr => ∃ (k : Nat), 1 ≤ k ∧ k ≤ n ∧ i = .int .i64 k ∧ Ext w wr ∧ At7 wr (h0 + 1) 0 (stab R k) ∧ Fr7 wr (h0 + 1) 0 ∧ At7 wr h0 0 (fun _ => 0) ∧ Fr7 wr h0 0) (fun i _ => n - (intOf i).toNat)
  case atStart => exact ⟨1, Nat.le_refl _, hn1, rfl, hX3, by rw [stab_one, Hr0.out]; exact hP, fv3, hz3, fz3⟩
  case round =>
    obtain ⟨k, hk1, hk, rfl, hX, hV, hVf, hO, hOf⟩ := hrel
    have hMr := h.ext hX
    have hd := hMr.hd
    by_cases hkl : k < n
    · obtain ⟨x, Hx⟩ : ∃ x, Hid (R k = x) := ⟨_, Lib.hid rfl⟩
      obtain ⟨v, Hv⟩ : ∃ x, Hid (stab R k = x) := ⟨_, Lib.hid rfl⟩
      obtain ⟨v', Hv'⟩ : ∃ x, Hid (stab R (k + 1) = x) := ⟨_, Lib.hid rfl⟩
      have hc := fun W => reflst_any v x W
      rw [show lst v x = v' from by rw [← Hx.out, ← Hv.out, ← Hv'.out]; rfl] at hc
      unfold vf at hc
      have hrow := hMr.row k (by omega)
      rw [Hx.out] at hrow
      rw [Hv.out] at hV
      obtain ⟨o, Ho⟩ : ∃ o, Hid (1 + k * 7 = o) := ⟨_, Lib.hid rfl⟩
      rw [Ho.out] at hrow
      have ho := Ho.out
      have hk7 : (k : Int) < 7 := by omega
      obtain ⟨a0, a1, a2, a3, a4, a5, a6⟩ := hrow.ruleso
      obtain ⟨e0, e1, e2, e3, e4, e5, e6⟩ := hV.rules
      go_wp2_with fail
      refine start_ (n := 9) (S := (fun W => Ext wr W)) (ds := [8]) #[false, false, false, false, false, false, false, false, false] (by kernel_rfl) (by kernel_rfl) (by kernel_rfl) ((Ext.refl wr).drew) (fun hHeld => ?_)
      refine take_ (i := 0) (N := (some 18)) (v := ?_) (a' := ?_) #[true, false, false, false, false, false, false, false, false] rfl rfl (by kernel_rfl) (fun _ _ _ h => h) (Or.inl ⟨by rfl, ?_⟩) (by assumption) ?_ ?_
      rotate_left
      · intro w' hSw; (try dsimp only at hSw)
        go_simp
        try with_reducible rfl
      rotate_left
      · simp only [Act.put, List.setIfInBounds_toArray, List.set_cons_zero, List.set_cons_succ]
        rfl
      refine take_ (i := 1) (N := (some 19)) (v := ?_) (a' := ?_) #[true, true, false, false, false, false, false, false, false] rfl rfl (by kernel_rfl) (fun _ _ _ h => h) (Or.inl ⟨by rfl, ?_⟩) (by assumption) ?_ ?_
      rotate_left
      · intro w' hSw; (try dsimp only at hSw)
        go_simp
        try with_reducible rfl
      rotate_left
      · simp only [Act.put, List.setIfInBounds_toArray, List.set_cons_zero, List.set_cons_succ]
        rfl
      refine take_ (i := 2) (N := (some 20)) (v := ?_) (a' := ?_) #[true, true, true, false, false, false, false, false, false] rfl rfl (by kernel_rfl) (fun _ _ _ h => h) (Or.inl ⟨by rfl, ?_⟩) (by assumption) ?_ ?_
      rotate_left
      · intro w' hSw; (try dsimp only at hSw)
        go_simp
        try with_reducible rfl
      rotate_left
      · simp only [Act.put, List.setIfInBounds_toArray, List.set_cons_zero, List.set_cons_succ]
        rfl
      refine take_ (i := 3) (N := (some 21)) (v := ?_) (a' := ?_) #[true, true, true, true, false, false, false, false, false] rfl rfl (by kernel_rfl) (fun _ _ _ h => h) (Or.inl ⟨by rfl, ?_⟩) (by assumption) ?_ ?_
      rotate_left
      · intro w' hSw; (try dsimp only at hSw)
        go_simp
        try with_reducible rfl
      rotate_left
      · simp only [Act.put, List.setIfInBounds_toArray, List.set_cons_zero, List.set_cons_succ]
        rfl
      refine take_ (i := 4) (N := (some 22)) (v := ?_) (a' := ?_) #[true, true, true, true, true, false, false, false, false] rfl rfl (by kernel_rfl) (fun _ _ _ h => h) (Or.inl ⟨by rfl, ?_⟩) (by assumption) ?_ ?_
      rotate_left
      · intro w' hSw; (try dsimp only at hSw)
        go_simp
        try with_reducible rfl
      rotate_left
      · simp only [Act.put, List.setIfInBounds_toArray, List.set_cons_zero, List.set_cons_succ]
        rfl
      refine take_ (i := 5) (N := (some 23)) (v := ?_) (a' := ?_) #[true, true, true, true, true, true, false, false, false] rfl rfl (by kernel_rfl) (fun _ _ _ h => h) (Or.inl ⟨by rfl, ?_⟩) (by assumption) ?_ ?_
      rotate_left
      · intro w' hSw; (try dsimp only at hSw)
        go_simp
        try with_reducible rfl
      rotate_left
      · simp only [Act.put, List.setIfInBounds_toArray, List.set_cons_zero, List.set_cons_succ]
        rfl
      refine take_ (i := 6) (N := (some 24)) (v := ?_) (a' := ?_) #[true, true, true, true, true, true, true, false, false] rfl rfl (by kernel_rfl) (fun _ _ _ h => h) (Or.inl ⟨by rfl, ?_⟩) (by assumption) ?_ ?_
      rotate_left
      · intro w' hSw; (try dsimp only at hSw)
        go_simp
        try with_reducible rfl
      rotate_left
      · simp only [Act.put, List.setIfInBounds_toArray, List.set_cons_zero, List.set_cons_succ]
        rfl
      refine one_ (i := 7) (N := (some 25)) #[true, true, true, true, true, true, true, true, false] rfl rfl (by kernel_rfl) (by simp) (fun K hK => ?_)
      go_simp
      refine (hc _).mono ?_
      rintro e w6 ⟨rfl, hx6⟩
      refine hK.out _ _ ?_ (fun hHeld => ?_)
      · first | assumption | exact hHeld.trans (by assumption)
      clear hK K
      (try simp only [Act.put, List.setIfInBounds_toArray, List.set_cons_zero, List.set_cons_succ])
      clear a0 a1 a2 a3 a4 a5 a6 e0 e1 e2 e3 e4 e5 e6 ho
      obtain ⟨w7, H7, hP7, kx7, kr7, kf7, -⟩ := put7 w6 (h0 + 1) _ v' (hV.ext hHeld)
      have hX7 := kx7 _ (hX.trans hHeld) (by rw [Hh.out]; omega)
      obtain ⟨c0, c1, c2, c3, c4, c5, c6⟩ := (hV.ext hHeld).cells0
      have fv6 := hVf.ext hHeld hV.lt
      obtain ⟨f0, f1, f2, f3, f4, f5, f6⟩ := fv6.cells0
      have h7 := H7.out
      refine last_ (i := 8) (N := none) #[true, true, true, true, true, true, true, true, true] rfl rfl (by kernel_rfl) (by simp) (fun K hK => ?_)
      go_simp
      refine hK.out _ _ ?_
      clear hK K
      (try simp only [Act.put, List.setIfInBounds_toArray, List.set_cons_zero, List.set_cons_succ])
      refine done_ (by kernel_rfl) ?_
      go_wp2
      go_roundw
      case rel => exact ⟨k + 1, by omega, by omega, by go_num, hX7, by rw [Hv'.out]; exact hP7, kf7 _ _ fv6, kr7 _ _ _ (by omega) (hO.ext hHeld), kf7 _ _ (hOf.ext hHeld hO.lt)⟩
      case measure => simp [intOf]; omega
    · have hkn : k = n := by omega
      subst hkn
      obtain ⟨v, Hv⟩ : ∃ x, Hid (stab R k = x) := ⟨_, Lib.hid rfl⟩
      rw [Hv.out] at hV
      obtain ⟨w5, H5, hP, kx, -, -, -⟩ := put7 wr h0 _ v hO
      obtain ⟨a0, a1, a2, a3, a4, a5, a6⟩ := hV.cells0
      obtain ⟨c0, c1, c2, c3, c4, c5, c6⟩ := hO.cells0
      obtain ⟨d0, d1, d2, d3, d4, d5, d6⟩ := hP.cells0
      obtain ⟨f0, f1, f2, f3, f4, f5, f6⟩ := hOf.cells0
      have h5 := H5.out
      clear hP
      go_wp2
      refine bodyPost_ret (v := vf v) (by simp [results, Try.results52, go_sem, vf, d0, d1, d2, d3, d4, d5, d6]) rfl ⟨by rw [Hv.out], kx _ hX (by rw [Hh.out]; exact Nat.le_refl _)⟩

set_option maxHeartbeats 2000000 in
theorem rmmost_any (q n : Nat) (R : Nat → V7) (w : World) (h : RM w q n R) :
    Calls Try.prog 54 #[.pointer (some ⟨q, 0, none⟩)] w fun e w' => e = .returned (vf (rtop R n)) ∧ Ext w w' := by
  obtain ⟨h0, Hh⟩ : ∃ h, Hid (w.heap.size = h) := ⟨_, Lib.hid rfl⟩
  obtain ⟨w1, H1, S1, hx1, hz1, fz1, -⟩ := alloc7 w (fun _ => 0) 66 h0 Hh.out
  obtain ⟨w2, H2, S2, hx2, hz2, fz2, k2⟩ := alloc7 w1 (fun _ => 0) 66 (h0 + 1) S1.out
  have fr2 := k2 _ _ (by omega) fz1
  have hX2 := hx1.trans hx2
  have hM := h.ext hX2
  have hn7 := h.n7
  have hn1 := h.n1
  obtain ⟨r0, Hr0⟩ : ∃ x, Hid (R 0 = x) := ⟨_, Lib.hid rfl⟩
  have hrow := (h.ext hx1).row 0 (by omega)
  rw [Nat.zero_mul, Nat.add_zero, Hr0.out] at hrow
  obtain ⟨a0, a1, a2, a3, a4, a5, a6⟩ := hrow.cells
  obtain ⟨b0, b1, b2, b3, b4, b5, b6⟩ := (hrow.ext hx2).cells
  obtain ⟨w3, H3, hP, kx3, kr3, kf3, -⟩ := put7 w2 (h0 + 1) _ r0 hz2
  have hX3 : Ext w w3 := kx3 _ hX2 (by rw [Hh.out]; omega)
  have hz3 := kr3 h0 _ _ (by omega) (hz1.ext hx2)
  have fz3 := kf3 _ _ fr2
  have fv3 := kf3 _ _ fz2
  obtain ⟨c0, c1, c2, c3, c4, c5, c6⟩ := hz2.cells0
  obtain ⟨f0, f1, f2, f3, f4, f5, f6⟩ := fz2.cells0
  have h3 := H3.out
  have hh := Hh.out
  have s1 := S1.out
  have h1 := H1.out
  have h2 := H2.out
  simp only [Nat.reduceAdd] at a1 a2 a3 a4 a5 a6 b1 b2 b3 b4 b5 b6
  go_enter Try.func54, Try.ntmps54
  go_wp2
  clear h3 a0 a1 a2 a3 a4 a5 a6 b0 b1 b2 b3 b4 b5 b6 c0 c1 c2 c3 c4 c5 c6 f0 f1 f2 f3 f4 f5 f6 h1 h2 s1 hh
  go_loopw [4] (fun i wr => ∃ (k : Nat), 1 ≤ k ∧ k ≤ n ∧ i = .int .i64 k ∧ Ext w wr ∧ At7 wr (h0 + 1) 0 (rtop R k) ∧ Fr7 wr (h0 + 1) 0 ∧ At7 wr h0 0 (fun _ => 0) ∧ Fr7 wr h0 0) (fun i _ => n - (intOf i).toNat)
  case atStart => exact ⟨1, Nat.le_refl _, hn1, rfl, hX3, by rw [rtop_one, Hr0.out]; exact hP, fv3, hz3, fz3⟩
  case round =>
    obtain ⟨k, hk1, hk, rfl, hX, hV, hVf, hO, hOf⟩ := hrel
    have hMr := h.ext hX
    have hd := hMr.hd
    by_cases hkl : k < n
    · obtain ⟨x, Hx⟩ : ∃ x, Hid (R k = x) := ⟨_, Lib.hid rfl⟩
      obtain ⟨v, Hv⟩ : ∃ x, Hid (rtop R k = x) := ⟨_, Lib.hid rfl⟩
      obtain ⟨v', Hv'⟩ : ∃ x, Hid (rtop R (k + 1) = x) := ⟨_, Lib.hid rfl⟩
      have hc := fun W => refmrg_any v x W
      rw [show mrg v x = v' from by rw [← Hx.out, ← Hv.out, ← Hv'.out]; rfl] at hc
      unfold vf at hc
      have hrow := hMr.row k (by omega)
      rw [Hx.out] at hrow
      rw [Hv.out] at hV
      obtain ⟨o, Ho⟩ : ∃ o, Hid (1 + k * 7 = o) := ⟨_, Lib.hid rfl⟩
      rw [Ho.out] at hrow
      have ho := Ho.out
      have hk7 : (k : Int) < 7 := by omega
      obtain ⟨a0, a1, a2, a3, a4, a5, a6⟩ := hrow.ruleso
      obtain ⟨e0, e1, e2, e3, e4, e5, e6⟩ := hV.rules
      go_wp2_with fail
      refine start_ (n := 9) (S := (fun W => Ext wr W)) (ds := [8]) #[false, false, false, false, false, false, false, false, false] (by kernel_rfl) (by kernel_rfl) (by kernel_rfl) ((Ext.refl wr).drew) (fun hHeld => ?_)
      refine take_ (i := 0) (N := (some 18)) (v := ?_) (a' := ?_) #[true, false, false, false, false, false, false, false, false] rfl rfl (by kernel_rfl) (fun _ _ _ h => h) (Or.inl ⟨by rfl, ?_⟩) (by assumption) ?_ ?_
      rotate_left
      · intro w' hSw; (try dsimp only at hSw)
        go_simp
        try with_reducible rfl
      rotate_left
      · simp only [Act.put, List.setIfInBounds_toArray, List.set_cons_zero, List.set_cons_succ]
        rfl
      refine take_ (i := 1) (N := (some 19)) (v := ?_) (a' := ?_) #[true, true, false, false, false, false, false, false, false] rfl rfl (by kernel_rfl) (fun _ _ _ h => h) (Or.inl ⟨by rfl, ?_⟩) (by assumption) ?_ ?_
      rotate_left
      · intro w' hSw; (try dsimp only at hSw)
        go_simp
        try with_reducible rfl
      rotate_left
      · simp only [Act.put, List.setIfInBounds_toArray, List.set_cons_zero, List.set_cons_succ]
        rfl
      refine take_ (i := 2) (N := (some 20)) (v := ?_) (a' := ?_) #[true, true, true, false, false, false, false, false, false] rfl rfl (by kernel_rfl) (fun _ _ _ h => h) (Or.inl ⟨by rfl, ?_⟩) (by assumption) ?_ ?_
      rotate_left
      · intro w' hSw; (try dsimp only at hSw)
        go_simp
        try with_reducible rfl
      rotate_left
      · simp only [Act.put, List.setIfInBounds_toArray, List.set_cons_zero, List.set_cons_succ]
        rfl
      refine take_ (i := 3) (N := (some 21)) (v := ?_) (a' := ?_) #[true, true, true, true, false, false, false, false, false] rfl rfl (by kernel_rfl) (fun _ _ _ h => h) (Or.inl ⟨by rfl, ?_⟩) (by assumption) ?_ ?_
      rotate_left
      · intro w' hSw; (try dsimp only at hSw)
        go_simp
        try with_reducible rfl
      rotate_left
      · simp only [Act.put, List.setIfInBounds_toArray, List.set_cons_zero, List.set_cons_succ]
        rfl
      refine take_ (i := 4) (N := (some 22)) (v := ?_) (a' := ?_) #[true, true, true, true, true, false, false, false, false] rfl rfl (by kernel_rfl) (fun _ _ _ h => h) (Or.inl ⟨by rfl, ?_⟩) (by assumption) ?_ ?_
      rotate_left
      · intro w' hSw; (try dsimp only at hSw)
        go_simp
        try with_reducible rfl
      rotate_left
      · simp only [Act.put, List.setIfInBounds_toArray, List.set_cons_zero, List.set_cons_succ]
        rfl
      refine take_ (i := 5) (N := (some 23)) (v := ?_) (a' := ?_) #[true, true, true, true, true, true, false, false, false] rfl rfl (by kernel_rfl) (fun _ _ _ h => h) (Or.inl ⟨by rfl, ?_⟩) (by assumption) ?_ ?_
      rotate_left
      · intro w' hSw; (try dsimp only at hSw)
        go_simp
        try with_reducible rfl
      rotate_left
      · simp only [Act.put, List.setIfInBounds_toArray, List.set_cons_zero, List.set_cons_succ]
        rfl
      refine take_ (i := 6) (N := (some 24)) (v := ?_) (a' := ?_) #[true, true, true, true, true, true, true, false, false] rfl rfl (by kernel_rfl) (fun _ _ _ h => h) (Or.inl ⟨by rfl, ?_⟩) (by assumption) ?_ ?_
      rotate_left
      · intro w' hSw; (try dsimp only at hSw)
        go_simp
        try with_reducible rfl
      rotate_left
      · simp only [Act.put, List.setIfInBounds_toArray, List.set_cons_zero, List.set_cons_succ]
        rfl
      refine one_ (i := 7) (N := (some 25)) #[true, true, true, true, true, true, true, true, false] rfl rfl (by kernel_rfl) (by simp) (fun K hK => ?_)
      go_simp
      refine (hc _).mono ?_
      rintro e w6 ⟨rfl, hx6⟩
      refine hK.out _ _ ?_ (fun hHeld => ?_)
      · first | assumption | exact hHeld.trans (by assumption)
      clear hK K
      (try simp only [Act.put, List.setIfInBounds_toArray, List.set_cons_zero, List.set_cons_succ])
      clear a0 a1 a2 a3 a4 a5 a6 e0 e1 e2 e3 e4 e5 e6 ho
      obtain ⟨w7, H7, hP7, kx7, kr7, kf7, -⟩ := put7 w6 (h0 + 1) _ v' (hV.ext hHeld)
      have hX7 := kx7 _ (hX.trans hHeld) (by rw [Hh.out]; omega)
      obtain ⟨c0, c1, c2, c3, c4, c5, c6⟩ := (hV.ext hHeld).cells0
      have fv6 := hVf.ext hHeld hV.lt
      obtain ⟨f0, f1, f2, f3, f4, f5, f6⟩ := fv6.cells0
      have h7 := H7.out
      refine last_ (i := 8) (N := none) #[true, true, true, true, true, true, true, true, true] rfl rfl (by kernel_rfl) (by simp) (fun K hK => ?_)
      go_simp
      refine hK.out _ _ ?_
      clear hK K
      (try simp only [Act.put, List.setIfInBounds_toArray, List.set_cons_zero, List.set_cons_succ])
      refine done_ (by kernel_rfl) ?_
      go_wp2
      go_roundw
      case rel => exact ⟨k + 1, by omega, by omega, by go_num, hX7, by rw [Hv'.out]; exact hP7, kf7 _ _ fv6, kr7 _ _ _ (by omega) (hO.ext hHeld), kf7 _ _ (hOf.ext hHeld hO.lt)⟩
      case measure => simp [intOf]; omega
    · have hkn : k = n := by omega
      subst hkn
      obtain ⟨v, Hv⟩ : ∃ x, Hid (rtop R k = x) := ⟨_, Lib.hid rfl⟩
      rw [Hv.out] at hV
      obtain ⟨w5, H5, hP, kx, -, -, -⟩ := put7 wr h0 _ v hO
      obtain ⟨a0, a1, a2, a3, a4, a5, a6⟩ := hV.cells0
      obtain ⟨c0, c1, c2, c3, c4, c5, c6⟩ := hO.cells0
      obtain ⟨d0, d1, d2, d3, d4, d5, d6⟩ := hP.cells0
      obtain ⟨f0, f1, f2, f3, f4, f5, f6⟩ := hOf.cells0
      have h5 := H5.out
      clear hP
      go_wp2
      refine bodyPost_ret (v := vf v) (by simp [results, Try.results54, go_sem, vf, d0, d1, d2, d3, d4, d5, d6]) rfl ⟨by rw [Hv.out], kx _ hX (by rw [Hh.out]; exact Nat.le_refl _)⟩


end Go.Proofs.Ytaiofbagdcpfgaa
