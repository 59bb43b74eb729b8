/- Stable2: the walks of the matrix's Tell, Lacks, New, and of awake. -/
import Derived.Test.YtaiofbagdcpfgaaStable
import Derived.Test.YtaiofbagdcpfgaaVecPure
import Derived.Test.YtaiofbagdcpfgaaRegion
set_option linter.unusedVariables false
set_option linter.unusedSimpArgs false
set_option maxRecDepth 100000
namespace Go.Proofs.Ytaiofbagdcpfgaa
open Go.RowKit Go.Proofs.YtaiofbagdcpfgaaW.PrintWords Go.Proofs.YtaiofbagdcpfgaaW.PrintLast

theorem put7o (w : World) (g o : Nat) (f f' : V7) (h : At7 w g o f) : ∃ w1, Hid ((((((((w.setCell ⟨g, o, none⟩ (.int .i64 (f' 0))).setCell ⟨g, o + 1, none⟩ (.int .i64 (f' 1))).setCell ⟨g, o + 2, none⟩ (.int .i64 (f' 2))).setCell ⟨g, o + 3, none⟩ (.int .i64 (f' 3))).setCell ⟨g, o + 4, none⟩ (.int .i64 (f' 4))).setCell ⟨g, o + 5, none⟩ (.int .i64 (f' 5))).setCell ⟨g, o + 6, none⟩ (.int .i64 (f' 6))) = w1) ∧ At7 w1 g o f' ∧
    (∀ o2 f, o2 + 7 ≤ o ∨ o + 7 ≤ o2 → At7 w g o2 f → At7 w1 g o2 f) ∧ (∀ g' o', Fr7 w g' o' → Fr7 w1 g' o') ∧ (∀ w0, But g w0 w → But g w0 w1) := by
  have s := ((((((h.set (k := 0) (by omega) (f' 0)).set (k := 1) (by omega) (f' 1)).set (k := 2) (by omega) (f' 2)).set (k := 3) (by omega) (f' 3)).set (k := 4) (by omega) (f' 4)).set (k := 5) (by omega) (f' 5)).set (k := 6) (by omega) (f' 6)
  refine ⟨_, Lib.hid rfl, ?_, ?_, ?_, fun w0 hb => ((((((hb.setCell _ _).setCell _ _).setCell _ _).setCell _ _).setCell _ _).setCell _ _).setCell _ _⟩
  · refine s.congr (fun i hi => ?_)
    match i, hi with
    | 0, _ => rfl
    | 1, _ => rfl
    | 2, _ => rfl
    | 3, _ => rfl
    | 4, _ => rfl
    | 5, _ => rfl
    | 6, _ => rfl
  · intro o2 f ho hf
    have hn : ∀ p : Nat, o ≤ p → p ≤ o + 6 → ((⟨g, p, none⟩ : Addr).block ≠ g ∨ p < o2 ∨ o2 + 7 ≤ p) := fun p h1 h2 => Or.inr (by omega)
    exact ((((((hf.other (hn o (by omega) (by omega))).other (hn (o + 1) (by omega) (by omega))).other (hn (o + 2) (by omega) (by omega))).other (hn (o + 3) (by omega) (by omega))).other (hn (o + 4) (by omega) (by omega))).other (hn (o + 5) (by omega) (by omega))).other (hn (o + 6) (by omega) (by omega))
  · intro g' o' hf
    exact ((((((hf.set _ _).set _ _).set _ _).set _ _).set _ _).set _ _).set _ _
theorem At7.ruleso {w : World} {g o : Nat} {f : V7} (h : At7 w g o f) : (∀ W, Ext w W → W.cell? ⟨g, o, none⟩ = some (.int .i64 (f 0))) ∧ (∀ W, Ext w W → W.cell? ⟨g, o + 1, none⟩ = some (.int .i64 (f 1))) ∧ (∀ W, Ext w W → W.cell? ⟨g, o + 2, none⟩ = some (.int .i64 (f 2))) ∧ (∀ W, Ext w W → W.cell? ⟨g, o + 3, none⟩ = some (.int .i64 (f 3))) ∧ (∀ W, Ext w W → W.cell? ⟨g, o + 4, none⟩ = some (.int .i64 (f 4))) ∧ (∀ W, Ext w W → W.cell? ⟨g, o + 5, none⟩ = some (.int .i64 (f 5))) ∧ (∀ W, Ext w W → W.cell? ⟨g, o + 6, none⟩ = some (.int .i64 (f 6))) :=
  ⟨fun W e => (h.ext e).cells.1, fun W e => (h.ext e).cells.2.1, fun W e => (h.ext e).cells.2.2.1, fun W e => (h.ext e).cells.2.2.2.1, fun W e => (h.ext e).cells.2.2.2.2.1, fun W e => (h.ext e).cells.2.2.2.2.2.1, fun W e => (h.ext e).cells.2.2.2.2.2.2⟩

def tell (R : Nat → V7) (n : Nat) (r : Int) (v : V7) : Nat → V7 := if (mhas n r && good7 v) = true then (fun i => if i = r.toNat then mrg (R r.toNat) v else R i) else R
def tellE (n : Nat) (r : Int) (v : V7) : Int := if (mhas n r && good7 v) = true then 0 else 1

set_option maxHeartbeats 2000000 in
theorem mtell_any (g s n : Nat) (R : Nat → V7) (r : Int) (v : V7) (w : World) (h : MM w g s n R) :
    Calls Try.prog 49 #[.pointer (some ⟨g, 0, none⟩), .int .i64 r, vf v] w fun e w' => e = .returned (.int .i64 (tellE n r v)) ∧ MM w' g s n (tell R n r v) ∧ But s w w' := by
  obtain ⟨h0, Hh⟩ : ∃ h, Hid (w.heap.size = h) := ⟨_, Lib.hid rfl⟩
  obtain ⟨w1, H1, S1, hx1, hv1, -, -⟩ := alloc7 w v 51 h0 Hh.out
  have hh := Hh.out
  have h1 := H1.out
  have hM := h.ext hx1
  have hd := hM.hd
  obtain ⟨b0, b1, b2, b3, b4, b5, b6⟩ := hv1.cells0
  have cg := fun W => good_any v W
  unfold vf at cg ⊢
  go_enter Try.func49, Try.ntmps49
  go_wp2_with fail
  refine (mhas_any g s n R r _ hM).mono ?_
  rintro e w' ⟨rfl, rfl⟩
  clear h1 hh
  cases q : mhas n r with
  | false =>
    have hres : tell R n r v = R := by simp [tell, q]
    have hrese : tellE n r v = 1 := by simp [tellE, q]
    go_wp2
    go_ret
    rw [hres, hrese]
    exact ⟨rfl, hM, But.of_ext hx1⟩
  | true =>
    go_wp2_with fail
    refine (cg _).mono ?_
    rintro e w2 ⟨rfl, hx2⟩
    have hX2 := hx1.trans hx2
    have hM2 := hM.ext hx2
    clear b0 b1 b2 b3 b4 b5 b6 hd
    cases q2 : good7 v with
    | false =>
      have hres : tell R n r v = R := by simp [tell, q, q2]
      have hrese : tellE n r v = 1 := by simp [tellE, q, q2]
      go_wp2
      go_ret
      rw [hres, hrese]
      exact ⟨rfl, hM2, But.of_ext hX2⟩
    | true =>
      have hr : 0 ≤ r ∧ r < n := by simpa [mhas] using q
      obtain ⟨k, rfl⟩ := Int.eq_ofNat_of_zero_le hr.1
      have hk : k < n := by omega
      have hres : tell R n (k : Int) v = fun i => if i = k then mrg (R k) v else R i := by simp [tell, q, q2]
      have hrese : tellE n (k : Int) v = 0 := by simp [tellE, q, q2]
      obtain ⟨x, Hx⟩ : ∃ x, Hid (R k = x) := ⟨_, Lib.hid rfl⟩
      obtain ⟨m, Hm⟩ : ∃ y, Hid (mrg x v = y) := ⟨_, Lib.hid rfl⟩
      have cm := fun W => mrg_any x v W
      rw [Hm.out] at cm
      unfold vf at cm
      have hrow := hM2.row k hk
      rw [Hx.out] at hrow
      obtain ⟨o, Ho⟩ : ∃ o, Hid (k * 7 = o) := ⟨_, Lib.hid rfl⟩
      rw [Ho.out] at hrow
      have hd : ∀ W, Ext w2 W → W.cell? ⟨g, 0, none⟩ = some (.slice (some ⟨s, 0, none⟩) n n) := fun W e => e.cell hM2.hd
      obtain ⟨a0, a1, a2, a3, a4, a5, a6⟩ := hrow.ruleso
      obtain ⟨b0, b1, b2, b3, b4, b5, b6⟩ := (hv1.ext hx2).rules
      have ho := Ho.out
      go_wp2
      refine start_ (n := 16) (S := (fun W => Ext w2 W)) (ds := [15]) #[false, false, false, false, false, false, false, false, false, false, false, false, false, false, false, false] (by kernel_rfl) rfl rfl ((Ext.refl w2).drew) (fun hHeld => ?_)
      refine take_ (i := 0) (N := (some 16)) (v := ?_) (a' := ?_) #[true, false, false, false, false, false, false, false, false, false, false, false, false, false, false, false] rfl rfl (by kernel_rfl) (fun _ _ _ h => h) (Or.inl ⟨by rfl, ?_⟩) (by assumption) ?_ ?_
      rotate_left
      · intro w' hSw; (try dsimp only at hSw)
        go_simp
        try with_reducible rfl
      rotate_left
      · simp only [Act.put, List.setIfInBounds_toArray, List.set_cons_zero, List.set_cons_succ]
        rfl
      refine take_ (i := 1) (N := (some 17)) (v := ?_) (a' := ?_) #[true, true, false, false, false, false, false, false, false, false, false, false, false, false, false, false] rfl rfl (by kernel_rfl) (fun _ _ _ h => h) (Or.inl ⟨by rfl, ?_⟩) (by assumption) ?_ ?_
      rotate_left
      · intro w' hSw; (try dsimp only at hSw)
        go_simp
        try with_reducible rfl
      rotate_left
      · simp only [Act.put, List.setIfInBounds_toArray, List.set_cons_zero, List.set_cons_succ]
        rfl
      refine take_ (i := 2) (N := (some 18)) (v := ?_) (a' := ?_) #[true, true, true, false, false, false, false, false, false, false, false, false, false, false, false, false] rfl rfl (by kernel_rfl) (fun _ _ _ h => h) (Or.inl ⟨by rfl, ?_⟩) (by assumption) ?_ ?_
      rotate_left
      · intro w' hSw; (try dsimp only at hSw)
        go_simp
        try with_reducible rfl
      rotate_left
      · simp only [Act.put, List.setIfInBounds_toArray, List.set_cons_zero, List.set_cons_succ]
        rfl
      refine take_ (i := 3) (N := (some 19)) (v := ?_) (a' := ?_) #[true, true, true, true, false, false, false, false, false, false, false, false, false, false, false, false] rfl rfl (by kernel_rfl) (fun _ _ _ h => h) (Or.inl ⟨by rfl, ?_⟩) (by assumption) ?_ ?_
      rotate_left
      · intro w' hSw; (try dsimp only at hSw)
        go_simp
        try with_reducible rfl
      rotate_left
      · simp only [Act.put, List.setIfInBounds_toArray, List.set_cons_zero, List.set_cons_succ]
        rfl
      refine take_ (i := 4) (N := (some 20)) (v := ?_) (a' := ?_) #[true, true, true, true, true, false, false, false, false, false, false, false, false, false, false, false] rfl rfl (by kernel_rfl) (fun _ _ _ h => h) (Or.inl ⟨by rfl, ?_⟩) (by assumption) ?_ ?_
      rotate_left
      · intro w' hSw; (try dsimp only at hSw)
        go_simp
        try with_reducible rfl
      rotate_left
      · simp only [Act.put, List.setIfInBounds_toArray, List.set_cons_zero, List.set_cons_succ]
        rfl
      refine take_ (i := 5) (N := (some 21)) (v := ?_) (a' := ?_) #[true, true, true, true, true, true, false, false, false, false, false, false, false, false, false, false] rfl rfl (by kernel_rfl) (fun _ _ _ h => h) (Or.inl ⟨by rfl, ?_⟩) (by assumption) ?_ ?_
      rotate_left
      · intro w' hSw; (try dsimp only at hSw)
        go_simp
        try with_reducible rfl
      rotate_left
      · simp only [Act.put, List.setIfInBounds_toArray, List.set_cons_zero, List.set_cons_succ]
        rfl
      refine take_ (i := 6) (N := (some 22)) (v := ?_) (a' := ?_) #[true, true, true, true, true, true, true, false, false, false, false, false, false, false, false, false] rfl rfl (by kernel_rfl) (fun _ _ _ h => h) (Or.inl ⟨by rfl, ?_⟩) (by assumption) ?_ ?_
      rotate_left
      · intro w' hSw; (try dsimp only at hSw)
        go_simp
        try with_reducible rfl
      rotate_left
      · simp only [Act.put, List.setIfInBounds_toArray, List.set_cons_zero, List.set_cons_succ]
        rfl
      refine take_ (i := 7) (N := (some 23)) (v := ?_) (a' := ?_) #[true, true, true, true, true, true, true, true, false, false, false, false, false, false, false, false] rfl rfl (by kernel_rfl) (fun _ _ _ h => h) (Or.inl ⟨by rfl, ?_⟩) (by assumption) ?_ ?_
      rotate_left
      · intro w' hSw; (try dsimp only at hSw)
        go_simp
        try with_reducible rfl
      rotate_left
      · simp only [Act.put, List.setIfInBounds_toArray, List.set_cons_zero, List.set_cons_succ]
        rfl
      refine take_ (i := 8) (N := (some 24)) (v := ?_) (a' := ?_) #[true, true, true, true, true, true, true, true, true, false, false, false, false, false, false, false] rfl rfl (by kernel_rfl) (fun _ _ _ h => h) (Or.inl ⟨by rfl, ?_⟩) (by assumption) ?_ ?_
      rotate_left
      · intro w' hSw; (try dsimp only at hSw)
        go_simp
        try with_reducible rfl
      rotate_left
      · simp only [Act.put, List.setIfInBounds_toArray, List.set_cons_zero, List.set_cons_succ]
        rfl
      refine take_ (i := 9) (N := (some 25)) (v := ?_) (a' := ?_) #[true, true, true, true, true, true, true, true, true, true, false, false, false, false, false, false] rfl rfl (by kernel_rfl) (fun _ _ _ h => h) (Or.inl ⟨by rfl, ?_⟩) (by assumption) ?_ ?_
      rotate_left
      · intro w' hSw; (try dsimp only at hSw)
        go_simp
        try with_reducible rfl
      rotate_left
      · simp only [Act.put, List.setIfInBounds_toArray, List.set_cons_zero, List.set_cons_succ]
        rfl
      refine take_ (i := 10) (N := (some 26)) (v := ?_) (a' := ?_) #[true, true, true, true, true, true, true, true, true, true, true, false, false, false, false, false] rfl rfl (by kernel_rfl) (fun _ _ _ h => h) (Or.inl ⟨by rfl, ?_⟩) (by assumption) ?_ ?_
      rotate_left
      · intro w' hSw; (try dsimp only at hSw)
        go_simp
        try with_reducible rfl
      rotate_left
      · simp only [Act.put, List.setIfInBounds_toArray, List.set_cons_zero, List.set_cons_succ]
        rfl
      refine take_ (i := 11) (N := (some 27)) (v := ?_) (a' := ?_) #[true, true, true, true, true, true, true, true, true, true, true, true, false, false, false, false] rfl rfl (by kernel_rfl) (fun _ _ _ h => h) (Or.inl ⟨by rfl, ?_⟩) (by assumption) ?_ ?_
      rotate_left
      · intro w' hSw; (try dsimp only at hSw)
        go_simp
        try with_reducible rfl
      rotate_left
      · simp only [Act.put, List.setIfInBounds_toArray, List.set_cons_zero, List.set_cons_succ]
        rfl
      refine take_ (i := 12) (N := (some 28)) (v := ?_) (a' := ?_) #[true, true, true, true, true, true, true, true, true, true, true, true, true, false, false, false] rfl rfl (by kernel_rfl) (fun _ _ _ h => h) (Or.inl ⟨by rfl, ?_⟩) (by assumption) ?_ ?_
      rotate_left
      · intro w' hSw; (try dsimp only at hSw)
        go_simp
        try with_reducible rfl
      rotate_left
      · simp only [Act.put, List.setIfInBounds_toArray, List.set_cons_zero, List.set_cons_succ]
        rfl
      refine one_ (i := 13) (N := (some 29)) #[true, true, true, true, true, true, true, true, true, true, true, true, true, true, false, false] rfl rfl (by kernel_rfl) (by simp) (fun K hK => ?_)
      go_simp
      refine (cm _).mono ?_
      rintro e w3 ⟨rfl, hx3⟩
      refine hK.out _ _ ?_ (fun hHeld => ?_)
      · first | assumption | exact hHeld.trans (by assumption)
      clear hK K
      (try simp only [Act.put, List.setIfInBounds_toArray, List.set_cons_zero, List.set_cons_succ])
      refine take_ (i := 14) (N := (some 30)) (v := ?_) (a' := ?_) #[true, true, true, true, true, true, true, true, true, true, true, true, true, true, true, false] rfl rfl (by kernel_rfl) (fun _ _ _ h => h) (Or.inl ⟨by rfl, ?_⟩) (by assumption) ?_ ?_
      rotate_left
      · intro w' hSw; (try dsimp only at hSw)
        go_simp
        try with_reducible rfl
      rotate_left
      · simp only [Act.put, List.setIfInBounds_toArray, List.set_cons_zero, List.set_cons_succ]
        rfl
      have hrow3 := hrow.ext hHeld
      have fr3 := (hM2.ext hHeld).fr k hk
      rw [ho] at fr3
      obtain ⟨w4, H4, hP4, kr4, kf4, kb4⟩ := put7o w3 s o _ m hrow3
      clear a0 a1 a2 a3 a4 a5 a6 b0 b1 b2 b3 b4 b5 b6
      obtain ⟨a0, a1, a2, a3, a4, a5, a6⟩ := hrow3.cells
      obtain ⟨f0, f1, f2, f3, f4, f5, f6⟩ := fr3.cells
      have h4 := H4.out
      refine last_ (i := 15) (N := none) #[true, true, true, true, true, true, true, true, true, true, true, true, true, true, true, true] rfl rfl (by kernel_rfl) (by simp) (fun K hK => ?_)
      go_simp
      refine hK.out _ _ ?_
      clear hK K
      (try simp only [Act.put, List.setIfInBounds_toArray, List.set_cons_zero, List.set_cons_succ])
      refine done_ (by kernel_rfl) ?_
      clear ho
      go_wp2
      go_ret
      have hM3 := hM2.ext hHeld
      have hB := kb4 _ (But.of_ext (g := s) (hX2.trans hHeld))
      have hBs := kb4 w3 (But.refl _ _)
      rw [hres, hrese, Hx.out, Hm.out]
      refine ⟨rfl, ⟨?_, h.ne, ?_, fun i hi => kf4 _ _ (hM3.fr i hi), h.n1, h.n7⟩, hB⟩
      · rw [World.cell?_of_block (w := w3) (hBs.block g hM3.lt h.ne)]
        exact hM3.hd
      · intro i hi
        by_cases e : i = k
        · subst e
          rw [if_pos rfl, Ho.out]
          exact hP4
        · rw [if_neg e]
          exact kr4 _ _ (by rw [← Ho.out]; omega) (hM3.row i hi)

def mlacks (R : Nat → V7) (n : Nat) (r : Int) : Bool := mhas n r && !(eq7 (R r.toNat) (top R n))

set_option maxHeartbeats 2000000 in
theorem mlacks_any (g s n : Nat) (R : Nat → V7) (r : Int) (w : World) (h : MM w g s n R) :
    Calls Try.prog 57 #[.pointer (some ⟨g, 0, none⟩), .int .i64 r] w fun e w' => e = .returned (.bool (mlacks R n r)) ∧ Ext w w' := by
  have hd : ∀ W, Ext w W → W.cell? ⟨g, 0, none⟩ = some (.slice (some ⟨s, 0, none⟩) n n) := fun W e => e.cell h.hd
  go_enter Try.func57, Try.ntmps57
  go_wp2
  cases q : mhas n r with
  | false =>
    have hres : mlacks R n r = false := by simp [mlacks, q]
    have ch := fun W hW => mhas_any g s n R r W hW
    rw [q] at ch
    refine start_ (n := 16) (S := (fun W => Ext w W)) (ds := []) #[false, false, false, false, false, false, false, false, false, false, false, false, false, false, false, false] (by kernel_rfl) rfl rfl ((Ext.refl w).drew) (fun hHeld => ?_)
    refine take_ (i := 0) (N := (some 5)) (v := ?_) (a' := ?_) #[true, false, false, false, false, false, false, false, false, false, false, false, false, false, false, false] rfl rfl (by kernel_rfl) (fun _ _ _ h => h) (Or.inl ⟨by rfl, ?_⟩) (by assumption) ?_ ?_
    rotate_left
    · intro w' hSw; (try dsimp only at hSw)
      go_simp
      try with_reducible rfl
    rotate_left
    · simp only [Act.put, List.setIfInBounds_toArray, List.set_cons_zero, List.set_cons_succ]
      rfl
    refine take_ (i := 1) (N := (some 6)) (v := ?_) (a' := ?_) #[true, true, false, false, false, false, false, false, false, false, false, false, false, false, false, false] rfl rfl (by kernel_rfl) (fun _ _ _ h => h) (Or.inl ⟨by rfl, ?_⟩) (by assumption) ?_ ?_
    rotate_left
    · intro w' hSw; (try dsimp only at hSw)
      go_simp
      try with_reducible rfl
    rotate_left
    · simp only [Act.put, List.setIfInBounds_toArray, List.set_cons_zero, List.set_cons_succ]
      rfl
    refine one_ (i := 2) (N := (some 7)) #[true, true, true, false, false, false, false, false, false, false, false, false, false, false, false, false] rfl rfl (by kernel_rfl) (by simp) (fun K hK => ?_)
    go_simp
    refine (ch _ (h.ext hHeld)).mono ?_
    rintro e w' ⟨rfl, rfl⟩
    refine hK.out _ _ ?_ (fun hHeld => ?_)
    · first | assumption | exact hHeld.trans (by assumption)
    clear hK K
    (try simp only [Act.put, List.setIfInBounds_toArray, List.set_cons_zero, List.set_cons_succ])
    refine take_ (i := 3) (N := (some 8)) (v := ?_) (a' := ?_) #[true, true, true, true, false, false, false, false, false, false, false, false, false, false, false, false] rfl rfl (by kernel_rfl) (fun _ _ _ h => h) (Or.inl ⟨by rfl, ?_⟩) (by assumption) ?_ ?_
    rotate_left
    · intro w' hSw; (try dsimp only at hSw)
      go_simp
      try with_reducible rfl
    rotate_left
    · simp only [Act.put, List.setIfInBounds_toArray, List.set_cons_zero, List.set_cons_succ]
      rfl
    refine take_ (i := 4) (N := (some 9)) (v := undef) (a' := ?_) #[true, true, true, true, true, false, false, false, false, false, false, false, false, false, false, false] rfl rfl (by kernel_rfl) (fun _ _ _ h => h) (Or.inr ⟨by rfl, rfl⟩) (by assumption) ?_ ?_
    rotate_left
    · simp only [Act.put, List.setIfInBounds_toArray, List.set_cons_zero, List.set_cons_succ]
      rfl
    refine take_ (i := 5) (N := (some 10)) (v := undef) (a' := ?_) #[true, true, true, true, true, true, false, false, false, false, false, false, false, false, false, false] rfl rfl (by kernel_rfl) (fun _ _ _ h => h) (Or.inr ⟨by rfl, rfl⟩) (by assumption) ?_ ?_
    rotate_left
    · simp only [Act.put, List.setIfInBounds_toArray, List.set_cons_zero, List.set_cons_succ]
      rfl
    refine take_ (i := 6) (N := (some 11)) (v := undef) (a' := ?_) #[true, true, true, true, true, true, true, false, false, false, false, false, false, false, false, false] rfl rfl (by kernel_rfl) (fun _ _ _ h => h) (Or.inr ⟨by rfl, rfl⟩) (by assumption) ?_ ?_
    rotate_left
    · simp only [Act.put, List.setIfInBounds_toArray, List.set_cons_zero, List.set_cons_succ]
      rfl
    refine take_ (i := 7) (N := (some 12)) (v := undef) (a' := ?_) #[true, true, true, true, true, true, true, true, false, false, false, false, false, false, false, false] rfl rfl (by kernel_rfl) (fun _ _ _ h => h) (Or.inr ⟨by rfl, rfl⟩) (by assumption) ?_ ?_
    rotate_left
    · simp only [Act.put, List.setIfInBounds_toArray, List.set_cons_zero, List.set_cons_succ]
      rfl
    refine take_ (i := 8) (N := (some 13)) (v := undef) (a' := ?_) #[true, true, true, true, true, true, true, true, true, false, false, false, false, false, false, false] rfl rfl (by kernel_rfl) (fun _ _ _ h => h) (Or.inr ⟨by rfl, rfl⟩) (by assumption) ?_ ?_
    rotate_left
    · simp only [Act.put, List.setIfInBounds_toArray, List.set_cons_zero, List.set_cons_succ]
      rfl
    refine take_ (i := 9) (N := (some 14)) (v := undef) (a' := ?_) #[true, true, true, true, true, true, true, true, true, true, false, false, false, false, false, false] rfl rfl (by kernel_rfl) (fun _ _ _ h => h) (Or.inr ⟨by rfl, rfl⟩) (by assumption) ?_ ?_
    rotate_left
    · simp only [Act.put, List.setIfInBounds_toArray, List.set_cons_zero, List.set_cons_succ]
      rfl
    refine take_ (i := 10) (N := (some 15)) (v := undef) (a' := ?_) #[true, true, true, true, true, true, true, true, true, true, true, false, false, false, false, false] rfl rfl (by kernel_rfl) (fun _ _ _ h => h) (Or.inr ⟨by rfl, rfl⟩) (by assumption) ?_ ?_
    rotate_left
    · simp only [Act.put, List.setIfInBounds_toArray, List.set_cons_zero, List.set_cons_succ]
      rfl
    refine take_ (i := 11) (N := (some 16)) (v := undef) (a' := ?_) #[true, true, true, true, true, true, true, true, true, true, true, true, false, false, false, false] rfl rfl (by kernel_rfl) (fun _ _ _ h => h) (Or.inr ⟨by rfl, rfl⟩) (by assumption) ?_ ?_
    rotate_left
    · simp only [Act.put, List.setIfInBounds_toArray, List.set_cons_zero, List.set_cons_succ]
      rfl
    refine take_ (i := 12) (N := (some 17)) (v := undef) (a' := ?_) #[true, true, true, true, true, true, true, true, true, true, true, true, true, false, false, false] rfl rfl (by kernel_rfl) (fun _ _ _ h => h) (Or.inr ⟨by rfl, rfl⟩) (by assumption) ?_ ?_
    rotate_left
    · simp only [Act.put, List.setIfInBounds_toArray, List.set_cons_zero, List.set_cons_succ]
      rfl
    refine take_ (i := 13) (N := (some 18)) (v := undef) (a' := ?_) #[true, true, true, true, true, true, true, true, true, true, true, true, true, true, false, false] rfl rfl (by kernel_rfl) (fun _ _ _ h => h) (Or.inr ⟨by rfl, rfl⟩) (by assumption) ?_ ?_
    rotate_left
    · simp only [Act.put, List.setIfInBounds_toArray, List.set_cons_zero, List.set_cons_succ]
      rfl
    refine take_ (i := 14) (N := (some 19)) (v := ?_) (a' := ?_) #[true, true, true, true, true, true, true, true, true, true, true, true, true, true, true, false] rfl rfl (by kernel_rfl) (fun _ _ _ h => h) (Or.inl ⟨by rfl, ?_⟩) (by assumption) ?_ ?_
    rotate_left
    · intro w' hSw; (try dsimp only at hSw)
      go_simp
      try with_reducible rfl
    rotate_left
    · simp only [Act.put, List.setIfInBounds_toArray, List.set_cons_zero, List.set_cons_succ]
      rfl
    refine take_ (i := 15) (N := (some 4)) (v := ?_) (a' := ?_) #[true, true, true, true, true, true, true, true, true, true, true, true, true, true, true, true] rfl rfl (by kernel_rfl) (fun _ _ _ h => h) (Or.inl ⟨by rfl, ?_⟩) (by assumption) ?_ ?_
    rotate_left
    · intro w' hSw; (try dsimp only at hSw)
      go_simp
      try with_reducible rfl
    rotate_left
    · simp only [Act.put, List.setIfInBounds_toArray, List.set_cons_zero, List.set_cons_succ]
      rfl
    refine done_ (by kernel_rfl) ?_
    go_wp2
    go_ret
    exact ⟨by first | rfl | (rw [hres]; rfl), hHeld⟩
  | true =>
    have ch := fun W hW => mhas_any g s n R r W hW
    rw [q] at ch
    have hr : 0 ≤ r ∧ r < n := by simpa [mhas] using q
    obtain ⟨k, rfl⟩ := Int.eq_ofNat_of_zero_le hr.1
    have hk : k < n := by omega
    obtain ⟨x, Hx⟩ : ∃ x, Hid (R k = x) := ⟨_, Lib.hid rfl⟩
    obtain ⟨m, Hm⟩ : ∃ y, Hid (top R n = y) := ⟨_, Lib.hid rfl⟩
    obtain ⟨b, Hb⟩ : ∃ y, Hid (eq7 x m = y) := ⟨_, Lib.hid rfl⟩
    have hres : mlacks R n (k : Int) = !b := by simp [mlacks, q, Hx.out, Hm.out, Hb.out]
    have cm := fun W hW => mmost_any g s n R W hW
    rw [Hm.out] at cm
    unfold vf at cm
    have heq := fun W => run_eq7 Try.underlying51 x m W
    rw [Hb.out] at heq
    have hrow := h.row k hk
    rw [Hx.out] at hrow
    obtain ⟨a0, a1, a2, a3, a4, a5, a6⟩ := hrow.ruleso
    refine start_ (n := 16) (S := (fun W => Ext w W)) (ds := []) #[false, false, false, false, false, false, false, false, false, false, false, false, false, false, false, false] (by kernel_rfl) rfl rfl ((Ext.refl w).drew) (fun hHeld => ?_)
    refine take_ (i := 0) (N := (some 5)) (v := ?_) (a' := ?_) #[true, false, false, false, false, false, false, false, false, false, false, false, false, false, false, false] rfl rfl (by kernel_rfl) (fun _ _ _ h => h) (Or.inl ⟨by rfl, ?_⟩) (by assumption) ?_ ?_
    rotate_left
    · intro w' hSw; (try dsimp only at hSw)
      go_simp
      try with_reducible rfl
    rotate_left
    · simp only [Act.put, List.setIfInBounds_toArray, List.set_cons_zero, List.set_cons_succ]
      rfl
    refine take_ (i := 1) (N := (some 6)) (v := ?_) (a' := ?_) #[true, true, false, false, false, false, false, false, false, false, false, false, false, false, false, false] rfl rfl (by kernel_rfl) (fun _ _ _ h => h) (Or.inl ⟨by rfl, ?_⟩) (by assumption) ?_ ?_
    rotate_left
    · intro w' hSw; (try dsimp only at hSw)
      go_simp
      try with_reducible rfl
    rotate_left
    · simp only [Act.put, List.setIfInBounds_toArray, List.set_cons_zero, List.set_cons_succ]
      rfl
    refine one_ (i := 2) (N := (some 7)) #[true, true, true, false, false, false, false, false, false, false, false, false, false, false, false, false] rfl rfl (by kernel_rfl) (by simp) (fun K hK => ?_)
    go_simp
    refine (ch _ (h.ext hHeld)).mono ?_
    rintro e w' ⟨rfl, rfl⟩
    refine hK.out _ _ ?_ (fun hHeld => ?_)
    · first | assumption | exact hHeld.trans (by assumption)
    clear hK K
    (try simp only [Act.put, List.setIfInBounds_toArray, List.set_cons_zero, List.set_cons_succ])
    refine take_ (i := 3) (N := (some 8)) (v := ?_) (a' := ?_) #[true, true, true, true, false, false, false, false, false, false, false, false, false, false, false, false] rfl rfl (by kernel_rfl) (fun _ _ _ h => h) (Or.inl ⟨by rfl, ?_⟩) (by assumption) ?_ ?_
    rotate_left
    · intro w' hSw; (try dsimp only at hSw)
      go_simp
      try with_reducible rfl
    rotate_left
    · simp only [Act.put, List.setIfInBounds_toArray, List.set_cons_zero, List.set_cons_succ]
      rfl
    refine take_ (i := 4) (N := (some 9)) (v := ?_) (a' := ?_) #[true, true, true, true, true, false, false, false, false, false, false, false, false, false, false, false] rfl rfl (by kernel_rfl) (fun _ _ _ h => h) (Or.inl ⟨by rfl, ?_⟩) (by assumption) ?_ ?_
    rotate_left
    · intro w' hSw; (try dsimp only at hSw)
      go_simp
      try with_reducible rfl
    rotate_left
    · simp only [Act.put, List.setIfInBounds_toArray, List.set_cons_zero, List.set_cons_succ]
      rfl
    refine take_ (i := 5) (N := (some 10)) (v := ?_) (a' := ?_) #[true, true, true, true, true, true, false, false, false, false, false, false, false, false, false, false] rfl rfl (by kernel_rfl) (fun _ _ _ h => h) (Or.inl ⟨by rfl, ?_⟩) (by assumption) ?_ ?_
    rotate_left
    · intro w' hSw; (try dsimp only at hSw)
      go_simp
      try with_reducible rfl
    rotate_left
    · simp only [Act.put, List.setIfInBounds_toArray, List.set_cons_zero, List.set_cons_succ]
      rfl
    refine take_ (i := 6) (N := (some 11)) (v := ?_) (a' := ?_) #[true, true, true, true, true, true, true, false, false, false, false, false, false, false, false, false] rfl rfl (by kernel_rfl) (fun _ _ _ h => h) (Or.inl ⟨by rfl, ?_⟩) (by assumption) ?_ ?_
    rotate_left
    · intro w' hSw; (try dsimp only at hSw)
      go_simp
      try with_reducible rfl
    rotate_left
    · simp only [Act.put, List.setIfInBounds_toArray, List.set_cons_zero, List.set_cons_succ]
      rfl
    refine take_ (i := 7) (N := (some 12)) (v := ?_) (a' := ?_) #[true, true, true, true, true, true, true, true, false, false, false, false, false, false, false, false] rfl rfl (by kernel_rfl) (fun _ _ _ h => h) (Or.inl ⟨by rfl, ?_⟩) (by assumption) ?_ ?_
    rotate_left
    · intro w' hSw; (try dsimp only at hSw)
      go_simp
      try with_reducible rfl
    rotate_left
    · simp only [Act.put, List.setIfInBounds_toArray, List.set_cons_zero, List.set_cons_succ]
      rfl
    refine take_ (i := 8) (N := (some 13)) (v := ?_) (a' := ?_) #[true, true, true, true, true, true, true, true, true, false, false, false, false, false, false, false] rfl rfl (by kernel_rfl) (fun _ _ _ h => h) (Or.inl ⟨by rfl, ?_⟩) (by assumption) ?_ ?_
    rotate_left
    · intro w' hSw; (try dsimp only at hSw)
      go_simp
      try with_reducible rfl
    rotate_left
    · simp only [Act.put, List.setIfInBounds_toArray, List.set_cons_zero, List.set_cons_succ]
      rfl
    refine take_ (i := 9) (N := (some 14)) (v := ?_) (a' := ?_) #[true, true, true, true, true, true, true, true, true, true, false, false, false, false, false, false] rfl rfl (by kernel_rfl) (fun _ _ _ h => h) (Or.inl ⟨by rfl, ?_⟩) (by assumption) ?_ ?_
    rotate_left
    · intro w' hSw; (try dsimp only at hSw)
      go_simp
      try with_reducible rfl
    rotate_left
    · simp only [Act.put, List.setIfInBounds_toArray, List.set_cons_zero, List.set_cons_succ]
      rfl
    refine take_ (i := 10) (N := (some 15)) (v := ?_) (a' := ?_) #[true, true, true, true, true, true, true, true, true, true, true, false, false, false, false, false] rfl rfl (by kernel_rfl) (fun _ _ _ h => h) (Or.inl ⟨by rfl, ?_⟩) (by assumption) ?_ ?_
    rotate_left
    · intro w' hSw; (try dsimp only at hSw)
      go_simp
      try with_reducible rfl
    rotate_left
    · simp only [Act.put, List.setIfInBounds_toArray, List.set_cons_zero, List.set_cons_succ]
      rfl
    refine take_ (i := 11) (N := (some 16)) (v := ?_) (a' := ?_) #[true, true, true, true, true, true, true, true, true, true, true, true, false, false, false, false] rfl rfl (by kernel_rfl) (fun _ _ _ h => h) (Or.inl ⟨by rfl, ?_⟩) (by assumption) ?_ ?_
    rotate_left
    · intro w' hSw; (try dsimp only at hSw)
      go_simp
      try with_reducible rfl
    rotate_left
    · simp only [Act.put, List.setIfInBounds_toArray, List.set_cons_zero, List.set_cons_succ]
      rfl
    refine one_ (i := 12) (N := (some 17)) #[true, true, true, true, true, true, true, true, true, true, true, true, true, false, false, false] rfl rfl (by kernel_rfl) (by simp) (fun K hK => ?_)
    go_simp
    refine (cm _ (h.ext hHeld)).mono ?_
    rintro e w2 ⟨rfl, hx2⟩
    refine hK.out _ _ ?_ (fun hHeld => ?_)
    · first | assumption | exact hHeld.trans (by assumption)
    clear hK K
    (try simp only [Act.put, List.setIfInBounds_toArray, List.set_cons_zero, List.set_cons_succ])
    refine take_ (i := 13) (N := (some 18)) (v := ?_) (a' := ?_) #[true, true, true, true, true, true, true, true, true, true, true, true, true, true, false, false] rfl rfl (by kernel_rfl) (fun _ _ _ h => h) (Or.inl ⟨by rfl, ?_⟩) (by assumption) ?_ ?_
    rotate_left
    · intro w' hSw; (try dsimp only at hSw)
      go_simp
      try with_reducible rfl
    rotate_left
    · simp only [Act.put, List.setIfInBounds_toArray, List.set_cons_zero, List.set_cons_succ]
      rfl
    refine take_ (i := 14) (N := (some 19)) (v := ?_) (a' := ?_) #[true, true, true, true, true, true, true, true, true, true, true, true, true, true, true, false] rfl rfl (by kernel_rfl) (fun _ _ _ h => h) (Or.inl ⟨by rfl, ?_⟩) (by assumption) ?_ ?_
    rotate_left
    · intro w' hSw; (try dsimp only at hSw)
      go_simp
      try with_reducible rfl
    rotate_left
    · simp only [Act.put, List.setIfInBounds_toArray, List.set_cons_zero, List.set_cons_succ]
      rfl
    refine take_ (i := 15) (N := (some 4)) (v := ?_) (a' := ?_) #[true, true, true, true, true, true, true, true, true, true, true, true, true, true, true, true] rfl rfl (by kernel_rfl) (fun _ _ _ h => h) (Or.inl ⟨by rfl, ?_⟩) (by assumption) ?_ ?_
    rotate_left
    · intro w' hSw; (try dsimp only at hSw)
      go_simp
      try with_reducible rfl
    rotate_left
    · simp only [Act.put, List.setIfInBounds_toArray, List.set_cons_zero, List.set_cons_succ]
      rfl
    refine done_ (by kernel_rfl) ?_
    go_wp2
    go_ret
    exact ⟨by first | rfl | (rw [hres]; rfl), hHeld⟩

theorem made7 (m i : Nat) (hi : i < m) : (madeCells #[.int .i64 0, .int .i64 0, .int .i64 0, .int .i64 0, .int .i64 0, .int .i64 0, .int .i64 0] m)[i]? = some (.int .i64 0) := by
  have h7 : i % 7 < 7 := Nat.mod_lt _ (by omega)
  have hz : ∀ j, j < 7 → (#[.int .i64 0, .int .i64 0, .int .i64 0, .int .i64 0, .int .i64 0, .int .i64 0, .int .i64 0] : Array Value)[j]! = .int .i64 0 := by
    intro j hj
    match j, hj with
    | 0, _ => rfl
    | 1, _ => rfl
    | 2, _ => rfl
    | 3, _ => rfl
    | 4, _ => rfl
    | 5, _ => rfl
    | 6, _ => rfl
  unfold madeCells
  rw [Array.getElem?_map, Array.getElem?_range]
  simp only [hi, if_true, Option.map_some]
  exact congrArg some (hz (i % 7) h7)
theorem info_vec : (Try.prog.info? 51).map (fun i => (i.zero, i.size, i.bytes)) = some (some (vf fun _ => 0), 7, 56) := by kernel_rfl
theorem mnew_bad (n : Int) (w : World) (hn : n < 1 ∨ 7 < n) :
    Calls Try.prog 48 #[.int .i64 n] w fun e w' => e = .returned (.tuple #[.pointer none, .int .i64 1]) ∧ w = w' := by
  go_enter Try.func48, Try.ntmps48
  by_cases h1 : n < 1
  · go_wp2
    go_ret2
    exact ⟨rfl, rfl⟩
  · have h7 : 7 < n := by omega
    go_wp2
    go_ret2
    exact ⟨rfl, rfl⟩
theorem mnew_any (n : Nat) (w : World) (h1 : 1 ≤ n) (h7 : n ≤ 7) :
    Calls Try.prog 48 #[.int .i64 n] w fun e w' => ∃ g s, e = .returned (.tuple #[.pointer (some ⟨g, 0, none⟩), .int .i64 0]) ∧ MM w' g s n (fun _ _ => 0) ∧ Ext w w' ∧ w.heap.size ≤ g ∧ w.heap.size ≤ s := by
  obtain ⟨s, Hs⟩ : ∃ h, Hid (w.heap.size = h) := ⟨_, Lib.hid rfl⟩
  obtain ⟨i, hi, hz, hsz, hby⟩ : ∃ i, Try.prog.info? 51 = some i ∧ i.zero = some (vf fun _ => 0) ∧ i.size = 7 ∧ i.bytes = 56 := by
    have h := info_vec
    cases hq : Try.prog.info? 51 with
    | none => rw [hq] at h; cases h
    | some i => rw [hq] at h; simp only [Option.map_some, Option.some.injEq, Prod.mk.injEq] at h; exact ⟨i, rfl, h.1, h.2.1, h.2.2⟩
  have hmk := run_makeSlice (P := Try.prog) w 61 51 i _ Try.underlying61 hi hz .i64 .i64 (n : Int) (n : Int) (by omega) (by omega) (by rw [hsz]; omega) (by rw [hby]; omega) (by omega)
  rw [hsz] at hmk
  simp only [Int.toNat_natCast, vf, Value.cells] at hmk
  obtain ⟨w1, H1⟩ : ∃ w1, Hid (w.alloc (.cells (madeCells #[.int .i64 0, .int .i64 0, .int .i64 0, .int .i64 0, .int .i64 0, .int .i64 0, .int .i64 0] (n * 7)) 51) = w1) := ⟨_, Lib.hid rfl⟩
  rw [H1.out, Hs.out] at hmk
  have hx1 : Ext w w1 := by rw [← H1.out]; exact (Ext.refl _).alloc _
  have s1 : w1.heap.size = s + 1 := by rw [← H1.out, ← Hs.out]; exact Array.size_push _
  have S1 := Lib.hid s1
  have hrow : ∀ r, r < n → At7 w1 s (r * 7) (fun _ => 0) := by
    intro r hr i hi
    rw [← H1.out, ← Hs.out]
    simp only [World.cell?, World.alloc, Array.getElem?_push_size]
    exact made7 _ _ (by omega)
  have hfr : ∀ r, r < n → Fr7 w1 s (r * 7) := by
    intro r hr i hi
    rw [← H1.out, ← Hs.out]
    exact World.frozen?_alloc_new _ _ _ _
  clear hi hz hsz hby
  go_enter Try.func48, Try.ntmps48
  go_wp2
  go_ret2
  refine ⟨s + 1, s, rfl, ⟨?_, by omega, fun r hr => (hrow r hr).ext ((Ext.refl _).alloc _), fun r hr => (hfr r hr).ext_alloc _ (by rw [S1.out]; omega), h1, h7⟩, hx1.alloc _, by rw [Hs.out]; omega, by rw [Hs.out]; omega⟩
  rw [← S1.out]
  simp only [World.cell?, World.alloc, Array.getElem?_push_size]
  rfl

/-- awake: what the document tells of two rows. -/
theorem awake17_any (w : World) :
    Calls Try.prog 47 #[] w fun e w' => e = .returned (.bool true) ∧ Ext w w' := by
  have hnw := fun W => mnew_any 2 W (by omega) (by omega)
  have heq := run_eq7_same Try.underlying51
  go_enter Try.func47, Try.ntmps47
  go_wp2_with fail
  refine (hnw _).mono ?_
  rintro e w1 ⟨g, s, rfl, hM1, hx1, hg, hs⟩
  go_wp2_with fail
  refine (mtell_any g s 2 _ 0 (upd (fun _ => 0) 0 2) w1 hM1).mono ?_
  rw [show tellE 2 0 (upd (fun _ => 0) 0 2) = 0 from rfl]
  rintro e w2 ⟨rfl, hM2, hB2⟩
  have hX2 := hx1.but hB2 hs
  go_wp2_with fail
  refine (mtell_any g s 2 _ 1 (upd (fun _ => 0) 0 1) w2 hM2).mono ?_
  rw [show tellE 2 1 (upd (fun _ => 0) 0 1) = 0 from rfl]
  rintro e w3 ⟨rfl, hM3, hB3⟩
  have hX3 := hX2.but hB3 hs
  go_wp2_with fail
  refine (mstab_any g s 2 _ w3 hM3).mono ?_
  rw [show vf (stab (tell (tell (fun _ _ => 0) 2 0 (upd (fun _ => 0) 0 2)) 2 1 (upd (fun _ => 0) 0 1)) 2) = .agg #[.int .i64 1, .int .i64 0, .int .i64 0, .int .i64 0, .int .i64 0, .int .i64 0, .int .i64 0] from rfl]
  rintro e w4 ⟨rfl, hx4⟩
  go_wp2_with fail
  refine (mmost_any g s 2 _ w4 (hM3.ext hx4)).mono ?_
  rw [show vf (top (tell (tell (fun _ _ => 0) 2 0 (upd (fun _ => 0) 0 2)) 2 1 (upd (fun _ => 0) 0 1)) 2) = .agg #[.int .i64 2, .int .i64 0, .int .i64 0, .int .i64 0, .int .i64 0, .int .i64 0, .int .i64 0] from rfl]
  rintro e w5 ⟨rfl, hx5⟩
  have hM5 := (hM3.ext hx4).ext hx5
  go_wp2_with fail
  refine (mlacks_any g s 2 _ 1 w5 hM5).mono ?_
  rw [show mlacks (tell (tell (fun _ _ => 0) 2 0 (upd (fun _ => 0) 0 2)) 2 1 (upd (fun _ => 0) 0 1)) 2 1 = true from by decide +kernel]
  rintro e w6 ⟨rfl, hx6⟩
  go_wp2_with fail
  refine (mlacks_any g s 2 _ 0 w6 (hM5.ext hx6)).mono ?_
  rw [show mlacks (tell (tell (fun _ _ => 0) 2 0 (upd (fun _ => 0) 0 2)) 2 1 (upd (fun _ => 0) 0 1)) 2 0 = false from by decide +kernel]
  rintro e w7 ⟨rfl, hx7⟩
  go_wp2
  go_ret
  exact ⟨rfl, (((hX3.trans hx4).trans hx5).trans hx6).trans hx7⟩

end Go.Proofs.Ytaiofbagdcpfgaa
