/- VecNext: the walk of vec.Next. -/
import Derived.Test.YtaiofbagdcpfgaaVecCmp
import Derived.Test.YtaiofbagdcpfgaaRegion
set_option linter.unusedVariables false
set_option linter.unusedSimpArgs false
set_option maxRecDepth 100000
namespace Go.Proofs.Ytaiofbagdcpfgaa
open Go.RowKit Go.Proofs.YtaiofbagdcpfgaaW.PrintWords Go.Proofs.YtaiofbagdcpfgaaW.PrintLast

def zero7 : V7 := fun _ => 0
/-- What Next answers. -/
def next7 (v : V7) (r : Int) : V7 × (Int × Int) × Int :=
  if (rep7 r && good7 v) = false then (zero7, (0, 0), 1)
  else if v r.toNat = 1099511627776 then (zero7, (0, 0), 2)
  else (upd v r.toNat (v r.toNat + 1), (r, v r.toNat + 1), 0)
def nextv (x : V7 × (Int × Int) × Int) : Value := .tuple #[vf x.1, dotv x.2.1.1 x.2.1.2, .int .i64 x.2.2]

set_option maxHeartbeats 1000000 in
theorem next_any (v : V7) (r : Int) (w : World) :
    Calls Try.prog 70 #[vf v, .int .i64 r] w fun e w' => e = .returned (nextv (next7 v r)) ∧ Ext w w' := by
  obtain ⟨h, Hh⟩ : ∃ h, Hid (w.heap.size = h) := ⟨_, Lib.hid rfl⟩
  obtain ⟨w1, H1, S1, hx1, ha1, fa1, -⟩ := alloc7 w v 51 h Hh.out
  obtain ⟨w2, H2, S2, hx2, hb2, fb2, k2⟩ := alloc7 w1 (fun _ => 0) 51 (h + 1) S1.out
  obtain ⟨w3, H3, S3, hx3, hc3, fc3, k3⟩ := alloc2 w2 0 0 57 (h + 1 + 1) S2.out
  have fa3 : Fr7 w3 h 0 := k3 _ _ (by omega) (k2 _ _ (by omega) fa1)
  have fb3 : Fr7 w3 (h+1) 0 := k3 _ _ (by omega) fb2
  have hX3 := hx1.trans (hx2.trans hx3)
  have hA3 := ha1.ext (hx2.trans hx3)
  have hB3 := hb2.ext hx3
  clear k2 k3 hx1 hx2 hx3 ha1 hb2 fa1 fb2
  have hh := Hh.out
  have s1 := S1.out
  have s2 := S2.out
  have h1 := H1.out
  have h2 := H2.out
  have h3 := H3.out
  unfold vf
  go_enter Try.func70, Try.ntmps70
  go_wp2_with fail
  refine (rep_any r _).mono ?_
  rintro e w' ⟨rfl, rfl⟩
  clear h1 h2 h3 s1 s2 hh
  cases q1 : rep7 r with
  | false =>
    have hres : next7 v r = (zero7, (0, 0), 1) := by simp [next7, q1]
    obtain ⟨w4, H4, hP4, kx4, -, kf4, -⟩ := put7 w3 (h + 1) _ (fun _ => 0) hB3
    obtain ⟨hc4, fc4⟩ := put7_2 (f' := (fun _ => 0)) H4 hc3 fc3 (by omega)
    obtain ⟨w5, H5, ⟨d0, d1⟩, kx5, kr5⟩ := put2 w4 (h + 1 + 1) 0 0 0 0 hc4
    have hP5 := kr5 _ _ _ (by omega) hP4
    have hX4 := kx4 _ hX3 (by rw [Hh.out]; omega)
    have hX5 := kx5 _ hX4 (by rw [Hh.out]; omega)
    obtain ⟨e0, e1, e2, e3, e4, e5, e6⟩ := hP5.cells0
    obtain ⟨b0, b1, b2, b3, b4, b5, b6⟩ := hB3.cells0
    obtain ⟨f0, f1, f2, f3, f4, f5, f6⟩ := fb3.cells0
    obtain ⟨g0, g1⟩ := hc4
    obtain ⟨i0, i1⟩ := fc4
    have h4 := H4.out
    have h5 := H5.out
    clear hP4 hP5 kx4 kf4 kx5 kr5
    go_wp2
    refine bodyPost_ret (v := nextv (zero7, (0, 0), 1)) (by simp [results, Try.results70, go_sem, nextv, vf, dotv, zero7, e0, e1, e2, e3, e4, e5, e6, d0, d1]) rfl ⟨by rw [hres], hX5⟩
  | true =>
    obtain ⟨a0, a1, a2, a3, a4, a5, a6⟩ := hA3.cells0
    go_wp2_with fail
    refine (good_any v w3).mono ?_
    rintro e w6 ⟨rfl, hx6⟩
    replace fa3 := fa3.ext hx6 hA3.lt
    replace fb3 := fb3.ext hx6 hB3.lt
    replace fc3 := fc3.ext hx6 hc3.lt
    replace hX3 := hX3.trans hx6
    replace hA3 := hA3.ext hx6
    replace hB3 := hB3.ext hx6
    replace hc3 := hc3.ext hx6
    clear a0 a1 a2 a3 a4 a5 a6
    cases q2 : good7 v with
    | false =>
      have hres : next7 v r = (zero7, (0, 0), 1) := by simp [next7, q1, q2]
      obtain ⟨w4, H4, hP4, kx4, -, kf4, -⟩ := put7 w6 (h + 1) _ (fun _ => 0) hB3
      obtain ⟨hc4, fc4⟩ := put7_2 (f' := (fun _ => 0)) H4 hc3 fc3 (by omega)
      obtain ⟨w5, H5, ⟨d0, d1⟩, kx5, kr5⟩ := put2 w4 (h + 1 + 1) 0 0 0 0 hc4
      have hP5 := kr5 _ _ _ (by omega) hP4
      have hX4 := kx4 _ hX3 (by rw [Hh.out]; omega)
      have hX5 := kx5 _ hX4 (by rw [Hh.out]; omega)
      obtain ⟨e0, e1, e2, e3, e4, e5, e6⟩ := hP5.cells0
      obtain ⟨b0, b1, b2, b3, b4, b5, b6⟩ := hB3.cells0
      obtain ⟨f0, f1, f2, f3, f4, f5, f6⟩ := fb3.cells0
      obtain ⟨g0, g1⟩ := hc4
      obtain ⟨i0, i1⟩ := fc4
      have h4 := H4.out
      have h5 := H5.out
      clear hP4 hP5 kx4 kf4 kx5 kr5
      go_wp2
      refine bodyPost_ret (v := nextv (zero7, (0, 0), 1)) (by simp [results, Try.results70, go_sem, nextv, vf, dotv, zero7, e0, e1, e2, e3, e4, e5, e6, d0, d1]) rfl ⟨by rw [hres], hX5⟩
    | true =>
      have hr : 0 ≤ r ∧ r < 7 := by simpa [rep7] using q1
      obtain ⟨k, rfl⟩ := Int.eq_ofNat_of_zero_le hr.1
      have hk : k < 7 := by omega
      have hvk : 0 ≤ v k ∧ v k ≤ 1099511627776 := of_decide_eq_true (all7_at q2 k hk)
      have p0 := hA3.zero k hk
      have p1 := fa3.zero k hk
      obtain ⟨x, Hx⟩ : ∃ x, Hid (v k = x) := ⟨_, Lib.hid rfl⟩
      rw [Hx.out] at p0 hvk
      by_cases hm : x = 1099511627776
      · have hres : next7 v (k : Int) = (zero7, (0, 0), 2) := by simp [next7, q1, q2, Hx.out, hm]
        subst hm
        obtain ⟨w4, H4, hP4, kx4, -, kf4, -⟩ := put7 w6 (h + 1) _ (fun _ => 0) hB3
        obtain ⟨hc4, fc4⟩ := put7_2 (f' := (fun _ => 0)) H4 hc3 fc3 (by omega)
        obtain ⟨w5, H5, ⟨d0, d1⟩, kx5, kr5⟩ := put2 w4 (h + 1 + 1) 0 0 0 0 hc4
        have hP5 := kr5 _ _ _ (by omega) hP4
        have hX4 := kx4 _ hX3 (by rw [Hh.out]; omega)
        have hX5 := kx5 _ hX4 (by rw [Hh.out]; omega)
        obtain ⟨e0, e1, e2, e3, e4, e5, e6⟩ := hP5.cells0
        obtain ⟨b0, b1, b2, b3, b4, b5, b6⟩ := hB3.cells0
        obtain ⟨f0, f1, f2, f3, f4, f5, f6⟩ := fb3.cells0
        obtain ⟨g0, g1⟩ := hc4
        obtain ⟨i0, i1⟩ := fc4
        have h4 := H4.out
        have h5 := H5.out
        clear hP4 hP5 kx4 kf4 kx5 kr5
        go_wp2
        refine bodyPost_ret (v := nextv (zero7, (0, 0), 2)) (by simp [results, Try.results70, go_sem, nextv, vf, dotv, zero7, e0, e1, e2, e3, e4, e5, e6, d0, d1]) rfl ⟨by rw [hres], hX5⟩
      · have hres : next7 v (k : Int) = (upd v k (x + 1), ((k : Int), x + 1), 0) := by simp [next7, q1, q2, Hx.out, hm]
        have hs := hA3.set hk (x + 1)
        rw [Nat.zero_add] at hs
        obtain ⟨w7, H7⟩ : ∃ w7, Hid (w6.setCell ⟨h, k, none⟩ (.int .i64 (x + 1)) = w7) := ⟨_, Lib.hid rfl⟩
        have hX7 : Ext w w7 := by rw [← H7.out]; exact hX3.setCell (by rw [Hh.out]; exact Nat.le_refl _) _
        have hB7 : At7 w7 (h+1) 0 (fun _ => 0) := by rw [← H7.out]; exact hB3.other (Or.inl (by simp))
        have hc7 : At2 w7 (h+1+1) 0 0 := by rw [← H7.out]; exact hc3.other (by simp; omega)
        have fb7 : Fr7 w7 (h+1) 0 := by rw [← H7.out]; exact fb3.set _ _
        have fc7 : Fr2 w7 (h+1+1) := by rw [← H7.out]; exact fc3.set _ _
        rw [H7.out] at hs
        have hwr : IntKind.i64.wrap (x + 1) = x + 1 := by rw [IntKind.wrap_i64]; omega
        have h7 := H7.out
        obtain ⟨w8, H8⟩ : ∃ w8, Hid (w7.drew = w8) := ⟨_, Lib.hid rfl⟩
        replace hX3 : Ext w w8 := by rw [← H8.out]; exact hX7.drew
        replace hA3 : At7 w8 h 0 (upd v k (x + 1)) := by rw [← H8.out]; exact hs.drew
        replace hB3 : At7 w8 (h+1) 0 (fun _ => 0) := by rw [← H8.out]; exact hB7.drew
        replace hc3 : At2 w8 (h+1+1) 0 0 := by rw [← H8.out]; exact hc7
        replace fb3 : Fr7 w8 (h+1) 0 := by rw [← H8.out]; exact fb7.drew
        replace fc3 : Fr2 w8 (h+1+1) := by rw [← H8.out]; exact fc7
        obtain ⟨y, Hy⟩ : ∃ y, Hid (upd v k (x + 1) = y) := ⟨_, Lib.hid rfl⟩
        rw [Hy.out] at hA3
        have pk := hA3.zero k hk
        have hyk : y k = x + 1 := by rw [← Hy.out]; simp [upd]
        rw [hyk] at pk
        have hyk' := Lib.hid hyk
        clear hyk
        obtain ⟨j0, j1, j2, j3, j4, j5, j6⟩ := hA3.cells0
        go_wp2
        clear h7
        have h8 := H8.out
        obtain ⟨w4, H4, hP4, kx4, -, kf4, -⟩ := put7 w8 (h + 1) _ y hB3
        obtain ⟨hc4, fc4⟩ := put7_2 (f' := y) H4 hc3 fc3 (by omega)
        obtain ⟨w5, H5, ⟨d0, d1⟩, kx5, kr5⟩ := put2 w4 (h + 1 + 1) 0 0 (k : Int) (x + 1) hc4
        have hP5 := kr5 _ _ _ (by omega) hP4
        have hX4 := kx4 _ hX3 (by rw [Hh.out]; omega)
        have hX5 := kx5 _ hX4 (by rw [Hh.out]; omega)
        obtain ⟨e0, e1, e2, e3, e4, e5, e6⟩ := hP5.cells0
        obtain ⟨b0, b1, b2, b3, b4, b5, b6⟩ := hB3.cells0
        obtain ⟨f0, f1, f2, f3, f4, f5, f6⟩ := fb3.cells0
        obtain ⟨g0, g1⟩ := hc4
        obtain ⟨i0, i1⟩ := fc4
        have h4 := H4.out
        have h5 := H5.out
        clear hP4 hP5 kx4 kf4 kx5 kr5
        have hA4 := (put7_keeps H4 (by omega) hA3).cells0
        obtain ⟨l0, l1, l2, l3, l4, l5, l6⟩ := hA4
        have lk := (put7_keeps H4 (by omega) hA3).zero k hk
        rw [hyk'.out] at lk
        have hA5 := (put2_keeps H5 (by omega) (put7_keeps H4 (by omega) hA3))
        obtain ⟨m0, m1, m2, m3, m4, m5, m6⟩ := hA5.cells0
        have mk := hA5.zero k hk
        rw [hyk'.out] at mk
        try rw [H8.out]
        refine start_ (n := 9) (S := (fun W => W.cell? ⟨h, k, none⟩ = some (.int .i64 (x + 1)) ∧ W.cell? ⟨h, 0, none⟩ = some (.int .i64 (y 0)) ∧ W.cell? ⟨h, 1, none⟩ = some (.int .i64 (y 1)) ∧ W.cell? ⟨h, 2, none⟩ = some (.int .i64 (y 2)) ∧ W.cell? ⟨h, 3, none⟩ = some (.int .i64 (y 3)) ∧ W.cell? ⟨h, 4, none⟩ = some (.int .i64 (y 4)) ∧ W.cell? ⟨h, 5, none⟩ = some (.int .i64 (y 5)) ∧ W.cell? ⟨h, 6, none⟩ = some (.int .i64 (y 6)))) (ds := []) #[false, false, false, false, false, false, false, false, false] (by kernel_rfl) rfl rfl (by rw [H8.out]; exact ⟨pk, j0, j1, j2, j3, j4, j5, j6⟩) (fun hHeld => ?_)
        refine take_ (i := 0) (N := (some 30)) (v := ?_) (a' := ?_) #[true, false, false, false, false, false, false, false, false] rfl rfl (by kernel_rfl) (fun _ _ _ h => h) (Or.inl ⟨by rfl, ?_⟩) (by assumption) ?_ ?_
        rotate_left
        · intro w' hSw; (try dsimp only at hSw)
          go_simp
          try with_reducible rfl
        rotate_left
        · simp only [Act.put, List.setIfInBounds_toArray, List.set_cons_zero, List.set_cons_succ]
          rfl
        refine take_ (i := 1) (N := (some 31)) (v := ?_) (a' := ?_) #[true, true, false, false, false, false, false, false, false] rfl rfl (by kernel_rfl) (fun _ _ _ h => h) (Or.inl ⟨by rfl, ?_⟩) (by assumption) ?_ ?_
        rotate_left
        · intro w' hSw; (try dsimp only at hSw)
          go_simp
          try with_reducible rfl
        rotate_left
        · simp only [Act.put, List.setIfInBounds_toArray, List.set_cons_zero, List.set_cons_succ]
          rfl
        refine take_ (i := 2) (N := (some 32)) (v := ?_) (a' := ?_) #[true, true, true, false, false, false, false, false, false] rfl rfl (by kernel_rfl) (fun _ _ _ h => h) (Or.inl ⟨by rfl, ?_⟩) (by assumption) ?_ ?_
        rotate_left
        · intro w' hSw; (try dsimp only at hSw)
          go_simp
          try with_reducible rfl
        rotate_left
        · simp only [Act.put, List.setIfInBounds_toArray, List.set_cons_zero, List.set_cons_succ]
          rfl
        refine take_ (i := 3) (N := (some 33)) (v := ?_) (a' := ?_) #[true, true, true, true, false, false, false, false, false] rfl rfl (by kernel_rfl) (fun _ _ _ h => h) (Or.inl ⟨by rfl, ?_⟩) (by assumption) ?_ ?_
        rotate_left
        · intro w' hSw; (try dsimp only at hSw)
          go_simp
          try with_reducible rfl
        rotate_left
        · simp only [Act.put, List.setIfInBounds_toArray, List.set_cons_zero, List.set_cons_succ]
          rfl
        refine take_ (i := 4) (N := (some 34)) (v := ?_) (a' := ?_) #[true, true, true, true, true, false, false, false, false] rfl rfl (by kernel_rfl) (fun _ _ _ h => h) (Or.inl ⟨by rfl, ?_⟩) (by assumption) ?_ ?_
        rotate_left
        · intro w' hSw; (try dsimp only at hSw)
          go_simp
          try with_reducible rfl
        rotate_left
        · simp only [Act.put, List.setIfInBounds_toArray, List.set_cons_zero, List.set_cons_succ]
          rfl
        refine take_ (i := 5) (N := (some 35)) (v := ?_) (a' := ?_) #[true, true, true, true, true, true, false, false, false] rfl rfl (by kernel_rfl) (fun _ _ _ h => h) (Or.inl ⟨by rfl, ?_⟩) (by assumption) ?_ ?_
        rotate_left
        · intro w' hSw; (try dsimp only at hSw)
          go_simp
          try with_reducible rfl
        rotate_left
        · simp only [Act.put, List.setIfInBounds_toArray, List.set_cons_zero, List.set_cons_succ]
          rfl
        refine one_ (i := 6) (N := none) #[true, true, true, true, true, true, true, false, false] rfl rfl (by kernel_rfl) (by simp) (fun K hK => ?_)
        go_simp
        refine hK.out _ _ ?_ (fun hHeld => ?_)
        · exact ⟨lk, l0, l1, l2, l3, l4, l5, l6⟩
        clear hK K
        (try simp only [Act.put, List.setIfInBounds_toArray, List.set_cons_zero, List.set_cons_succ])
        refine one_ (i := 7) (N := none) #[true, true, true, true, true, true, true, true, false] rfl rfl (by kernel_rfl) (by simp) (fun K hK => ?_)
        go_simp
        refine hK.out _ _ ?_ (fun hHeld => ?_)
        · exact ⟨mk, m0, m1, m2, m3, m4, m5, m6⟩
        clear hK K
        (try simp only [Act.put, List.setIfInBounds_toArray, List.set_cons_zero, List.set_cons_succ])
        refine take_ (i := 8) (N := (some 6)) (v := ?_) (a' := ?_) #[true, true, true, true, true, true, true, true, true] rfl rfl (by kernel_rfl) (fun _ _ _ h => h) (Or.inl ⟨by rfl, ?_⟩) (by assumption) ?_ ?_
        rotate_left
        · intro w' hSw; (try dsimp only at hSw)
          go_simp
          try with_reducible rfl
        rotate_left
        · simp only [Act.put, List.setIfInBounds_toArray, List.set_cons_zero, List.set_cons_succ]
          rfl
        refine done_ (by kernel_rfl) ?_
        go_wp2
        rw [Hy.out] at hres
        refine bodyPost_ret (v := nextv (y, ((k : Int), x + 1), 0)) (by simp [results, Try.results70, go_sem, nextv, vf, dotv, zero7, e0, e1, e2, e3, e4, e5, e6, d0, d1]) rfl ⟨by rw [hres], hX5⟩

end Go.Proofs.Ytaiofbagdcpfgaa
