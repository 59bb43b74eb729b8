/- VecSteps: the walk of the law VecSteps. -/
import Derived.Test.YtaiofbagdcpfgaaVecBackLaw
import Derived.Test.YtaiofbagdcpfgaaVecHas
import Derived.Test.YtaiofbagdcpfgaaTallyAp
import Derived.Test.YtaiofbagdcpfgaaRegion
set_option linter.unusedVariables false
set_option linter.unusedSimpArgs false
set_option maxRecDepth 100000
namespace Go.Proofs.Ytaiofbagdcpfgaa
open Go.RowKit Go.Proofs.YtaiofbagdcpfgaaW.PrintWords Go.Proofs.YtaiofbagdcpfgaaW.PrintLast PackPure

theorem Is.rule' {w : World} {A : Option Addr} {l : List Int} (h : Is w A l) (i : Nat) (x : Int) (hi : l[i]? = some x) : ∃ a : Addr, A = some a ∧ ∀ W, Ext w W → W.cell? (a.add i) = some (.int .i64 x) := by
  obtain ⟨a, ha, h0⟩ := h i x hi
  exact ⟨a, ha, fun W e => e.cell h0⟩
/-- A step. -/
theorem next7_cases {v : V7} {r : Int} (hg : good7 v = true) :
    (∃ f d e, next7 v r = (f, d, e) ∧ e ≠ 0) ∨ (∃ f m, next7 v r = (f, (r, m), 0) ∧ good7 f = true ∧ has7 v r m = false ∧ has7 f r m = true ∧ cmp7 v f = -1 ∧ ∀ i, v i ≤ f i) := by
  unfold next7
  rw [hg, Bool.and_true]
  cases q : rep7 r with
  | false => exact Or.inl ⟨_, _, _, rfl, by decide⟩
  | true =>
    have hr : 0 ≤ r ∧ r < 7 := by simpa [rep7] using q
    rw [if_neg (by simp)]
    by_cases hm : v r.toNat = 1099511627776
    · rw [if_pos hm]
      exact Or.inl ⟨_, _, _, rfl, by decide⟩
    · rw [if_neg hm]
      have hv := good7_in hg
      have hvr := hv r.toNat (by omega)
      refine Or.inr ⟨_, _, rfl, all7_of fun i hi => decide_eq_true ?_, ?_, ?_, ?_, fun i => ?_⟩
      · simp only [upd]
        have := hv i hi
        split <;> omega
      · rw [has7, decide_eq_false (show ¬ (v r.toNat + 1 ≤ v r.toNat) from by omega), Bool.and_false]
      · rw [has7, q, decide_eq_true (show 1 ≤ v r.toNat + 1 from by omega), Bool.true_and, Bool.true_and]
        exact decide_eq_true (by simp [upd])
      · have h1 : eq7 v (upd v r.toNat (v r.toNat + 1)) = false := all7_not r.toNat (by omega) (decide_eq_false (by simp [upd]; omega))
        have h2 : le7 v (upd v r.toNat (v r.toNat + 1)) = true := le7_iff.2 fun i _ => by simp only [upd]; split <;> (try subst_vars) <;> omega
        simp [cmp7, h1, h2]
      · simp only [upd]
        split
        · rename_i h; rw [h]; omega
        · exact Int.le_refl _

set_option maxHeartbeats 8000000 in
theorem vsteps_any (a : V7) (A1 : Option Addr) (c1 : Nat) (reps : List Int) (w : World) (ha6 : In64 a) (hreps : Is w A1 reps) :
    Calls Try.prog 19 #[vf a, .slice A1 reps.length c1] w fun e w' => e = .returned (.bool true) ∧ Ext w w' := by
  obtain ⟨h, Hh⟩ : ∃ h, Hid (w.heap.size = h) := ⟨_, Lib.hid rfl⟩
  obtain ⟨w1, H1, S1, hx1, ha1, -, -⟩ := alloc7 w a 51 h Hh.out
  have hh := Hh.out
  have h1 := H1.out
  have ga := fun W => good_any a W
  unfold vf at ga ⊢
  go_enter Try.func19, Try.ntmps19
  go_wp2_with fail
  clear h1 hh
  refine (awake7_any _).mono ?_
  rintro e w2 ⟨rfl, hx2⟩
  have hX2 := hx1.trans hx2
  have hA2 := ha1.ext hx2
  by_cases h3 : 30 < reps.length
  · go_wp2
    all_goals go_ret
    all_goals exact ⟨rfl, hX2⟩
  obtain ⟨a0, a1, a2, a3, a4, a5, a6⟩ := hA2.cells0
  go_wp2_with fail
  refine (ga _).mono ?_
  rintro e w3 ⟨rfl, hx3⟩
  have hX3 := hX2.trans hx3
  clear a0 a1 a2 a3 a4 a5 a6
  cases q1 : good7 a with
  | false =>
    go_wp2
    all_goals go_ret
    all_goals exact ⟨rfl, hX3⟩
  | true =>
    have hA3 := hA2.ext hx3
    obtain ⟨h0, Hh0⟩ : ∃ h, Hid (w3.heap.size = h) := ⟨_, Lib.hid rfl⟩
    obtain ⟨w4, H4, -, hx4, hz4, fz4, -⟩ := alloc7 w3 (fun _ => 0) 51 h0 Hh0.out
    obtain ⟨w5, H5, hV5, kx5, kr5, kf5, -⟩ := put7 w4 h0 _ a hz4
    have hwh : w.heap.size ≤ h0 := by rw [← Hh0.out]; exact hX3.size
    have hne : h ≠ h0 := by rw [← Hh0.out]; exact Nat.ne_of_lt hA3.lt
    have hX5 := kx5 _ (hX3.trans hx4) hwh
    have hA5 := kr5 _ _ _ hne (hA3.ext hx4)
    have fV5 := kf5 _ _ fz4
    obtain ⟨a0, a1, a2, a3, a4, a5, a6⟩ := hA3.cells0
    obtain ⟨b0, b1, b2, b3, b4, b5, b6⟩ := (hA3.ext hx4).cells0
    obtain ⟨y0, y1, y2, y3, y4, y5, y6⟩ := hz4.cells0
    obtain ⟨z0, z1, z2, z3, z4, z5, z6⟩ := fz4.cells0
    have r4 := H4.out
    have r5 := H5.out
    have rh := Hh0.out
    go_wp2_with fail
    clear r4 r5 rh a0 a1 a2 a3 a4 a5 a6 b0 b1 b2 b3 b4 b5 b6 y0 y1 y2 y3 y4 y5 y6 z0 z1 z2 z3 z4 z5 z6
    go_loopw [6] (fun i wr => ∃ (k : Nat) (v : V7), k ≤ reps.length ∧ i = .int .i64 k ∧ Ext w wr ∧ At7 wr h 0 a ∧ At7 wr h0 0 v ∧ Fr7 wr h0 0 ∧ good7 v = true ∧ ∀ i, a i ≤ v i) (fun i _ => reps.length - (intOf i).toNat)
    case atStart => exact ⟨0, a, Nat.zero_le _, rfl, hX5, hA5, hV5, fV5, q1, fun i => Int.le_refl _⟩
    case round =>
      obtain ⟨k, v, hk, rfl, hX, hA, hV, fV, hg, hle⟩ := hrel
      have HG := Lib.hid hg
      clear hg
      by_cases hkl : k < reps.length
      · obtain ⟨ad, rfl, p0⟩ := hreps.rule' k _ (List.getElem?_eq_getElem hkl)
        obtain ⟨r, Hr⟩ : ∃ r, Hid (reps[k] = r) := ⟨_, Lib.hid rfl⟩
        have hrk : reps[k]? = some r := by rw [← Hr.out]; exact List.getElem?_eq_getElem hkl
        rw [Hr.out] at p0
        have hnc := next7_cases (r := r) HG.out
        obtain ⟨nf, ⟨dr, dm⟩, ne, HN⟩ : ∃ f d e, Hid (next7 v r = (f, d, e)) := ⟨_, _, _, Lib.hid rfl⟩
        have cn := fun W => next_any v r W
        rw [HN.out] at cn hnc
        unfold nextv at cn
        unfold vf dotv at cn
        dsimp only at cn
        obtain ⟨v0, v1, v2, v3, v4, v5, v6⟩ := hV.rules
        replace p0 := fun W (e : Ext wr W) => p0 W (hX.trans e)
        go_wp2_with fail
        refine start_ (n := 15) (S := (fun W => Ext wr W)) (ds := []) #[false, false, false, false, false, false, false, false, false, false, false, false, false, false, false] (by kernel_rfl) (by kernel_rfl) (by kernel_rfl) ((Ext.refl wr).drew) (fun hHeld => ?_)
        refine take_ (i := 0) (N := (some 29)) (v := ?_) (a' := ?_) #[true, false, false, false, false, false, false, false, false, false, false, false, false, false, false] rfl rfl (by kernel_rfl) (fun _ _ _ h => h) (Or.inl ⟨by rfl, ?_⟩) (by assumption) ?_ ?_
        rotate_left
        · intro w' hSw; (try dsimp only at hSw)
          go_simp
          try with_reducible rfl
        rotate_left
        · simp only [Act.put, List.setIfInBounds_toArray, List.set_cons_zero, List.set_cons_succ]
          rfl
        refine take_ (i := 1) (N := (some 30)) (v := ?_) (a' := ?_) #[true, true, false, false, false, false, false, false, false, false, false, false, false, false, false] rfl rfl (by kernel_rfl) (fun _ _ _ h => h) (Or.inl ⟨by rfl, ?_⟩) (by assumption) ?_ ?_
        rotate_left
        · intro w' hSw; (try dsimp only at hSw)
          go_simp
          try with_reducible rfl
        rotate_left
        · simp only [Act.put, List.setIfInBounds_toArray, List.set_cons_zero, List.set_cons_succ]
          rfl
        refine take_ (i := 2) (N := (some 31)) (v := ?_) (a' := ?_) #[true, true, true, false, false, false, false, false, false, false, false, false, false, false, false] rfl rfl (by kernel_rfl) (fun _ _ _ h => h) (Or.inl ⟨by rfl, ?_⟩) (by assumption) ?_ ?_
        rotate_left
        · intro w' hSw; (try dsimp only at hSw)
          go_simp
          try with_reducible rfl
        rotate_left
        · simp only [Act.put, List.setIfInBounds_toArray, List.set_cons_zero, List.set_cons_succ]
          rfl
        refine take_ (i := 3) (N := (some 32)) (v := ?_) (a' := ?_) #[true, true, true, true, false, false, false, false, false, false, false, false, false, false, false] rfl rfl (by kernel_rfl) (fun _ _ _ h => h) (Or.inl ⟨by rfl, ?_⟩) (by assumption) ?_ ?_
        rotate_left
        · intro w' hSw; (try dsimp only at hSw)
          go_simp
          try with_reducible rfl
        rotate_left
        · simp only [Act.put, List.setIfInBounds_toArray, List.set_cons_zero, List.set_cons_succ]
          rfl
        refine take_ (i := 4) (N := (some 33)) (v := ?_) (a' := ?_) #[true, true, true, true, true, false, false, false, false, false, false, false, false, false, false] rfl rfl (by kernel_rfl) (fun _ _ _ h => h) (Or.inl ⟨by rfl, ?_⟩) (by assumption) ?_ ?_
        rotate_left
        · intro w' hSw; (try dsimp only at hSw)
          go_simp
          try with_reducible rfl
        rotate_left
        · simp only [Act.put, List.setIfInBounds_toArray, List.set_cons_zero, List.set_cons_succ]
          rfl
        refine join_ (σ := Nat × Nat) 0 #[true, true, true, true, true, true, true, true, true, true, true, true, true, true, true] (fun s => [(7, .pointer (some ⟨s.1, 0, none⟩)), (8, .pointer (some ⟨s.2, 0, none⟩)), (9, .int .i64 ne), (34, .tuple #[.agg #[.int .i64 (nf 0), .int .i64 (nf 1), .int .i64 (nf 2), .int .i64 (nf 3), .int .i64 (nf 4), .int .i64 (nf 5), .int .i64 (nf 6)], .agg #[.int .i64 dr, .int .i64 dm], .int .i64 ne]), (28, .tuple #[.agg #[.int .i64 (nf 0), .int .i64 (nf 1), .int .i64 (nf 2), .int .i64 (nf 3), .int .i64 (nf 4), .int .i64 (nf 5), .int .i64 (nf 6)], .agg #[.int .i64 dr, .int .i64 dm], .int .i64 ne]), (35, .agg #[.int .i64 (nf 0), .int .i64 (nf 1), .int .i64 (nf 2), .int .i64 (nf 3), .int .i64 (nf 4), .int .i64 (nf 5), .int .i64 (nf 6)]), (36, .agg #[.int .i64 dr, .int .i64 dm]), (37, .int .i64 ne)]) (fun s W => Ext wr W ∧ At7 W s.1 0 nf ∧ At2 W s.2 dr dm) ?_ ?_
        · intro s wj hF
          simp only [putAll, Act.put, List.setIfInBounds_toArray, List.set_cons_zero, List.set_cons_succ]
          refine done_ (by kernel_rfl) ?_
          obtain ⟨g7, g8⟩ := s
          obtain ⟨hXj, hN, hD⟩ := hF
          dsimp only at hN hD
          clear v0 v1 v2 v3 v4 v5 v6 p0
          have hXw := hX.trans hXj
          rcases hnc with ⟨f, d, e, he, hne0⟩ | ⟨f, m, he, hg2, hh1, hh2, hcm, hlf⟩
          · simp only [Prod.mk.injEq] at he
            obtain ⟨rfl, rfl, rfl⟩ := he
            have hnb : (ne != 0) = true := by rw [bne_iff_ne]; exact hne0
            go_wp2
            go_roundw
            case rel => exact ⟨k + 1, v, by omega, by go_num, hXw, hA.ext hXj, hV.ext hXj, fV.ext hXj hV.lt, HG.out, hle⟩
            case measure => simp [intOf]; omega
          · simp only [Prod.mk.injEq] at he
            obtain ⟨rfl, ⟨rfl, rfl⟩, rfl⟩ := he
            have c2 := fun W => has_any v dr dm W
            have c3 := fun W => has_any nf dr dm W
            have c4 := fun W => cmp_any v nf W
            rw [hh1] at c2
            rw [hh2] at c3
            rw [hcm] at c4
            have HG2 := Lib.hid hg2
            clear hh1 hh2 hcm hg2
            unfold vf dotv at c2 c3
            unfold vf at c4
            have hV' := hV.ext hXj
            obtain ⟨v0, v1, v2, v3, v4, v5, v6⟩ := hV'.rules
            obtain ⟨n0, n1, n2, n3, n4, n5, n6⟩ := hN.rules
            obtain ⟨d0, d1⟩ := hD.rules
            obtain ⟨ad', had, p0⟩ := hreps.rule' k dr hrk
            obtain rfl : ad = ad' := by injection had
            replace p0 := fun W (e : Ext wj W) => p0 W (hXw.trans e)
            go_wp2_with fail
            refine start_ (n := 24) (S := (fun W => Ext wj W)) (ds := []) #[false, false, false, false, false, false, false, false, false, false, false, false, false, false, false, false, false, false, false, false, false, false, false, false] (by kernel_rfl) (by kernel_rfl) (by kernel_rfl) ((Ext.refl wj).drew) (fun hHeld => ?_)
            refine take_ (i := 0) (N := (some 40)) (v := ?_) (a' := ?_) #[true, false, false, false, false, false, false, false, false, false, false, false, false, false, false, false, false, false, false, false, false, false, false, false] rfl rfl (by kernel_rfl) (fun _ _ _ h => h) (Or.inl ⟨by rfl, ?_⟩) (by assumption) ?_ ?_
            rotate_left
            · intro w' hSw; (try dsimp only at hSw)
              go_simp
              try with_reducible rfl
            rotate_left
            · simp only [Act.put, List.setIfInBounds_toArray, List.set_cons_zero, List.set_cons_succ]
              rfl
            refine take_ (i := 1) (N := (some 41)) (v := ?_) (a' := ?_) #[true, true, false, false, false, false, false, false, false, false, false, false, false, false, false, false, false, false, false, false, false, false, false, false] rfl rfl (by kernel_rfl) (fun _ _ _ h => h) (Or.inl ⟨by rfl, ?_⟩) (by assumption) ?_ ?_
            rotate_left
            · intro w' hSw; (try dsimp only at hSw)
              go_simp
              try with_reducible rfl
            rotate_left
            · simp only [Act.put, List.setIfInBounds_toArray, List.set_cons_zero, List.set_cons_succ]
              rfl
            refine one_ (i := 2) (N := (some 42)) #[true, true, true, false, false, false, false, false, false, false, false, false, false, false, false, false, false, false, false, false, false, false, false, false] rfl rfl (by kernel_rfl) (by simp) (fun K hK => ?_)
            go_simp
            refine (c2 _).mono ?_
            rintro e u1 ⟨rfl, hu1⟩
            refine hK.out _ _ ?_ (fun hHeld => ?_)
            · first | assumption | exact hHeld.trans (by assumption)
            clear hK K
            (try simp only [Act.put, List.setIfInBounds_toArray, List.set_cons_zero, List.set_cons_succ])
            refine take_ (i := 3) (N := (some 43)) (v := ?_) (a' := ?_) #[true, true, true, true, false, false, false, false, false, false, false, false, false, false, false, false, false, false, false, false, false, false, false, false] rfl rfl (by kernel_rfl) (fun _ _ _ h => h) (Or.inl ⟨by rfl, ?_⟩) (by assumption) ?_ ?_
            rotate_left
            · intro w' hSw; (try dsimp only at hSw)
              go_simp
              try with_reducible rfl
            rotate_left
            · simp only [Act.put, List.setIfInBounds_toArray, List.set_cons_zero, List.set_cons_succ]
              rfl
            refine take_ (i := 4) (N := (some 44)) (v := ?_) (a' := ?_) #[true, true, true, true, true, false, false, false, false, false, false, false, false, false, false, false, false, false, false, false, false, false, false, false] rfl rfl (by kernel_rfl) (fun _ _ _ h => h) (Or.inl ⟨by rfl, ?_⟩) (by assumption) ?_ ?_
            rotate_left
            · intro w' hSw; (try dsimp only at hSw)
              go_simp
              try with_reducible rfl
            rotate_left
            · simp only [Act.put, List.setIfInBounds_toArray, List.set_cons_zero, List.set_cons_succ]
              rfl
            refine take_ (i := 5) (N := (some 45)) (v := ?_) (a' := ?_) #[true, true, true, true, true, true, false, false, false, false, false, false, false, false, false, false, false, false, false, false, false, false, false, false] rfl rfl (by kernel_rfl) (fun _ _ _ h => h) (Or.inl ⟨by rfl, ?_⟩) (by assumption) ?_ ?_
            rotate_left
            · intro w' hSw; (try dsimp only at hSw)
              go_simp
              try with_reducible rfl
            rotate_left
            · simp only [Act.put, List.setIfInBounds_toArray, List.set_cons_zero, List.set_cons_succ]
              rfl
            refine one_ (i := 6) (N := (some 46)) #[true, true, true, true, true, true, true, false, false, false, false, false, false, false, false, false, false, false, false, false, false, false, false, false] rfl rfl (by kernel_rfl) (by simp) (fun K hK => ?_)
            go_simp
            refine (c3 _).mono ?_
            rintro e u2 ⟨rfl, hu2⟩
            refine hK.out _ _ ?_ (fun hHeld => ?_)
            · first | assumption | exact hHeld.trans (by assumption)
            clear hK K
            (try simp only [Act.put, List.setIfInBounds_toArray, List.set_cons_zero, List.set_cons_succ])
            refine take_ (i := 7) (N := (some 47)) (v := ?_) (a' := ?_) #[true, true, true, true, true, true, true, true, false, false, false, false, false, false, false, false, false, false, false, false, false, false, false, false] rfl rfl (by kernel_rfl) (fun _ _ _ h => h) (Or.inl ⟨by rfl, ?_⟩) (by assumption) ?_ ?_
            rotate_left
            · intro w' hSw; (try dsimp only at hSw)
              go_simp
              try with_reducible rfl
            rotate_left
            · simp only [Act.put, List.setIfInBounds_toArray, List.set_cons_zero, List.set_cons_succ]
              rfl
            refine take_ (i := 8) (N := (some 48)) (v := ?_) (a' := ?_) #[true, true, true, true, true, true, true, true, true, false, false, false, false, false, false, false, false, false, false, false, false, false, false, false] rfl rfl (by kernel_rfl) (fun _ _ _ h => h) (Or.inl ⟨by rfl, ?_⟩) (by assumption) ?_ ?_
            rotate_left
            · intro w' hSw; (try dsimp only at hSw)
              go_simp
              try with_reducible rfl
            rotate_left
            · simp only [Act.put, List.setIfInBounds_toArray, List.set_cons_zero, List.set_cons_succ]
              rfl
            refine take_ (i := 9) (N := (some 49)) (v := ?_) (a' := ?_) #[true, true, true, true, true, true, true, true, true, true, false, false, false, false, false, false, false, false, false, false, false, false, false, false] rfl rfl (by kernel_rfl) (fun _ _ _ h => h) (Or.inl ⟨by rfl, ?_⟩) (by assumption) ?_ ?_
            rotate_left
            · intro w' hSw; (try dsimp only at hSw)
              go_simp
              try with_reducible rfl
            rotate_left
            · simp only [Act.put, List.setIfInBounds_toArray, List.set_cons_zero, List.set_cons_succ]
              rfl
            refine take_ (i := 10) (N := (some 50)) (v := ?_) (a' := ?_) #[true, true, true, true, true, true, true, true, true, true, true, false, false, false, false, false, false, false, false, false, false, false, false, false] rfl rfl (by kernel_rfl) (fun _ _ _ h => h) (Or.inl ⟨by rfl, ?_⟩) (by assumption) ?_ ?_
            rotate_left
            · intro w' hSw; (try dsimp only at hSw)
              go_simp
              try with_reducible rfl
            rotate_left
            · simp only [Act.put, List.setIfInBounds_toArray, List.set_cons_zero, List.set_cons_succ]
              rfl
            refine take_ (i := 11) (N := (some 51)) (v := ?_) (a' := ?_) #[true, true, true, true, true, true, true, true, true, true, true, true, false, false, false, false, false, false, false, false, false, false, false, false] rfl rfl (by kernel_rfl) (fun _ _ _ h => h) (Or.inl ⟨by rfl, ?_⟩) (by assumption) ?_ ?_
            rotate_left
            · intro w' hSw; (try dsimp only at hSw)
              go_simp
              try with_reducible rfl
            rotate_left
            · simp only [Act.put, List.setIfInBounds_toArray, List.set_cons_zero, List.set_cons_succ]
              rfl
            refine one_ (i := 12) (N := (some 52)) #[true, true, true, true, true, true, true, true, true, true, true, true, true, false, false, false, false, false, false, false, false, false, false, false] rfl rfl (by kernel_rfl) (by simp) (fun K hK => ?_)
            go_simp
            refine (c4 _).mono ?_
            rintro e u3 ⟨rfl, hu3⟩
            refine hK.out _ _ ?_ (fun hHeld => ?_)
            · first | assumption | exact hHeld.trans (by assumption)
            clear hK K
            (try simp only [Act.put, List.setIfInBounds_toArray, List.set_cons_zero, List.set_cons_succ])
            refine take_ (i := 13) (N := (some 53)) (v := ?_) (a' := ?_) #[true, true, true, true, true, true, true, true, true, true, true, true, true, true, false, false, false, false, false, false, false, false, false, false] rfl rfl (by kernel_rfl) (fun _ _ _ h => h) (Or.inl ⟨by rfl, ?_⟩) (by assumption) ?_ ?_
            rotate_left
            · intro w' hSw; (try dsimp only at hSw)
              go_simp
              try with_reducible rfl
            rotate_left
            · simp only [Act.put, List.setIfInBounds_toArray, List.set_cons_zero, List.set_cons_succ]
              rfl
            refine take_ (i := 14) (N := (some 54)) (v := ?_) (a' := ?_) #[true, true, true, true, true, true, true, true, true, true, true, true, true, true, true, false, false, false, false, false, false, false, false, false] rfl rfl (by kernel_rfl) (fun _ _ _ h => h) (Or.inl ⟨by rfl, ?_⟩) (by assumption) ?_ ?_
            rotate_left
            · intro w' hSw; (try dsimp only at hSw)
              go_simp
              try with_reducible rfl
            rotate_left
            · simp only [Act.put, List.setIfInBounds_toArray, List.set_cons_zero, List.set_cons_succ]
              rfl
            refine take_ (i := 15) (N := (some 55)) (v := ?_) (a' := ?_) #[true, true, true, true, true, true, true, true, true, true, true, true, true, true, true, true, false, false, false, false, false, false, false, false] rfl rfl (by kernel_rfl) (fun _ _ _ h => h) (Or.inl ⟨by rfl, ?_⟩) (by assumption) ?_ ?_
            rotate_left
            · intro w' hSw; (try dsimp only at hSw)
              go_simp
              try with_reducible rfl
            rotate_left
            · simp only [Act.put, List.setIfInBounds_toArray, List.set_cons_zero, List.set_cons_succ]
              rfl
            refine take_ (i := 16) (N := (some 56)) (v := ?_) (a' := ?_) #[true, true, true, true, true, true, true, true, true, true, true, true, true, true, true, true, true, false, false, false, false, false, false, false] rfl rfl (by kernel_rfl) (fun _ _ _ h => h) (Or.inl ⟨by rfl, ?_⟩) (by assumption) ?_ ?_
            rotate_left
            · intro w' hSw; (try dsimp only at hSw)
              go_simp
              try with_reducible rfl
            rotate_left
            · simp only [Act.put, List.setIfInBounds_toArray, List.set_cons_zero, List.set_cons_succ]
              rfl
            refine take_ (i := 17) (N := (some 57)) (v := ?_) (a' := ?_) #[true, true, true, true, true, true, true, true, true, true, true, true, true, true, true, true, true, true, false, false, false, false, false, false] rfl rfl (by kernel_rfl) (fun _ _ _ h => h) (Or.inl ⟨by rfl, ?_⟩) (by assumption) ?_ ?_
            rotate_left
            · intro w' hSw; (try dsimp only at hSw)
              go_simp
              try with_reducible rfl
            rotate_left
            · simp only [Act.put, List.setIfInBounds_toArray, List.set_cons_zero, List.set_cons_succ]
              rfl
            refine take_ (i := 18) (N := (some 58)) (v := ?_) (a' := ?_) #[true, true, true, true, true, true, true, true, true, true, true, true, true, true, true, true, true, true, true, false, false, false, false, false] rfl rfl (by kernel_rfl) (fun _ _ _ h => h) (Or.inl ⟨by rfl, ?_⟩) (by assumption) ?_ ?_
            rotate_left
            · intro w' hSw; (try dsimp only at hSw)
              go_simp
              try with_reducible rfl
            rotate_left
            · simp only [Act.put, List.setIfInBounds_toArray, List.set_cons_zero, List.set_cons_succ]
              rfl
            refine take_ (i := 19) (N := (some 59)) (v := ?_) (a' := ?_) #[true, true, true, true, true, true, true, true, true, true, true, true, true, true, true, true, true, true, true, true, false, false, false, false] rfl rfl (by kernel_rfl) (fun _ _ _ h => h) (Or.inl ⟨by rfl, ?_⟩) (by assumption) ?_ ?_
            rotate_left
            · intro w' hSw; (try dsimp only at hSw)
              go_simp
              try with_reducible rfl
            rotate_left
            · simp only [Act.put, List.setIfInBounds_toArray, List.set_cons_zero, List.set_cons_succ]
              rfl
            refine take_ (i := 20) (N := (some 60)) (v := ?_) (a' := ?_) #[true, true, true, true, true, true, true, true, true, true, true, true, true, true, true, true, true, true, true, true, true, false, false, false] rfl rfl (by kernel_rfl) (fun _ _ _ h => h) (Or.inl ⟨by rfl, ?_⟩) (by assumption) ?_ ?_
            rotate_left
            · intro w' hSw; (try dsimp only at hSw)
              go_simp
              try with_reducible rfl
            rotate_left
            · simp only [Act.put, List.setIfInBounds_toArray, List.set_cons_zero, List.set_cons_succ]
              rfl
            refine take_ (i := 21) (N := (some 61)) (v := ?_) (a' := ?_) #[true, true, true, true, true, true, true, true, true, true, true, true, true, true, true, true, true, true, true, true, true, true, false, false] rfl rfl (by kernel_rfl) (fun _ _ _ h => h) (Or.inl ⟨by rfl, ?_⟩) (by assumption) ?_ ?_
            rotate_left
            · intro w' hSw; (try dsimp only at hSw)
              go_simp
              try with_reducible rfl
            rotate_left
            · simp only [Act.put, List.setIfInBounds_toArray, List.set_cons_zero, List.set_cons_succ]
              rfl
            refine take_ (i := 22) (N := (some 62)) (v := ?_) (a' := ?_) #[true, true, true, true, true, true, true, true, true, true, true, true, true, true, true, true, true, true, true, true, true, true, true, false] rfl rfl (by kernel_rfl) (fun _ _ _ h => h) (Or.inl ⟨by rfl, ?_⟩) (by assumption) ?_ ?_
            rotate_left
            · intro w' hSw; (try dsimp only at hSw)
              go_simp
              try with_reducible rfl
            rotate_left
            · simp only [Act.put, List.setIfInBounds_toArray, List.set_cons_zero, List.set_cons_succ]
              rfl
            refine take_ (i := 23) (N := (some 63)) (v := ?_) (a' := ?_) #[true, true, true, true, true, true, true, true, true, true, true, true, true, true, true, true, true, true, true, true, true, true, true, true] rfl rfl (by kernel_rfl) (fun _ _ _ h => h) (Or.inl ⟨by rfl, ?_⟩) (by assumption) ?_ ?_
            rotate_left
            · intro w' hSw; (try dsimp only at hSw)
              go_simp
              try with_reducible rfl
            rotate_left
            · simp only [Act.put, List.setIfInBounds_toArray, List.set_cons_zero, List.set_cons_succ]
              rfl
            refine done_ (by kernel_rfl) ?_
            clear v0 v1 v2 v3 v4 v5 v6 n0 n1 n2 n3 n4 n5 n6 d0 d1 p0
            obtain ⟨u4, U4, hV9, kx9, kr9, kf9, -⟩ := put7 u3 h0 _ nf (hV'.ext hHeld)
            have fV9 := (fV.ext hXj hV.lt).ext hHeld hV'.lt
            obtain ⟨n0, n1, n2, n3, n4, n5, n6⟩ := (hN.ext hHeld).cells0
            obtain ⟨y0, y1, y2, y3, y4, y5, y6⟩ := (hV'.ext hHeld).cells0
            obtain ⟨z0, z1, z2, z3, z4, z5, z6⟩ := fV9.cells0
            have ru := U4.out
            go_wp2
            go_roundw
            case rel => exact ⟨k + 1, nf, by omega, by go_num, kx9 _ (hXw.trans hHeld) hwh, kr9 _ _ _ hne ((hA.ext hXj).ext hHeld), hV9, kf9 _ _ fV9, HG2.out, fun i => Int.le_trans (hle i) (hlf i)⟩
            case measure => simp [intOf]; omega
        · intro hJ
          refine three_ (i := 5) (Ni := (some 34)) (j := 10) (Nj := (some 7)) (k := 11) (Nk := (some 8)) #[true, true, true, true, true, true, false, false, false, false, false, false, false, false, false] #[true, true, true, true, true, false, false, false, false, false, true, false, false, false, false] #[true, true, true, true, true, false, false, false, false, false, false, true, false, false, false] rfl rfl rfl rfl rfl rfl (by kernel_rfl) (by simp) (by simp) (by simp) (fun K hK => ?_) (fun K hK => ?_) (fun K hK => ?_)
          · go_simp
            refine (cn _).mono ?_
            rintro e v1w ⟨rfl, x1⟩
            have X1 := Ext.trans ((Ext.refl wr).drew) x1
            refine hK.out _ _ ?_ (fun hHeld => ?_)
            · exact X1
            clear hK K
            (try simp only [Act.put, List.setIfInBounds_toArray, List.set_cons_zero, List.set_cons_succ])
            refine take_ (i := 6) (N := (some 28)) (v := ?_) (a' := ?_) #[true, true, true, true, true, true, true, false, false, false, false, false, false, false, false] rfl rfl (by kernel_rfl) (fun _ _ _ h => h) (Or.inl ⟨by rfl, ?_⟩) (by assumption) ?_ ?_
            rotate_left
            · intro w' hSw; (try dsimp only at hSw)
              go_simp
              try with_reducible rfl
            rotate_left
            · simp only [Act.put, List.setIfInBounds_toArray, List.set_cons_zero, List.set_cons_succ]
              rfl
            refine take_ (i := 7) (N := (some 35)) (v := ?_) (a' := ?_) #[true, true, true, true, true, true, true, true, false, false, false, false, false, false, false] rfl rfl (by kernel_rfl) (fun _ _ _ h => h) (Or.inl ⟨by rfl, ?_⟩) (by assumption) ?_ ?_
            rotate_left
            · intro w' hSw; (try dsimp only at hSw)
              go_simp
              try with_reducible rfl
            rotate_left
            · simp only [Act.put, List.setIfInBounds_toArray, List.set_cons_zero, List.set_cons_succ]
              rfl
            refine take_ (i := 8) (N := (some 36)) (v := ?_) (a' := ?_) #[true, true, true, true, true, true, true, true, true, false, false, false, false, false, false] rfl rfl (by kernel_rfl) (fun _ _ _ h => h) (Or.inl ⟨by rfl, ?_⟩) (by assumption) ?_ ?_
            rotate_left
            · intro w' hSw; (try dsimp only at hSw)
              go_simp
              try with_reducible rfl
            rotate_left
            · simp only [Act.put, List.setIfInBounds_toArray, List.set_cons_zero, List.set_cons_succ]
              rfl
            refine take_ (i := 9) (N := (some 37)) (v := ?_) (a' := ?_) #[true, true, true, true, true, true, true, true, true, true, false, false, false, false, false] rfl rfl (by kernel_rfl) (fun _ _ _ h => h) (Or.inl ⟨by rfl, ?_⟩) (by assumption) ?_ ?_
            rotate_left
            · intro w' hSw; (try dsimp only at hSw)
              go_simp
              try with_reducible rfl
            rotate_left
            · simp only [Act.put, List.setIfInBounds_toArray, List.set_cons_zero, List.set_cons_succ]
              rfl
            refine two_ (i := 10) (Ni := (some 7)) (j := 11) (Nj := (some 8)) #[true, true, true, true, true, true, true, true, true, true, true, false, false, false, false] #[true, true, true, true, true, true, true, true, true, true, false, true, false, false, false] rfl rfl rfl rfl (by kernel_rfl) (by simp) (by simp) (fun K hK => ?_) (fun K hK => ?_)
            · obtain ⟨g2, G2⟩ : ∃ g, Hid ((World.heap (v1w)).size = g) := ⟨_, Lib.hid rfl⟩
              obtain ⟨v2w, V2, -, x2, at2, fr2, kk2⟩ := alloc7 (v1w) (fun _ => 0) 51 g2 G2.out
              have X2 := Ext.trans (X1) x2
              have le2 : wr.heap.size ≤ g2 := by rw [← G2.out]; exact Ext.size (X1)
              have rg2 := G2.out
              have rv2 := V2.out
              go_simp
              clear rg2 rv2
              refine hK.out _ _ ?_ (fun hHeld => ?_)
              · exact X2
              clear hK K
              (try simp only [Act.put, List.setIfInBounds_toArray, List.set_cons_zero, List.set_cons_succ])
              refine one_ (i := 11) (N := (some 8)) #[true, true, true, true, true, true, true, true, true, true, true, true, false, false, false] rfl rfl (by kernel_rfl) (by simp) (fun K hK => ?_)
              obtain ⟨g3, G3⟩ : ∃ g, Hid ((World.heap (v2w)).size = g) := ⟨_, Lib.hid rfl⟩
              obtain ⟨v3w, V3, -, x3, at3, fr3, kk3⟩ := alloc2 (v2w) 0 0 57 g3 G3.out
              have X3 := Ext.trans (X2) x3
              have le3 : wr.heap.size ≤ g3 := by rw [← G3.out]; exact Ext.size (X2)
              have ne3_10 : g3 ≠ g2 := by rw [← G3.out]; exact Nat.ne_of_gt at2.lt
              have fr3_10 := fr2.ext x3 at2.lt
              have at3_10 := at2.ext x3
              have rg3 := G3.out
              have rv3 := V3.out
              go_simp
              clear rg3 rv3
              refine hK.out _ _ ?_ (fun hHeld => ?_)
              · exact X3
              clear hK K
              (try simp only [Act.put, List.setIfInBounds_toArray, List.set_cons_zero, List.set_cons_succ])
              refine one_ (i := 12) (N := none) #[true, true, true, true, true, true, true, true, true, true, true, true, true, false, false] rfl rfl (by kernel_rfl) (by simp) (fun K hK => ?_)
              obtain ⟨v4w, V4, at4, kx4, kr4, kf4, -⟩ := put7 (v3w) g2 _ nf at3_10
              obtain ⟨y0, y1, y2, y3, y4, y5, y6⟩ := at3_10.cells0
              obtain ⟨z0, z1, z2, z3, z4, z5, z6⟩ := fr3_10.cells0
              have rv4 := V4.out
              have X4 := kx4 wr (X3) le2
              go_simp
              clear rv4 y0 y1 y2 y3 y4 y5 y6 z0 z1 z2 z3 z4 z5 z6
              obtain ⟨at4_11, fr4_11⟩ := put7_2 (f' := nf) V4 at3 fr3 (Ne.symm ne3_10)
              have fr4 := kf4 _ _ fr3_10
              refine hK.out _ _ ?_ (fun hHeld => ?_)
              · exact X4
              clear hK K
              (try simp only [Act.put, List.setIfInBounds_toArray, List.set_cons_zero, List.set_cons_succ])
              refine one_ (i := 13) (N := none) #[true, true, true, true, true, true, true, true, true, true, true, true, true, true, false] rfl rfl (by kernel_rfl) (by simp) (fun K hK => ?_)
              obtain ⟨v5w, V5, at5, kx5, kr5⟩ := put2 (v4w) g3 0 0 dr dm at4_11
              obtain ⟨y0, y1⟩ := at4_11
              obtain ⟨z0, z1⟩ := fr4_11
              have rv5 := V5.out
              have X5 := kx5 wr (X4) le3
              go_simp
              clear rv5 y0 y1 z0 z1
              have at5_10 := kr5 _ _ _ (Ne.symm ne3_10) at4
              refine hK.out _ _ ?_ (fun hHeld => ?_)
              · exact X5
              clear hK K
              (try simp only [Act.put, List.setIfInBounds_toArray, List.set_cons_zero, List.set_cons_succ])
              refine take_ (i := 14) (N := (some 9)) (v := ?_) (a' := ?_) #[true, true, true, true, true, true, true, true, true, true, true, true, true, true, true] rfl rfl (by kernel_rfl) (fun _ _ _ h => h) (Or.inl ⟨by rfl, ?_⟩) (by assumption) ?_ ?_
              rotate_left
              · intro w' hSw; (try dsimp only at hSw)
                go_simp
                try with_reducible rfl
              rotate_left
              · simp only [Act.put, List.setIfInBounds_toArray, List.set_cons_zero, List.set_cons_succ]
                rfl
              have hj := hJ (g2, g3) _ ⟨X5, at5_10, at5⟩
              simp only [putAll, Act.put, List.setIfInBounds_toArray, List.set_cons_zero, List.set_cons_succ] at hj
              exact hj
            · obtain ⟨g6, G6⟩ : ∃ g, Hid ((World.heap (v1w)).size = g) := ⟨_, Lib.hid rfl⟩
              obtain ⟨v6w, V6, -, x6, at6, fr6, kk6⟩ := alloc2 (v1w) 0 0 57 g6 G6.out
              have X6 := Ext.trans (X1) x6
              have le6 : wr.heap.size ≤ g6 := by rw [← G6.out]; exact Ext.size (X1)
              have rg6 := G6.out
              have rv6 := V6.out
              go_simp
              clear rg6 rv6
              refine hK.out _ _ ?_ (fun hHeld => ?_)
              · exact X6
              clear hK K
              (try simp only [Act.put, List.setIfInBounds_toArray, List.set_cons_zero, List.set_cons_succ])
              refine one_ (i := 10) (N := (some 7)) #[true, true, true, true, true, true, true, true, true, true, true, true, false, false, false] rfl rfl (by kernel_rfl) (by simp) (fun K hK => ?_)
              obtain ⟨g7, G7⟩ : ∃ g, Hid ((World.heap (v6w)).size = g) := ⟨_, Lib.hid rfl⟩
              obtain ⟨v7w, V7, -, x7, at7, fr7, kk7⟩ := alloc7 (v6w) (fun _ => 0) 51 g7 G7.out
              have X7 := Ext.trans (X6) x7
              have le7 : wr.heap.size ≤ g7 := by rw [← G7.out]; exact Ext.size (X6)
              have ne7_11 : g7 ≠ g6 := by rw [← G7.out]; exact Nat.ne_of_gt at6.lt
              have fr7_11 := fr6.ext x7 at6.lt
              have at7_11 := at6.ext x7
              have rg7 := G7.out
              have rv7 := V7.out
              go_simp
              clear rg7 rv7
              refine hK.out _ _ ?_ (fun hHeld => ?_)
              · exact X7
              clear hK K
              (try simp only [Act.put, List.setIfInBounds_toArray, List.set_cons_zero, List.set_cons_succ])
              refine one_ (i := 12) (N := none) #[true, true, true, true, true, true, true, true, true, true, true, true, true, false, false] rfl rfl (by kernel_rfl) (by simp) (fun K hK => ?_)
              obtain ⟨v8w, V8, at8, kx8, kr8, kf8, -⟩ := put7 (v7w) g7 _ nf at7
              obtain ⟨y0, y1, y2, y3, y4, y5, y6⟩ := at7.cells0
              obtain ⟨z0, z1, z2, z3, z4, z5, z6⟩ := fr7.cells0
              have rv8 := V8.out
              have X8 := kx8 wr (X7) le7
              go_simp
              clear rv8 y0 y1 y2 y3 y4 y5 y6 z0 z1 z2 z3 z4 z5 z6
              obtain ⟨at8_11, fr8_11⟩ := put7_2 (f' := nf) V8 at7_11 fr7_11 ne7_11
              have fr8 := kf8 _ _ fr7
              refine hK.out _ _ ?_ (fun hHeld => ?_)
              · exact X8
              clear hK K
              (try simp only [Act.put, List.setIfInBounds_toArray, List.set_cons_zero, List.set_cons_succ])
              refine one_ (i := 13) (N := none) #[true, true, true, true, true, true, true, true, true, true, true, true, true, true, false] rfl rfl (by kernel_rfl) (by simp) (fun K hK => ?_)
              obtain ⟨v9w, V9, at9, kx9, kr9⟩ := put2 (v8w) g6 0 0 dr dm at8_11
              obtain ⟨y0, y1⟩ := at8_11
              obtain ⟨z0, z1⟩ := fr8_11
              have rv9 := V9.out
              have X9 := kx9 wr (X8) le6
              go_simp
              clear rv9 y0 y1 z0 z1
              have at9_10 := kr9 _ _ _ ne7_11 at8
              refine hK.out _ _ ?_ (fun hHeld => ?_)
              · exact X9
              clear hK K
              (try simp only [Act.put, List.setIfInBounds_toArray, List.set_cons_zero, List.set_cons_succ])
              refine take_ (i := 14) (N := (some 9)) (v := ?_) (a' := ?_) #[true, true, true, true, true, true, true, true, true, true, true, true, true, true, true] rfl rfl (by kernel_rfl) (fun _ _ _ h => h) (Or.inl ⟨by rfl, ?_⟩) (by assumption) ?_ ?_
              rotate_left
              · intro w' hSw; (try dsimp only at hSw)
                go_simp
                try with_reducible rfl
              rotate_left
              · simp only [Act.put, List.setIfInBounds_toArray, List.set_cons_zero, List.set_cons_succ]
                rfl
              have hj := hJ (g7, g6) _ ⟨X9, at9_10, at9⟩
              simp only [putAll, Act.put, List.setIfInBounds_toArray, List.set_cons_zero, List.set_cons_succ] at hj
              exact hj
          · obtain ⟨g10, G10⟩ : ∃ g, Hid ((World.heap (wr.drew)).size = g) := ⟨_, Lib.hid rfl⟩
            obtain ⟨v10w, V10, -, x10, at10, fr10, kk10⟩ := alloc7 (wr.drew) (fun _ => 0) 51 g10 G10.out
            have X10 := Ext.trans ((Ext.refl wr).drew) x10
            have le10 : wr.heap.size ≤ g10 := by rw [← G10.out]; exact Ext.size ((Ext.refl wr).drew)
            have rg10 := G10.out
            have rv10 := V10.out
            go_simp
            clear rg10 rv10
            refine hK.out _ _ ?_ (fun hHeld => ?_)
            · exact X10
            clear hK K
            (try simp only [Act.put, List.setIfInBounds_toArray, List.set_cons_zero, List.set_cons_succ])
            refine two_ (i := 5) (Ni := (some 34)) (j := 11) (Nj := (some 8)) #[true, true, true, true, true, true, false, false, false, false, true, false, false, false, false] #[true, true, true, true, true, false, false, false, false, false, true, true, false, false, false] rfl rfl rfl rfl (by kernel_rfl) (by simp) (by simp) (fun K hK => ?_) (fun K hK => ?_)
            · go_simp
              refine (cn _).mono ?_
              rintro e v11w ⟨rfl, x11⟩
              have X11 := Ext.trans (X10) x11
              have fr11_10 := fr10.ext x11 at10.lt
              have at11_10 := at10.ext x11
              refine hK.out _ _ ?_ (fun hHeld => ?_)
              · exact X11
              clear hK K
              (try simp only [Act.put, List.setIfInBounds_toArray, List.set_cons_zero, List.set_cons_succ])
              refine take_ (i := 6) (N := (some 28)) (v := ?_) (a' := ?_) #[true, true, true, true, true, true, true, false, false, false, true, false, false, false, false] rfl rfl (by kernel_rfl) (fun _ _ _ h => h) (Or.inl ⟨by rfl, ?_⟩) (by assumption) ?_ ?_
              rotate_left
              · intro w' hSw; (try dsimp only at hSw)
                go_simp
                try with_reducible rfl
              rotate_left
              · simp only [Act.put, List.setIfInBounds_toArray, List.set_cons_zero, List.set_cons_succ]
                rfl
              refine take_ (i := 7) (N := (some 35)) (v := ?_) (a' := ?_) #[true, true, true, true, true, true, true, true, false, false, true, false, false, false, false] rfl rfl (by kernel_rfl) (fun _ _ _ h => h) (Or.inl ⟨by rfl, ?_⟩) (by assumption) ?_ ?_
              rotate_left
              · intro w' hSw; (try dsimp only at hSw)
                go_simp
                try with_reducible rfl
              rotate_left
              · simp only [Act.put, List.setIfInBounds_toArray, List.set_cons_zero, List.set_cons_succ]
                rfl
              refine take_ (i := 8) (N := (some 36)) (v := ?_) (a' := ?_) #[true, true, true, true, true, true, true, true, true, false, true, false, false, false, false] rfl rfl (by kernel_rfl) (fun _ _ _ h => h) (Or.inl ⟨by rfl, ?_⟩) (by assumption) ?_ ?_
              rotate_left
              · intro w' hSw; (try dsimp only at hSw)
                go_simp
                try with_reducible rfl
              rotate_left
              · simp only [Act.put, List.setIfInBounds_toArray, List.set_cons_zero, List.set_cons_succ]
                rfl
              refine take_ (i := 9) (N := (some 37)) (v := ?_) (a' := ?_) #[true, true, true, true, true, true, true, true, true, true, true, false, false, false, false] rfl rfl (by kernel_rfl) (fun _ _ _ h => h) (Or.inl ⟨by rfl, ?_⟩) (by assumption) ?_ ?_
              rotate_left
              · intro w' hSw; (try dsimp only at hSw)
                go_simp
                try with_reducible rfl
              rotate_left
              · simp only [Act.put, List.setIfInBounds_toArray, List.set_cons_zero, List.set_cons_succ]
                rfl
              refine one_ (i := 11) (N := (some 8)) #[true, true, true, true, true, true, true, true, true, true, true, true, false, false, false] rfl rfl (by kernel_rfl) (by simp) (fun K hK => ?_)
              obtain ⟨g12, G12⟩ : ∃ g, Hid ((World.heap (v11w)).size = g) := ⟨_, Lib.hid rfl⟩
              obtain ⟨v12w, V12, -, x12, at12, fr12, kk12⟩ := alloc2 (v11w) 0 0 57 g12 G12.out
              have X12 := Ext.trans (X11) x12
              have le12 : wr.heap.size ≤ g12 := by rw [← G12.out]; exact Ext.size (X11)
              have ne12_10 : g12 ≠ g10 := by rw [← G12.out]; exact Nat.ne_of_gt at11_10.lt
              have fr12_10 := fr11_10.ext x12 at11_10.lt
              have at12_10 := at11_10.ext x12
              have rg12 := G12.out
              have rv12 := V12.out
              go_simp
              clear rg12 rv12
              refine hK.out _ _ ?_ (fun hHeld => ?_)
              · exact X12
              clear hK K
              (try simp only [Act.put, List.setIfInBounds_toArray, List.set_cons_zero, List.set_cons_succ])
              refine one_ (i := 12) (N := none) #[true, true, true, true, true, true, true, true, true, true, true, true, true, false, false] rfl rfl (by kernel_rfl) (by simp) (fun K hK => ?_)
              obtain ⟨v13w, V13, at13, kx13, kr13, kf13, -⟩ := put7 (v12w) g10 _ nf at12_10
              obtain ⟨y0, y1, y2, y3, y4, y5, y6⟩ := at12_10.cells0
              obtain ⟨z0, z1, z2, z3, z4, z5, z6⟩ := fr12_10.cells0
              have rv13 := V13.out
              have X13 := kx13 wr (X12) le10
              go_simp
              clear rv13 y0 y1 y2 y3 y4 y5 y6 z0 z1 z2 z3 z4 z5 z6
              obtain ⟨at13_11, fr13_11⟩ := put7_2 (f' := nf) V13 at12 fr12 (Ne.symm ne12_10)
              have fr13 := kf13 _ _ fr12_10
              refine hK.out _ _ ?_ (fun hHeld => ?_)
              · exact X13
              clear hK K
              (try simp only [Act.put, List.setIfInBounds_toArray, List.set_cons_zero, List.set_cons_succ])
              refine one_ (i := 13) (N := none) #[true, true, true, true, true, true, true, true, true, true, true, true, true, true, false] rfl rfl (by kernel_rfl) (by simp) (fun K hK => ?_)
              obtain ⟨v14w, V14, at14, kx14, kr14⟩ := put2 (v13w) g12 0 0 dr dm at13_11
              obtain ⟨y0, y1⟩ := at13_11
              obtain ⟨z0, z1⟩ := fr13_11
              have rv14 := V14.out
              have X14 := kx14 wr (X13) le12
              go_simp
              clear rv14 y0 y1 z0 z1
              have at14_10 := kr14 _ _ _ (Ne.symm ne12_10) at13
              refine hK.out _ _ ?_ (fun hHeld => ?_)
              · exact X14
              clear hK K
              (try simp only [Act.put, List.setIfInBounds_toArray, List.set_cons_zero, List.set_cons_succ])
              refine take_ (i := 14) (N := (some 9)) (v := ?_) (a' := ?_) #[true, true, true, true, true, true, true, true, true, true, true, true, true, true, true] rfl rfl (by kernel_rfl) (fun _ _ _ h => h) (Or.inl ⟨by rfl, ?_⟩) (by assumption) ?_ ?_
              rotate_left
              · intro w' hSw; (try dsimp only at hSw)
                go_simp
                try with_reducible rfl
              rotate_left
              · simp only [Act.put, List.setIfInBounds_toArray, List.set_cons_zero, List.set_cons_succ]
                rfl
              have hj := hJ (g10, g12) _ ⟨X14, at14_10, at14⟩
              simp only [putAll, Act.put, List.setIfInBounds_toArray, List.set_cons_zero, List.set_cons_succ] at hj
              exact hj
            · obtain ⟨g15, G15⟩ : ∃ g, Hid ((World.heap (v10w)).size = g) := ⟨_, Lib.hid rfl⟩
              obtain ⟨v15w, V15, -, x15, at15, fr15, kk15⟩ := alloc2 (v10w) 0 0 57 g15 G15.out
              have X15 := Ext.trans (X10) x15
              have le15 : wr.heap.size ≤ g15 := by rw [← G15.out]; exact Ext.size (X10)
              have ne15_10 : g15 ≠ g10 := by rw [← G15.out]; exact Nat.ne_of_gt at10.lt
              have fr15_10 := fr10.ext x15 at10.lt
              have at15_10 := at10.ext x15
              have rg15 := G15.out
              have rv15 := V15.out
              go_simp
              clear rg15 rv15
              refine hK.out _ _ ?_ (fun hHeld => ?_)
              · exact X15
              clear hK K
              (try simp only [Act.put, List.setIfInBounds_toArray, List.set_cons_zero, List.set_cons_succ])
              refine one_ (i := 5) (N := (some 34)) #[true, true, true, true, true, true, false, false, false, false, true, true, false, false, false] rfl rfl (by kernel_rfl) (by simp) (fun K hK => ?_)
              go_simp
              refine (cn _).mono ?_
              rintro e v16w ⟨rfl, x16⟩
              have X16 := Ext.trans (X15) x16
              have fr16_10 := fr15_10.ext x16 at15_10.lt
              have at16_10 := at15_10.ext x16
              have fr16_11 := fr15.ext x16 at15.lt
              have at16_11 := at15.ext x16
              refine hK.out _ _ ?_ (fun hHeld => ?_)
              · exact X16
              clear hK K
              (try simp only [Act.put, List.setIfInBounds_toArray, List.set_cons_zero, List.set_cons_succ])
              refine take_ (i := 6) (N := (some 28)) (v := ?_) (a' := ?_) #[true, true, true, true, true, true, true, false, false, false, true, true, false, false, false] rfl rfl (by kernel_rfl) (fun _ _ _ h => h) (Or.inl ⟨by rfl, ?_⟩) (by assumption) ?_ ?_
              rotate_left
              · intro w' hSw; (try dsimp only at hSw)
                go_simp
                try with_reducible rfl
              rotate_left
              · simp only [Act.put, List.setIfInBounds_toArray, List.set_cons_zero, List.set_cons_succ]
                rfl
              refine take_ (i := 7) (N := (some 35)) (v := ?_) (a' := ?_) #[true, true, true, true, true, true, true, true, false, false, true, true, false, false, false] rfl rfl (by kernel_rfl) (fun _ _ _ h => h) (Or.inl ⟨by rfl, ?_⟩) (by assumption) ?_ ?_
              rotate_left
              · intro w' hSw; (try dsimp only at hSw)
                go_simp
                try with_reducible rfl
              rotate_left
              · simp only [Act.put, List.setIfInBounds_toArray, List.set_cons_zero, List.set_cons_succ]
                rfl
              refine take_ (i := 8) (N := (some 36)) (v := ?_) (a' := ?_) #[true, true, true, true, true, true, true, true, true, false, true, true, false, false, false] rfl rfl (by kernel_rfl) (fun _ _ _ h => h) (Or.inl ⟨by rfl, ?_⟩) (by assumption) ?_ ?_
              rotate_left
              · intro w' hSw; (try dsimp only at hSw)
                go_simp
                try with_reducible rfl
              rotate_left
              · simp only [Act.put, List.setIfInBounds_toArray, List.set_cons_zero, List.set_cons_succ]
                rfl
              refine take_ (i := 9) (N := (some 37)) (v := ?_) (a' := ?_) #[true, true, true, true, true, true, true, true, true, true, true, true, false, false, false] rfl rfl (by kernel_rfl) (fun _ _ _ h => h) (Or.inl ⟨by rfl, ?_⟩) (by assumption) ?_ ?_
              rotate_left
              · intro w' hSw; (try dsimp only at hSw)
                go_simp
                try with_reducible rfl
              rotate_left
              · simp only [Act.put, List.setIfInBounds_toArray, List.set_cons_zero, List.set_cons_succ]
                rfl
              refine one_ (i := 12) (N := none) #[true, true, true, true, true, true, true, true, true, true, true, true, true, false, false] rfl rfl (by kernel_rfl) (by simp) (fun K hK => ?_)
              obtain ⟨v17w, V17, at17, kx17, kr17, kf17, -⟩ := put7 (v16w) g10 _ nf at16_10
              obtain ⟨y0, y1, y2, y3, y4, y5, y6⟩ := at16_10.cells0
              obtain ⟨z0, z1, z2, z3, z4, z5, z6⟩ := fr16_10.cells0
              have rv17 := V17.out
              have X17 := kx17 wr (X16) le10
              go_simp
              clear rv17 y0 y1 y2 y3 y4 y5 y6 z0 z1 z2 z3 z4 z5 z6
              obtain ⟨at17_11, fr17_11⟩ := put7_2 (f' := nf) V17 at16_11 fr16_11 (Ne.symm ne15_10)
              have fr17 := kf17 _ _ fr16_10
              refine hK.out _ _ ?_ (fun hHeld => ?_)
              · exact X17
              clear hK K
              (try simp only [Act.put, List.setIfInBounds_toArray, List.set_cons_zero, List.set_cons_succ])
              refine one_ (i := 13) (N := none) #[true, true, true, true, true, true, true, true, true, true, true, true, true, true, false] rfl rfl (by kernel_rfl) (by simp) (fun K hK => ?_)
              obtain ⟨v18w, V18, at18, kx18, kr18⟩ := put2 (v17w) g15 0 0 dr dm at17_11
              obtain ⟨y0, y1⟩ := at17_11
              obtain ⟨z0, z1⟩ := fr17_11
              have rv18 := V18.out
              have X18 := kx18 wr (X17) le15
              go_simp
              clear rv18 y0 y1 z0 z1
              have at18_10 := kr18 _ _ _ (Ne.symm ne15_10) at17
              refine hK.out _ _ ?_ (fun hHeld => ?_)
              · exact X18
              clear hK K
              (try simp only [Act.put, List.setIfInBounds_toArray, List.set_cons_zero, List.set_cons_succ])
              refine take_ (i := 14) (N := (some 9)) (v := ?_) (a' := ?_) #[true, true, true, true, true, true, true, true, true, true, true, true, true, true, true] rfl rfl (by kernel_rfl) (fun _ _ _ h => h) (Or.inl ⟨by rfl, ?_⟩) (by assumption) ?_ ?_
              rotate_left
              · intro w' hSw; (try dsimp only at hSw)
                go_simp
                try with_reducible rfl
              rotate_left
              · simp only [Act.put, List.setIfInBounds_toArray, List.set_cons_zero, List.set_cons_succ]
                rfl
              have hj := hJ (g10, g15) _ ⟨X18, at18_10, at18⟩
              simp only [putAll, Act.put, List.setIfInBounds_toArray, List.set_cons_zero, List.set_cons_succ] at hj
              exact hj
          · obtain ⟨g19, G19⟩ : ∃ g, Hid ((World.heap (wr.drew)).size = g) := ⟨_, Lib.hid rfl⟩
            obtain ⟨v19w, V19, -, x19, at19, fr19, kk19⟩ := alloc2 (wr.drew) 0 0 57 g19 G19.out
            have X19 := Ext.trans ((Ext.refl wr).drew) x19
            have le19 : wr.heap.size ≤ g19 := by rw [← G19.out]; exact Ext.size ((Ext.refl wr).drew)
            have rg19 := G19.out
            have rv19 := V19.out
            go_simp
            clear rg19 rv19
            refine hK.out _ _ ?_ (fun hHeld => ?_)
            · exact X19
            clear hK K
            (try simp only [Act.put, List.setIfInBounds_toArray, List.set_cons_zero, List.set_cons_succ])
            refine two_ (i := 5) (Ni := (some 34)) (j := 10) (Nj := (some 7)) #[true, true, true, true, true, true, false, false, false, false, false, true, false, false, false] #[true, true, true, true, true, false, false, false, false, false, true, true, false, false, false] rfl rfl rfl rfl (by kernel_rfl) (by simp) (by simp) (fun K hK => ?_) (fun K hK => ?_)
            · go_simp
              refine (cn _).mono ?_
              rintro e v20w ⟨rfl, x20⟩
              have X20 := Ext.trans (X19) x20
              have fr20_11 := fr19.ext x20 at19.lt
              have at20_11 := at19.ext x20
              refine hK.out _ _ ?_ (fun hHeld => ?_)
              · exact X20
              clear hK K
              (try simp only [Act.put, List.setIfInBounds_toArray, List.set_cons_zero, List.set_cons_succ])
              refine take_ (i := 6) (N := (some 28)) (v := ?_) (a' := ?_) #[true, true, true, true, true, true, true, false, false, false, false, true, false, false, false] rfl rfl (by kernel_rfl) (fun _ _ _ h => h) (Or.inl ⟨by rfl, ?_⟩) (by assumption) ?_ ?_
              rotate_left
              · intro w' hSw; (try dsimp only at hSw)
                go_simp
                try with_reducible rfl
              rotate_left
              · simp only [Act.put, List.setIfInBounds_toArray, List.set_cons_zero, List.set_cons_succ]
                rfl
              refine take_ (i := 7) (N := (some 35)) (v := ?_) (a' := ?_) #[true, true, true, true, true, true, true, true, false, false, false, true, false, false, false] rfl rfl (by kernel_rfl) (fun _ _ _ h => h) (Or.inl ⟨by rfl, ?_⟩) (by assumption) ?_ ?_
              rotate_left
              · intro w' hSw; (try dsimp only at hSw)
                go_simp
                try with_reducible rfl
              rotate_left
              · simp only [Act.put, List.setIfInBounds_toArray, List.set_cons_zero, List.set_cons_succ]
                rfl
              refine take_ (i := 8) (N := (some 36)) (v := ?_) (a' := ?_) #[true, true, true, true, true, true, true, true, true, false, false, true, false, false, false] rfl rfl (by kernel_rfl) (fun _ _ _ h => h) (Or.inl ⟨by rfl, ?_⟩) (by assumption) ?_ ?_
              rotate_left
              · intro w' hSw; (try dsimp only at hSw)
                go_simp
                try with_reducible rfl
              rotate_left
              · simp only [Act.put, List.setIfInBounds_toArray, List.set_cons_zero, List.set_cons_succ]
                rfl
              refine take_ (i := 9) (N := (some 37)) (v := ?_) (a' := ?_) #[true, true, true, true, true, true, true, true, true, true, false, true, false, false, false] rfl rfl (by kernel_rfl) (fun _ _ _ h => h) (Or.inl ⟨by rfl, ?_⟩) (by assumption) ?_ ?_
              rotate_left
              · intro w' hSw; (try dsimp only at hSw)
                go_simp
                try with_reducible rfl
              rotate_left
              · simp only [Act.put, List.setIfInBounds_toArray, List.set_cons_zero, List.set_cons_succ]
                rfl
              refine one_ (i := 10) (N := (some 7)) #[true, true, true, true, true, true, true, true, true, true, true, true, false, false, false] rfl rfl (by kernel_rfl) (by simp) (fun K hK => ?_)
              obtain ⟨g21, G21⟩ : ∃ g, Hid ((World.heap (v20w)).size = g) := ⟨_, Lib.hid rfl⟩
              obtain ⟨v21w, V21, -, x21, at21, fr21, kk21⟩ := alloc7 (v20w) (fun _ => 0) 51 g21 G21.out
              have X21 := Ext.trans (X20) x21
              have le21 : wr.heap.size ≤ g21 := by rw [← G21.out]; exact Ext.size (X20)
              have ne21_11 : g21 ≠ g19 := by rw [← G21.out]; exact Nat.ne_of_gt at20_11.lt
              have fr21_11 := fr20_11.ext x21 at20_11.lt
              have at21_11 := at20_11.ext x21
              have rg21 := G21.out
              have rv21 := V21.out
              go_simp
              clear rg21 rv21
              refine hK.out _ _ ?_ (fun hHeld => ?_)
              · exact X21
              clear hK K
              (try simp only [Act.put, List.setIfInBounds_toArray, List.set_cons_zero, List.set_cons_succ])
              refine one_ (i := 12) (N := none) #[true, true, true, true, true, true, true, true, true, true, true, true, true, false, false] rfl rfl (by kernel_rfl) (by simp) (fun K hK => ?_)
              obtain ⟨v22w, V22, at22, kx22, kr22, kf22, -⟩ := put7 (v21w) g21 _ nf at21
              obtain ⟨y0, y1, y2, y3, y4, y5, y6⟩ := at21.cells0
              obtain ⟨z0, z1, z2, z3, z4, z5, z6⟩ := fr21.cells0
              have rv22 := V22.out
              have X22 := kx22 wr (X21) le21
              go_simp
              clear rv22 y0 y1 y2 y3 y4 y5 y6 z0 z1 z2 z3 z4 z5 z6
              obtain ⟨at22_11, fr22_11⟩ := put7_2 (f' := nf) V22 at21_11 fr21_11 ne21_11
              have fr22 := kf22 _ _ fr21
              refine hK.out _ _ ?_ (fun hHeld => ?_)
              · exact X22
              clear hK K
              (try simp only [Act.put, List.setIfInBounds_toArray, List.set_cons_zero, List.set_cons_succ])
              refine one_ (i := 13) (N := none) #[true, true, true, true, true, true, true, true, true, true, true, true, true, true, false] rfl rfl (by kernel_rfl) (by simp) (fun K hK => ?_)
              obtain ⟨v23w, V23, at23, kx23, kr23⟩ := put2 (v22w) g19 0 0 dr dm at22_11
              obtain ⟨y0, y1⟩ := at22_11
              obtain ⟨z0, z1⟩ := fr22_11
              have rv23 := V23.out
              have X23 := kx23 wr (X22) le19
              go_simp
              clear rv23 y0 y1 z0 z1
              have at23_10 := kr23 _ _ _ ne21_11 at22
              refine hK.out _ _ ?_ (fun hHeld => ?_)
              · exact X23
              clear hK K
              (try simp only [Act.put, List.setIfInBounds_toArray, List.set_cons_zero, List.set_cons_succ])
              refine take_ (i := 14) (N := (some 9)) (v := ?_) (a' := ?_) #[true, true, true, true, true, true, true, true, true, true, true, true, true, true, true] rfl rfl (by kernel_rfl) (fun _ _ _ h => h) (Or.inl ⟨by rfl, ?_⟩) (by assumption) ?_ ?_
              rotate_left
              · intro w' hSw; (try dsimp only at hSw)
                go_simp
                try with_reducible rfl
              rotate_left
              · simp only [Act.put, List.setIfInBounds_toArray, List.set_cons_zero, List.set_cons_succ]
                rfl
              have hj := hJ (g21, g19) _ ⟨X23, at23_10, at23⟩
              simp only [putAll, Act.put, List.setIfInBounds_toArray, List.set_cons_zero, List.set_cons_succ] at hj
              exact hj
            · obtain ⟨g24, G24⟩ : ∃ g, Hid ((World.heap (v19w)).size = g) := ⟨_, Lib.hid rfl⟩
              obtain ⟨v24w, V24, -, x24, at24, fr24, kk24⟩ := alloc7 (v19w) (fun _ => 0) 51 g24 G24.out
              have X24 := Ext.trans (X19) x24
              have le24 : wr.heap.size ≤ g24 := by rw [← G24.out]; exact Ext.size (X19)
              have ne24_11 : g24 ≠ g19 := by rw [← G24.out]; exact Nat.ne_of_gt at19.lt
              have fr24_11 := fr19.ext x24 at19.lt
              have at24_11 := at19.ext x24
              have rg24 := G24.out
              have rv24 := V24.out
              go_simp
              clear rg24 rv24
              refine hK.out _ _ ?_ (fun hHeld => ?_)
              · exact X24
              clear hK K
              (try simp only [Act.put, List.setIfInBounds_toArray, List.set_cons_zero, List.set_cons_succ])
              refine one_ (i := 5) (N := (some 34)) #[true, true, true, true, true, true, false, false, false, false, true, true, false, false, false] rfl rfl (by kernel_rfl) (by simp) (fun K hK => ?_)
              go_simp
              refine (cn _).mono ?_
              rintro e v25w ⟨rfl, x25⟩
              have X25 := Ext.trans (X24) x25
              have fr25_11 := fr24_11.ext x25 at24_11.lt
              have at25_11 := at24_11.ext x25
              have fr25_10 := fr24.ext x25 at24.lt
              have at25_10 := at24.ext x25
              refine hK.out _ _ ?_ (fun hHeld => ?_)
              · exact X25
              clear hK K
              (try simp only [Act.put, List.setIfInBounds_toArray, List.set_cons_zero, List.set_cons_succ])
              refine take_ (i := 6) (N := (some 28)) (v := ?_) (a' := ?_) #[true, true, true, true, true, true, true, false, false, false, true, true, false, false, false] rfl rfl (by kernel_rfl) (fun _ _ _ h => h) (Or.inl ⟨by rfl, ?_⟩) (by assumption) ?_ ?_
              rotate_left
              · intro w' hSw; (try dsimp only at hSw)
                go_simp
                try with_reducible rfl
              rotate_left
              · simp only [Act.put, List.setIfInBounds_toArray, List.set_cons_zero, List.set_cons_succ]
                rfl
              refine take_ (i := 7) (N := (some 35)) (v := ?_) (a' := ?_) #[true, true, true, true, true, true, true, true, false, false, true, true, false, false, false] rfl rfl (by kernel_rfl) (fun _ _ _ h => h) (Or.inl ⟨by rfl, ?_⟩) (by assumption) ?_ ?_
              rotate_left
              · intro w' hSw; (try dsimp only at hSw)
                go_simp
                try with_reducible rfl
              rotate_left
              · simp only [Act.put, List.setIfInBounds_toArray, List.set_cons_zero, List.set_cons_succ]
                rfl
              refine take_ (i := 8) (N := (some 36)) (v := ?_) (a' := ?_) #[true, true, true, true, true, true, true, true, true, false, true, true, false, false, false] rfl rfl (by kernel_rfl) (fun _ _ _ h => h) (Or.inl ⟨by rfl, ?_⟩) (by assumption) ?_ ?_
              rotate_left
              · intro w' hSw; (try dsimp only at hSw)
                go_simp
                try with_reducible rfl
              rotate_left
              · simp only [Act.put, List.setIfInBounds_toArray, List.set_cons_zero, List.set_cons_succ]
                rfl
              refine take_ (i := 9) (N := (some 37)) (v := ?_) (a' := ?_) #[true, true, true, true, true, true, true, true, true, true, true, true, false, false, false] rfl rfl (by kernel_rfl) (fun _ _ _ h => h) (Or.inl ⟨by rfl, ?_⟩) (by assumption) ?_ ?_
              rotate_left
              · intro w' hSw; (try dsimp only at hSw)
                go_simp
                try with_reducible rfl
              rotate_left
              · simp only [Act.put, List.setIfInBounds_toArray, List.set_cons_zero, List.set_cons_succ]
                rfl
              refine one_ (i := 12) (N := none) #[true, true, true, true, true, true, true, true, true, true, true, true, true, false, false] rfl rfl (by kernel_rfl) (by simp) (fun K hK => ?_)
              obtain ⟨v26w, V26, at26, kx26, kr26, kf26, -⟩ := put7 (v25w) g24 _ nf at25_10
              obtain ⟨y0, y1, y2, y3, y4, y5, y6⟩ := at25_10.cells0
              obtain ⟨z0, z1, z2, z3, z4, z5, z6⟩ := fr25_10.cells0
              have rv26 := V26.out
              have X26 := kx26 wr (X25) le24
              go_simp
              clear rv26 y0 y1 y2 y3 y4 y5 y6 z0 z1 z2 z3 z4 z5 z6
              obtain ⟨at26_11, fr26_11⟩ := put7_2 (f' := nf) V26 at25_11 fr25_11 ne24_11
              have fr26 := kf26 _ _ fr25_10
              refine hK.out _ _ ?_ (fun hHeld => ?_)
              · exact X26
              clear hK K
              (try simp only [Act.put, List.setIfInBounds_toArray, List.set_cons_zero, List.set_cons_succ])
              refine one_ (i := 13) (N := none) #[true, true, true, true, true, true, true, true, true, true, true, true, true, true, false] rfl rfl (by kernel_rfl) (by simp) (fun K hK => ?_)
              obtain ⟨v27w, V27, at27, kx27, kr27⟩ := put2 (v26w) g19 0 0 dr dm at26_11
              obtain ⟨y0, y1⟩ := at26_11
              obtain ⟨z0, z1⟩ := fr26_11
              have rv27 := V27.out
              have X27 := kx27 wr (X26) le19
              go_simp
              clear rv27 y0 y1 z0 z1
              have at27_10 := kr27 _ _ _ ne24_11 at26
              refine hK.out _ _ ?_ (fun hHeld => ?_)
              · exact X27
              clear hK K
              (try simp only [Act.put, List.setIfInBounds_toArray, List.set_cons_zero, List.set_cons_succ])
              refine take_ (i := 14) (N := (some 9)) (v := ?_) (a' := ?_) #[true, true, true, true, true, true, true, true, true, true, true, true, true, true, true] rfl rfl (by kernel_rfl) (fun _ _ _ h => h) (Or.inl ⟨by rfl, ?_⟩) (by assumption) ?_ ?_
              rotate_left
              · intro w' hSw; (try dsimp only at hSw)
                go_simp
                try with_reducible rfl
              rotate_left
              · simp only [Act.put, List.setIfInBounds_toArray, List.set_cons_zero, List.set_cons_succ]
                rfl
              have hj := hJ (g24, g19) _ ⟨X27, at27_10, at27⟩
              simp only [putAll, Act.put, List.setIfInBounds_toArray, List.set_cons_zero, List.set_cons_succ] at hj
              exact hj
      · have hg := HG.out
        have hl7 := putV_le (good7_64 hg) 7 (by omega)
        have pa := fun W => vputnil_any v W (good7_64 hg)
        obtain ⟨hg1, hg2⟩ := getR_put hg
        have hla : le7 a v = true := le7_iff.2 fun i _ => hle i
        have cl := fun W => le_any a v W
        rw [hla] at cl
        clear hla
        obtain ⟨px, Hpx⟩ : ∃ x, Hid (putV v 7 = x) := ⟨_, Lib.hid rfl⟩
        rw [Hpx.out] at pa hg1 hg2 hl7
        unfold vf at pa cl
        have heqs := run_eq7_same Try.underlying51
        obtain ⟨v0, v1, v2, v3, v4, v5, v6⟩ := hV.rules
        obtain ⟨a0, a1, a2, a3, a4, a5, a6⟩ := hA.rules
        have xr := Ext.refl wr
        go_wp2_with fail
        refine (pa _).mono ?_
        rintro e w7 ⟨A7, c7, rfl, hl7', hB7, hx7⟩
        go_wp2_with fail
        refine (read_any A7 px.length c7 px w7 hB7 rfl (by omega)).mono ?_
        rintro e w8 ⟨g, rfl, hgw, hr, hx8⟩
        have x8 := hx7.trans hx8
        have hgw4 : wr.heap.size ≤ g := Nat.le_trans hx7.size hgw
        have cg := fun W hW => vget_any g px false W hW
        have hg1a : (getR px false 1099511627776).2.1 = [] := by rw [hg1]
        have hg1b : (getR px false 1099511627776).2.2 = false := by rw [hg1]
        rw [hg2, hg1a, hg1b] at cg
        clear hg1 hg2 hg1a hg1b hg
        unfold vf at cg
        have ce := fun W hW => end_any g [] false W hW
        go_wp2_with fail
        refine start_ (n := 18) (S := (fun W => Ext wr W)) (ds := []) #[false, false, false, false, false, false, false, false, false, false, false, false, false, false, false, false, false, false] (by kernel_rfl) (by kernel_rfl) (by kernel_rfl) (x8.drew) (fun hHeld => ?_)
        refine take_ (i := 0) (N := (some 68)) (v := ?_) (a' := ?_) #[true, false, false, false, false, false, false, false, false, false, false, false, false, false, false, false, false, false] rfl rfl (by kernel_rfl) (fun _ _ _ h => h) (Or.inl ⟨by rfl, ?_⟩) (by assumption) ?_ ?_
        rotate_left
        · intro w' hSw; (try dsimp only at hSw)
          go_simp
          try with_reducible rfl
        rotate_left
        · simp only [Act.put, List.setIfInBounds_toArray, List.set_cons_zero, List.set_cons_succ]
          rfl
        refine take_ (i := 1) (N := (some 69)) (v := ?_) (a' := ?_) #[true, true, false, false, false, false, false, false, false, false, false, false, false, false, false, false, false, false] rfl rfl (by kernel_rfl) (fun _ _ _ h => h) (Or.inl ⟨by rfl, ?_⟩) (by assumption) ?_ ?_
        rotate_left
        · intro w' hSw; (try dsimp only at hSw)
          go_simp
          try with_reducible rfl
        rotate_left
        · simp only [Act.put, List.setIfInBounds_toArray, List.set_cons_zero, List.set_cons_succ]
          rfl
        refine take_ (i := 2) (N := (some 70)) (v := ?_) (a' := ?_) #[true, true, true, false, false, false, false, false, false, false, false, false, false, false, false, false, false, false] rfl rfl (by kernel_rfl) (fun _ _ _ h => h) (Or.inl ⟨by rfl, ?_⟩) (by assumption) ?_ ?_
        rotate_left
        · intro w' hSw; (try dsimp only at hSw)
          go_simp
          try with_reducible rfl
        rotate_left
        · simp only [Act.put, List.setIfInBounds_toArray, List.set_cons_zero, List.set_cons_succ]
          rfl
        refine take_ (i := 3) (N := (some 71)) (v := ?_) (a' := ?_) #[true, true, true, true, false, false, false, false, false, false, false, false, false, false, false, false, false, false] rfl rfl (by kernel_rfl) (fun _ _ _ h => h) (Or.inl ⟨by rfl, ?_⟩) (by assumption) ?_ ?_
        rotate_left
        · intro w' hSw; (try dsimp only at hSw)
          go_simp
          try with_reducible rfl
        rotate_left
        · simp only [Act.put, List.setIfInBounds_toArray, List.set_cons_zero, List.set_cons_succ]
          rfl
        refine take_ (i := 5) (N := (some 73)) (v := ?_) (a' := ?_) #[true, true, true, true, false, true, false, false, false, false, false, false, false, false, false, false, false, false] rfl rfl (by kernel_rfl) (fun _ _ _ h => h) (Or.inl ⟨by rfl, ?_⟩) (by assumption) ?_ ?_
        rotate_left
        · intro w' hSw; (try dsimp only at hSw)
          go_simp
          try with_reducible rfl
        rotate_left
        · simp only [Act.put, List.setIfInBounds_toArray, List.set_cons_zero, List.set_cons_succ]
          rfl
        refine one_ (i := 4) (N := (some 72)) #[true, true, true, true, true, true, false, false, false, false, false, false, false, false, false, false, false, false] rfl rfl (by kernel_rfl) (by simp) (fun K hK => ?_)
        go_simp
        refine (cg _ (hr.ext (Ext.refl _).drew)).mono ?_
        rintro e w9 ⟨rfl, hr9, hB9⟩
        have x9 := (x8.drew).but hB9 hgw4
        refine hK.out _ _ ?_ (fun hHeld => ?_)
        · first | assumption | exact hHeld.trans (by assumption)
        clear hK K
        (try simp only [Act.put, List.setIfInBounds_toArray, List.set_cons_zero, List.set_cons_succ])
        refine take_ (i := 6) (N := (some 74)) (v := ?_) (a' := ?_) #[true, true, true, true, true, true, true, false, false, false, false, false, false, false, false, false, false, false] rfl rfl (by kernel_rfl) (fun _ _ _ h => h) (Or.inl ⟨by rfl, ?_⟩) (by assumption) ?_ ?_
        rotate_left
        · intro w' hSw; (try dsimp only at hSw)
          go_simp
          try with_reducible rfl
        rotate_left
        · simp only [Act.put, List.setIfInBounds_toArray, List.set_cons_zero, List.set_cons_succ]
          rfl
        refine take_ (i := 7) (N := (some 75)) (v := ?_) (a' := ?_) #[true, true, true, true, true, true, true, true, false, false, false, false, false, false, false, false, false, false] rfl rfl (by kernel_rfl) (fun _ _ _ h => h) (Or.inl ⟨by rfl, ?_⟩) (by assumption) ?_ ?_
        rotate_left
        · intro w' hSw; (try dsimp only at hSw)
          go_simp
          try with_reducible rfl
        rotate_left
        · simp only [Act.put, List.setIfInBounds_toArray, List.set_cons_zero, List.set_cons_succ]
          rfl
        refine take_ (i := 8) (N := (some 76)) (v := ?_) (a' := ?_) #[true, true, true, true, true, true, true, true, true, false, false, false, false, false, false, false, false, false] rfl rfl (by kernel_rfl) (fun _ _ _ h => h) (Or.inl ⟨by rfl, ?_⟩) (by assumption) ?_ ?_
        rotate_left
        · intro w' hSw; (try dsimp only at hSw)
          go_simp
          try with_reducible rfl
        rotate_left
        · simp only [Act.put, List.setIfInBounds_toArray, List.set_cons_zero, List.set_cons_succ]
          rfl
        refine take_ (i := 9) (N := (some 77)) (v := ?_) (a' := ?_) #[true, true, true, true, true, true, true, true, true, true, false, false, false, false, false, false, false, false] rfl rfl (by kernel_rfl) (fun _ _ _ h => h) (Or.inl ⟨by rfl, ?_⟩) (by assumption) ?_ ?_
        rotate_left
        · intro w' hSw; (try dsimp only at hSw)
          go_simp
          try with_reducible rfl
        rotate_left
        · simp only [Act.put, List.setIfInBounds_toArray, List.set_cons_zero, List.set_cons_succ]
          rfl
        refine one_ (i := 10) (N := (some 78)) #[true, true, true, true, true, true, true, true, true, true, true, false, false, false, false, false, false, false] rfl rfl (by kernel_rfl) (by simp) (fun K hK => ?_)
        go_simp
        refine (ce _ hr9).mono ?_
        rintro e w10 ⟨rfl, hw10⟩
        obtain rfl := hw10
        refine hK.out _ _ ?_ (fun hHeld => ?_)
        · first | assumption | exact hHeld.trans (by assumption)
        clear hK K
        (try simp only [Act.put, List.setIfInBounds_toArray, List.set_cons_zero, List.set_cons_succ])
        refine take_ (i := 11) (N := (some 79)) (v := ?_) (a' := ?_) #[true, true, true, true, true, true, true, true, true, true, true, true, false, false, false, false, false, false] rfl rfl (by kernel_rfl) (fun _ _ _ h => h) (Or.inl ⟨by rfl, ?_⟩) (by assumption) ?_ ?_
        rotate_left
        · intro w' hSw; (try dsimp only at hSw)
          go_simp
          try with_reducible rfl
        rotate_left
        · simp only [Act.put, List.setIfInBounds_toArray, List.set_cons_zero, List.set_cons_succ]
          rfl
        refine take_ (i := 12) (N := (some 80)) (v := ?_) (a' := ?_) #[true, true, true, true, true, true, true, true, true, true, true, true, true, false, false, false, false, false] rfl rfl (by kernel_rfl) (fun _ _ _ h => h) (Or.inl ⟨by rfl, ?_⟩) (by assumption) ?_ ?_
        rotate_left
        · intro w' hSw; (try dsimp only at hSw)
          go_simp
          try with_reducible rfl
        rotate_left
        · simp only [Act.put, List.setIfInBounds_toArray, List.set_cons_zero, List.set_cons_succ]
          rfl
        refine take_ (i := 13) (N := (some 81)) (v := ?_) (a' := ?_) #[true, true, true, true, true, true, true, true, true, true, true, true, true, true, false, false, false, false] rfl rfl (by kernel_rfl) (fun _ _ _ h => h) (Or.inl ⟨by rfl, ?_⟩) (by assumption) ?_ ?_
        rotate_left
        · intro w' hSw; (try dsimp only at hSw)
          go_simp
          try with_reducible rfl
        rotate_left
        · simp only [Act.put, List.setIfInBounds_toArray, List.set_cons_zero, List.set_cons_succ]
          rfl
        refine take_ (i := 14) (N := (some 82)) (v := ?_) (a' := ?_) #[true, true, true, true, true, true, true, true, true, true, true, true, true, true, true, false, false, false] rfl rfl (by kernel_rfl) (fun _ _ _ h => h) (Or.inl ⟨by rfl, ?_⟩) (by assumption) ?_ ?_
        rotate_left
        · intro w' hSw; (try dsimp only at hSw)
          go_simp
          try with_reducible rfl
        rotate_left
        · simp only [Act.put, List.setIfInBounds_toArray, List.set_cons_zero, List.set_cons_succ]
          rfl
        refine one_ (i := 15) (N := (some 83)) #[true, true, true, true, true, true, true, true, true, true, true, true, true, true, true, true, false, false] rfl rfl (by kernel_rfl) (by simp) (fun K hK => ?_)
        go_simp
        refine (cl _).mono ?_
        rintro e w11 ⟨rfl, hx11⟩
        refine hK.out _ _ ?_ (fun hHeld => ?_)
        · first | assumption | exact hHeld.trans (by assumption)
        clear hK K
        (try simp only [Act.put, List.setIfInBounds_toArray, List.set_cons_zero, List.set_cons_succ])
        refine take_ (i := 16) (N := (some 84)) (v := ?_) (a' := ?_) #[true, true, true, true, true, true, true, true, true, true, true, true, true, true, true, true, true, false] rfl rfl (by kernel_rfl) (fun _ _ _ h => h) (Or.inl ⟨by rfl, ?_⟩) (by assumption) ?_ ?_
        rotate_left
        · intro w' hSw; (try dsimp only at hSw)
          go_simp
          try with_reducible rfl
        rotate_left
        · simp only [Act.put, List.setIfInBounds_toArray, List.set_cons_zero, List.set_cons_succ]
          rfl
        refine take_ (i := 17) (N := (some 4)) (v := ?_) (a' := ?_) #[true, true, true, true, true, true, true, true, true, true, true, true, true, true, true, true, true, true] rfl rfl (by kernel_rfl) (fun _ _ _ h => h) (Or.inl ⟨by rfl, ?_⟩) (by assumption) ?_ ?_
        rotate_left
        · intro w' hSw; (try dsimp only at hSw)
          go_simp
          try with_reducible rfl
        rotate_left
        · simp only [Act.put, List.setIfInBounds_toArray, List.set_cons_zero, List.set_cons_succ]
          rfl
        refine done_ (by kernel_rfl) ?_
        go_wp2
        go_ret
        exact ⟨rfl, hX.trans hHeld⟩

end Go.Proofs.Ytaiofbagdcpfgaa
