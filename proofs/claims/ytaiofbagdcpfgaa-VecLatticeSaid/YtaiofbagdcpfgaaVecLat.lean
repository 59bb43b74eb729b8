/- VecLat: the walk of the law VecLattice. -/
import Derived.Test.YtaiofbagdcpfgaaVecAwake
import Derived.Test.YtaiofbagdcpfgaaVecPure
import Derived.Test.YtaiofbagdcpfgaaRegion
set_option linter.unusedVariables false
set_option linter.unusedSimpArgs false
set_option maxRecDepth 100000
namespace Go.Proofs.Ytaiofbagdcpfgaa
open Go.RowKit Go.Proofs.YtaiofbagdcpfgaaW.PrintWords Go.Proofs.YtaiofbagdcpfgaaW.PrintLast

set_option maxHeartbeats 8000000 in
theorem lat_any (a b c : V7) (w : World) :
    Calls Try.prog 9 #[vf a, vf b, vf c] w fun e w' => e = .returned (.bool true) ∧ Ext w w' := by
  obtain ⟨h, Hh⟩ : ∃ h, Hid (w.heap.size = h) := ⟨_, Lib.hid rfl⟩
  obtain ⟨w1, H1, S1, hx1, ha1, -, -⟩ := alloc7 w a 51 h Hh.out
  obtain ⟨w2, H2, S2, hx2, hb2, -, -⟩ := alloc7 w1 b 51 (h + 1) S1.out
  obtain ⟨w3, H3, S3, hx3, hc3, -, -⟩ := alloc7 w2 c 51 (h + 1 + 1) S2.out
  have hA := ha1.ext (hx2.trans hx3)
  have hB := hb2.ext hx3
  have hX := hx1.trans (hx2.trans hx3)
  have hh := Hh.out
  have s1 := S1.out
  have s2 := S2.out
  have h1 := H1.out
  have h2 := H2.out
  have h3 := H3.out
  obtain ⟨m, Hm⟩ : ∃ m, Hid (mrg a b = m) := ⟨_, Lib.hid rfl⟩
  obtain ⟨l, Hl⟩ : ∃ m, Hid (lst a b = m) := ⟨_, Lib.hid rfl⟩
  obtain ⟨mc, Hmc⟩ : ∃ x, Hid (mrg m c = x) := ⟨_, Lib.hid rfl⟩
  obtain ⟨lc, Hlc⟩ : ∃ x, Hid (lst l c = x) := ⟨_, Lib.hid rfl⟩
  obtain ⟨mbc, Hmbc⟩ : ∃ x, Hid (mrg b c = x) := ⟨_, Lib.hid rfl⟩
  obtain ⟨lbc, Hlbc⟩ : ∃ x, Hid (lst b c = x) := ⟨_, Lib.hid rfl⟩
  have c1 := fun W => mrg_any a b W
  have c2 := fun W => lst_any a b W
  have c3 := fun W => le_any a m W
  have c4 := fun W => le_any l b W
  have c5 := fun W => mrg_any b a W
  have c6 := fun W => lst_any b a W
  have c7 := fun W => mrg_any m c W
  have c8 := fun W => mrg_any b c W
  have c9 := fun W => mrg_any a mbc W
  have c10 := fun W => lst_any l c W
  have c11 := fun W => lst_any b c W
  have c12 := fun W => lst_any a lbc W
  have c13 := fun W => mrg_any a l W
  have c14 := fun W => lst_any a m W
  have c15 := fun W => le_any a b W
  have c16 := fun W => cmp_any a b W
  have c17 := fun W => cmp_any b a W
  have heqs := run_eq7_same Try.underlying51
  have heqm := fun W => run_eq7 Try.underlying51 m b W
  rw [Hm.out] at c1
  rw [Hl.out] at c2
  rw [← Hm.out, le_mrg] at c3
  rw [Hm.out] at c3
  rw [← Hl.out, lst_le] at c4
  rw [Hl.out] at c4
  rw [mrg_comm, Hm.out] at c5
  rw [lst_comm, Hl.out] at c6
  rw [Hmc.out] at c7
  rw [Hmbc.out] at c8
  rw [← Hmbc.out, mrg_assoc, Hm.out, Hmc.out, Hmbc.out] at c9
  rw [Hlc.out] at c10
  rw [Hlbc.out] at c11
  rw [← Hlbc.out, lst_assoc, Hl.out, Hlc.out, Hlbc.out] at c12
  rw [← Hl.out, mrg_lst, Hl.out] at c13
  rw [← Hm.out, lst_mrg, Hm.out] at c14
  rw [show eq7 m b = le7 a b from by rw [← Hm.out]; exact le_iff_mrg a b] at heqm
  have hcf := cmp_flip a b
  obtain ⟨p, Hp⟩ : ∃ x, Hid (cmp7 a b = x) := ⟨_, Lib.hid rfl⟩
  obtain ⟨q, Hq⟩ : ∃ x, Hid (cmp7 b a = x) := ⟨_, Lib.hid rfl⟩
  obtain ⟨le, Hle⟩ : ∃ x, Hid (le7 a b = x) := ⟨_, Lib.hid rfl⟩
  rw [Hp.out, Hq.out] at hcf
  rw [Hp.out] at c16
  rw [Hq.out] at c17
  rw [Hle.out] at c15 heqm
  clear Hm Hl Hmc Hlc Hmbc Hlbc Hp Hq Hle
  unfold vf at c1 c2 c3 c4 c5 c6 c7 c8 c9 c10 c11 c12 c13 c14 c15 c16 c17
  unfold vf
  go_enter Try.func9, Try.ntmps9
  go_wp2_with fail
  clear h1 h2 h3 hh s1 s2
  refine (awake7_any _).mono ?_
  rintro e w4 ⟨rfl, hx4⟩
  have hX4 := hX.trans hx4
  obtain ⟨a0, a1, a2, a3, a4, a5, a6⟩ := (hA.ext hx4).rules
  obtain ⟨b0, b1, b2, b3, b4, b5, b6⟩ := (hB.ext hx4).rules
  obtain ⟨e0, e1, e2, e3, e4, e5, e6⟩ := (hc3.ext hx4).rules
  go_wp2
  refine start_ (n := 10) (S := (fun W => Ext w4 W)) (ds := []) #[false, false, false, false, false, false, false, false, false, false] (by kernel_rfl) (by kernel_rfl) (by kernel_rfl) ((Ext.refl w4).drew) (fun hHeld => ?_)
  refine take_ (i := 0) (N := (some 11)) (v := ?_) (a' := ?_) #[true, false, false, false, false, false, false, false, false, false] rfl rfl (by kernel_rfl) (fun _ _ _ h => h) (Or.inl ⟨by rfl, ?_⟩) (by assumption) ?_ ?_
  rotate_left
  · intro w' hSw; (try dsimp only at hSw)
    go_simp
    try with_reducible rfl
  rotate_left
  · simp only [Act.put, List.setIfInBounds_toArray, List.set_cons_zero, List.set_cons_succ]
    rfl
  refine take_ (i := 1) (N := (some 12)) (v := ?_) (a' := ?_) #[true, true, false, false, false, false, false, false, false, false] rfl rfl (by kernel_rfl) (fun _ _ _ h => h) (Or.inl ⟨by rfl, ?_⟩) (by assumption) ?_ ?_
  rotate_left
  · intro w' hSw; (try dsimp only at hSw)
    go_simp
    try with_reducible rfl
  rotate_left
  · simp only [Act.put, List.setIfInBounds_toArray, List.set_cons_zero, List.set_cons_succ]
    rfl
  refine take_ (i := 3) (N := (some 14)) (v := ?_) (a' := ?_) #[true, true, false, true, false, false, false, false, false, false] rfl rfl (by kernel_rfl) (fun _ _ _ h => h) (Or.inl ⟨by rfl, ?_⟩) (by assumption) ?_ ?_
  rotate_left
  · intro w' hSw; (try dsimp only at hSw)
    go_simp
    try with_reducible rfl
  rotate_left
  · simp only [Act.put, List.setIfInBounds_toArray, List.set_cons_zero, List.set_cons_succ]
    rfl
  refine take_ (i := 4) (N := (some 15)) (v := ?_) (a' := ?_) #[true, true, false, true, true, false, false, false, false, false] rfl rfl (by kernel_rfl) (fun _ _ _ h => h) (Or.inl ⟨by rfl, ?_⟩) (by assumption) ?_ ?_
  rotate_left
  · intro w' hSw; (try dsimp only at hSw)
    go_simp
    try with_reducible rfl
  rotate_left
  · simp only [Act.put, List.setIfInBounds_toArray, List.set_cons_zero, List.set_cons_succ]
    rfl
  refine join_ (σ := Nat × Nat) 0 #[true, true, true, true, true, true, true, true, true, true] (fun s => [(7, .pointer (some ⟨s.1, 0, none⟩)), (8, .pointer (some ⟨s.2, 0, none⟩)), (13, .agg #[.int .i64 (m 0), .int .i64 (m 1), .int .i64 (m 2), .int .i64 (m 3), .int .i64 (m 4), .int .i64 (m 5), .int .i64 (m 6)]), (16, .agg #[.int .i64 (l 0), .int .i64 (l 1), .int .i64 (l 2), .int .i64 (l 3), .int .i64 (l 4), .int .i64 (l 5), .int .i64 (l 6)])]) (fun s W => Ext w4 W ∧ At7 W s.1 0 m ∧ At7 W s.2 0 l) ?_ ?_
  · intro s wj hF
    simp only [putAll, Act.put, List.setIfInBounds_toArray, List.set_cons_zero, List.set_cons_succ]
    refine done_ (by kernel_rfl) ?_
    obtain ⟨g, g'⟩ := s
    obtain ⟨hXj, hM, hL⟩ := hF
    dsimp only at hM hL
    go_wp2
    obtain ⟨r0, r1, r2, r3, r4, r5, r6⟩ := hM.rules
    obtain ⟨t0, t1, t2, t3, t4, t5, t6⟩ := hL.rules
    replace a0 := fun W (e : Ext wj W) => a0 W (hXj.trans e)
    replace a1 := fun W (e : Ext wj W) => a1 W (hXj.trans e)
    replace a2 := fun W (e : Ext wj W) => a2 W (hXj.trans e)
    replace a3 := fun W (e : Ext wj W) => a3 W (hXj.trans e)
    replace a4 := fun W (e : Ext wj W) => a4 W (hXj.trans e)
    replace a5 := fun W (e : Ext wj W) => a5 W (hXj.trans e)
    replace a6 := fun W (e : Ext wj W) => a6 W (hXj.trans e)
    replace b0 := fun W (e : Ext wj W) => b0 W (hXj.trans e)
    replace b1 := fun W (e : Ext wj W) => b1 W (hXj.trans e)
    replace b2 := fun W (e : Ext wj W) => b2 W (hXj.trans e)
    replace b3 := fun W (e : Ext wj W) => b3 W (hXj.trans e)
    replace b4 := fun W (e : Ext wj W) => b4 W (hXj.trans e)
    replace b5 := fun W (e : Ext wj W) => b5 W (hXj.trans e)
    replace b6 := fun W (e : Ext wj W) => b6 W (hXj.trans e)
    replace e0 := fun W (e : Ext wj W) => e0 W (hXj.trans e)
    replace e1 := fun W (e : Ext wj W) => e1 W (hXj.trans e)
    replace e2 := fun W (e : Ext wj W) => e2 W (hXj.trans e)
    replace e3 := fun W (e : Ext wj W) => e3 W (hXj.trans e)
    replace e4 := fun W (e : Ext wj W) => e4 W (hXj.trans e)
    replace e5 := fun W (e : Ext wj W) => e5 W (hXj.trans e)
    replace e6 := fun W (e : Ext wj W) => e6 W (hXj.trans e)
    simp only [List.append_eq, List.cons_append, List.nil_append]
    refine start_ (n := 79) (S := (fun W => Ext wj W)) (ds := []) #[false, false, false, false, false, false, false, false, false, false, false, false, false, false, false, false, false, false, false, false, false, false, false, false, false, false, false, false, false, false, false, false, false, false, false, false, false, false, false, false, false, false, false, false, false, false, false, false, false, false, false, false, false, false, false, false, false, false, false, false, false, false, false, false, false, false, false, false, false, false, false, false, false, false, false, false, false, false, false] (by kernel_rfl) (by kernel_rfl) (by kernel_rfl) ((Ext.refl wj).drew) (fun hHeld => ?_)
    refine take_ (i := 0) (N := (some 17)) (v := ?_) (a' := ?_) #[true, false, false, false, false, false, false, false, false, false, false, false, false, false, false, false, false, false, false, false, false, false, false, false, false, false, false, false, false, false, false, false, false, false, false, false, false, false, false, false, false, false, false, false, false, false, false, false, false, false, false, false, false, false, false, false, false, false, false, false, false, false, false, false, false, false, false, false, false, false, false, false, false, false, false, false, false, false, false] rfl rfl (by as_aux_lemma => kernel_rfl) (fun _ _ _ h => h) (Or.inl ⟨by rfl, ?_⟩) (by assumption) ?_ ?_
    rotate_left
    · intro w' hSw; (try dsimp only at hSw)
      go_simp
      try with_reducible rfl
    rotate_left
    · simp only [Act.put, List.setIfInBounds_toArray, List.set_cons_zero, List.set_cons_succ]
      rfl
    refine take_ (i := 1) (N := (some 18)) (v := ?_) (a' := ?_) #[true, true, false, false, false, false, false, false, false, false, false, false, false, false, false, false, false, false, false, false, false, false, false, false, false, false, false, false, false, false, false, false, false, false, false, false, false, false, false, false, false, false, false, false, false, false, false, false, false, false, false, false, false, false, false, false, false, false, false, false, false, false, false, false, false, false, false, false, false, false, false, false, false, false, false, false, false, false, false] rfl rfl (by as_aux_lemma => kernel_rfl) (fun _ _ _ h => h) (Or.inl ⟨by rfl, ?_⟩) (by assumption) ?_ ?_
    rotate_left
    · intro w' hSw; (try dsimp only at hSw)
      go_simp
      try with_reducible rfl
    rotate_left
    · simp only [Act.put, List.setIfInBounds_toArray, List.set_cons_zero, List.set_cons_succ]
      rfl
    refine one_ (i := 2) (N := (some 19)) #[true, true, true, false, false, false, false, false, false, false, false, false, false, false, false, false, false, false, false, false, false, false, false, false, false, false, false, false, false, false, false, false, false, false, false, false, false, false, false, false, false, false, false, false, false, false, false, false, false, false, false, false, false, false, false, false, false, false, false, false, false, false, false, false, false, false, false, false, false, false, false, false, false, false, false, false, false, false, false] rfl rfl (by as_aux_lemma => kernel_rfl) (by simp) (fun K hK => ?_)
    go_simp
    refine (c3 _).mono ?_
    rintro e w20 ⟨rfl, hx20⟩
    refine hK.out _ _ ?_ (fun hHeld => ?_)
    · first | assumption | exact hHeld.trans (by assumption)
    clear hK K
    (try simp only [Act.put, List.setIfInBounds_toArray, List.set_cons_zero, List.set_cons_succ])
    refine take_ (i := 3) (N := (some 20)) (v := ?_) (a' := ?_) #[true, true, true, true, false, false, false, false, false, false, false, false, false, false, false, false, false, false, false, false, false, false, false, false, false, false, false, false, false, false, false, false, false, false, false, false, false, false, false, false, false, false, false, false, false, false, false, false, false, false, false, false, false, false, false, false, false, false, false, false, false, false, false, false, false, false, false, false, false, false, false, false, false, false, false, false, false, false, false] rfl rfl (by as_aux_lemma => kernel_rfl) (fun _ _ _ h => h) (Or.inl ⟨by rfl, ?_⟩) (by assumption) ?_ ?_
    rotate_left
    · intro w' hSw; (try dsimp only at hSw)
      go_simp
      try with_reducible rfl
    rotate_left
    · simp only [Act.put, List.setIfInBounds_toArray, List.set_cons_zero, List.set_cons_succ]
      rfl
    refine take_ (i := 4) (N := (some 21)) (v := ?_) (a' := ?_) #[true, true, true, true, true, false, false, false, false, false, false, false, false, false, false, false, false, false, false, false, false, false, false, false, false, false, false, false, false, false, false, false, false, false, false, false, false, false, false, false, false, false, false, false, false, false, false, false, false, false, false, false, false, false, false, false, false, false, false, false, false, false, false, false, false, false, false, false, false, false, false, false, false, false, false, false, false, false, false] rfl rfl (by as_aux_lemma => kernel_rfl) (fun _ _ _ h => h) (Or.inl ⟨by rfl, ?_⟩) (by assumption) ?_ ?_
    rotate_left
    · intro w' hSw; (try dsimp only at hSw)
      go_simp
      try with_reducible rfl
    rotate_left
    · simp only [Act.put, List.setIfInBounds_toArray, List.set_cons_zero, List.set_cons_succ]
      rfl
    refine take_ (i := 5) (N := (some 22)) (v := ?_) (a' := ?_) #[true, true, true, true, true, true, false, false, false, false, false, false, false, false, false, false, false, false, false, false, false, false, false, false, false, false, false, false, false, false, false, false, false, false, false, false, false, false, false, false, false, false, false, false, false, false, false, false, false, false, false, false, false, false, false, false, false, false, false, false, false, false, false, false, false, false, false, false, false, false, false, false, false, false, false, false, false, false, false] rfl rfl (by as_aux_lemma => kernel_rfl) (fun _ _ _ h => h) (Or.inl ⟨by rfl, ?_⟩) (by assumption) ?_ ?_
    rotate_left
    · intro w' hSw; (try dsimp only at hSw)
      go_simp
      try with_reducible rfl
    rotate_left
    · simp only [Act.put, List.setIfInBounds_toArray, List.set_cons_zero, List.set_cons_succ]
      rfl
    refine one_ (i := 6) (N := (some 23)) #[true, true, true, true, true, true, true, false, false, false, false, false, false, false, false, false, false, false, false, false, false, false, false, false, false, false, false, false, false, false, false, false, false, false, false, false, false, false, false, false, false, false, false, false, false, false, false, false, false, false, false, false, false, false, false, false, false, false, false, false, false, false, false, false, false, false, false, false, false, false, false, false, false, false, false, false, false, false, false] rfl rfl (by as_aux_lemma => kernel_rfl) (by simp) (fun K hK => ?_)
    go_simp
    refine (c4 _).mono ?_
    rintro e w21 ⟨rfl, hx21⟩
    refine hK.out _ _ ?_ (fun hHeld => ?_)
    · first | assumption | exact hHeld.trans (by assumption)
    clear hK K
    (try simp only [Act.put, List.setIfInBounds_toArray, List.set_cons_zero, List.set_cons_succ])
    refine take_ (i := 7) (N := (some 24)) (v := ?_) (a' := ?_) #[true, true, true, true, true, true, true, true, false, false, false, false, false, false, false, false, false, false, false, false, false, false, false, false, false, false, false, false, false, false, false, false, false, false, false, false, false, false, false, false, false, false, false, false, false, false, false, false, false, false, false, false, false, false, false, false, false, false, false, false, false, false, false, false, false, false, false, false, false, false, false, false, false, false, false, false, false, false, false] rfl rfl (by as_aux_lemma => kernel_rfl) (fun _ _ _ h => h) (Or.inl ⟨by rfl, ?_⟩) (by assumption) ?_ ?_
    rotate_left
    · intro w' hSw; (try dsimp only at hSw)
      go_simp
      try with_reducible rfl
    rotate_left
    · simp only [Act.put, List.setIfInBounds_toArray, List.set_cons_zero, List.set_cons_succ]
      rfl
    refine take_ (i := 8) (N := (some 25)) (v := ?_) (a' := ?_) #[true, true, true, true, true, true, true, true, true, false, false, false, false, false, false, false, false, false, false, false, false, false, false, false, false, false, false, false, false, false, false, false, false, false, false, false, false, false, false, false, false, false, false, false, false, false, false, false, false, false, false, false, false, false, false, false, false, false, false, false, false, false, false, false, false, false, false, false, false, false, false, false, false, false, false, false, false, false, false] rfl rfl (by as_aux_lemma => kernel_rfl) (fun _ _ _ h => h) (Or.inl ⟨by rfl, ?_⟩) (by assumption) ?_ ?_
    rotate_left
    · intro w' hSw; (try dsimp only at hSw)
      go_simp
      try with_reducible rfl
    rotate_left
    · simp only [Act.put, List.setIfInBounds_toArray, List.set_cons_zero, List.set_cons_succ]
      rfl
    refine take_ (i := 9) (N := (some 26)) (v := ?_) (a' := ?_) #[true, true, true, true, true, true, true, true, true, true, false, false, false, false, false, false, false, false, false, false, false, false, false, false, false, false, false, false, false, false, false, false, false, false, false, false, false, false, false, false, false, false, false, false, false, false, false, false, false, false, false, false, false, false, false, false, false, false, false, false, false, false, false, false, false, false, false, false, false, false, false, false, false, false, false, false, false, false, false] rfl rfl (by as_aux_lemma => kernel_rfl) (fun _ _ _ h => h) (Or.inl ⟨by rfl, ?_⟩) (by assumption) ?_ ?_
    rotate_left
    · intro w' hSw; (try dsimp only at hSw)
      go_simp
      try with_reducible rfl
    rotate_left
    · simp only [Act.put, List.setIfInBounds_toArray, List.set_cons_zero, List.set_cons_succ]
      rfl
    refine take_ (i := 10) (N := (some 27)) (v := ?_) (a' := ?_) #[true, true, true, true, true, true, true, true, true, true, true, false, false, false, false, false, false, false, false, false, false, false, false, false, false, false, false, false, false, false, false, false, false, false, false, false, false, false, false, false, false, false, false, false, false, false, false, false, false, false, false, false, false, false, false, false, false, false, false, false, false, false, false, false, false, false, false, false, false, false, false, false, false, false, false, false, false, false, false] rfl rfl (by as_aux_lemma => kernel_rfl) (fun _ _ _ h => h) (Or.inl ⟨by rfl, ?_⟩) (by assumption) ?_ ?_
    rotate_left
    · intro w' hSw; (try dsimp only at hSw)
      go_simp
      try with_reducible rfl
    rotate_left
    · simp only [Act.put, List.setIfInBounds_toArray, List.set_cons_zero, List.set_cons_succ]
      rfl
    refine take_ (i := 11) (N := (some 28)) (v := ?_) (a' := ?_) #[true, true, true, true, true, true, true, true, true, true, true, true, false, false, false, false, false, false, false, false, false, false, false, false, false, false, false, false, false, false, false, false, false, false, false, false, false, false, false, false, false, false, false, false, false, false, false, false, false, false, false, false, false, false, false, false, false, false, false, false, false, false, false, false, false, false, false, false, false, false, false, false, false, false, false, false, false, false, false] rfl rfl (by as_aux_lemma => kernel_rfl) (fun _ _ _ h => h) (Or.inl ⟨by rfl, ?_⟩) (by assumption) ?_ ?_
    rotate_left
    · intro w' hSw; (try dsimp only at hSw)
      go_simp
      try with_reducible rfl
    rotate_left
    · simp only [Act.put, List.setIfInBounds_toArray, List.set_cons_zero, List.set_cons_succ]
      rfl
    refine one_ (i := 12) (N := (some 29)) #[true, true, true, true, true, true, true, true, true, true, true, true, true, false, false, false, false, false, false, false, false, false, false, false, false, false, false, false, false, false, false, false, false, false, false, false, false, false, false, false, false, false, false, false, false, false, false, false, false, false, false, false, false, false, false, false, false, false, false, false, false, false, false, false, false, false, false, false, false, false, false, false, false, false, false, false, false, false, false] rfl rfl (by as_aux_lemma => kernel_rfl) (by simp) (fun K hK => ?_)
    go_simp
    refine (c5 _).mono ?_
    rintro e w22 ⟨rfl, hx22⟩
    refine hK.out _ _ ?_ (fun hHeld => ?_)
    · first | assumption | exact hHeld.trans (by assumption)
    clear hK K
    (try simp only [Act.put, List.setIfInBounds_toArray, List.set_cons_zero, List.set_cons_succ])
    refine take_ (i := 13) (N := (some 30)) (v := ?_) (a' := ?_) #[true, true, true, true, true, true, true, true, true, true, true, true, true, true, false, false, false, false, false, false, false, false, false, false, false, false, false, false, false, false, false, false, false, false, false, false, false, false, false, false, false, false, false, false, false, false, false, false, false, false, false, false, false, false, false, false, false, false, false, false, false, false, false, false, false, false, false, false, false, false, false, false, false, false, false, false, false, false, false] rfl rfl (by as_aux_lemma => kernel_rfl) (fun _ _ _ h => h) (Or.inl ⟨by rfl, ?_⟩) (by assumption) ?_ ?_
    rotate_left
    · intro w' hSw; (try dsimp only at hSw)
      go_simp
      try with_reducible rfl
    rotate_left
    · simp only [Act.put, List.setIfInBounds_toArray, List.set_cons_zero, List.set_cons_succ]
      rfl
    refine take_ (i := 14) (N := (some 31)) (v := ?_) (a' := ?_) #[true, true, true, true, true, true, true, true, true, true, true, true, true, true, true, false, false, false, false, false, false, false, false, false, false, false, false, false, false, false, false, false, false, false, false, false, false, false, false, false, false, false, false, false, false, false, false, false, false, false, false, false, false, false, false, false, false, false, false, false, false, false, false, false, false, false, false, false, false, false, false, false, false, false, false, false, false, false, false] rfl rfl (by as_aux_lemma => kernel_rfl) (fun _ _ _ h => h) (Or.inl ⟨by rfl, ?_⟩) (by assumption) ?_ ?_
    rotate_left
    · intro w' hSw; (try dsimp only at hSw)
      go_simp
      try with_reducible rfl
    rotate_left
    · simp only [Act.put, List.setIfInBounds_toArray, List.set_cons_zero, List.set_cons_succ]
      rfl
    refine take_ (i := 15) (N := (some 32)) (v := ?_) (a' := ?_) #[true, true, true, true, true, true, true, true, true, true, true, true, true, true, true, true, false, false, false, false, false, false, false, false, false, false, false, false, false, false, false, false, false, false, false, false, false, false, false, false, false, false, false, false, false, false, false, false, false, false, false, false, false, false, false, false, false, false, false, false, false, false, false, false, false, false, false, false, false, false, false, false, false, false, false, false, false, false, false] rfl rfl (by as_aux_lemma => kernel_rfl) (fun _ _ _ h => h) (Or.inl ⟨by rfl, ?_⟩) (by assumption) ?_ ?_
    rotate_left
    · intro w' hSw; (try dsimp only at hSw)
      go_simp
      try with_reducible rfl
    rotate_left
    · simp only [Act.put, List.setIfInBounds_toArray, List.set_cons_zero, List.set_cons_succ]
      rfl
    refine take_ (i := 16) (N := (some 33)) (v := ?_) (a' := ?_) #[true, true, true, true, true, true, true, true, true, true, true, true, true, true, true, true, true, false, false, false, false, false, false, false, false, false, false, false, false, false, false, false, false, false, false, false, false, false, false, false, false, false, false, false, false, false, false, false, false, false, false, false, false, false, false, false, false, false, false, false, false, false, false, false, false, false, false, false, false, false, false, false, false, false, false, false, false, false, false] rfl rfl (by as_aux_lemma => kernel_rfl) (fun _ _ _ h => h) (Or.inl ⟨by rfl, ?_⟩) (by assumption) ?_ ?_
    rotate_left
    · intro w' hSw; (try dsimp only at hSw)
      go_simp
      try with_reducible rfl
    rotate_left
    · simp only [Act.put, List.setIfInBounds_toArray, List.set_cons_zero, List.set_cons_succ]
      rfl
    refine take_ (i := 17) (N := (some 34)) (v := ?_) (a' := ?_) #[true, true, true, true, true, true, true, true, true, true, true, true, true, true, true, true, true, true, false, false, false, false, false, false, false, false, false, false, false, false, false, false, false, false, false, false, false, false, false, false, false, false, false, false, false, false, false, false, false, false, false, false, false, false, false, false, false, false, false, false, false, false, false, false, false, false, false, false, false, false, false, false, false, false, false, false, false, false, false] rfl rfl (by as_aux_lemma => kernel_rfl) (fun _ _ _ h => h) (Or.inl ⟨by rfl, ?_⟩) (by assumption) ?_ ?_
    rotate_left
    · intro w' hSw; (try dsimp only at hSw)
      go_simp
      try with_reducible rfl
    rotate_left
    · simp only [Act.put, List.setIfInBounds_toArray, List.set_cons_zero, List.set_cons_succ]
      rfl
    refine take_ (i := 18) (N := (some 35)) (v := ?_) (a' := ?_) #[true, true, true, true, true, true, true, true, true, true, true, true, true, true, true, true, true, true, true, false, false, false, false, false, false, false, false, false, false, false, false, false, false, false, false, false, false, false, false, false, false, false, false, false, false, false, false, false, false, false, false, false, false, false, false, false, false, false, false, false, false, false, false, false, false, false, false, false, false, false, false, false, false, false, false, false, false, false, false] rfl rfl (by as_aux_lemma => kernel_rfl) (fun _ _ _ h => h) (Or.inl ⟨by rfl, ?_⟩) (by assumption) ?_ ?_
    rotate_left
    · intro w' hSw; (try dsimp only at hSw)
      go_simp
      try with_reducible rfl
    rotate_left
    · simp only [Act.put, List.setIfInBounds_toArray, List.set_cons_zero, List.set_cons_succ]
      rfl
    refine one_ (i := 19) (N := (some 36)) #[true, true, true, true, true, true, true, true, true, true, true, true, true, true, true, true, true, true, true, true, false, false, false, false, false, false, false, false, false, false, false, false, false, false, false, false, false, false, false, false, false, false, false, false, false, false, false, false, false, false, false, false, false, false, false, false, false, false, false, false, false, false, false, false, false, false, false, false, false, false, false, false, false, false, false, false, false, false, false] rfl rfl (by as_aux_lemma => kernel_rfl) (by simp) (fun K hK => ?_)
    go_simp
    refine (c6 _).mono ?_
    rintro e w23 ⟨rfl, hx23⟩
    refine hK.out _ _ ?_ (fun hHeld => ?_)
    · first | assumption | exact hHeld.trans (by assumption)
    clear hK K
    (try simp only [Act.put, List.setIfInBounds_toArray, List.set_cons_zero, List.set_cons_succ])
    refine take_ (i := 20) (N := (some 37)) (v := ?_) (a' := ?_) #[true, true, true, true, true, true, true, true, true, true, true, true, true, true, true, true, true, true, true, true, true, false, false, false, false, false, false, false, false, false, false, false, false, false, false, false, false, false, false, false, false, false, false, false, false, false, false, false, false, false, false, false, false, false, false, false, false, false, false, false, false, false, false, false, false, false, false, false, false, false, false, false, false, false, false, false, false, false, false] rfl rfl (by as_aux_lemma => kernel_rfl) (fun _ _ _ h => h) (Or.inl ⟨by rfl, ?_⟩) (by assumption) ?_ ?_
    rotate_left
    · intro w' hSw; (try dsimp only at hSw)
      go_simp
      try with_reducible rfl
    rotate_left
    · simp only [Act.put, List.setIfInBounds_toArray, List.set_cons_zero, List.set_cons_succ]
      rfl
    refine take_ (i := 21) (N := (some 38)) (v := ?_) (a' := ?_) #[true, true, true, true, true, true, true, true, true, true, true, true, true, true, true, true, true, true, true, true, true, true, false, false, false, false, false, false, false, false, false, false, false, false, false, false, false, false, false, false, false, false, false, false, false, false, false, false, false, false, false, false, false, false, false, false, false, false, false, false, false, false, false, false, false, false, false, false, false, false, false, false, false, false, false, false, false, false, false] rfl rfl (by as_aux_lemma => kernel_rfl) (fun _ _ _ h => h) (Or.inl ⟨by rfl, ?_⟩) (by assumption) ?_ ?_
    rotate_left
    · intro w' hSw; (try dsimp only at hSw)
      go_simp
      try with_reducible rfl
    rotate_left
    · simp only [Act.put, List.setIfInBounds_toArray, List.set_cons_zero, List.set_cons_succ]
      rfl
    refine take_ (i := 22) (N := (some 39)) (v := ?_) (a' := ?_) #[true, true, true, true, true, true, true, true, true, true, true, true, true, true, true, true, true, true, true, true, true, true, true, false, false, false, false, false, false, false, false, false, false, false, false, false, false, false, false, false, false, false, false, false, false, false, false, false, false, false, false, false, false, false, false, false, false, false, false, false, false, false, false, false, false, false, false, false, false, false, false, false, false, false, false, false, false, false, false] rfl rfl (by as_aux_lemma => kernel_rfl) (fun _ _ _ h => h) (Or.inl ⟨by rfl, ?_⟩) (by assumption) ?_ ?_
    rotate_left
    · intro w' hSw; (try dsimp only at hSw)
      go_simp
      try with_reducible rfl
    rotate_left
    · simp only [Act.put, List.setIfInBounds_toArray, List.set_cons_zero, List.set_cons_succ]
      rfl
    refine take_ (i := 23) (N := (some 40)) (v := ?_) (a' := ?_) #[true, true, true, true, true, true, true, true, true, true, true, true, true, true, true, true, true, true, true, true, true, true, true, true, false, false, false, false, false, false, false, false, false, false, false, false, false, false, false, false, false, false, false, false, false, false, false, false, false, false, false, false, false, false, false, false, false, false, false, false, false, false, false, false, false, false, false, false, false, false, false, false, false, false, false, false, false, false, false] rfl rfl (by as_aux_lemma => kernel_rfl) (fun _ _ _ h => h) (Or.inl ⟨by rfl, ?_⟩) (by assumption) ?_ ?_
    rotate_left
    · intro w' hSw; (try dsimp only at hSw)
      go_simp
      try with_reducible rfl
    rotate_left
    · simp only [Act.put, List.setIfInBounds_toArray, List.set_cons_zero, List.set_cons_succ]
      rfl
    refine take_ (i := 24) (N := (some 41)) (v := ?_) (a' := ?_) #[true, true, true, true, true, true, true, true, true, true, true, true, true, true, true, true, true, true, true, true, true, true, true, true, true, false, false, false, false, false, false, false, false, false, false, false, false, false, false, false, false, false, false, false, false, false, false, false, false, false, false, false, false, false, false, false, false, false, false, false, false, false, false, false, false, false, false, false, false, false, false, false, false, false, false, false, false, false, false] rfl rfl (by as_aux_lemma => kernel_rfl) (fun _ _ _ h => h) (Or.inl ⟨by rfl, ?_⟩) (by assumption) ?_ ?_
    rotate_left
    · intro w' hSw; (try dsimp only at hSw)
      go_simp
      try with_reducible rfl
    rotate_left
    · simp only [Act.put, List.setIfInBounds_toArray, List.set_cons_zero, List.set_cons_succ]
      rfl
    refine take_ (i := 26) (N := (some 43)) (v := ?_) (a' := ?_) #[true, true, true, true, true, true, true, true, true, true, true, true, true, true, true, true, true, true, true, true, true, true, true, true, true, false, true, false, false, false, false, false, false, false, false, false, false, false, false, false, false, false, false, false, false, false, false, false, false, false, false, false, false, false, false, false, false, false, false, false, false, false, false, false, false, false, false, false, false, false, false, false, false, false, false, false, false, false, false] rfl rfl (by as_aux_lemma => kernel_rfl) (fun _ _ _ h => h) (Or.inl ⟨by rfl, ?_⟩) (by assumption) ?_ ?_
    rotate_left
    · intro w' hSw; (try dsimp only at hSw)
      go_simp
      try with_reducible rfl
    rotate_left
    · simp only [Act.put, List.setIfInBounds_toArray, List.set_cons_zero, List.set_cons_succ]
      rfl
    refine take_ (i := 27) (N := (some 44)) (v := ?_) (a' := ?_) #[true, true, true, true, true, true, true, true, true, true, true, true, true, true, true, true, true, true, true, true, true, true, true, true, true, false, true, true, false, false, false, false, false, false, false, false, false, false, false, false, false, false, false, false, false, false, false, false, false, false, false, false, false, false, false, false, false, false, false, false, false, false, false, false, false, false, false, false, false, false, false, false, false, false, false, false, false, false, false] rfl rfl (by as_aux_lemma => kernel_rfl) (fun _ _ _ h => h) (Or.inl ⟨by rfl, ?_⟩) (by assumption) ?_ ?_
    rotate_left
    · intro w' hSw; (try dsimp only at hSw)
      go_simp
      try with_reducible rfl
    rotate_left
    · simp only [Act.put, List.setIfInBounds_toArray, List.set_cons_zero, List.set_cons_succ]
      rfl
    refine take_ (i := 28) (N := (some 45)) (v := ?_) (a' := ?_) #[true, true, true, true, true, true, true, true, true, true, true, true, true, true, true, true, true, true, true, true, true, true, true, true, true, false, true, true, true, false, false, false, false, false, false, false, false, false, false, false, false, false, false, false, false, false, false, false, false, false, false, false, false, false, false, false, false, false, false, false, false, false, false, false, false, false, false, false, false, false, false, false, false, false, false, false, false, false, false] rfl rfl (by as_aux_lemma => kernel_rfl) (fun _ _ _ h => h) (Or.inl ⟨by rfl, ?_⟩) (by assumption) ?_ ?_
    rotate_left
    · intro w' hSw; (try dsimp only at hSw)
      go_simp
      try with_reducible rfl
    rotate_left
    · simp only [Act.put, List.setIfInBounds_toArray, List.set_cons_zero, List.set_cons_succ]
      rfl
    refine one_ (i := 25) (N := (some 42)) #[true, true, true, true, true, true, true, true, true, true, true, true, true, true, true, true, true, true, true, true, true, true, true, true, true, true, true, true, true, false, false, false, false, false, false, false, false, false, false, false, false, false, false, false, false, false, false, false, false, false, false, false, false, false, false, false, false, false, false, false, false, false, false, false, false, false, false, false, false, false, false, false, false, false, false, false, false, false, false] rfl rfl (by as_aux_lemma => kernel_rfl) (by simp) (fun K hK => ?_)
    go_simp
    refine (c7 _).mono ?_
    rintro e w24 ⟨rfl, hx24⟩
    refine hK.out _ _ ?_ (fun hHeld => ?_)
    · first | assumption | exact hHeld.trans (by assumption)
    clear hK K
    (try simp only [Act.put, List.setIfInBounds_toArray, List.set_cons_zero, List.set_cons_succ])
    refine one_ (i := 29) (N := (some 46)) #[true, true, true, true, true, true, true, true, true, true, true, true, true, true, true, true, true, true, true, true, true, true, true, true, true, true, true, true, true, true, false, false, false, false, false, false, false, false, false, false, false, false, false, false, false, false, false, false, false, false, false, false, false, false, false, false, false, false, false, false, false, false, false, false, false, false, false, false, false, false, false, false, false, false, false, false, false, false, false] rfl rfl (by as_aux_lemma => kernel_rfl) (by simp) (fun K hK => ?_)
    go_simp
    refine (c8 _).mono ?_
    rintro e w25 ⟨rfl, hx25⟩
    refine hK.out _ _ ?_ (fun hHeld => ?_)
    · first | assumption | exact hHeld.trans (by assumption)
    clear hK K
    (try simp only [Act.put, List.setIfInBounds_toArray, List.set_cons_zero, List.set_cons_succ])
    refine one_ (i := 30) (N := (some 47)) #[true, true, true, true, true, true, true, true, true, true, true, true, true, true, true, true, true, true, true, true, true, true, true, true, true, true, true, true, true, true, true, false, false, false, false, false, false, false, false, false, false, false, false, false, false, false, false, false, false, false, false, false, false, false, false, false, false, false, false, false, false, false, false, false, false, false, false, false, false, false, false, false, false, false, false, false, false, false, false] rfl rfl (by as_aux_lemma => kernel_rfl) (by simp) (fun K hK => ?_)
    go_simp
    refine (c9 _).mono ?_
    rintro e w26 ⟨rfl, hx26⟩
    refine hK.out _ _ ?_ (fun hHeld => ?_)
    · first | assumption | exact hHeld.trans (by assumption)
    clear hK K
    (try simp only [Act.put, List.setIfInBounds_toArray, List.set_cons_zero, List.set_cons_succ])
    refine take_ (i := 31) (N := (some 48)) (v := ?_) (a' := ?_) #[true, true, true, true, true, true, true, true, true, true, true, true, true, true, true, true, true, true, true, true, true, true, true, true, true, true, true, true, true, true, true, true, false, false, false, false, false, false, false, false, false, false, false, false, false, false, false, false, false, false, false, false, false, false, false, false, false, false, false, false, false, false, false, false, false, false, false, false, false, false, false, false, false, false, false, false, false, false, false] rfl rfl (by as_aux_lemma => kernel_rfl) (fun _ _ _ h => h) (Or.inl ⟨by rfl, ?_⟩) (by assumption) ?_ ?_
    rotate_left
    · intro w' hSw; (try dsimp only at hSw)
      go_simp
      try with_reducible rfl
    rotate_left
    · simp only [Act.put, List.setIfInBounds_toArray, List.set_cons_zero, List.set_cons_succ]
      rfl
    refine take_ (i := 32) (N := (some 49)) (v := ?_) (a' := ?_) #[true, true, true, true, true, true, true, true, true, true, true, true, true, true, true, true, true, true, true, true, true, true, true, true, true, true, true, true, true, true, true, true, true, false, false, false, false, false, false, false, false, false, false, false, false, false, false, false, false, false, false, false, false, false, false, false, false, false, false, false, false, false, false, false, false, false, false, false, false, false, false, false, false, false, false, false, false, false, false] rfl rfl (by as_aux_lemma => kernel_rfl) (fun _ _ _ h => h) (Or.inl ⟨by rfl, ?_⟩) (by assumption) ?_ ?_
    rotate_left
    · intro w' hSw; (try dsimp only at hSw)
      go_simp
      try with_reducible rfl
    rotate_left
    · simp only [Act.put, List.setIfInBounds_toArray, List.set_cons_zero, List.set_cons_succ]
      rfl
    refine take_ (i := 33) (N := (some 50)) (v := ?_) (a' := ?_) #[true, true, true, true, true, true, true, true, true, true, true, true, true, true, true, true, true, true, true, true, true, true, true, true, true, true, true, true, true, true, true, true, true, true, false, false, false, false, false, false, false, false, false, false, false, false, false, false, false, false, false, false, false, false, false, false, false, false, false, false, false, false, false, false, false, false, false, false, false, false, false, false, false, false, false, false, false, false, false] rfl rfl (by as_aux_lemma => kernel_rfl) (fun _ _ _ h => h) (Or.inl ⟨by rfl, ?_⟩) (by assumption) ?_ ?_
    rotate_left
    · intro w' hSw; (try dsimp only at hSw)
      go_simp
      try with_reducible rfl
    rotate_left
    · simp only [Act.put, List.setIfInBounds_toArray, List.set_cons_zero, List.set_cons_succ]
      rfl
    refine take_ (i := 34) (N := (some 51)) (v := ?_) (a' := ?_) #[true, true, true, true, true, true, true, true, true, true, true, true, true, true, true, true, true, true, true, true, true, true, true, true, true, true, true, true, true, true, true, true, true, true, true, false, false, false, false, false, false, false, false, false, false, false, false, false, false, false, false, false, false, false, false, false, false, false, false, false, false, false, false, false, false, false, false, false, false, false, false, false, false, false, false, false, false, false, false] rfl rfl (by as_aux_lemma => kernel_rfl) (fun _ _ _ h => h) (Or.inl ⟨by rfl, ?_⟩) (by assumption) ?_ ?_
    rotate_left
    · intro w' hSw; (try dsimp only at hSw)
      go_simp
      try with_reducible rfl
    rotate_left
    · simp only [Act.put, List.setIfInBounds_toArray, List.set_cons_zero, List.set_cons_succ]
      rfl
    refine take_ (i := 35) (N := (some 52)) (v := ?_) (a' := ?_) #[true, true, true, true, true, true, true, true, true, true, true, true, true, true, true, true, true, true, true, true, true, true, true, true, true, true, true, true, true, true, true, true, true, true, true, true, false, false, false, false, false, false, false, false, false, false, false, false, false, false, false, false, false, false, false, false, false, false, false, false, false, false, false, false, false, false, false, false, false, false, false, false, false, false, false, false, false, false, false] rfl rfl (by as_aux_lemma => kernel_rfl) (fun _ _ _ h => h) (Or.inl ⟨by rfl, ?_⟩) (by assumption) ?_ ?_
    rotate_left
    · intro w' hSw; (try dsimp only at hSw)
      go_simp
      try with_reducible rfl
    rotate_left
    · simp only [Act.put, List.setIfInBounds_toArray, List.set_cons_zero, List.set_cons_succ]
      rfl
    refine take_ (i := 37) (N := (some 54)) (v := ?_) (a' := ?_) #[true, true, true, true, true, true, true, true, true, true, true, true, true, true, true, true, true, true, true, true, true, true, true, true, true, true, true, true, true, true, true, true, true, true, true, true, false, true, false, false, false, false, false, false, false, false, false, false, false, false, false, false, false, false, false, false, false, false, false, false, false, false, false, false, false, false, false, false, false, false, false, false, false, false, false, false, false, false, false] rfl rfl (by as_aux_lemma => kernel_rfl) (fun _ _ _ h => h) (Or.inl ⟨by rfl, ?_⟩) (by assumption) ?_ ?_
    rotate_left
    · intro w' hSw; (try dsimp only at hSw)
      go_simp
      try with_reducible rfl
    rotate_left
    · simp only [Act.put, List.setIfInBounds_toArray, List.set_cons_zero, List.set_cons_succ]
      rfl
    refine take_ (i := 38) (N := (some 55)) (v := ?_) (a' := ?_) #[true, true, true, true, true, true, true, true, true, true, true, true, true, true, true, true, true, true, true, true, true, true, true, true, true, true, true, true, true, true, true, true, true, true, true, true, false, true, true, false, false, false, false, false, false, false, false, false, false, false, false, false, false, false, false, false, false, false, false, false, false, false, false, false, false, false, false, false, false, false, false, false, false, false, false, false, false, false, false] rfl rfl (by as_aux_lemma => kernel_rfl) (fun _ _ _ h => h) (Or.inl ⟨by rfl, ?_⟩) (by assumption) ?_ ?_
    rotate_left
    · intro w' hSw; (try dsimp only at hSw)
      go_simp
      try with_reducible rfl
    rotate_left
    · simp only [Act.put, List.setIfInBounds_toArray, List.set_cons_zero, List.set_cons_succ]
      rfl
    refine take_ (i := 39) (N := (some 56)) (v := ?_) (a' := ?_) #[true, true, true, true, true, true, true, true, true, true, true, true, true, true, true, true, true, true, true, true, true, true, true, true, true, true, true, true, true, true, true, true, true, true, true, true, false, true, true, true, false, false, false, false, false, false, false, false, false, false, false, false, false, false, false, false, false, false, false, false, false, false, false, false, false, false, false, false, false, false, false, false, false, false, false, false, false, false, false] rfl rfl (by as_aux_lemma => kernel_rfl) (fun _ _ _ h => h) (Or.inl ⟨by rfl, ?_⟩) (by assumption) ?_ ?_
    rotate_left
    · intro w' hSw; (try dsimp only at hSw)
      go_simp
      try with_reducible rfl
    rotate_left
    · simp only [Act.put, List.setIfInBounds_toArray, List.set_cons_zero, List.set_cons_succ]
      rfl
    refine one_ (i := 36) (N := (some 53)) #[true, true, true, true, true, true, true, true, true, true, true, true, true, true, true, true, true, true, true, true, true, true, true, true, true, true, true, true, true, true, true, true, true, true, true, true, true, true, true, true, false, false, false, false, false, false, false, false, false, false, false, false, false, false, false, false, false, false, false, false, false, false, false, false, false, false, false, false, false, false, false, false, false, false, false, false, false, false, false] rfl rfl (by as_aux_lemma => kernel_rfl) (by simp) (fun K hK => ?_)
    go_simp
    refine (c10 _).mono ?_
    rintro e w27 ⟨rfl, hx27⟩
    refine hK.out _ _ ?_ (fun hHeld => ?_)
    · first | assumption | exact hHeld.trans (by assumption)
    clear hK K
    (try simp only [Act.put, List.setIfInBounds_toArray, List.set_cons_zero, List.set_cons_succ])
    refine one_ (i := 40) (N := (some 57)) #[true, true, true, true, true, true, true, true, true, true, true, true, true, true, true, true, true, true, true, true, true, true, true, true, true, true, true, true, true, true, true, true, true, true, true, true, true, true, true, true, true, false, false, false, false, false, false, false, false, false, false, false, false, false, false, false, false, false, false, false, false, false, false, false, false, false, false, false, false, false, false, false, false, false, false, false, false, false, false] rfl rfl (by as_aux_lemma => kernel_rfl) (by simp) (fun K hK => ?_)
    go_simp
    refine (c11 _).mono ?_
    rintro e w28 ⟨rfl, hx28⟩
    refine hK.out _ _ ?_ (fun hHeld => ?_)
    · first | assumption | exact hHeld.trans (by assumption)
    clear hK K
    (try simp only [Act.put, List.setIfInBounds_toArray, List.set_cons_zero, List.set_cons_succ])
    refine one_ (i := 41) (N := (some 58)) #[true, true, true, true, true, true, true, true, true, true, true, true, true, true, true, true, true, true, true, true, true, true, true, true, true, true, true, true, true, true, true, true, true, true, true, true, true, true, true, true, true, true, false, false, false, false, false, false, false, false, false, false, false, false, false, false, false, false, false, false, false, false, false, false, false, false, false, false, false, false, false, false, false, false, false, false, false, false, false] rfl rfl (by as_aux_lemma => kernel_rfl) (by simp) (fun K hK => ?_)
    go_simp
    refine (c12 _).mono ?_
    rintro e w29 ⟨rfl, hx29⟩
    refine hK.out _ _ ?_ (fun hHeld => ?_)
    · first | assumption | exact hHeld.trans (by assumption)
    clear hK K
    (try simp only [Act.put, List.setIfInBounds_toArray, List.set_cons_zero, List.set_cons_succ])
    refine take_ (i := 42) (N := (some 59)) (v := ?_) (a' := ?_) #[true, true, true, true, true, true, true, true, true, true, true, true, true, true, true, true, true, true, true, true, true, true, true, true, true, true, true, true, true, true, true, true, true, true, true, true, true, true, true, true, true, true, true, false, false, false, false, false, false, false, false, false, false, false, false, false, false, false, false, false, false, false, false, false, false, false, false, false, false, false, false, false, false, false, false, false, false, false, false] rfl rfl (by as_aux_lemma => kernel_rfl) (fun _ _ _ h => h) (Or.inl ⟨by rfl, ?_⟩) (by assumption) ?_ ?_
    rotate_left
    · intro w' hSw; (try dsimp only at hSw)
      go_simp
      try with_reducible rfl
    rotate_left
    · simp only [Act.put, List.setIfInBounds_toArray, List.set_cons_zero, List.set_cons_succ]
      rfl
    refine take_ (i := 43) (N := (some 60)) (v := ?_) (a' := ?_) #[true, true, true, true, true, true, true, true, true, true, true, true, true, true, true, true, true, true, true, true, true, true, true, true, true, true, true, true, true, true, true, true, true, true, true, true, true, true, true, true, true, true, true, true, false, false, false, false, false, false, false, false, false, false, false, false, false, false, false, false, false, false, false, false, false, false, false, false, false, false, false, false, false, false, false, false, false, false, false] rfl rfl (by as_aux_lemma => kernel_rfl) (fun _ _ _ h => h) (Or.inl ⟨by rfl, ?_⟩) (by assumption) ?_ ?_
    rotate_left
    · intro w' hSw; (try dsimp only at hSw)
      go_simp
      try with_reducible rfl
    rotate_left
    · simp only [Act.put, List.setIfInBounds_toArray, List.set_cons_zero, List.set_cons_succ]
      rfl
    refine take_ (i := 44) (N := (some 61)) (v := ?_) (a' := ?_) #[true, true, true, true, true, true, true, true, true, true, true, true, true, true, true, true, true, true, true, true, true, true, true, true, true, true, true, true, true, true, true, true, true, true, true, true, true, true, true, true, true, true, true, true, true, false, false, false, false, false, false, false, false, false, false, false, false, false, false, false, false, false, false, false, false, false, false, false, false, false, false, false, false, false, false, false, false, false, false] rfl rfl (by as_aux_lemma => kernel_rfl) (fun _ _ _ h => h) (Or.inl ⟨by rfl, ?_⟩) (by assumption) ?_ ?_
    rotate_left
    · intro w' hSw; (try dsimp only at hSw)
      go_simp
      try with_reducible rfl
    rotate_left
    · simp only [Act.put, List.setIfInBounds_toArray, List.set_cons_zero, List.set_cons_succ]
      rfl
    refine take_ (i := 45) (N := (some 62)) (v := ?_) (a' := ?_) #[true, true, true, true, true, true, true, true, true, true, true, true, true, true, true, true, true, true, true, true, true, true, true, true, true, true, true, true, true, true, true, true, true, true, true, true, true, true, true, true, true, true, true, true, true, true, false, false, false, false, false, false, false, false, false, false, false, false, false, false, false, false, false, false, false, false, false, false, false, false, false, false, false, false, false, false, false, false, false] rfl rfl (by as_aux_lemma => kernel_rfl) (fun _ _ _ h => h) (Or.inl ⟨by rfl, ?_⟩) (by assumption) ?_ ?_
    rotate_left
    · intro w' hSw; (try dsimp only at hSw)
      go_simp
      try with_reducible rfl
    rotate_left
    · simp only [Act.put, List.setIfInBounds_toArray, List.set_cons_zero, List.set_cons_succ]
      rfl
    refine take_ (i := 46) (N := (some 63)) (v := ?_) (a' := ?_) #[true, true, true, true, true, true, true, true, true, true, true, true, true, true, true, true, true, true, true, true, true, true, true, true, true, true, true, true, true, true, true, true, true, true, true, true, true, true, true, true, true, true, true, true, true, true, true, false, false, false, false, false, false, false, false, false, false, false, false, false, false, false, false, false, false, false, false, false, false, false, false, false, false, false, false, false, false, false, false] rfl rfl (by as_aux_lemma => kernel_rfl) (fun _ _ _ h => h) (Or.inl ⟨by rfl, ?_⟩) (by assumption) ?_ ?_
    rotate_left
    · intro w' hSw; (try dsimp only at hSw)
      go_simp
      try with_reducible rfl
    rotate_left
    · simp only [Act.put, List.setIfInBounds_toArray, List.set_cons_zero, List.set_cons_succ]
      rfl
    refine take_ (i := 48) (N := (some 65)) (v := ?_) (a' := ?_) #[true, true, true, true, true, true, true, true, true, true, true, true, true, true, true, true, true, true, true, true, true, true, true, true, true, true, true, true, true, true, true, true, true, true, true, true, true, true, true, true, true, true, true, true, true, true, true, false, true, false, false, false, false, false, false, false, false, false, false, false, false, false, false, false, false, false, false, false, false, false, false, false, false, false, false, false, false, false, false] rfl rfl (by as_aux_lemma => kernel_rfl) (fun _ _ _ h => h) (Or.inl ⟨by rfl, ?_⟩) (by assumption) ?_ ?_
    rotate_left
    · intro w' hSw; (try dsimp only at hSw)
      go_simp
      try with_reducible rfl
    rotate_left
    · simp only [Act.put, List.setIfInBounds_toArray, List.set_cons_zero, List.set_cons_succ]
      rfl
    refine one_ (i := 47) (N := (some 64)) #[true, true, true, true, true, true, true, true, true, true, true, true, true, true, true, true, true, true, true, true, true, true, true, true, true, true, true, true, true, true, true, true, true, true, true, true, true, true, true, true, true, true, true, true, true, true, true, true, true, false, false, false, false, false, false, false, false, false, false, false, false, false, false, false, false, false, false, false, false, false, false, false, false, false, false, false, false, false, false] rfl rfl (by as_aux_lemma => kernel_rfl) (by simp) (fun K hK => ?_)
    go_simp
    refine (c13 _).mono ?_
    rintro e w30 ⟨rfl, hx30⟩
    refine hK.out _ _ ?_ (fun hHeld => ?_)
    · first | assumption | exact hHeld.trans (by assumption)
    clear hK K
    (try simp only [Act.put, List.setIfInBounds_toArray, List.set_cons_zero, List.set_cons_succ])
    refine take_ (i := 49) (N := (some 66)) (v := ?_) (a' := ?_) #[true, true, true, true, true, true, true, true, true, true, true, true, true, true, true, true, true, true, true, true, true, true, true, true, true, true, true, true, true, true, true, true, true, true, true, true, true, true, true, true, true, true, true, true, true, true, true, true, true, true, false, false, false, false, false, false, false, false, false, false, false, false, false, false, false, false, false, false, false, false, false, false, false, false, false, false, false, false, false] rfl rfl (by as_aux_lemma => kernel_rfl) (fun _ _ _ h => h) (Or.inl ⟨by rfl, ?_⟩) (by assumption) ?_ ?_
    rotate_left
    · intro w' hSw; (try dsimp only at hSw)
      go_simp
      try with_reducible rfl
    rotate_left
    · simp only [Act.put, List.setIfInBounds_toArray, List.set_cons_zero, List.set_cons_succ]
      rfl
    refine take_ (i := 50) (N := (some 67)) (v := ?_) (a' := ?_) #[true, true, true, true, true, true, true, true, true, true, true, true, true, true, true, true, true, true, true, true, true, true, true, true, true, true, true, true, true, true, true, true, true, true, true, true, true, true, true, true, true, true, true, true, true, true, true, true, true, true, true, false, false, false, false, false, false, false, false, false, false, false, false, false, false, false, false, false, false, false, false, false, false, false, false, false, false, false, false] rfl rfl (by as_aux_lemma => kernel_rfl) (fun _ _ _ h => h) (Or.inl ⟨by rfl, ?_⟩) (by assumption) ?_ ?_
    rotate_left
    · intro w' hSw; (try dsimp only at hSw)
      go_simp
      try with_reducible rfl
    rotate_left
    · simp only [Act.put, List.setIfInBounds_toArray, List.set_cons_zero, List.set_cons_succ]
      rfl
    refine take_ (i := 51) (N := (some 68)) (v := ?_) (a' := ?_) #[true, true, true, true, true, true, true, true, true, true, true, true, true, true, true, true, true, true, true, true, true, true, true, true, true, true, true, true, true, true, true, true, true, true, true, true, true, true, true, true, true, true, true, true, true, true, true, true, true, true, true, true, false, false, false, false, false, false, false, false, false, false, false, false, false, false, false, false, false, false, false, false, false, false, false, false, false, false, false] rfl rfl (by as_aux_lemma => kernel_rfl) (fun _ _ _ h => h) (Or.inl ⟨by rfl, ?_⟩) (by assumption) ?_ ?_
    rotate_left
    · intro w' hSw; (try dsimp only at hSw)
      go_simp
      try with_reducible rfl
    rotate_left
    · simp only [Act.put, List.setIfInBounds_toArray, List.set_cons_zero, List.set_cons_succ]
      rfl
    refine take_ (i := 52) (N := (some 69)) (v := ?_) (a' := ?_) #[true, true, true, true, true, true, true, true, true, true, true, true, true, true, true, true, true, true, true, true, true, true, true, true, true, true, true, true, true, true, true, true, true, true, true, true, true, true, true, true, true, true, true, true, true, true, true, true, true, true, true, true, true, false, false, false, false, false, false, false, false, false, false, false, false, false, false, false, false, false, false, false, false, false, false, false, false, false, false] rfl rfl (by as_aux_lemma => kernel_rfl) (fun _ _ _ h => h) (Or.inl ⟨by rfl, ?_⟩) (by assumption) ?_ ?_
    rotate_left
    · intro w' hSw; (try dsimp only at hSw)
      go_simp
      try with_reducible rfl
    rotate_left
    · simp only [Act.put, List.setIfInBounds_toArray, List.set_cons_zero, List.set_cons_succ]
      rfl
    refine take_ (i := 53) (N := (some 70)) (v := ?_) (a' := ?_) #[true, true, true, true, true, true, true, true, true, true, true, true, true, true, true, true, true, true, true, true, true, true, true, true, true, true, true, true, true, true, true, true, true, true, true, true, true, true, true, true, true, true, true, true, true, true, true, true, true, true, true, true, true, true, false, false, false, false, false, false, false, false, false, false, false, false, false, false, false, false, false, false, false, false, false, false, false, false, false] rfl rfl (by as_aux_lemma => kernel_rfl) (fun _ _ _ h => h) (Or.inl ⟨by rfl, ?_⟩) (by assumption) ?_ ?_
    rotate_left
    · intro w' hSw; (try dsimp only at hSw)
      go_simp
      try with_reducible rfl
    rotate_left
    · simp only [Act.put, List.setIfInBounds_toArray, List.set_cons_zero, List.set_cons_succ]
      rfl
    refine take_ (i := 55) (N := (some 72)) (v := ?_) (a' := ?_) #[true, true, true, true, true, true, true, true, true, true, true, true, true, true, true, true, true, true, true, true, true, true, true, true, true, true, true, true, true, true, true, true, true, true, true, true, true, true, true, true, true, true, true, true, true, true, true, true, true, true, true, true, true, true, false, true, false, false, false, false, false, false, false, false, false, false, false, false, false, false, false, false, false, false, false, false, false, false, false] rfl rfl (by as_aux_lemma => kernel_rfl) (fun _ _ _ h => h) (Or.inl ⟨by rfl, ?_⟩) (by assumption) ?_ ?_
    rotate_left
    · intro w' hSw; (try dsimp only at hSw)
      go_simp
      try with_reducible rfl
    rotate_left
    · simp only [Act.put, List.setIfInBounds_toArray, List.set_cons_zero, List.set_cons_succ]
      rfl
    refine one_ (i := 54) (N := (some 71)) #[true, true, true, true, true, true, true, true, true, true, true, true, true, true, true, true, true, true, true, true, true, true, true, true, true, true, true, true, true, true, true, true, true, true, true, true, true, true, true, true, true, true, true, true, true, true, true, true, true, true, true, true, true, true, true, true, false, false, false, false, false, false, false, false, false, false, false, false, false, false, false, false, false, false, false, false, false, false, false] rfl rfl (by as_aux_lemma => kernel_rfl) (by simp) (fun K hK => ?_)
    go_simp
    refine (c14 _).mono ?_
    rintro e w31 ⟨rfl, hx31⟩
    refine hK.out _ _ ?_ (fun hHeld => ?_)
    · first | assumption | exact hHeld.trans (by assumption)
    clear hK K
    (try simp only [Act.put, List.setIfInBounds_toArray, List.set_cons_zero, List.set_cons_succ])
    refine take_ (i := 56) (N := (some 73)) (v := ?_) (a' := ?_) #[true, true, true, true, true, true, true, true, true, true, true, true, true, true, true, true, true, true, true, true, true, true, true, true, true, true, true, true, true, true, true, true, true, true, true, true, true, true, true, true, true, true, true, true, true, true, true, true, true, true, true, true, true, true, true, true, true, false, false, false, false, false, false, false, false, false, false, false, false, false, false, false, false, false, false, false, false, false, false] rfl rfl (by as_aux_lemma => kernel_rfl) (fun _ _ _ h => h) (Or.inl ⟨by rfl, ?_⟩) (by assumption) ?_ ?_
    rotate_left
    · intro w' hSw; (try dsimp only at hSw)
      go_simp
      try with_reducible rfl
    rotate_left
    · simp only [Act.put, List.setIfInBounds_toArray, List.set_cons_zero, List.set_cons_succ]
      rfl
    refine take_ (i := 57) (N := (some 74)) (v := ?_) (a' := ?_) #[true, true, true, true, true, true, true, true, true, true, true, true, true, true, true, true, true, true, true, true, true, true, true, true, true, true, true, true, true, true, true, true, true, true, true, true, true, true, true, true, true, true, true, true, true, true, true, true, true, true, true, true, true, true, true, true, true, true, false, false, false, false, false, false, false, false, false, false, false, false, false, false, false, false, false, false, false, false, false] rfl rfl (by as_aux_lemma => kernel_rfl) (fun _ _ _ h => h) (Or.inl ⟨by rfl, ?_⟩) (by assumption) ?_ ?_
    rotate_left
    · intro w' hSw; (try dsimp only at hSw)
      go_simp
      try with_reducible rfl
    rotate_left
    · simp only [Act.put, List.setIfInBounds_toArray, List.set_cons_zero, List.set_cons_succ]
      rfl
    refine take_ (i := 58) (N := (some 75)) (v := ?_) (a' := ?_) #[true, true, true, true, true, true, true, true, true, true, true, true, true, true, true, true, true, true, true, true, true, true, true, true, true, true, true, true, true, true, true, true, true, true, true, true, true, true, true, true, true, true, true, true, true, true, true, true, true, true, true, true, true, true, true, true, true, true, true, false, false, false, false, false, false, false, false, false, false, false, false, false, false, false, false, false, false, false, false] rfl rfl (by as_aux_lemma => kernel_rfl) (fun _ _ _ h => h) (Or.inl ⟨by rfl, ?_⟩) (by assumption) ?_ ?_
    rotate_left
    · intro w' hSw; (try dsimp only at hSw)
      go_simp
      try with_reducible rfl
    rotate_left
    · simp only [Act.put, List.setIfInBounds_toArray, List.set_cons_zero, List.set_cons_succ]
      rfl
    refine take_ (i := 59) (N := (some 76)) (v := ?_) (a' := ?_) #[true, true, true, true, true, true, true, true, true, true, true, true, true, true, true, true, true, true, true, true, true, true, true, true, true, true, true, true, true, true, true, true, true, true, true, true, true, true, true, true, true, true, true, true, true, true, true, true, true, true, true, true, true, true, true, true, true, true, true, true, false, false, false, false, false, false, false, false, false, false, false, false, false, false, false, false, false, false, false] rfl rfl (by as_aux_lemma => kernel_rfl) (fun _ _ _ h => h) (Or.inl ⟨by rfl, ?_⟩) (by assumption) ?_ ?_
    rotate_left
    · intro w' hSw; (try dsimp only at hSw)
      go_simp
      try with_reducible rfl
    rotate_left
    · simp only [Act.put, List.setIfInBounds_toArray, List.set_cons_zero, List.set_cons_succ]
      rfl
    refine take_ (i := 60) (N := (some 77)) (v := ?_) (a' := ?_) #[true, true, true, true, true, true, true, true, true, true, true, true, true, true, true, true, true, true, true, true, true, true, true, true, true, true, true, true, true, true, true, true, true, true, true, true, true, true, true, true, true, true, true, true, true, true, true, true, true, true, true, true, true, true, true, true, true, true, true, true, true, false, false, false, false, false, false, false, false, false, false, false, false, false, false, false, false, false, false] rfl rfl (by as_aux_lemma => kernel_rfl) (fun _ _ _ h => h) (Or.inl ⟨by rfl, ?_⟩) (by assumption) ?_ ?_
    rotate_left
    · intro w' hSw; (try dsimp only at hSw)
      go_simp
      try with_reducible rfl
    rotate_left
    · simp only [Act.put, List.setIfInBounds_toArray, List.set_cons_zero, List.set_cons_succ]
      rfl
    refine take_ (i := 62) (N := (some 79)) (v := ?_) (a' := ?_) #[true, true, true, true, true, true, true, true, true, true, true, true, true, true, true, true, true, true, true, true, true, true, true, true, true, true, true, true, true, true, true, true, true, true, true, true, true, true, true, true, true, true, true, true, true, true, true, true, true, true, true, true, true, true, true, true, true, true, true, true, true, false, true, false, false, false, false, false, false, false, false, false, false, false, false, false, false, false, false] rfl rfl (by as_aux_lemma => kernel_rfl) (fun _ _ _ h => h) (Or.inl ⟨by rfl, ?_⟩) (by assumption) ?_ ?_
    rotate_left
    · intro w' hSw; (try dsimp only at hSw)
      go_simp
      try with_reducible rfl
    rotate_left
    · simp only [Act.put, List.setIfInBounds_toArray, List.set_cons_zero, List.set_cons_succ]
      rfl
    refine take_ (i := 63) (N := (some 80)) (v := ?_) (a' := ?_) #[true, true, true, true, true, true, true, true, true, true, true, true, true, true, true, true, true, true, true, true, true, true, true, true, true, true, true, true, true, true, true, true, true, true, true, true, true, true, true, true, true, true, true, true, true, true, true, true, true, true, true, true, true, true, true, true, true, true, true, true, true, false, true, true, false, false, false, false, false, false, false, false, false, false, false, false, false, false, false] rfl rfl (by as_aux_lemma => kernel_rfl) (fun _ _ _ h => h) (Or.inl ⟨by rfl, ?_⟩) (by assumption) ?_ ?_
    rotate_left
    · intro w' hSw; (try dsimp only at hSw)
      go_simp
      try with_reducible rfl
    rotate_left
    · simp only [Act.put, List.setIfInBounds_toArray, List.set_cons_zero, List.set_cons_succ]
      rfl
    refine take_ (i := 64) (N := (some 81)) (v := ?_) (a' := ?_) #[true, true, true, true, true, true, true, true, true, true, true, true, true, true, true, true, true, true, true, true, true, true, true, true, true, true, true, true, true, true, true, true, true, true, true, true, true, true, true, true, true, true, true, true, true, true, true, true, true, true, true, true, true, true, true, true, true, true, true, true, true, false, true, true, true, false, false, false, false, false, false, false, false, false, false, false, false, false, false] rfl rfl (by as_aux_lemma => kernel_rfl) (fun _ _ _ h => h) (Or.inl ⟨by rfl, ?_⟩) (by assumption) ?_ ?_
    rotate_left
    · intro w' hSw; (try dsimp only at hSw)
      go_simp
      try with_reducible rfl
    rotate_left
    · simp only [Act.put, List.setIfInBounds_toArray, List.set_cons_zero, List.set_cons_succ]
      rfl
    refine one_ (i := 61) (N := (some 78)) #[true, true, true, true, true, true, true, true, true, true, true, true, true, true, true, true, true, true, true, true, true, true, true, true, true, true, true, true, true, true, true, true, true, true, true, true, true, true, true, true, true, true, true, true, true, true, true, true, true, true, true, true, true, true, true, true, true, true, true, true, true, true, true, true, true, false, false, false, false, false, false, false, false, false, false, false, false, false, false] rfl rfl (by as_aux_lemma => kernel_rfl) (by simp) (fun K hK => ?_)
    go_simp
    refine (c15 _).mono ?_
    rintro e w32 ⟨rfl, hx32⟩
    refine hK.out _ _ ?_ (fun hHeld => ?_)
    · first | assumption | exact hHeld.trans (by assumption)
    clear hK K
    (try simp only [Act.put, List.setIfInBounds_toArray, List.set_cons_zero, List.set_cons_succ])
    refine take_ (i := 65) (N := (some 82)) (v := ?_) (a' := ?_) #[true, true, true, true, true, true, true, true, true, true, true, true, true, true, true, true, true, true, true, true, true, true, true, true, true, true, true, true, true, true, true, true, true, true, true, true, true, true, true, true, true, true, true, true, true, true, true, true, true, true, true, true, true, true, true, true, true, true, true, true, true, true, true, true, true, true, false, false, false, false, false, false, false, false, false, false, false, false, false] rfl rfl (by as_aux_lemma => kernel_rfl) (fun _ _ _ h => h) (Or.inl ⟨by rfl, ?_⟩) (by assumption) ?_ ?_
    rotate_left
    · intro w' hSw; (try dsimp only at hSw)
      go_simp
      try with_reducible rfl
    rotate_left
    · simp only [Act.put, List.setIfInBounds_toArray, List.set_cons_zero, List.set_cons_succ]
      rfl
    refine take_ (i := 66) (N := (some 83)) (v := ?_) (a' := ?_) #[true, true, true, true, true, true, true, true, true, true, true, true, true, true, true, true, true, true, true, true, true, true, true, true, true, true, true, true, true, true, true, true, true, true, true, true, true, true, true, true, true, true, true, true, true, true, true, true, true, true, true, true, true, true, true, true, true, true, true, true, true, true, true, true, true, true, true, false, false, false, false, false, false, false, false, false, false, false, false] rfl rfl (by as_aux_lemma => kernel_rfl) (fun _ _ _ h => h) (Or.inl ⟨by rfl, ?_⟩) (by assumption) ?_ ?_
    rotate_left
    · intro w' hSw; (try dsimp only at hSw)
      go_simp
      try with_reducible rfl
    rotate_left
    · simp only [Act.put, List.setIfInBounds_toArray, List.set_cons_zero, List.set_cons_succ]
      rfl
    refine take_ (i := 67) (N := (some 84)) (v := ?_) (a' := ?_) #[true, true, true, true, true, true, true, true, true, true, true, true, true, true, true, true, true, true, true, true, true, true, true, true, true, true, true, true, true, true, true, true, true, true, true, true, true, true, true, true, true, true, true, true, true, true, true, true, true, true, true, true, true, true, true, true, true, true, true, true, true, true, true, true, true, true, true, true, false, false, false, false, false, false, false, false, false, false, false] rfl rfl (by as_aux_lemma => kernel_rfl) (fun _ _ _ h => h) (Or.inl ⟨by rfl, ?_⟩) (by assumption) ?_ ?_
    rotate_left
    · intro w' hSw; (try dsimp only at hSw)
      go_simp
      try with_reducible rfl
    rotate_left
    · simp only [Act.put, List.setIfInBounds_toArray, List.set_cons_zero, List.set_cons_succ]
      rfl
    refine take_ (i := 68) (N := (some 85)) (v := ?_) (a' := ?_) #[true, true, true, true, true, true, true, true, true, true, true, true, true, true, true, true, true, true, true, true, true, true, true, true, true, true, true, true, true, true, true, true, true, true, true, true, true, true, true, true, true, true, true, true, true, true, true, true, true, true, true, true, true, true, true, true, true, true, true, true, true, true, true, true, true, true, true, true, true, false, false, false, false, false, false, false, false, false, false] rfl rfl (by as_aux_lemma => kernel_rfl) (fun _ _ _ h => h) (Or.inl ⟨by rfl, ?_⟩) (by assumption) ?_ ?_
    rotate_left
    · intro w' hSw; (try dsimp only at hSw)
      go_simp
      try with_reducible rfl
    rotate_left
    · simp only [Act.put, List.setIfInBounds_toArray, List.set_cons_zero, List.set_cons_succ]
      rfl
    refine take_ (i := 69) (N := (some 86)) (v := ?_) (a' := ?_) #[true, true, true, true, true, true, true, true, true, true, true, true, true, true, true, true, true, true, true, true, true, true, true, true, true, true, true, true, true, true, true, true, true, true, true, true, true, true, true, true, true, true, true, true, true, true, true, true, true, true, true, true, true, true, true, true, true, true, true, true, true, true, true, true, true, true, true, true, true, true, false, false, false, false, false, false, false, false, false] rfl rfl (by as_aux_lemma => kernel_rfl) (fun _ _ _ h => h) (Or.inl ⟨by rfl, ?_⟩) (by assumption) ?_ ?_
    rotate_left
    · intro w' hSw; (try dsimp only at hSw)
      go_simp
      try with_reducible rfl
    rotate_left
    · simp only [Act.put, List.setIfInBounds_toArray, List.set_cons_zero, List.set_cons_succ]
      rfl
    refine take_ (i := 72) (N := (some 89)) (v := ?_) (a' := ?_) #[true, true, true, true, true, true, true, true, true, true, true, true, true, true, true, true, true, true, true, true, true, true, true, true, true, true, true, true, true, true, true, true, true, true, true, true, true, true, true, true, true, true, true, true, true, true, true, true, true, true, true, true, true, true, true, true, true, true, true, true, true, true, true, true, true, true, true, true, true, true, false, false, true, false, false, false, false, false, false] rfl rfl (by as_aux_lemma => kernel_rfl) (fun _ _ _ h => h) (Or.inl ⟨by rfl, ?_⟩) (by assumption) ?_ ?_
    rotate_left
    · intro w' hSw; (try dsimp only at hSw)
      go_simp
      try with_reducible rfl
    rotate_left
    · simp only [Act.put, List.setIfInBounds_toArray, List.set_cons_zero, List.set_cons_succ]
      rfl
    refine take_ (i := 73) (N := (some 90)) (v := ?_) (a' := ?_) #[true, true, true, true, true, true, true, true, true, true, true, true, true, true, true, true, true, true, true, true, true, true, true, true, true, true, true, true, true, true, true, true, true, true, true, true, true, true, true, true, true, true, true, true, true, true, true, true, true, true, true, true, true, true, true, true, true, true, true, true, true, true, true, true, true, true, true, true, true, true, false, false, true, true, false, false, false, false, false] rfl rfl (by as_aux_lemma => kernel_rfl) (fun _ _ _ h => h) (Or.inl ⟨by rfl, ?_⟩) (by assumption) ?_ ?_
    rotate_left
    · intro w' hSw; (try dsimp only at hSw)
      go_simp
      try with_reducible rfl
    rotate_left
    · simp only [Act.put, List.setIfInBounds_toArray, List.set_cons_zero, List.set_cons_succ]
      rfl
    refine one_ (i := 70) (N := (some 87)) #[true, true, true, true, true, true, true, true, true, true, true, true, true, true, true, true, true, true, true, true, true, true, true, true, true, true, true, true, true, true, true, true, true, true, true, true, true, true, true, true, true, true, true, true, true, true, true, true, true, true, true, true, true, true, true, true, true, true, true, true, true, true, true, true, true, true, true, true, true, true, true, false, true, true, false, false, false, false, false] rfl rfl (by as_aux_lemma => kernel_rfl) (by simp) (fun K hK => ?_)
    go_simp
    refine (c16 _).mono ?_
    rintro e w33 ⟨rfl, hx33⟩
    refine hK.out _ _ ?_ (fun hHeld => ?_)
    · first | assumption | exact hHeld.trans (by assumption)
    clear hK K
    (try simp only [Act.put, List.setIfInBounds_toArray, List.set_cons_zero, List.set_cons_succ])
    refine take_ (i := 71) (N := (some 88)) (v := ?_) (a' := ?_) #[true, true, true, true, true, true, true, true, true, true, true, true, true, true, true, true, true, true, true, true, true, true, true, true, true, true, true, true, true, true, true, true, true, true, true, true, true, true, true, true, true, true, true, true, true, true, true, true, true, true, true, true, true, true, true, true, true, true, true, true, true, true, true, true, true, true, true, true, true, true, true, true, true, true, false, false, false, false, false] rfl rfl (by as_aux_lemma => kernel_rfl) (fun _ _ _ h => h) (Or.inl ⟨by rfl, ?_⟩) (by assumption) ?_ ?_
    rotate_left
    · intro w' hSw; (try dsimp only at hSw)
      go_simp
      try with_reducible rfl
    rotate_left
    · simp only [Act.put, List.setIfInBounds_toArray, List.set_cons_zero, List.set_cons_succ]
      rfl
    refine one_ (i := 74) (N := (some 91)) #[true, true, true, true, true, true, true, true, true, true, true, true, true, true, true, true, true, true, true, true, true, true, true, true, true, true, true, true, true, true, true, true, true, true, true, true, true, true, true, true, true, true, true, true, true, true, true, true, true, true, true, true, true, true, true, true, true, true, true, true, true, true, true, true, true, true, true, true, true, true, true, true, true, true, true, false, false, false, false] rfl rfl (by as_aux_lemma => kernel_rfl) (by simp) (fun K hK => ?_)
    go_simp
    refine (c17 _).mono ?_
    rintro e w34 ⟨rfl, hx34⟩
    refine hK.out _ _ ?_ (fun hHeld => ?_)
    · first | assumption | exact hHeld.trans (by assumption)
    clear hK K
    (try simp only [Act.put, List.setIfInBounds_toArray, List.set_cons_zero, List.set_cons_succ])
    refine take_ (i := 75) (N := (some 92)) (v := ?_) (a' := ?_) #[true, true, true, true, true, true, true, true, true, true, true, true, true, true, true, true, true, true, true, true, true, true, true, true, true, true, true, true, true, true, true, true, true, true, true, true, true, true, true, true, true, true, true, true, true, true, true, true, true, true, true, true, true, true, true, true, true, true, true, true, true, true, true, true, true, true, true, true, true, true, true, true, true, true, true, true, false, false, false] rfl rfl (by as_aux_lemma => kernel_rfl) (fun _ _ _ h => h) (Or.inl ⟨by rfl, ?_⟩) (by assumption) ?_ ?_
    rotate_left
    · intro w' hSw; (try dsimp only at hSw)
      go_simp
      try with_reducible rfl
    rotate_left
    · simp only [Act.put, List.setIfInBounds_toArray, List.set_cons_zero, List.set_cons_succ]
      rfl
    refine take_ (i := 76) (N := (some 93)) (v := ?_) (a' := ?_) #[true, true, true, true, true, true, true, true, true, true, true, true, true, true, true, true, true, true, true, true, true, true, true, true, true, true, true, true, true, true, true, true, true, true, true, true, true, true, true, true, true, true, true, true, true, true, true, true, true, true, true, true, true, true, true, true, true, true, true, true, true, true, true, true, true, true, true, true, true, true, true, true, true, true, true, true, true, false, false] rfl rfl (by as_aux_lemma => kernel_rfl) (fun _ _ _ h => h) (Or.inl ⟨by rfl, ?_⟩) (by assumption) ?_ ?_
    rotate_left
    · intro w' hSw; (try dsimp only at hSw)
      go_simp
      try with_reducible rfl
    rotate_left
    · simp only [Act.put, List.setIfInBounds_toArray, List.set_cons_zero, List.set_cons_succ]
      rfl
    refine take_ (i := 77) (N := (some 94)) (v := ?_) (a' := ?_) #[true, true, true, true, true, true, true, true, true, true, true, true, true, true, true, true, true, true, true, true, true, true, true, true, true, true, true, true, true, true, true, true, true, true, true, true, true, true, true, true, true, true, true, true, true, true, true, true, true, true, true, true, true, true, true, true, true, true, true, true, true, true, true, true, true, true, true, true, true, true, true, true, true, true, true, true, true, true, false] rfl rfl (by as_aux_lemma => kernel_rfl) (fun _ _ _ h => h) (Or.inl ⟨by rfl, ?_⟩) (by assumption) ?_ ?_
    rotate_left
    · intro w' hSw; (try dsimp only at hSw)
      go_simp
      try with_reducible rfl
    rotate_left
    · simp only [Act.put, List.setIfInBounds_toArray, List.set_cons_zero, List.set_cons_succ]
      rfl
    refine take_ (i := 78) (N := (some 6)) (v := ?_) (a' := ?_) #[true, true, true, true, true, true, true, true, true, true, true, true, true, true, true, true, true, true, true, true, true, true, true, true, true, true, true, true, true, true, true, true, true, true, true, true, true, true, true, true, true, true, true, true, true, true, true, true, true, true, true, true, true, true, true, true, true, true, true, true, true, true, true, true, true, true, true, true, true, true, true, true, true, true, true, true, true, true, true] rfl rfl (by as_aux_lemma => kernel_rfl) (fun _ _ _ h => h) (Or.inl ⟨by rfl, ?_⟩) (by assumption) ?_ ?_
    rotate_left
    · intro w' hSw; (try dsimp only at hSw)
      go_simp
      try with_reducible rfl
    rotate_left
    · simp only [Act.put, List.setIfInBounds_toArray, List.set_cons_zero, List.set_cons_succ]
      rfl
    refine done_ (by kernel_rfl) ?_
    go_wp2
    go_ret
    exact ⟨rfl, (hX4.trans hXj).trans hHeld⟩
  · intro hJ
    refine three_ (i := 2) (Ni := (some 13)) (j := 6) (Nj := (some 7)) (k := 7) (Nk := (some 8)) #[true, true, true, true, true, false, false, false, false, false] #[true, true, false, true, true, false, true, false, false, false] #[true, true, false, true, true, false, false, true, false, false] rfl rfl rfl rfl rfl rfl (by kernel_rfl) (by simp) (by simp) (by simp) (fun K hK => ?_) (fun K hK => ?_) (fun K hK => ?_)
    · go_simp
      refine (c1 _).mono ?_
      rintro e v1 ⟨rfl, x1⟩
      have X1 := Ext.trans ((Ext.refl w4).drew) x1
      refine hK.out _ _ ?_ (fun hHeld => ?_)
      · exact X1
      clear hK K
      (try simp only [Act.put, List.setIfInBounds_toArray, List.set_cons_zero, List.set_cons_succ])
      refine three_ (i := 5) (Ni := (some 16)) (j := 6) (Nj := (some 7)) (k := 7) (Nk := (some 8)) #[true, true, true, true, true, true, false, false, false, false] #[true, true, true, true, true, false, true, false, false, false] #[true, true, true, true, true, false, false, true, false, false] rfl rfl rfl rfl rfl rfl (by kernel_rfl) (by simp) (by simp) (by simp) (fun K hK => ?_) (fun K hK => ?_) (fun K hK => ?_)
      · go_simp
        refine (c2 _).mono ?_
        rintro e v2 ⟨rfl, x2⟩
        have X2 := Ext.trans (X1) x2
        refine hK.out _ _ ?_ (fun hHeld => ?_)
        · exact X2
        clear hK K
        (try simp only [Act.put, List.setIfInBounds_toArray, List.set_cons_zero, List.set_cons_succ])
        refine two_ (i := 6) (Ni := (some 7)) (j := 7) (Nj := (some 8)) #[true, true, true, true, true, true, true, false, false, false] #[true, true, true, true, true, true, false, true, false, false] rfl rfl rfl rfl (by kernel_rfl) (by simp) (by simp) (fun K hK => ?_) (fun K hK => ?_)
        · obtain ⟨g3, G3⟩ : ∃ g, Hid ((World.heap (v2)).size = g) := ⟨_, Lib.hid rfl⟩
          obtain ⟨v3, V3, -, x3, at3, fr3, kk3⟩ := alloc7 (v2) (fun _ => 0) 51 g3 G3.out
          have X3 := Ext.trans (X2) x3
          have le3 : w4.heap.size ≤ g3 := by rw [← G3.out]; exact Ext.size (X2)
          have rg3 := G3.out
          have rv3 := V3.out
          go_simp
          clear rg3 rv3
          refine hK.out _ _ ?_ (fun hHeld => ?_)
          · exact X3
          clear hK K
          (try simp only [Act.put, List.setIfInBounds_toArray, List.set_cons_zero, List.set_cons_succ])
          refine one_ (i := 7) (N := (some 8)) #[true, true, true, true, true, true, true, true, false, false] rfl rfl (by kernel_rfl) (by simp) (fun K hK => ?_)
          obtain ⟨g4, G4⟩ : ∃ g, Hid ((World.heap (v3)).size = g) := ⟨_, Lib.hid rfl⟩
          obtain ⟨v4, V4, -, x4, at4, fr4, kk4⟩ := alloc7 (v3) (fun _ => 0) 51 g4 G4.out
          have X4 := Ext.trans (X3) x4
          have le4 : w4.heap.size ≤ g4 := by rw [← G4.out]; exact Ext.size (X3)
          have ne4_6 : g4 ≠ g3 := by rw [← G4.out]; exact Nat.ne_of_gt at3.lt
          have fr4_6 := fr3.ext x4 at3.lt
          have at4_6 := at3.ext x4
          have rg4 := G4.out
          have rv4 := V4.out
          go_simp
          clear rg4 rv4
          refine hK.out _ _ ?_ (fun hHeld => ?_)
          · exact X4
          clear hK K
          (try simp only [Act.put, List.setIfInBounds_toArray, List.set_cons_zero, List.set_cons_succ])
          refine one_ (i := 8) (N := none) #[true, true, true, true, true, true, true, true, true, false] rfl rfl (by kernel_rfl) (by simp) (fun K hK => ?_)
          obtain ⟨v5, V5, at5, kx5, kr5, kf5, -⟩ := put7 (v4) g3 _ m at4_6
          obtain ⟨y0, y1, y2, y3, y4, y5, y6⟩ := at4_6.cells0
          obtain ⟨z0, z1, z2, z3, z4, z5, z6⟩ := fr4_6.cells0
          have rv5 := V5.out
          have X5 := kx5 w4 (X4) le3
          go_simp
          clear rv5 y0 y1 y2 y3 y4 y5 y6 z0 z1 z2 z3 z4 z5 z6
          have at5_7 := kr5 _ _ _ ne4_6 at4
          refine hK.out _ _ ?_ (fun hHeld => ?_)
          · exact X5
          clear hK K
          (try simp only [Act.put, List.setIfInBounds_toArray, List.set_cons_zero, List.set_cons_succ])
          refine one_ (i := 9) (N := none) #[true, true, true, true, true, true, true, true, true, true] rfl rfl (by kernel_rfl) (by simp) (fun K hK => ?_)
          obtain ⟨v6, V6, at6, kx6, kr6, kf6, -⟩ := put7 (v5) g4 _ l at5_7
          obtain ⟨y0, y1, y2, y3, y4, y5, y6⟩ := at5_7.cells0
          obtain ⟨z0, z1, z2, z3, z4, z5, z6⟩ := (kf5 _ _ fr4).cells0
          have rv6 := V6.out
          have X6 := kx6 w4 (X5) le4
          go_simp
          clear rv6 y0 y1 y2 y3 y4 y5 y6 z0 z1 z2 z3 z4 z5 z6
          have at6_6 := kr6 _ _ _ (Ne.symm ne4_6) at5
          refine hK.out _ _ ?_ (fun hHeld => ?_)
          · exact X6
          clear hK K
          (try simp only [Act.put, List.setIfInBounds_toArray, List.set_cons_zero, List.set_cons_succ])
          exact hJ (g3, g4) _ ⟨X6, at6_6, at6⟩
        · obtain ⟨g7, G7⟩ : ∃ g, Hid ((World.heap (v2)).size = g) := ⟨_, Lib.hid rfl⟩
          obtain ⟨v7, V7, -, x7, at7, fr7, kk7⟩ := alloc7 (v2) (fun _ => 0) 51 g7 G7.out
          have X7 := Ext.trans (X2) x7
          have le7 : w4.heap.size ≤ g7 := by rw [← G7.out]; exact Ext.size (X2)
          have rg7 := G7.out
          have rv7 := V7.out
          go_simp
          clear rg7 rv7
          refine hK.out _ _ ?_ (fun hHeld => ?_)
          · exact X7
          clear hK K
          (try simp only [Act.put, List.setIfInBounds_toArray, List.set_cons_zero, List.set_cons_succ])
          refine one_ (i := 6) (N := (some 7)) #[true, true, true, true, true, true, true, true, false, false] rfl rfl (by kernel_rfl) (by simp) (fun K hK => ?_)
          obtain ⟨g8, G8⟩ : ∃ g, Hid ((World.heap (v7)).size = g) := ⟨_, Lib.hid rfl⟩
          obtain ⟨v8, V8, -, x8, at8, fr8, kk8⟩ := alloc7 (v7) (fun _ => 0) 51 g8 G8.out
          have X8 := Ext.trans (X7) x8
          have le8 : w4.heap.size ≤ g8 := by rw [← G8.out]; exact Ext.size (X7)
          have ne8_7 : g8 ≠ g7 := by rw [← G8.out]; exact Nat.ne_of_gt at7.lt
          have fr8_7 := fr7.ext x8 at7.lt
          have at8_7 := at7.ext x8
          have rg8 := G8.out
          have rv8 := V8.out
          go_simp
          clear rg8 rv8
          refine hK.out _ _ ?_ (fun hHeld => ?_)
          · exact X8
          clear hK K
          (try simp only [Act.put, List.setIfInBounds_toArray, List.set_cons_zero, List.set_cons_succ])
          refine one_ (i := 8) (N := none) #[true, true, true, true, true, true, true, true, true, false] rfl rfl (by kernel_rfl) (by simp) (fun K hK => ?_)
          obtain ⟨v9, V9, at9, kx9, kr9, kf9, -⟩ := put7 (v8) g8 _ m at8
          obtain ⟨y0, y1, y2, y3, y4, y5, y6⟩ := at8.cells0
          obtain ⟨z0, z1, z2, z3, z4, z5, z6⟩ := fr8.cells0
          have rv9 := V9.out
          have X9 := kx9 w4 (X8) le8
          go_simp
          clear rv9 y0 y1 y2 y3 y4 y5 y6 z0 z1 z2 z3 z4 z5 z6
          have at9_7 := kr9 _ _ _ (Ne.symm ne8_7) at8_7
          refine hK.out _ _ ?_ (fun hHeld => ?_)
          · exact X9
          clear hK K
          (try simp only [Act.put, List.setIfInBounds_toArray, List.set_cons_zero, List.set_cons_succ])
          refine one_ (i := 9) (N := none) #[true, true, true, true, true, true, true, true, true, true] rfl rfl (by kernel_rfl) (by simp) (fun K hK => ?_)
          obtain ⟨v10, V10, at10, kx10, kr10, kf10, -⟩ := put7 (v9) g7 _ l at9_7
          obtain ⟨y0, y1, y2, y3, y4, y5, y6⟩ := at9_7.cells0
          obtain ⟨z0, z1, z2, z3, z4, z5, z6⟩ := (kf9 _ _ fr8_7).cells0
          have rv10 := V10.out
          have X10 := kx10 w4 (X9) le7
          go_simp
          clear rv10 y0 y1 y2 y3 y4 y5 y6 z0 z1 z2 z3 z4 z5 z6
          have at10_6 := kr10 _ _ _ ne8_7 at9
          refine hK.out _ _ ?_ (fun hHeld => ?_)
          · exact X10
          clear hK K
          (try simp only [Act.put, List.setIfInBounds_toArray, List.set_cons_zero, List.set_cons_succ])
          exact hJ (g8, g7) _ ⟨X10, at10_6, at10⟩
      · obtain ⟨g11, G11⟩ : ∃ g, Hid ((World.heap (v1)).size = g) := ⟨_, Lib.hid rfl⟩
        obtain ⟨v11, V11, -, x11, at11, fr11, kk11⟩ := alloc7 (v1) (fun _ => 0) 51 g11 G11.out
        have X11 := Ext.trans (X1) x11
        have le11 : w4.heap.size ≤ g11 := by rw [← G11.out]; exact Ext.size (X1)
        have rg11 := G11.out
        have rv11 := V11.out
        go_simp
        clear rg11 rv11
        refine hK.out _ _ ?_ (fun hHeld => ?_)
        · exact X11
        clear hK K
        (try simp only [Act.put, List.setIfInBounds_toArray, List.set_cons_zero, List.set_cons_succ])
        refine two_ (i := 5) (Ni := (some 16)) (j := 7) (Nj := (some 8)) #[true, true, true, true, true, true, true, false, false, false] #[true, true, true, true, true, false, true, true, false, false] rfl rfl rfl rfl (by kernel_rfl) (by simp) (by simp) (fun K hK => ?_) (fun K hK => ?_)
        · go_simp
          refine (c2 _).mono ?_
          rintro e v12 ⟨rfl, x12⟩
          have X12 := Ext.trans (X11) x12
          have fr12_6 := fr11.ext x12 at11.lt
          have at12_6 := at11.ext x12
          refine hK.out _ _ ?_ (fun hHeld => ?_)
          · exact X12
          clear hK K
          (try simp only [Act.put, List.setIfInBounds_toArray, List.set_cons_zero, List.set_cons_succ])
          refine one_ (i := 7) (N := (some 8)) #[true, true, true, true, true, true, true, true, false, false] rfl rfl (by kernel_rfl) (by simp) (fun K hK => ?_)
          obtain ⟨g13, G13⟩ : ∃ g, Hid ((World.heap (v12)).size = g) := ⟨_, Lib.hid rfl⟩
          obtain ⟨v13, V13, -, x13, at13, fr13, kk13⟩ := alloc7 (v12) (fun _ => 0) 51 g13 G13.out
          have X13 := Ext.trans (X12) x13
          have le13 : w4.heap.size ≤ g13 := by rw [← G13.out]; exact Ext.size (X12)
          have ne13_6 : g13 ≠ g11 := by rw [← G13.out]; exact Nat.ne_of_gt at12_6.lt
          have fr13_6 := fr12_6.ext x13 at12_6.lt
          have at13_6 := at12_6.ext x13
          have rg13 := G13.out
          have rv13 := V13.out
          go_simp
          clear rg13 rv13
          refine hK.out _ _ ?_ (fun hHeld => ?_)
          · exact X13
          clear hK K
          (try simp only [Act.put, List.setIfInBounds_toArray, List.set_cons_zero, List.set_cons_succ])
          refine one_ (i := 8) (N := none) #[true, true, true, true, true, true, true, true, true, false] rfl rfl (by kernel_rfl) (by simp) (fun K hK => ?_)
          obtain ⟨v14, V14, at14, kx14, kr14, kf14, -⟩ := put7 (v13) g11 _ m at13_6
          obtain ⟨y0, y1, y2, y3, y4, y5, y6⟩ := at13_6.cells0
          obtain ⟨z0, z1, z2, z3, z4, z5, z6⟩ := fr13_6.cells0
          have rv14 := V14.out
          have X14 := kx14 w4 (X13) le11
          go_simp
          clear rv14 y0 y1 y2 y3 y4 y5 y6 z0 z1 z2 z3 z4 z5 z6
          have at14_7 := kr14 _ _ _ ne13_6 at13
          refine hK.out _ _ ?_ (fun hHeld => ?_)
          · exact X14
          clear hK K
          (try simp only [Act.put, List.setIfInBounds_toArray, List.set_cons_zero, List.set_cons_succ])
          refine one_ (i := 9) (N := none) #[true, true, true, true, true, true, true, true, true, true] rfl rfl (by kernel_rfl) (by simp) (fun K hK => ?_)
          obtain ⟨v15, V15, at15, kx15, kr15, kf15, -⟩ := put7 (v14) g13 _ l at14_7
          obtain ⟨y0, y1, y2, y3, y4, y5, y6⟩ := at14_7.cells0
          obtain ⟨z0, z1, z2, z3, z4, z5, z6⟩ := (kf14 _ _ fr13).cells0
          have rv15 := V15.out
          have X15 := kx15 w4 (X14) le13
          go_simp
          clear rv15 y0 y1 y2 y3 y4 y5 y6 z0 z1 z2 z3 z4 z5 z6
          have at15_6 := kr15 _ _ _ (Ne.symm ne13_6) at14
          refine hK.out _ _ ?_ (fun hHeld => ?_)
          · exact X15
          clear hK K
          (try simp only [Act.put, List.setIfInBounds_toArray, List.set_cons_zero, List.set_cons_succ])
          exact hJ (g11, g13) _ ⟨X15, at15_6, at15⟩
        · obtain ⟨g16, G16⟩ : ∃ g, Hid ((World.heap (v11)).size = g) := ⟨_, Lib.hid rfl⟩
          obtain ⟨v16, V16, -, x16, at16, fr16, kk16⟩ := alloc7 (v11) (fun _ => 0) 51 g16 G16.out
          have X16 := Ext.trans (X11) x16
          have le16 : w4.heap.size ≤ g16 := by rw [← G16.out]; exact Ext.size (X11)
          have ne16_6 : g16 ≠ g11 := by rw [← G16.out]; exact Nat.ne_of_gt at11.lt
          have fr16_6 := fr11.ext x16 at11.lt
          have at16_6 := at11.ext x16
          have rg16 := G16.out
          have rv16 := V16.out
          go_simp
          clear rg16 rv16
          refine hK.out _ _ ?_ (fun hHeld => ?_)
          · exact X16
          clear hK K
          (try simp only [Act.put, List.setIfInBounds_toArray, List.set_cons_zero, List.set_cons_succ])
          refine one_ (i := 5) (N := (some 16)) #[true, true, true, true, true, true, true, true, false, false] rfl rfl (by kernel_rfl) (by simp) (fun K hK => ?_)
          go_simp
          refine (c2 _).mono ?_
          rintro e v17 ⟨rfl, x17⟩
          have X17 := Ext.trans (X16) x17
          have fr17_6 := fr16_6.ext x17 at16_6.lt
          have at17_6 := at16_6.ext x17
          have fr17_7 := fr16.ext x17 at16.lt
          have at17_7 := at16.ext x17
          refine hK.out _ _ ?_ (fun hHeld => ?_)
          · exact X17
          clear hK K
          (try simp only [Act.put, List.setIfInBounds_toArray, List.set_cons_zero, List.set_cons_succ])
          refine one_ (i := 8) (N := none) #[true, true, true, true, true, true, true, true, true, false] rfl rfl (by kernel_rfl) (by simp) (fun K hK => ?_)
          obtain ⟨v18, V18, at18, kx18, kr18, kf18, -⟩ := put7 (v17) g11 _ m at17_6
          obtain ⟨y0, y1, y2, y3, y4, y5, y6⟩ := at17_6.cells0
          obtain ⟨z0, z1, z2, z3, z4, z5, z6⟩ := fr17_6.cells0
          have rv18 := V18.out
          have X18 := kx18 w4 (X17) le11
          go_simp
          clear rv18 y0 y1 y2 y3 y4 y5 y6 z0 z1 z2 z3 z4 z5 z6
          have at18_7 := kr18 _ _ _ ne16_6 at17_7
          refine hK.out _ _ ?_ (fun hHeld => ?_)
          · exact X18
          clear hK K
          (try simp only [Act.put, List.setIfInBounds_toArray, List.set_cons_zero, List.set_cons_succ])
          refine one_ (i := 9) (N := none) #[true, true, true, true, true, true, true, true, true, true] rfl rfl (by kernel_rfl) (by simp) (fun K hK => ?_)
          obtain ⟨v19, V19, at19, kx19, kr19, kf19, -⟩ := put7 (v18) g16 _ l at18_7
          obtain ⟨y0, y1, y2, y3, y4, y5, y6⟩ := at18_7.cells0
          obtain ⟨z0, z1, z2, z3, z4, z5, z6⟩ := (kf18 _ _ fr17_7).cells0
          have rv19 := V19.out
          have X19 := kx19 w4 (X18) le16
          go_simp
          clear rv19 y0 y1 y2 y3 y4 y5 y6 z0 z1 z2 z3 z4 z5 z6
          have at19_6 := kr19 _ _ _ (Ne.symm ne16_6) at18
          refine hK.out _ _ ?_ (fun hHeld => ?_)
          · exact X19
          clear hK K
          (try simp only [Act.put, List.setIfInBounds_toArray, List.set_cons_zero, List.set_cons_succ])
          exact hJ (g11, g16) _ ⟨X19, at19_6, at19⟩
      · obtain ⟨g20, G20⟩ : ∃ g, Hid ((World.heap (v1)).size = g) := ⟨_, Lib.hid rfl⟩
        obtain ⟨v20, V20, -, x20, at20, fr20, kk20⟩ := alloc7 (v1) (fun _ => 0) 51 g20 G20.out
        have X20 := Ext.trans (X1) x20
        have le20 : w4.heap.size ≤ g20 := by rw [← G20.out]; exact Ext.size (X1)
        have rg20 := G20.out
        have rv20 := V20.out
        go_simp
        clear rg20 rv20
        refine hK.out _ _ ?_ (fun hHeld => ?_)
        · exact X20
        clear hK K
        (try simp only [Act.put, List.setIfInBounds_toArray, List.set_cons_zero, List.set_cons_succ])
        refine two_ (i := 5) (Ni := (some 16)) (j := 6) (Nj := (some 7)) #[true, true, true, true, true, true, false, true, false, false] #[true, true, true, true, true, false, true, true, false, false] rfl rfl rfl rfl (by kernel_rfl) (by simp) (by simp) (fun K hK => ?_) (fun K hK => ?_)
        · go_simp
          refine (c2 _).mono ?_
          rintro e v21 ⟨rfl, x21⟩
          have X21 := Ext.trans (X20) x21
          have fr21_7 := fr20.ext x21 at20.lt
          have at21_7 := at20.ext x21
          refine hK.out _ _ ?_ (fun hHeld => ?_)
          · exact X21
          clear hK K
          (try simp only [Act.put, List.setIfInBounds_toArray, List.set_cons_zero, List.set_cons_succ])
          refine one_ (i := 6) (N := (some 7)) #[true, true, true, true, true, true, true, true, false, false] rfl rfl (by kernel_rfl) (by simp) (fun K hK => ?_)
          obtain ⟨g22, G22⟩ : ∃ g, Hid ((World.heap (v21)).size = g) := ⟨_, Lib.hid rfl⟩
          obtain ⟨v22, V22, -, x22, at22, fr22, kk22⟩ := alloc7 (v21) (fun _ => 0) 51 g22 G22.out
          have X22 := Ext.trans (X21) x22
          have le22 : w4.heap.size ≤ g22 := by rw [← G22.out]; exact Ext.size (X21)
          have ne22_7 : g22 ≠ g20 := by rw [← G22.out]; exact Nat.ne_of_gt at21_7.lt
          have fr22_7 := fr21_7.ext x22 at21_7.lt
          have at22_7 := at21_7.ext x22
          have rg22 := G22.out
          have rv22 := V22.out
          go_simp
          clear rg22 rv22
          refine hK.out _ _ ?_ (fun hHeld => ?_)
          · exact X22
          clear hK K
          (try simp only [Act.put, List.setIfInBounds_toArray, List.set_cons_zero, List.set_cons_succ])
          refine one_ (i := 8) (N := none) #[true, true, true, true, true, true, true, true, true, false] rfl rfl (by kernel_rfl) (by simp) (fun K hK => ?_)
          obtain ⟨v23, V23, at23, kx23, kr23, kf23, -⟩ := put7 (v22) g22 _ m at22
          obtain ⟨y0, y1, y2, y3, y4, y5, y6⟩ := at22.cells0
          obtain ⟨z0, z1, z2, z3, z4, z5, z6⟩ := fr22.cells0
          have rv23 := V23.out
          have X23 := kx23 w4 (X22) le22
          go_simp
          clear rv23 y0 y1 y2 y3 y4 y5 y6 z0 z1 z2 z3 z4 z5 z6
          have at23_7 := kr23 _ _ _ (Ne.symm ne22_7) at22_7
          refine hK.out _ _ ?_ (fun hHeld => ?_)
          · exact X23
          clear hK K
          (try simp only [Act.put, List.setIfInBounds_toArray, List.set_cons_zero, List.set_cons_succ])
          refine one_ (i := 9) (N := none) #[true, true, true, true, true, true, true, true, true, true] rfl rfl (by kernel_rfl) (by simp) (fun K hK => ?_)
          obtain ⟨v24, V24, at24, kx24, kr24, kf24, -⟩ := put7 (v23) g20 _ l at23_7
          obtain ⟨y0, y1, y2, y3, y4, y5, y6⟩ := at23_7.cells0
          obtain ⟨z0, z1, z2, z3, z4, z5, z6⟩ := (kf23 _ _ fr22_7).cells0
          have rv24 := V24.out
          have X24 := kx24 w4 (X23) le20
          go_simp
          clear rv24 y0 y1 y2 y3 y4 y5 y6 z0 z1 z2 z3 z4 z5 z6
          have at24_6 := kr24 _ _ _ ne22_7 at23
          refine hK.out _ _ ?_ (fun hHeld => ?_)
          · exact X24
          clear hK K
          (try simp only [Act.put, List.setIfInBounds_toArray, List.set_cons_zero, List.set_cons_succ])
          exact hJ (g22, g20) _ ⟨X24, at24_6, at24⟩
        · obtain ⟨g25, G25⟩ : ∃ g, Hid ((World.heap (v20)).size = g) := ⟨_, Lib.hid rfl⟩
          obtain ⟨v25, V25, -, x25, at25, fr25, kk25⟩ := alloc7 (v20) (fun _ => 0) 51 g25 G25.out
          have X25 := Ext.trans (X20) x25
          have le25 : w4.heap.size ≤ g25 := by rw [← G25.out]; exact Ext.size (X20)
          have ne25_7 : g25 ≠ g20 := by rw [← G25.out]; exact Nat.ne_of_gt at20.lt
          have fr25_7 := fr20.ext x25 at20.lt
          have at25_7 := at20.ext x25
          have rg25 := G25.out
          have rv25 := V25.out
          go_simp
          clear rg25 rv25
          refine hK.out _ _ ?_ (fun hHeld => ?_)
          · exact X25
          clear hK K
          (try simp only [Act.put, List.setIfInBounds_toArray, List.set_cons_zero, List.set_cons_succ])
          refine one_ (i := 5) (N := (some 16)) #[true, true, true, true, true, true, true, true, false, false] rfl rfl (by kernel_rfl) (by simp) (fun K hK => ?_)
          go_simp
          refine (c2 _).mono ?_
          rintro e v26 ⟨rfl, x26⟩
          have X26 := Ext.trans (X25) x26
          have fr26_7 := fr25_7.ext x26 at25_7.lt
          have at26_7 := at25_7.ext x26
          have fr26_6 := fr25.ext x26 at25.lt
          have at26_6 := at25.ext x26
          refine hK.out _ _ ?_ (fun hHeld => ?_)
          · exact X26
          clear hK K
          (try simp only [Act.put, List.setIfInBounds_toArray, List.set_cons_zero, List.set_cons_succ])
          refine one_ (i := 8) (N := none) #[true, true, true, true, true, true, true, true, true, false] rfl rfl (by kernel_rfl) (by simp) (fun K hK => ?_)
          obtain ⟨v27, V27, at27, kx27, kr27, kf27, -⟩ := put7 (v26) g25 _ m at26_6
          obtain ⟨y0, y1, y2, y3, y4, y5, y6⟩ := at26_6.cells0
          obtain ⟨z0, z1, z2, z3, z4, z5, z6⟩ := fr26_6.cells0
          have rv27 := V27.out
          have X27 := kx27 w4 (X26) le25
          go_simp
          clear rv27 y0 y1 y2 y3 y4 y5 y6 z0 z1 z2 z3 z4 z5 z6
          have at27_7 := kr27 _ _ _ (Ne.symm ne25_7) at26_7
          refine hK.out _ _ ?_ (fun hHeld => ?_)
          · exact X27
          clear hK K
          (try simp only [Act.put, List.setIfInBounds_toArray, List.set_cons_zero, List.set_cons_succ])
          refine one_ (i := 9) (N := none) #[true, true, true, true, true, true, true, true, true, true] rfl rfl (by kernel_rfl) (by simp) (fun K hK => ?_)
          obtain ⟨v28, V28, at28, kx28, kr28, kf28, -⟩ := put7 (v27) g20 _ l at27_7
          obtain ⟨y0, y1, y2, y3, y4, y5, y6⟩ := at27_7.cells0
          obtain ⟨z0, z1, z2, z3, z4, z5, z6⟩ := (kf27 _ _ fr26_7).cells0
          have rv28 := V28.out
          have X28 := kx28 w4 (X27) le20
          go_simp
          clear rv28 y0 y1 y2 y3 y4 y5 y6 z0 z1 z2 z3 z4 z5 z6
          have at28_6 := kr28 _ _ _ ne25_7 at27
          refine hK.out _ _ ?_ (fun hHeld => ?_)
          · exact X28
          clear hK K
          (try simp only [Act.put, List.setIfInBounds_toArray, List.set_cons_zero, List.set_cons_succ])
          exact hJ (g25, g20) _ ⟨X28, at28_6, at28⟩
    · obtain ⟨g29, G29⟩ : ∃ g, Hid ((World.heap (w4.drew)).size = g) := ⟨_, Lib.hid rfl⟩
      obtain ⟨v29, V29, -, x29, at29, fr29, kk29⟩ := alloc7 (w4.drew) (fun _ => 0) 51 g29 G29.out
      have X29 := Ext.trans ((Ext.refl w4).drew) x29
      have le29 : w4.heap.size ≤ g29 := by rw [← G29.out]; exact Ext.size ((Ext.refl w4).drew)
      have rg29 := G29.out
      have rv29 := V29.out
      go_simp
      clear rg29 rv29
      refine hK.out _ _ ?_ (fun hHeld => ?_)
      · exact X29
      clear hK K
      (try simp only [Act.put, List.setIfInBounds_toArray, List.set_cons_zero, List.set_cons_succ])
      refine two_ (i := 2) (Ni := (some 13)) (j := 7) (Nj := (some 8)) #[true, true, true, true, true, false, true, false, false, false] #[true, true, false, true, true, false, true, true, false, false] rfl rfl rfl rfl (by kernel_rfl) (by simp) (by simp) (fun K hK => ?_) (fun K hK => ?_)
      · go_simp
        refine (c1 _).mono ?_
        rintro e v30 ⟨rfl, x30⟩
        have X30 := Ext.trans (X29) x30
        have fr30_6 := fr29.ext x30 at29.lt
        have at30_6 := at29.ext x30
        refine hK.out _ _ ?_ (fun hHeld => ?_)
        · exact X30
        clear hK K
        (try simp only [Act.put, List.setIfInBounds_toArray, List.set_cons_zero, List.set_cons_succ])
        refine two_ (i := 5) (Ni := (some 16)) (j := 7) (Nj := (some 8)) #[true, true, true, true, true, true, true, false, false, false] #[true, true, true, true, true, false, true, true, false, false] rfl rfl rfl rfl (by kernel_rfl) (by simp) (by simp) (fun K hK => ?_) (fun K hK => ?_)
        · go_simp
          refine (c2 _).mono ?_
          rintro e v31 ⟨rfl, x31⟩
          have X31 := Ext.trans (X30) x31
          have fr31_6 := fr30_6.ext x31 at30_6.lt
          have at31_6 := at30_6.ext x31
          refine hK.out _ _ ?_ (fun hHeld => ?_)
          · exact X31
          clear hK K
          (try simp only [Act.put, List.setIfInBounds_toArray, List.set_cons_zero, List.set_cons_succ])
          refine one_ (i := 7) (N := (some 8)) #[true, true, true, true, true, true, true, true, false, false] rfl rfl (by kernel_rfl) (by simp) (fun K hK => ?_)
          obtain ⟨g32, G32⟩ : ∃ g, Hid ((World.heap (v31)).size = g) := ⟨_, Lib.hid rfl⟩
          obtain ⟨v32, V32, -, x32, at32, fr32, kk32⟩ := alloc7 (v31) (fun _ => 0) 51 g32 G32.out
          have X32 := Ext.trans (X31) x32
          have le32 : w4.heap.size ≤ g32 := by rw [← G32.out]; exact Ext.size (X31)
          have ne32_6 : g32 ≠ g29 := by rw [← G32.out]; exact Nat.ne_of_gt at31_6.lt
          have fr32_6 := fr31_6.ext x32 at31_6.lt
          have at32_6 := at31_6.ext x32
          have rg32 := G32.out
          have rv32 := V32.out
          go_simp
          clear rg32 rv32
          refine hK.out _ _ ?_ (fun hHeld => ?_)
          · exact X32
          clear hK K
          (try simp only [Act.put, List.setIfInBounds_toArray, List.set_cons_zero, List.set_cons_succ])
          refine one_ (i := 8) (N := none) #[true, true, true, true, true, true, true, true, true, false] rfl rfl (by kernel_rfl) (by simp) (fun K hK => ?_)
          obtain ⟨v33, V33, at33, kx33, kr33, kf33, -⟩ := put7 (v32) g29 _ m at32_6
          obtain ⟨y0, y1, y2, y3, y4, y5, y6⟩ := at32_6.cells0
          obtain ⟨z0, z1, z2, z3, z4, z5, z6⟩ := fr32_6.cells0
          have rv33 := V33.out
          have X33 := kx33 w4 (X32) le29
          go_simp
          clear rv33 y0 y1 y2 y3 y4 y5 y6 z0 z1 z2 z3 z4 z5 z6
          have at33_7 := kr33 _ _ _ ne32_6 at32
          refine hK.out _ _ ?_ (fun hHeld => ?_)
          · exact X33
          clear hK K
          (try simp only [Act.put, List.setIfInBounds_toArray, List.set_cons_zero, List.set_cons_succ])
          refine one_ (i := 9) (N := none) #[true, true, true, true, true, true, true, true, true, true] rfl rfl (by kernel_rfl) (by simp) (fun K hK => ?_)
          obtain ⟨v34, V34, at34, kx34, kr34, kf34, -⟩ := put7 (v33) g32 _ l at33_7
          obtain ⟨y0, y1, y2, y3, y4, y5, y6⟩ := at33_7.cells0
          obtain ⟨z0, z1, z2, z3, z4, z5, z6⟩ := (kf33 _ _ fr32).cells0
          have rv34 := V34.out
          have X34 := kx34 w4 (X33) le32
          go_simp
          clear rv34 y0 y1 y2 y3 y4 y5 y6 z0 z1 z2 z3 z4 z5 z6
          have at34_6 := kr34 _ _ _ (Ne.symm ne32_6) at33
          refine hK.out _ _ ?_ (fun hHeld => ?_)
          · exact X34
          clear hK K
          (try simp only [Act.put, List.setIfInBounds_toArray, List.set_cons_zero, List.set_cons_succ])
          exact hJ (g29, g32) _ ⟨X34, at34_6, at34⟩
        · obtain ⟨g35, G35⟩ : ∃ g, Hid ((World.heap (v30)).size = g) := ⟨_, Lib.hid rfl⟩
          obtain ⟨v35, V35, -, x35, at35, fr35, kk35⟩ := alloc7 (v30) (fun _ => 0) 51 g35 G35.out
          have X35 := Ext.trans (X30) x35
          have le35 : w4.heap.size ≤ g35 := by rw [← G35.out]; exact Ext.size (X30)
          have ne35_6 : g35 ≠ g29 := by rw [← G35.out]; exact Nat.ne_of_gt at30_6.lt
          have fr35_6 := fr30_6.ext x35 at30_6.lt
          have at35_6 := at30_6.ext x35
          have rg35 := G35.out
          have rv35 := V35.out
          go_simp
          clear rg35 rv35
          refine hK.out _ _ ?_ (fun hHeld => ?_)
          · exact X35
          clear hK K
          (try simp only [Act.put, List.setIfInBounds_toArray, List.set_cons_zero, List.set_cons_succ])
          refine one_ (i := 5) (N := (some 16)) #[true, true, true, true, true, true, true, true, false, false] rfl rfl (by kernel_rfl) (by simp) (fun K hK => ?_)
          go_simp
          refine (c2 _).mono ?_
          rintro e v36 ⟨rfl, x36⟩
          have X36 := Ext.trans (X35) x36
          have fr36_6 := fr35_6.ext x36 at35_6.lt
          have at36_6 := at35_6.ext x36
          have fr36_7 := fr35.ext x36 at35.lt
          have at36_7 := at35.ext x36
          refine hK.out _ _ ?_ (fun hHeld => ?_)
          · exact X36
          clear hK K
          (try simp only [Act.put, List.setIfInBounds_toArray, List.set_cons_zero, List.set_cons_succ])
          refine one_ (i := 8) (N := none) #[true, true, true, true, true, true, true, true, true, false] rfl rfl (by kernel_rfl) (by simp) (fun K hK => ?_)
          obtain ⟨v37, V37, at37, kx37, kr37, kf37, -⟩ := put7 (v36) g29 _ m at36_6
          obtain ⟨y0, y1, y2, y3, y4, y5, y6⟩ := at36_6.cells0
          obtain ⟨z0, z1, z2, z3, z4, z5, z6⟩ := fr36_6.cells0
          have rv37 := V37.out
          have X37 := kx37 w4 (X36) le29
          go_simp
          clear rv37 y0 y1 y2 y3 y4 y5 y6 z0 z1 z2 z3 z4 z5 z6
          have at37_7 := kr37 _ _ _ ne35_6 at36_7
          refine hK.out _ _ ?_ (fun hHeld => ?_)
          · exact X37
          clear hK K
          (try simp only [Act.put, List.setIfInBounds_toArray, List.set_cons_zero, List.set_cons_succ])
          refine one_ (i := 9) (N := none) #[true, true, true, true, true, true, true, true, true, true] rfl rfl (by kernel_rfl) (by simp) (fun K hK => ?_)
          obtain ⟨v38, V38, at38, kx38, kr38, kf38, -⟩ := put7 (v37) g35 _ l at37_7
          obtain ⟨y0, y1, y2, y3, y4, y5, y6⟩ := at37_7.cells0
          obtain ⟨z0, z1, z2, z3, z4, z5, z6⟩ := (kf37 _ _ fr36_7).cells0
          have rv38 := V38.out
          have X38 := kx38 w4 (X37) le35
          go_simp
          clear rv38 y0 y1 y2 y3 y4 y5 y6 z0 z1 z2 z3 z4 z5 z6
          have at38_6 := kr38 _ _ _ (Ne.symm ne35_6) at37
          refine hK.out _ _ ?_ (fun hHeld => ?_)
          · exact X38
          clear hK K
          (try simp only [Act.put, List.setIfInBounds_toArray, List.set_cons_zero, List.set_cons_succ])
          exact hJ (g29, g35) _ ⟨X38, at38_6, at38⟩
      · obtain ⟨g39, G39⟩ : ∃ g, Hid ((World.heap (v29)).size = g) := ⟨_, Lib.hid rfl⟩
        obtain ⟨v39, V39, -, x39, at39, fr39, kk39⟩ := alloc7 (v29) (fun _ => 0) 51 g39 G39.out
        have X39 := Ext.trans (X29) x39
        have le39 : w4.heap.size ≤ g39 := by rw [← G39.out]; exact Ext.size (X29)
        have ne39_6 : g39 ≠ g29 := by rw [← G39.out]; exact Nat.ne_of_gt at29.lt
        have fr39_6 := fr29.ext x39 at29.lt
        have at39_6 := at29.ext x39
        have rg39 := G39.out
        have rv39 := V39.out
        go_simp
        clear rg39 rv39
        refine hK.out _ _ ?_ (fun hHeld => ?_)
        · exact X39
        clear hK K
        (try simp only [Act.put, List.setIfInBounds_toArray, List.set_cons_zero, List.set_cons_succ])
        refine one_ (i := 2) (N := (some 13)) #[true, true, true, true, true, false, true, true, false, false] rfl rfl (by kernel_rfl) (by simp) (fun K hK => ?_)
        go_simp
        refine (c1 _).mono ?_
        rintro e v40 ⟨rfl, x40⟩
        have X40 := Ext.trans (X39) x40
        have fr40_6 := fr39_6.ext x40 at39_6.lt
        have at40_6 := at39_6.ext x40
        have fr40_7 := fr39.ext x40 at39.lt
        have at40_7 := at39.ext x40
        refine hK.out _ _ ?_ (fun hHeld => ?_)
        · exact X40
        clear hK K
        (try simp only [Act.put, List.setIfInBounds_toArray, List.set_cons_zero, List.set_cons_succ])
        refine one_ (i := 5) (N := (some 16)) #[true, true, true, true, true, true, true, true, false, false] rfl rfl (by kernel_rfl) (by simp) (fun K hK => ?_)
        go_simp
        refine (c2 _).mono ?_
        rintro e v41 ⟨rfl, x41⟩
        have X41 := Ext.trans (X40) x41
        have fr41_6 := fr40_6.ext x41 at40_6.lt
        have at41_6 := at40_6.ext x41
        have fr41_7 := fr40_7.ext x41 at40_7.lt
        have at41_7 := at40_7.ext x41
        refine hK.out _ _ ?_ (fun hHeld => ?_)
        · exact X41
        clear hK K
        (try simp only [Act.put, List.setIfInBounds_toArray, List.set_cons_zero, List.set_cons_succ])
        refine one_ (i := 8) (N := none) #[true, true, true, true, true, true, true, true, true, false] rfl rfl (by kernel_rfl) (by simp) (fun K hK => ?_)
        obtain ⟨v42, V42, at42, kx42, kr42, kf42, -⟩ := put7 (v41) g29 _ m at41_6
        obtain ⟨y0, y1, y2, y3, y4, y5, y6⟩ := at41_6.cells0
        obtain ⟨z0, z1, z2, z3, z4, z5, z6⟩ := fr41_6.cells0
        have rv42 := V42.out
        have X42 := kx42 w4 (X41) le29
        go_simp
        clear rv42 y0 y1 y2 y3 y4 y5 y6 z0 z1 z2 z3 z4 z5 z6
        have at42_7 := kr42 _ _ _ ne39_6 at41_7
        refine hK.out _ _ ?_ (fun hHeld => ?_)
        · exact X42
        clear hK K
        (try simp only [Act.put, List.setIfInBounds_toArray, List.set_cons_zero, List.set_cons_succ])
        refine one_ (i := 9) (N := none) #[true, true, true, true, true, true, true, true, true, true] rfl rfl (by kernel_rfl) (by simp) (fun K hK => ?_)
        obtain ⟨v43, V43, at43, kx43, kr43, kf43, -⟩ := put7 (v42) g39 _ l at42_7
        obtain ⟨y0, y1, y2, y3, y4, y5, y6⟩ := at42_7.cells0
        obtain ⟨z0, z1, z2, z3, z4, z5, z6⟩ := (kf42 _ _ fr41_7).cells0
        have rv43 := V43.out
        have X43 := kx43 w4 (X42) le39
        go_simp
        clear rv43 y0 y1 y2 y3 y4 y5 y6 z0 z1 z2 z3 z4 z5 z6
        have at43_6 := kr43 _ _ _ (Ne.symm ne39_6) at42
        refine hK.out _ _ ?_ (fun hHeld => ?_)
        · exact X43
        clear hK K
        (try simp only [Act.put, List.setIfInBounds_toArray, List.set_cons_zero, List.set_cons_succ])
        exact hJ (g29, g39) _ ⟨X43, at43_6, at43⟩
    · obtain ⟨g44, G44⟩ : ∃ g, Hid ((World.heap (w4.drew)).size = g) := ⟨_, Lib.hid rfl⟩
      obtain ⟨v44, V44, -, x44, at44, fr44, kk44⟩ := alloc7 (w4.drew) (fun _ => 0) 51 g44 G44.out
      have X44 := Ext.trans ((Ext.refl w4).drew) x44
      have le44 : w4.heap.size ≤ g44 := by rw [← G44.out]; exact Ext.size ((Ext.refl w4).drew)
      have rg44 := G44.out
      have rv44 := V44.out
      go_simp
      clear rg44 rv44
      refine hK.out _ _ ?_ (fun hHeld => ?_)
      · exact X44
      clear hK K
      (try simp only [Act.put, List.setIfInBounds_toArray, List.set_cons_zero, List.set_cons_succ])
      refine two_ (i := 2) (Ni := (some 13)) (j := 6) (Nj := (some 7)) #[true, true, true, true, true, false, false, true, false, false] #[true, true, false, true, true, false, true, true, false, false] rfl rfl rfl rfl (by kernel_rfl) (by simp) (by simp) (fun K hK => ?_) (fun K hK => ?_)
      · go_simp
        refine (c1 _).mono ?_
        rintro e v45 ⟨rfl, x45⟩
        have X45 := Ext.trans (X44) x45
        have fr45_7 := fr44.ext x45 at44.lt
        have at45_7 := at44.ext x45
        refine hK.out _ _ ?_ (fun hHeld => ?_)
        · exact X45
        clear hK K
        (try simp only [Act.put, List.setIfInBounds_toArray, List.set_cons_zero, List.set_cons_succ])
        refine two_ (i := 5) (Ni := (some 16)) (j := 6) (Nj := (some 7)) #[true, true, true, true, true, true, false, true, false, false] #[true, true, true, true, true, false, true, true, false, false] rfl rfl rfl rfl (by kernel_rfl) (by simp) (by simp) (fun K hK => ?_) (fun K hK => ?_)
        · go_simp
          refine (c2 _).mono ?_
          rintro e v46 ⟨rfl, x46⟩
          have X46 := Ext.trans (X45) x46
          have fr46_7 := fr45_7.ext x46 at45_7.lt
          have at46_7 := at45_7.ext x46
          refine hK.out _ _ ?_ (fun hHeld => ?_)
          · exact X46
          clear hK K
          (try simp only [Act.put, List.setIfInBounds_toArray, List.set_cons_zero, List.set_cons_succ])
          refine one_ (i := 6) (N := (some 7)) #[true, true, true, true, true, true, true, true, false, false] rfl rfl (by kernel_rfl) (by simp) (fun K hK => ?_)
          obtain ⟨g47, G47⟩ : ∃ g, Hid ((World.heap (v46)).size = g) := ⟨_, Lib.hid rfl⟩
          obtain ⟨v47, V47, -, x47, at47, fr47, kk47⟩ := alloc7 (v46) (fun _ => 0) 51 g47 G47.out
          have X47 := Ext.trans (X46) x47
          have le47 : w4.heap.size ≤ g47 := by rw [← G47.out]; exact Ext.size (X46)
          have ne47_7 : g47 ≠ g44 := by rw [← G47.out]; exact Nat.ne_of_gt at46_7.lt
          have fr47_7 := fr46_7.ext x47 at46_7.lt
          have at47_7 := at46_7.ext x47
          have rg47 := G47.out
          have rv47 := V47.out
          go_simp
          clear rg47 rv47
          refine hK.out _ _ ?_ (fun hHeld => ?_)
          · exact X47
          clear hK K
          (try simp only [Act.put, List.setIfInBounds_toArray, List.set_cons_zero, List.set_cons_succ])
          refine one_ (i := 8) (N := none) #[true, true, true, true, true, true, true, true, true, false] rfl rfl (by kernel_rfl) (by simp) (fun K hK => ?_)
          obtain ⟨v48, V48, at48, kx48, kr48, kf48, -⟩ := put7 (v47) g47 _ m at47
          obtain ⟨y0, y1, y2, y3, y4, y5, y6⟩ := at47.cells0
          obtain ⟨z0, z1, z2, z3, z4, z5, z6⟩ := fr47.cells0
          have rv48 := V48.out
          have X48 := kx48 w4 (X47) le47
          go_simp
          clear rv48 y0 y1 y2 y3 y4 y5 y6 z0 z1 z2 z3 z4 z5 z6
          have at48_7 := kr48 _ _ _ (Ne.symm ne47_7) at47_7
          refine hK.out _ _ ?_ (fun hHeld => ?_)
          · exact X48
          clear hK K
          (try simp only [Act.put, List.setIfInBounds_toArray, List.set_cons_zero, List.set_cons_succ])
          refine one_ (i := 9) (N := none) #[true, true, true, true, true, true, true, true, true, true] rfl rfl (by kernel_rfl) (by simp) (fun K hK => ?_)
          obtain ⟨v49, V49, at49, kx49, kr49, kf49, -⟩ := put7 (v48) g44 _ l at48_7
          obtain ⟨y0, y1, y2, y3, y4, y5, y6⟩ := at48_7.cells0
          obtain ⟨z0, z1, z2, z3, z4, z5, z6⟩ := (kf48 _ _ fr47_7).cells0
          have rv49 := V49.out
          have X49 := kx49 w4 (X48) le44
          go_simp
          clear rv49 y0 y1 y2 y3 y4 y5 y6 z0 z1 z2 z3 z4 z5 z6
          have at49_6 := kr49 _ _ _ ne47_7 at48
          refine hK.out _ _ ?_ (fun hHeld => ?_)
          · exact X49
          clear hK K
          (try simp only [Act.put, List.setIfInBounds_toArray, List.set_cons_zero, List.set_cons_succ])
          exact hJ (g47, g44) _ ⟨X49, at49_6, at49⟩
        · obtain ⟨g50, G50⟩ : ∃ g, Hid ((World.heap (v45)).size = g) := ⟨_, Lib.hid rfl⟩
          obtain ⟨v50, V50, -, x50, at50, fr50, kk50⟩ := alloc7 (v45) (fun _ => 0) 51 g50 G50.out
          have X50 := Ext.trans (X45) x50
          have le50 : w4.heap.size ≤ g50 := by rw [← G50.out]; exact Ext.size (X45)
          have ne50_7 : g50 ≠ g44 := by rw [← G50.out]; exact Nat.ne_of_gt at45_7.lt
          have fr50_7 := fr45_7.ext x50 at45_7.lt
          have at50_7 := at45_7.ext x50
          have rg50 := G50.out
          have rv50 := V50.out
          go_simp
          clear rg50 rv50
          refine hK.out _ _ ?_ (fun hHeld => ?_)
          · exact X50
          clear hK K
          (try simp only [Act.put, List.setIfInBounds_toArray, List.set_cons_zero, List.set_cons_succ])
          refine one_ (i := 5) (N := (some 16)) #[true, true, true, true, true, true, true, true, false, false] rfl rfl (by kernel_rfl) (by simp) (fun K hK => ?_)
          go_simp
          refine (c2 _).mono ?_
          rintro e v51 ⟨rfl, x51⟩
          have X51 := Ext.trans (X50) x51
          have fr51_7 := fr50_7.ext x51 at50_7.lt
          have at51_7 := at50_7.ext x51
          have fr51_6 := fr50.ext x51 at50.lt
          have at51_6 := at50.ext x51
          refine hK.out _ _ ?_ (fun hHeld => ?_)
          · exact X51
          clear hK K
          (try simp only [Act.put, List.setIfInBounds_toArray, List.set_cons_zero, List.set_cons_succ])
          refine one_ (i := 8) (N := none) #[true, true, true, true, true, true, true, true, true, false] rfl rfl (by kernel_rfl) (by simp) (fun K hK => ?_)
          obtain ⟨v52, V52, at52, kx52, kr52, kf52, -⟩ := put7 (v51) g50 _ m at51_6
          obtain ⟨y0, y1, y2, y3, y4, y5, y6⟩ := at51_6.cells0
          obtain ⟨z0, z1, z2, z3, z4, z5, z6⟩ := fr51_6.cells0
          have rv52 := V52.out
          have X52 := kx52 w4 (X51) le50
          go_simp
          clear rv52 y0 y1 y2 y3 y4 y5 y6 z0 z1 z2 z3 z4 z5 z6
          have at52_7 := kr52 _ _ _ (Ne.symm ne50_7) at51_7
          refine hK.out _ _ ?_ (fun hHeld => ?_)
          · exact X52
          clear hK K
          (try simp only [Act.put, List.setIfInBounds_toArray, List.set_cons_zero, List.set_cons_succ])
          refine one_ (i := 9) (N := none) #[true, true, true, true, true, true, true, true, true, true] rfl rfl (by kernel_rfl) (by simp) (fun K hK => ?_)
          obtain ⟨v53, V53, at53, kx53, kr53, kf53, -⟩ := put7 (v52) g44 _ l at52_7
          obtain ⟨y0, y1, y2, y3, y4, y5, y6⟩ := at52_7.cells0
          obtain ⟨z0, z1, z2, z3, z4, z5, z6⟩ := (kf52 _ _ fr51_7).cells0
          have rv53 := V53.out
          have X53 := kx53 w4 (X52) le44
          go_simp
          clear rv53 y0 y1 y2 y3 y4 y5 y6 z0 z1 z2 z3 z4 z5 z6
          have at53_6 := kr53 _ _ _ ne50_7 at52
          refine hK.out _ _ ?_ (fun hHeld => ?_)
          · exact X53
          clear hK K
          (try simp only [Act.put, List.setIfInBounds_toArray, List.set_cons_zero, List.set_cons_succ])
          exact hJ (g50, g44) _ ⟨X53, at53_6, at53⟩
      · obtain ⟨g54, G54⟩ : ∃ g, Hid ((World.heap (v44)).size = g) := ⟨_, Lib.hid rfl⟩
        obtain ⟨v54, V54, -, x54, at54, fr54, kk54⟩ := alloc7 (v44) (fun _ => 0) 51 g54 G54.out
        have X54 := Ext.trans (X44) x54
        have le54 : w4.heap.size ≤ g54 := by rw [← G54.out]; exact Ext.size (X44)
        have ne54_7 : g54 ≠ g44 := by rw [← G54.out]; exact Nat.ne_of_gt at44.lt
        have fr54_7 := fr44.ext x54 at44.lt
        have at54_7 := at44.ext x54
        have rg54 := G54.out
        have rv54 := V54.out
        go_simp
        clear rg54 rv54
        refine hK.out _ _ ?_ (fun hHeld => ?_)
        · exact X54
        clear hK K
        (try simp only [Act.put, List.setIfInBounds_toArray, List.set_cons_zero, List.set_cons_succ])
        refine one_ (i := 2) (N := (some 13)) #[true, true, true, true, true, false, true, true, false, false] rfl rfl (by kernel_rfl) (by simp) (fun K hK => ?_)
        go_simp
        refine (c1 _).mono ?_
        rintro e v55 ⟨rfl, x55⟩
        have X55 := Ext.trans (X54) x55
        have fr55_7 := fr54_7.ext x55 at54_7.lt
        have at55_7 := at54_7.ext x55
        have fr55_6 := fr54.ext x55 at54.lt
        have at55_6 := at54.ext x55
        refine hK.out _ _ ?_ (fun hHeld => ?_)
        · exact X55
        clear hK K
        (try simp only [Act.put, List.setIfInBounds_toArray, List.set_cons_zero, List.set_cons_succ])
        refine one_ (i := 5) (N := (some 16)) #[true, true, true, true, true, true, true, true, false, false] rfl rfl (by kernel_rfl) (by simp) (fun K hK => ?_)
        go_simp
        refine (c2 _).mono ?_
        rintro e v56 ⟨rfl, x56⟩
        have X56 := Ext.trans (X55) x56
        have fr56_7 := fr55_7.ext x56 at55_7.lt
        have at56_7 := at55_7.ext x56
        have fr56_6 := fr55_6.ext x56 at55_6.lt
        have at56_6 := at55_6.ext x56
        refine hK.out _ _ ?_ (fun hHeld => ?_)
        · exact X56
        clear hK K
        (try simp only [Act.put, List.setIfInBounds_toArray, List.set_cons_zero, List.set_cons_succ])
        refine one_ (i := 8) (N := none) #[true, true, true, true, true, true, true, true, true, false] rfl rfl (by kernel_rfl) (by simp) (fun K hK => ?_)
        obtain ⟨v57, V57, at57, kx57, kr57, kf57, -⟩ := put7 (v56) g54 _ m at56_6
        obtain ⟨y0, y1, y2, y3, y4, y5, y6⟩ := at56_6.cells0
        obtain ⟨z0, z1, z2, z3, z4, z5, z6⟩ := fr56_6.cells0
        have rv57 := V57.out
        have X57 := kx57 w4 (X56) le54
        go_simp
        clear rv57 y0 y1 y2 y3 y4 y5 y6 z0 z1 z2 z3 z4 z5 z6
        have at57_7 := kr57 _ _ _ (Ne.symm ne54_7) at56_7
        refine hK.out _ _ ?_ (fun hHeld => ?_)
        · exact X57
        clear hK K
        (try simp only [Act.put, List.setIfInBounds_toArray, List.set_cons_zero, List.set_cons_succ])
        refine one_ (i := 9) (N := none) #[true, true, true, true, true, true, true, true, true, true] rfl rfl (by kernel_rfl) (by simp) (fun K hK => ?_)
        obtain ⟨v58, V58, at58, kx58, kr58, kf58, -⟩ := put7 (v57) g44 _ l at57_7
        obtain ⟨y0, y1, y2, y3, y4, y5, y6⟩ := at57_7.cells0
        obtain ⟨z0, z1, z2, z3, z4, z5, z6⟩ := (kf57 _ _ fr56_7).cells0
        have rv58 := V58.out
        have X58 := kx58 w4 (X57) le44
        go_simp
        clear rv58 y0 y1 y2 y3 y4 y5 y6 z0 z1 z2 z3 z4 z5 z6
        have at58_6 := kr58 _ _ _ ne54_7 at57
        refine hK.out _ _ ?_ (fun hHeld => ?_)
        · exact X58
        clear hK K
        (try simp only [Act.put, List.setIfInBounds_toArray, List.set_cons_zero, List.set_cons_succ])
        exact hJ (g54, g44) _ ⟨X58, at58_6, at58⟩

end Go.Proofs.Ytaiofbagdcpfgaa
