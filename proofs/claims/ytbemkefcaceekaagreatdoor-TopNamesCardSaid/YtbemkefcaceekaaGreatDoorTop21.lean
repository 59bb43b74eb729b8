/- Top21: ends over two entries. -/
import Derived.Test.YtbemkefcaceekaaGreatDoorTop20
set_option linter.unusedVariables false
set_option linter.unusedSimpArgs false
set_option maxRecDepth 100000
namespace Go.Proofs.YtbemkefcaceekaaGreatDoor
open Go.RowKit Go.Lib Go.Shelf Go.Proofs.YtbemkefcaceekaaGreatDoorW.PrintWords Go.Proofs.YtbemkefcaceekaaGreatDoorW.PrintLast

set_option maxHeartbeats 4000000 in
theorem ends1_any (w : World) (base bm um dm cm hb gp : Nat) (H : Hse) (h : HAt w base bm um dm cm hb H) (ht : Tabs w) (d : Dt) (s : Stp) (i j : Nat) (F : ByteArray) (hc : w.cell? ⟨gp, 0, none⟩ = some (.pointer (some ⟨hb, 0, none⟩)))
    (hf : findD d H.blue 0 = some (i, s.V)) (hs : s.user.size ≤ 1048576) (hF : ByteArray.mk (foldL (CH s.user)).toArray = F) (hu : findT F H.users 0 = some (j, .bool true)) :
    Calls Tryz.prog 150 #[dotv d.rep d.n, .pointer (some ⟨gp, 0, none⟩)] w fun e w' => e = .returned (.bool false) ∧ Ext w w' := by
  have x0 := Ext.refl w
  obtain ⟨ga, Gga⟩ : ∃ x, Hid ((World.heap w).size = x) := ⟨_, Lib.hid rfl⟩
  obtain ⟨wa, Hwa⟩ : ∃ x, Hid ((World.alloc w (.cells #[.int .i64 d.rep, .int .i64 d.n] 64)) = x) := ⟨_, Lib.hid rfl⟩
  have bga_wa : wa.heap[ga]? = some (.cells #[.int .i64 d.rep, .int .i64 d.n] 64) := by rw [← Hwa.out, ← Gga.out]; exact Array.getElem?_push_size
  have ewa : Ext w wa := by rw [← Hwa.out]; exact ((Ext.refl _).alloc _)
  have xwa : Ext w wa := Ext.trans (x0) ewa
  have lga : (World.heap w).size ≤ ga := Nat.le_trans (Ext.size (x0)) (Nat.le_of_eq Gga.out)
  have h1 := h.ext xwa
  obtain ⟨q0, q1, q2, q3, q4, q5, q6, q7, q8, q9, q10, q11⟩ := h1.rules
  have r0 : ∀ W, Ext wa W → W.cell? ⟨gp, 0, none⟩ = some (.pointer (some ⟨hb, 0, none⟩)) := fun W x => (xwa.trans x).cell hc
  have r1 : ∀ W, Ext wa W → W.cell? ⟨ga, 0, none⟩ = some (.int .i64 d.rep) := fun W x => x.cell (by simp [World.cell?, bga_wa])
  have r2 : ∀ W, Ext wa W → W.cell? ⟨ga, 1, none⟩ = some (.int .i64 d.n) := fun W x => x.cell (by simp [World.cell?, bga_wa])
  have lb : ∀ W, Ext wa W → (Instr.lookup 53 (.map (some bm)) (.agg #[.int .i64 d.rep, .int .i64 d.n]) false).run Tryz.prog W = .ok (.agg s.L.toArray) W := fun W x => by
    have := (look_dot Tryz.underlying53 (h1.blue.ext x) d stepZ.V (zeroStep W)).1
    rw [hf] at this
    exact this
  have lu : ∀ W, Ext wa W → (Instr.lookup 54 (.map (some um)) (.string F) false).run Tryz.prog W = .ok (.bool true) W := fun W x => by
    have := (look_str Tryz.underlying54 (h1.users.ext x) F (.bool false) (by kernel_rfl))
    rw [hu] at this
    exact this
  have lf := fun W => field_user s W
  have kf := fun W t => fold_any s.user W hs t
  rw [hF] at kf
  have xT := Ext.refl wa
  have eq_Gga := Gga.out
  have eq_Hwa := Hwa.out
  clear bga_wa hf hu hF hc
  unfold dotv
  go_enter Tryz.func150, Tryz.ntmps150
  go_wp2_with fail
  clear eq_Gga eq_Hwa
  refine start_ (n := 15) (S := (fun W => Ext wa W)) (ds := []) #[false, false, false, false, false, false, false, false, false, false, false, false, false, false, false] (by kernel_rfl) (by kernel_rfl) (by kernel_rfl) (xT.drew) (fun hHeld => ?_)
  refine take_ (i := 0) (N := (some 4)) (v := ?_) (a' := ?_) #[true, false, false, false, false, false, false, false, false, false, false, false, false, false, false] rfl rfl (by kernel_rfl) (fun _ _ _ h => h) (Or.inl ⟨by rfl, ?_⟩) (by assumption) ?_ ?_
  rotate_left
  · intro w' hSw; (try dsimp only at hSw)
    go_simp
    try with_reducible rfl
  rotate_left
  · simp only [Act.put, List.setIfInBounds_toArray, List.set_cons_zero, List.set_cons_succ]
    rfl
  refine take_ (i := 1) (N := (some 5)) (v := ?_) (a' := ?_) #[true, true, false, false, false, false, false, false, false, false, false, false, false, false, false] rfl rfl (by kernel_rfl) (fun _ _ _ h => h) (Or.inl ⟨by rfl, ?_⟩) (by assumption) ?_ ?_
  rotate_left
  · intro w' hSw; (try dsimp only at hSw)
    go_simp
    try with_reducible rfl
  rotate_left
  · simp only [Act.put, List.setIfInBounds_toArray, List.set_cons_zero, List.set_cons_succ]
    rfl
  refine take_ (i := 2) (N := (some 6)) (v := ?_) (a' := ?_) #[true, true, true, false, false, false, false, false, false, false, false, false, false, false, false] rfl rfl (by kernel_rfl) (fun _ _ _ h => h) (Or.inl ⟨by rfl, ?_⟩) (by assumption) ?_ ?_
  rotate_left
  · intro w' hSw; (try dsimp only at hSw)
    go_simp
    try with_reducible rfl
  rotate_left
  · simp only [Act.put, List.setIfInBounds_toArray, List.set_cons_zero, List.set_cons_succ]
    rfl
  refine take_ (i := 3) (N := (some 7)) (v := ?_) (a' := ?_) #[true, true, true, true, false, false, false, false, false, false, false, false, false, false, false] rfl rfl (by kernel_rfl) (fun _ _ _ h => h) (Or.inl ⟨by rfl, ?_⟩) (by assumption) ?_ ?_
  rotate_left
  · intro w' hSw; (try dsimp only at hSw)
    go_simp
    try with_reducible rfl
  rotate_left
  · simp only [Act.put, List.setIfInBounds_toArray, List.set_cons_zero, List.set_cons_succ]
    rfl
  refine take_ (i := 4) (N := (some 8)) (v := ?_) (a' := ?_) #[true, true, true, true, true, false, false, false, false, false, false, false, false, false, false] rfl rfl (by kernel_rfl) (fun _ _ _ h => h) (Or.inl ⟨by rfl, ?_⟩) (by assumption) ?_ ?_
  rotate_left
  · intro w' hSw; (try dsimp only at hSw)
    go_simp
    try with_reducible rfl
  rotate_left
  · simp only [Act.put, List.setIfInBounds_toArray, List.set_cons_zero, List.set_cons_succ]
    rfl
  refine take_ (i := 5) (N := (some 9)) (v := ?_) (a' := ?_) #[true, true, true, true, true, true, false, false, false, false, false, false, false, false, false] rfl rfl (by kernel_rfl) (fun _ _ _ h => h) (Or.inl ⟨by rfl, ?_⟩) (by assumption) ?_ ?_
  rotate_left
  · intro w' hSw; (try dsimp only at hSw)
    go_simp
    try with_reducible rfl
  rotate_left
  · simp only [Act.put, List.setIfInBounds_toArray, List.set_cons_zero, List.set_cons_succ]
    rfl
  refine take_ (i := 6) (N := (some 10)) (v := ?_) (a' := ?_) #[true, true, true, true, true, true, true, false, false, false, false, false, false, false, false] rfl rfl (by kernel_rfl) (fun _ _ _ h => h) (Or.inl ⟨by rfl, ?_⟩) (by assumption) ?_ ?_
  rotate_left
  · intro w' hSw; (try dsimp only at hSw)
    go_simp
    try with_reducible rfl
  rotate_left
  · simp only [Act.put, List.setIfInBounds_toArray, List.set_cons_zero, List.set_cons_succ]
    rfl
  refine take_ (i := 7) (N := (some 11)) (v := ?_) (a' := ?_) #[true, true, true, true, true, true, true, true, false, false, false, false, false, false, false] rfl rfl (by kernel_rfl) (fun _ _ _ h => h) (Or.inl ⟨by rfl, ?_⟩) (by assumption) ?_ ?_
  rotate_left
  · intro w' hSw; (try dsimp only at hSw)
    go_simp
    try with_reducible rfl
  rotate_left
  · simp only [Act.put, List.setIfInBounds_toArray, List.set_cons_zero, List.set_cons_succ]
    rfl
  refine take_ (i := 8) (N := (some 12)) (v := ?_) (a' := ?_) #[true, true, true, true, true, true, true, true, true, false, false, false, false, false, false] rfl rfl (by kernel_rfl) (fun _ _ _ h => h) (Or.inl ⟨by rfl, ?_⟩) (by assumption) ?_ ?_
  rotate_left
  · intro w' hSw; (try dsimp only at hSw)
    go_simp
    try with_reducible rfl
  rotate_left
  · simp only [Act.put, List.setIfInBounds_toArray, List.set_cons_zero, List.set_cons_succ]
    rfl
  refine take_ (i := 9) (N := (some 13)) (v := ?_) (a' := ?_) #[true, true, true, true, true, true, true, true, true, true, false, false, false, false, false] rfl rfl (by kernel_rfl) (fun _ _ _ h => h) (Or.inl ⟨by rfl, ?_⟩) (by assumption) ?_ ?_
  rotate_left
  · intro w' hSw; (try dsimp only at hSw)
    go_simp
    try with_reducible rfl
  rotate_left
  · simp only [Act.put, List.setIfInBounds_toArray, List.set_cons_zero, List.set_cons_succ]
    rfl
  refine take_ (i := 10) (N := (some 14)) (v := ?_) (a' := ?_) #[true, true, true, true, true, true, true, true, true, true, true, false, false, false, false] rfl rfl (by kernel_rfl) (fun _ _ _ h => h) (Or.inl ⟨by rfl, ?_⟩) (by assumption) ?_ ?_
  rotate_left
  · intro w' hSw; (try dsimp only at hSw)
    go_simp
    try with_reducible rfl
  rotate_left
  · simp only [Act.put, List.setIfInBounds_toArray, List.set_cons_zero, List.set_cons_succ]
    rfl
  refine one_ (i := 11) (N := (some 15)) #[true, true, true, true, true, true, true, true, true, true, true, true, false, false, false] rfl rfl (by kernel_rfl) (by simp) (fun K hK => ?_)
  go_simp
  refine (kf _ (ht.ext (xwa.trans hHeld))).mono ?_
  rintro e w4 ⟨rfl, x4⟩
  refine hK.out _ _ ?_ (fun hHeld => ?_)
  · first | assumption | exact hHeld.trans (by assumption)
  clear hK K
  (try simp only [Act.put, List.setIfInBounds_toArray, List.set_cons_zero, List.set_cons_succ])
  refine take_ (i := 12) (N := (some 16)) (v := ?_) (a' := ?_) #[true, true, true, true, true, true, true, true, true, true, true, true, true, false, false] rfl rfl (by kernel_rfl) (fun _ _ _ h => h) (Or.inl ⟨by rfl, ?_⟩) (by assumption) ?_ ?_
  rotate_left
  · intro w' hSw; (try dsimp only at hSw)
    go_simp
    try with_reducible rfl
  rotate_left
  · simp only [Act.put, List.setIfInBounds_toArray, List.set_cons_zero, List.set_cons_succ]
    rfl
  refine take_ (i := 13) (N := (some 17)) (v := ?_) (a' := ?_) #[true, true, true, true, true, true, true, true, true, true, true, true, true, true, false] rfl rfl (by kernel_rfl) (fun _ _ _ h => h) (Or.inl ⟨by rfl, ?_⟩) (by assumption) ?_ ?_
  rotate_left
  · intro w' hSw; (try dsimp only at hSw)
    go_simp
    try with_reducible rfl
  rotate_left
  · simp only [Act.put, List.setIfInBounds_toArray, List.set_cons_zero, List.set_cons_succ]
    rfl
  refine take_ (i := 14) (N := (some 3)) (v := ?_) (a' := ?_) #[true, true, true, true, true, true, true, true, true, true, true, true, true, true, true] rfl rfl (by kernel_rfl) (fun _ _ _ h => h) (Or.inl ⟨by rfl, ?_⟩) (by assumption) ?_ ?_
  rotate_left
  · intro w' hSw; (try dsimp only at hSw)
    go_simp
    try with_reducible rfl
  rotate_left
  · simp only [Act.put, List.setIfInBounds_toArray, List.set_cons_zero, List.set_cons_succ]
    rfl
  refine done_ (by kernel_rfl) ?_
  go_wp2
  go_ret
  exact ⟨rfl, xwa.trans hHeld⟩
set_option maxHeartbeats 4000000 in
theorem ends_two (w : World) (base bm um dm cm hb : Nat) (H : Hse) (h : HAt w base bm um dm cm hb H) (ht : Tabs w) (d d2 : Dt) (s s2 st : Stp) (j i2 : Nat) (F : ByteArray) (hbl : H.blue = [(d, s.V, 0), (d2, s2.V, 1)]) (hbc : H.bc = 2) (hk : s.kind = 1) (hk2 : s2.kind = 2) (hau : s2.auc = st.auc)
    (hs1 : has7 st.seen d.rep d.n = true) (hs2 : has7 st.seen d2.rep d2.n = true) (hf : findD d2 H.blue 0 = some (i2, s2.V)) (hs : s2.user.size ≤ 1048576) (hF : ByteArray.mk (foldL (CH s2.user)).toArray = F) (hu : findT F H.users 0 = some (j, .bool true)) :
    Calls Tryz.prog 108 #[.pointer (some ⟨hb, 0, none⟩), .agg st.L.toArray] w fun e w' => e = .returned (outV d2 s2.user s2.amount) ∧ Ext w w' := by
  have x0 := Ext.refl w
  obtain ⟨ga, Gga⟩ : ∃ x, Hid ((World.heap w).size = x) := ⟨_, Lib.hid rfl⟩
  obtain ⟨wa, Hwa⟩ : ∃ x, Hid ((World.alloc w (.cells #[.pointer (some ⟨hb, 0, none⟩)] 34)) = x) := ⟨_, Lib.hid rfl⟩
  have bga_wa : wa.heap[ga]? = some (.cells #[.pointer (some ⟨hb, 0, none⟩)] 34) := by rw [← Hwa.out, ← Gga.out]; exact Array.getElem?_push_size
  have ewa : Ext w wa := by rw [← Hwa.out]; exact ((Ext.refl _).alloc _)
  have xwa : Ext w wa := Ext.trans (x0) ewa
  have lga : (World.heap w).size ≤ ga := Nat.le_trans (Ext.size (x0)) (Nat.le_of_eq Gga.out)
  obtain ⟨gb, Ggb⟩ : ∃ x, Hid ((World.heap wa).size = x) := ⟨_, Lib.hid rfl⟩
  obtain ⟨wb, Hwb⟩ : ∃ x, Hid ((World.alloc wa (.cells st.L.toArray 86)) = x) := ⟨_, Lib.hid rfl⟩
  have bgb_wb : wb.heap[gb]? = some (.cells st.L.toArray 86) := by rw [← Hwb.out, ← Ggb.out]; exact Array.getElem?_push_size
  have ewb : Ext wa wb := by rw [← Hwb.out]; exact ((Ext.refl _).alloc _)
  have xwb : Ext w wb := Ext.trans (xwa) ewb
  have lgb : (World.heap w).size ≤ gb := Nat.le_trans (Ext.size (xwa)) (Nat.le_of_eq Ggb.out)
  have ngagb : ga ≠ gb := Nat.ne_of_lt (Nat.lt_of_lt_of_eq (Array.getElem?_eq_some_iff.1 bga_wa).1 Ggb.out)
  have bga_wb : wb.heap[ga]? = some (.cells #[.pointer (some ⟨hb, 0, none⟩)] 34) := (ewb.out.block _ (Array.getElem?_eq_some_iff.1 bga_wa).1).trans bga_wa
  obtain ⟨gc, Ggc⟩ : ∃ x, Hid ((World.heap wb).size = x) := ⟨_, Lib.hid rfl⟩
  obtain ⟨wc, Hwc⟩ : ∃ x, Hid ((World.alloc wb (.cells #[.int .i64 0, .int .i64 0, .string ⟨#[]⟩, .int .i64 0] 130)) = x) := ⟨_, Lib.hid rfl⟩
  have bgc_wc : wc.heap[gc]? = some (.cells #[.int .i64 0, .int .i64 0, .string ⟨#[]⟩, .int .i64 0] 130) := by rw [← Hwc.out, ← Ggc.out]; exact Array.getElem?_push_size
  have ewc : Ext wb wc := by rw [← Hwc.out]; exact ((Ext.refl _).alloc _)
  have xwc : Ext w wc := Ext.trans (xwb) ewc
  have lgc : (World.heap w).size ≤ gc := Nat.le_trans (Ext.size (xwb)) (Nat.le_of_eq Ggc.out)
  have ngagc : ga ≠ gc := Nat.ne_of_lt (Nat.lt_of_lt_of_eq (Array.getElem?_eq_some_iff.1 bga_wb).1 Ggc.out)
  have bga_wc : wc.heap[ga]? = some (.cells #[.pointer (some ⟨hb, 0, none⟩)] 34) := (ewc.out.block _ (Array.getElem?_eq_some_iff.1 bga_wb).1).trans bga_wb
  have ngbgc : gb ≠ gc := Nat.ne_of_lt (Nat.lt_of_lt_of_eq (Array.getElem?_eq_some_iff.1 bgb_wb).1 Ggc.out)
  have bgb_wc : wc.heap[gb]? = some (.cells st.L.toArray 86) := (ewc.out.block _ (Array.getElem?_eq_some_iff.1 bgb_wb).1).trans bgb_wb
  have cga_wc_0 : wc.cell? ⟨ga, 0, none⟩ = some (.pointer (some ⟨hb, 0, none⟩)) := by simp [World.cell?, bga_wc]
  have Sc : StAt wc gb st := StAt.of_block bgb_wc
  have t13 := Sc.cell 13 _ rfl
  have t14 := Sc.cell 14 _ rfl
  have t3 := Sc.cell 3 _ rfl
  have t4 := Sc.cell 4 _ rfl
  have t5 := Sc.cell 5 _ rfl
  have t6 := Sc.cell 6 _ rfl
  have t7 := Sc.cell 7 _ rfl
  have t8 := Sc.cell 8 _ rfl
  have t9 := Sc.cell 9 _ rfl
  have hc0 := h.ext xwc
  have kb := bids_two wc base bm um dm cm hb H hc0 d d2 st.auc s s2 st.seen hbl hbc hk hk2 hau hs1 hs2
  unfold dotv vf at kb
  have Kb := Lib.hid kb
  clear kb hbl hbc hk hk2 hau hs1 hs2 Sc
  have eq_Gga := Gga.out
  have eq_Hwa := Hwa.out
  have eq_Ggb := Ggb.out
  have eq_Hwb := Hwb.out
  have eq_Ggc := Ggc.out
  have eq_Hwc := Hwc.out
  go_enter Tryz.func108, Tryz.ntmps108
  go_wp2_with fail
  refine Kb.out.mono ?_
  rintro e wd ⟨g, c, rfl, hc, z0, z1, ed⟩
  clear t13 t14 t3 t4 t5 t6 t7 t8 t9
  clear eq_Gga eq_Hwa eq_Ggb eq_Hwb eq_Ggc eq_Hwc
  have xwd : Ext w wd := Ext.trans (xwc) ed
  have bga_wd : wd.heap[ga]? = some (.cells #[.pointer (some ⟨hb, 0, none⟩)] 34) := (ed.out.block _ (Array.getElem?_eq_some_iff.1 bga_wc).1).trans bga_wc
  have bgb_wd : wd.heap[gb]? = some (.cells st.L.toArray 86) := (ed.out.block _ (Array.getElem?_eq_some_iff.1 bgb_wc).1).trans bgb_wc
  have bgc_wd : wd.heap[gc]? = some (.cells #[.int .i64 0, .int .i64 0, .string ⟨#[]⟩, .int .i64 0] 130) := (ed.out.block _ (Array.getElem?_eq_some_iff.1 bgc_wc).1).trans bgc_wc
  have kd := deletef_e ga d2 g c hc wd z0 z1 (fun W x => ends1_any W base bm um dm cm hb ga H (h.ext (xwd.trans x)) (ht.ext (xwd.trans x)) d2 s2 i2 j F (x.cell (by simp [World.cell?, bga_wd])) hf hs hF hu)
  have Kd := Lib.hid kd
  have Z0 := Lib.hid z0
  have Z1 := Lib.hid z1
  clear kd z0 z1
  go_wp2_with fail
  refine Kd.out.mono ?_
  rintro e we ⟨rfl, ee⟩
  have xwe : Ext w we := Ext.trans (xwd) ee
  have bga_we : we.heap[ga]? = some (.cells #[.pointer (some ⟨hb, 0, none⟩)] 34) := (ee.out.block _ (Array.getElem?_eq_some_iff.1 bga_wd).1).trans bga_wd
  have bgb_we : we.heap[gb]? = some (.cells st.L.toArray 86) := (ee.out.block _ (Array.getElem?_eq_some_iff.1 bgb_wd).1).trans bgb_wd
  have bgc_we : we.heap[gc]? = some (.cells #[.int .i64 0, .int .i64 0, .string ⟨#[]⟩, .int .i64 0] 130) := (ee.out.block _ (Array.getElem?_eq_some_iff.1 bgc_wd).1).trans bgc_wd
  have cga_we_0 : we.cell? ⟨ga, 0, none⟩ = some (.pointer (some ⟨hb, 0, none⟩)) := by simp [World.cell?, bga_we]
  have kb2 := best_one we hb d2 g c hc (ee.cell Z0.out) (ee.cell Z1.out)
  unfold dotv at kb2
  have Kb2 := Lib.hid kb2
  clear kb2
  go_wp2_with fail
  refine Kb2.out.mono ?_
  rintro e wf ⟨rfl, ef⟩
  have xwf : Ext w wf := Ext.trans (xwe) ef
  have bga_wf : wf.heap[ga]? = some (.cells #[.pointer (some ⟨hb, 0, none⟩)] 34) := (ef.out.block _ (Array.getElem?_eq_some_iff.1 bga_we).1).trans bga_we
  have bgb_wf : wf.heap[gb]? = some (.cells st.L.toArray 86) := (ef.out.block _ (Array.getElem?_eq_some_iff.1 bgb_we).1).trans bgb_we
  have bgc_wf : wf.heap[gc]? = some (.cells #[.int .i64 0, .int .i64 0, .string ⟨#[]⟩, .int .i64 0] 130) := (ef.out.block _ (Array.getElem?_eq_some_iff.1 bgc_we).1).trans bgc_we
  obtain ⟨gd, Ggd⟩ : ∃ x, Hid ((World.heap wf).size = x) := ⟨_, Lib.hid rfl⟩
  obtain ⟨wg, Hwg⟩ : ∃ x, Hid ((World.alloc wf (.cells #[.int .i64 0, .int .i64 0] 64)) = x) := ⟨_, Lib.hid rfl⟩
  have bgd_wg : wg.heap[gd]? = some (.cells #[.int .i64 0, .int .i64 0] 64) := by rw [← Hwg.out, ← Ggd.out]; exact Array.getElem?_push_size
  have ewg : Ext wf wg := by rw [← Hwg.out]; exact ((Ext.refl _).alloc _)
  have xwg : Ext w wg := Ext.trans (xwf) ewg
  have lgd : (World.heap w).size ≤ gd := Nat.le_trans (Ext.size (xwf)) (Nat.le_of_eq Ggd.out)
  have ngagd : ga ≠ gd := Nat.ne_of_lt (Nat.lt_of_lt_of_eq (Array.getElem?_eq_some_iff.1 bga_wf).1 Ggd.out)
  have bga_wg : wg.heap[ga]? = some (.cells #[.pointer (some ⟨hb, 0, none⟩)] 34) := (ewg.out.block _ (Array.getElem?_eq_some_iff.1 bga_wf).1).trans bga_wf
  have ngbgd : gb ≠ gd := Nat.ne_of_lt (Nat.lt_of_lt_of_eq (Array.getElem?_eq_some_iff.1 bgb_wf).1 Ggd.out)
  have bgb_wg : wg.heap[gb]? = some (.cells st.L.toArray 86) := (ewg.out.block _ (Array.getElem?_eq_some_iff.1 bgb_wf).1).trans bgb_wf
  have ngcgd : gc ≠ gd := Nat.ne_of_lt (Nat.lt_of_lt_of_eq (Array.getElem?_eq_some_iff.1 bgc_wf).1 Ggd.out)
  have bgc_wg : wg.heap[gc]? = some (.cells #[.int .i64 0, .int .i64 0, .string ⟨#[]⟩, .int .i64 0] 130) := (ewg.out.block _ (Array.getElem?_eq_some_iff.1 bgc_wf).1).trans bgc_wf
  have cgd_wg_0 : wg.cell? ⟨gd, 0, none⟩ = some (.int .i64 0) := by simp [World.cell?, bgd_wg]
  have fgd_wg_0 : wg.frozen? ⟨gd, 0, none⟩ = false := by simp [World.frozen?, bgd_wg]
  have cgd_wg_1 : wg.cell? ⟨gd, 1, none⟩ = some (.int .i64 0) := by simp [World.cell?, bgd_wg]
  have fgd_wg_1 : wg.frozen? ⟨gd, 1, none⟩ = false := by simp [World.frozen?, bgd_wg]
  obtain ⟨wh, Hwh⟩ : ∃ x, Hid ((World.setCell (World.setCell wg ⟨gd, 0, none⟩ (.int .i64 d2.rep)) ⟨gd, 1, none⟩ (.int .i64 d2.n)) = x) := ⟨_, Lib.hid rfl⟩
  have bgd_wh : wh.heap[gd]? = some (.cells #[.int .i64 d2.rep, .int .i64 d2.n] 64) := by rw [← Hwh.out]; exact (blk_set (blk_set bgd_wg 0 _) 1 _)
  have kwh : Chg [gd] wg wh := by rw [← Hwh.out]; exact (Chg.set (Chg.set (Chg.refl [gd] wg) gd 0 _ (by simp)) gd 1 _ (by simp))
  have xwh : Ext w wh := by rw [← Hwh.out]; exact ((Ext.setCell (Ext.setCell xwg (p := ⟨gd, 0, none⟩) lgd _) (p := ⟨gd, 1, none⟩) lgd _))
  have bga_wh : wh.heap[ga]? = some (.cells #[.pointer (some ⟨hb, 0, none⟩)] 34) := (kwh.block _ (Array.getElem?_eq_some_iff.1 bga_wg).1 (by simpa using ngagd)).trans bga_wg
  have bgb_wh : wh.heap[gb]? = some (.cells st.L.toArray 86) := (kwh.block _ (Array.getElem?_eq_some_iff.1 bgb_wg).1 (by simpa using ngbgd)).trans bgb_wg
  have bgc_wh : wh.heap[gc]? = some (.cells #[.int .i64 0, .int .i64 0, .string ⟨#[]⟩, .int .i64 0] 130) := (kwh.block _ (Array.getElem?_eq_some_iff.1 bgc_wg).1 (by simpa using ngcgd)).trans bgc_wg
  have eq_Ggd := Ggd.out
  have eq_Hwg := Hwg.out
  have eq_Hwh := Hwh.out
  have h1 := h.ext xwh
  obtain ⟨q0, q1, q2, q3, q4, q5, q6, q7, q8, q9, q10, q11⟩ := h1.rules
  have r0 : ∀ W, Ext wh W → W.cell? ⟨ga, 0, none⟩ = some (.pointer (some ⟨hb, 0, none⟩)) := fun W x => x.cell (by simp [World.cell?, bga_wh])
  have r1 : ∀ W, Ext wh W → W.cell? ⟨gd, 0, none⟩ = some (.int .i64 d2.rep) := fun W x => x.cell (by simp [World.cell?, bgd_wh])
  have r2 : ∀ W, Ext wh W → W.cell? ⟨gd, 1, none⟩ = some (.int .i64 d2.n) := fun W x => x.cell (by simp [World.cell?, bgd_wh])
  have lb : ∀ W, Ext wh W → (Instr.lookup 53 (.map (some bm)) (.agg #[.int .i64 d2.rep, .int .i64 d2.n]) false).run Tryz.prog W = .ok (.agg s2.L.toArray) W := fun W x => by
    have := (look_dot Tryz.underlying53 (h1.blue.ext x) d2 stepZ.V (zeroStep W)).1
    rw [hf] at this
    exact this
  have lf := fun W => field_user s2 W
  have la := fun W => field_amount s2 W
  have xT := Ext.refl wh
  clear hf hu hF
  go_wp2_with fail
  clear eq_Ggd eq_Hwg eq_Hwh
  have cgc_wh_0 : wh.cell? ⟨gc, 0, none⟩ = some (.int .i64 0) := by simp [World.cell?, bgc_wh]
  have fgc_wh_0 : wh.frozen? ⟨gc, 0, none⟩ = false := by simp [World.frozen?, bgc_wh]
  have cgc_wh_1 : wh.cell? ⟨gc, 1, none⟩ = some (.int .i64 0) := by simp [World.cell?, bgc_wh]
  have fgc_wh_1 : wh.frozen? ⟨gc, 1, none⟩ = false := by simp [World.frozen?, bgc_wh]
  have cgc_wh_2 : wh.cell? ⟨gc, 2, none⟩ = some (.string ⟨#[]⟩) := by simp [World.cell?, bgc_wh]
  have fgc_wh_2 : wh.frozen? ⟨gc, 2, none⟩ = false := by simp [World.frozen?, bgc_wh]
  have cgc_wh_3 : wh.cell? ⟨gc, 3, none⟩ = some (.int .i64 0) := by simp [World.cell?, bgc_wh]
  have fgc_wh_3 : wh.frozen? ⟨gc, 3, none⟩ = false := by simp [World.frozen?, bgc_wh]
  obtain ⟨wi, Hwi⟩ : ∃ x, Hid ((World.setCell (World.setCell (World.setCell (World.setCell wh ⟨gc, 0, none⟩ (.int .i64 d2.rep)) ⟨gc, 1, none⟩ (.int .i64 d2.n)) ⟨gc, 2, none⟩ (.string s2.user)) ⟨gc, 3, none⟩ (.int .i64 s2.amount)).drew = x) := ⟨_, Lib.hid rfl⟩
  have bgc_wi : wi.heap[gc]? = some (.cells #[.int .i64 d2.rep, .int .i64 d2.n, .string s2.user, .int .i64 s2.amount] 130) := by rw [← Hwi.out]; exact (blk_set (blk_set (blk_set (blk_set bgc_wh 0 _) 1 _) 2 _) 3 _)
  have kwi : Chg [gc] wh wi := by rw [← Hwi.out]; exact (Chg.ext (Chg.set (Chg.set (Chg.set (Chg.set (Chg.refl [gc] wh) gc 0 _ (by simp)) gc 1 _ (by simp)) gc 2 _ (by simp)) gc 3 _ (by simp)) (Ext.refl _).drew)
  have xwi : Ext w wi := by rw [← Hwi.out]; exact ((Ext.setCell (Ext.setCell (Ext.setCell (Ext.setCell xwh (p := ⟨gc, 0, none⟩) lgc _) (p := ⟨gc, 1, none⟩) lgc _) (p := ⟨gc, 2, none⟩) lgc _) (p := ⟨gc, 3, none⟩) lgc _)).drew
  have bga_wi : wi.heap[ga]? = some (.cells #[.pointer (some ⟨hb, 0, none⟩)] 34) := (kwi.block _ (Array.getElem?_eq_some_iff.1 bga_wh).1 (by simpa using ngagc)).trans bga_wh
  have bgb_wi : wi.heap[gb]? = some (.cells st.L.toArray 86) := (kwi.block _ (Array.getElem?_eq_some_iff.1 bgb_wh).1 (by simpa using ngbgc)).trans bgb_wh
  have bgd_wi : wi.heap[gd]? = some (.cells #[.int .i64 d2.rep, .int .i64 d2.n] 64) := (kwi.block _ (Array.getElem?_eq_some_iff.1 bgd_wh).1 (by simpa using (Ne.symm ngcgd))).trans bgd_wh
  have eq_Hwi := Hwi.out
  refine start_ (n := 17) (S := (fun W => Ext wh W)) (ds := [16]) #[false, false, false, false, false, false, false, false, false, false, false, false, false, false, false, false, false] (by kernel_rfl) (by kernel_rfl) (by kernel_rfl) (xT.drew) (fun hHeld => ?_)
  refine take_ (i := 0) (N := (some 25)) (v := ?_) (a' := ?_) #[true, false, false, false, false, false, false, false, false, false, false, false, false, false, false, false, false] rfl rfl (by kernel_rfl) (fun _ _ _ h => h) (Or.inl ⟨by rfl, ?_⟩) (by assumption) ?_ ?_
  rotate_left
  · intro w' hSw; (try dsimp only at hSw)
    go_simp
    try with_reducible rfl
  rotate_left
  · simp only [Act.put, List.setIfInBounds_toArray, List.set_cons_zero, List.set_cons_succ]
    rfl
  refine take_ (i := 1) (N := (some 26)) (v := ?_) (a' := ?_) #[true, true, false, false, false, false, false, false, false, false, false, false, false, false, false, false, false] rfl rfl (by kernel_rfl) (fun _ _ _ h => h) (Or.inl ⟨by rfl, ?_⟩) (by assumption) ?_ ?_
  rotate_left
  · intro w' hSw; (try dsimp only at hSw)
    go_simp
    try with_reducible rfl
  rotate_left
  · simp only [Act.put, List.setIfInBounds_toArray, List.set_cons_zero, List.set_cons_succ]
    rfl
  refine take_ (i := 2) (N := (some 27)) (v := ?_) (a' := ?_) #[true, true, true, false, false, false, false, false, false, false, false, false, false, false, false, false, false] rfl rfl (by kernel_rfl) (fun _ _ _ h => h) (Or.inl ⟨by rfl, ?_⟩) (by assumption) ?_ ?_
  rotate_left
  · intro w' hSw; (try dsimp only at hSw)
    go_simp
    try with_reducible rfl
  rotate_left
  · simp only [Act.put, List.setIfInBounds_toArray, List.set_cons_zero, List.set_cons_succ]
    rfl
  refine take_ (i := 3) (N := (some 28)) (v := ?_) (a' := ?_) #[true, true, true, true, false, false, false, false, false, false, false, false, false, false, false, false, false] rfl rfl (by kernel_rfl) (fun _ _ _ h => h) (Or.inl ⟨by rfl, ?_⟩) (by assumption) ?_ ?_
  rotate_left
  · intro w' hSw; (try dsimp only at hSw)
    go_simp
    try with_reducible rfl
  rotate_left
  · simp only [Act.put, List.setIfInBounds_toArray, List.set_cons_zero, List.set_cons_succ]
    rfl
  refine take_ (i := 4) (N := (some 29)) (v := ?_) (a' := ?_) #[true, true, true, true, true, false, false, false, false, false, false, false, false, false, false, false, false] rfl rfl (by kernel_rfl) (fun _ _ _ h => h) (Or.inl ⟨by rfl, ?_⟩) (by assumption) ?_ ?_
  rotate_left
  · intro w' hSw; (try dsimp only at hSw)
    go_simp
    try with_reducible rfl
  rotate_left
  · simp only [Act.put, List.setIfInBounds_toArray, List.set_cons_zero, List.set_cons_succ]
    rfl
  refine take_ (i := 5) (N := (some 30)) (v := ?_) (a' := ?_) #[true, true, true, true, true, true, false, false, false, false, false, false, false, false, false, false, false] rfl rfl (by kernel_rfl) (fun _ _ _ h => h) (Or.inl ⟨by rfl, ?_⟩) (by assumption) ?_ ?_
  rotate_left
  · intro w' hSw; (try dsimp only at hSw)
    go_simp
    try with_reducible rfl
  rotate_left
  · simp only [Act.put, List.setIfInBounds_toArray, List.set_cons_zero, List.set_cons_succ]
    rfl
  refine take_ (i := 6) (N := (some 31)) (v := ?_) (a' := ?_) #[true, true, true, true, true, true, true, false, false, false, false, false, false, false, false, false, false] rfl rfl (by kernel_rfl) (fun _ _ _ h => h) (Or.inl ⟨by rfl, ?_⟩) (by assumption) ?_ ?_
  rotate_left
  · intro w' hSw; (try dsimp only at hSw)
    go_simp
    try with_reducible rfl
  rotate_left
  · simp only [Act.put, List.setIfInBounds_toArray, List.set_cons_zero, List.set_cons_succ]
    rfl
  refine take_ (i := 7) (N := (some 32)) (v := ?_) (a' := ?_) #[true, true, true, true, true, true, true, true, false, false, false, false, false, false, false, false, false] rfl rfl (by kernel_rfl) (fun _ _ _ h => h) (Or.inl ⟨by rfl, ?_⟩) (by assumption) ?_ ?_
  rotate_left
  · intro w' hSw; (try dsimp only at hSw)
    go_simp
    try with_reducible rfl
  rotate_left
  · simp only [Act.put, List.setIfInBounds_toArray, List.set_cons_zero, List.set_cons_succ]
    rfl
  refine take_ (i := 8) (N := (some 33)) (v := ?_) (a' := ?_) #[true, true, true, true, true, true, true, true, true, false, false, false, false, false, false, false, false] rfl rfl (by kernel_rfl) (fun _ _ _ h => h) (Or.inl ⟨by rfl, ?_⟩) (by assumption) ?_ ?_
  rotate_left
  · intro w' hSw; (try dsimp only at hSw)
    go_simp
    try with_reducible rfl
  rotate_left
  · simp only [Act.put, List.setIfInBounds_toArray, List.set_cons_zero, List.set_cons_succ]
    rfl
  refine take_ (i := 9) (N := (some 34)) (v := ?_) (a' := ?_) #[true, true, true, true, true, true, true, true, true, true, false, false, false, false, false, false, false] rfl rfl (by kernel_rfl) (fun _ _ _ h => h) (Or.inl ⟨by rfl, ?_⟩) (by assumption) ?_ ?_
  rotate_left
  · intro w' hSw; (try dsimp only at hSw)
    go_simp
    try with_reducible rfl
  rotate_left
  · simp only [Act.put, List.setIfInBounds_toArray, List.set_cons_zero, List.set_cons_succ]
    rfl
  refine take_ (i := 10) (N := (some 35)) (v := ?_) (a' := ?_) #[true, true, true, true, true, true, true, true, true, true, true, false, false, false, false, false, false] rfl rfl (by kernel_rfl) (fun _ _ _ h => h) (Or.inl ⟨by rfl, ?_⟩) (by assumption) ?_ ?_
  rotate_left
  · intro w' hSw; (try dsimp only at hSw)
    go_simp
    try with_reducible rfl
  rotate_left
  · simp only [Act.put, List.setIfInBounds_toArray, List.set_cons_zero, List.set_cons_succ]
    rfl
  refine take_ (i := 11) (N := (some 36)) (v := ?_) (a' := ?_) #[true, true, true, true, true, true, true, true, true, true, true, true, false, false, false, false, false] rfl rfl (by kernel_rfl) (fun _ _ _ h => h) (Or.inl ⟨by rfl, ?_⟩) (by assumption) ?_ ?_
  rotate_left
  · intro w' hSw; (try dsimp only at hSw)
    go_simp
    try with_reducible rfl
  rotate_left
  · simp only [Act.put, List.setIfInBounds_toArray, List.set_cons_zero, List.set_cons_succ]
    rfl
  refine take_ (i := 12) (N := (some 37)) (v := ?_) (a' := ?_) #[true, true, true, true, true, true, true, true, true, true, true, true, true, false, false, false, false] rfl rfl (by kernel_rfl) (fun _ _ _ h => h) (Or.inl ⟨by rfl, ?_⟩) (by assumption) ?_ ?_
  rotate_left
  · intro w' hSw; (try dsimp only at hSw)
    go_simp
    try with_reducible rfl
  rotate_left
  · simp only [Act.put, List.setIfInBounds_toArray, List.set_cons_zero, List.set_cons_succ]
    rfl
  refine take_ (i := 13) (N := (some 38)) (v := ?_) (a' := ?_) #[true, true, true, true, true, true, true, true, true, true, true, true, true, true, false, false, false] rfl rfl (by kernel_rfl) (fun _ _ _ h => h) (Or.inl ⟨by rfl, ?_⟩) (by assumption) ?_ ?_
  rotate_left
  · intro w' hSw; (try dsimp only at hSw)
    go_simp
    try with_reducible rfl
  rotate_left
  · simp only [Act.put, List.setIfInBounds_toArray, List.set_cons_zero, List.set_cons_succ]
    rfl
  refine take_ (i := 14) (N := (some 39)) (v := ?_) (a' := ?_) #[true, true, true, true, true, true, true, true, true, true, true, true, true, true, true, false, false] rfl rfl (by kernel_rfl) (fun _ _ _ h => h) (Or.inl ⟨by rfl, ?_⟩) (by assumption) ?_ ?_
  rotate_left
  · intro w' hSw; (try dsimp only at hSw)
    go_simp
    try with_reducible rfl
  rotate_left
  · simp only [Act.put, List.setIfInBounds_toArray, List.set_cons_zero, List.set_cons_succ]
    rfl
  refine take_ (i := 15) (N := (some 40)) (v := ?_) (a' := ?_) #[true, true, true, true, true, true, true, true, true, true, true, true, true, true, true, true, false] rfl rfl (by kernel_rfl) (fun _ _ _ h => h) (Or.inl ⟨by rfl, ?_⟩) (by assumption) ?_ ?_
  rotate_left
  · intro w' hSw; (try dsimp only at hSw)
    go_simp
    try with_reducible rfl
  rotate_left
  · simp only [Act.put, List.setIfInBounds_toArray, List.set_cons_zero, List.set_cons_succ]
    rfl
  refine last_ (i := 16) (N := none) #[true, true, true, true, true, true, true, true, true, true, true, true, true, true, true, true, true] rfl rfl (by kernel_rfl) (by simp) (fun K hK => ?_)
  go_simp
  clear eq_Hwi
  refine hK.out _ _ ?_
  clear hK K
  (try simp only [Act.put, List.setIfInBounds_toArray, List.set_cons_zero, List.set_cons_succ])
  refine done_ (by kernel_rfl) ?_
  go_wp2
  refine bodyPost_ret (results_cell1 rfl _ _ gc 130 #[.int .i64 d2.rep, .int .i64 d2.n, .string s2.user, .int .i64 s2.amount] (0, 0) _ rfl bgc_wi Tryz.underlying130 rfl (by kernel_rfl)) rfl ⟨rfl, xwi⟩
end Go.Proofs.YtbemkefcaceekaaGreatDoor
