/- Top14: slices.Contains of one dot; the maker's user, auction. -/
import Derived.Test.YtbemkefcaceekaaGreatDoorTop13
set_option linter.unusedVariables false
set_option linter.unusedSimpArgs false
set_option maxRecDepth 100000
namespace Go.Proofs.YtbemkefcaceekaaGreatDoor
open Go.RowKit Go.Lib Go.Shelf Go.Proofs.YtbemkefcaceekaaGreatDoorW.PrintWords Go.Proofs.YtbemkefcaceekaaGreatDoorW.PrintLast

theorem index_dot (d : Dt) (g c : Nat) (hc : 1 ≤ c) (w : World) (h0 : w.cell? ⟨g, 0, none⟩ = some (.int .i64 d.rep)) (h1 : w.cell? ⟨g, 1, none⟩ = some (.int .i64 d.n)) : Calls Tryz.prog 179 #[.slice (some ⟨g, 0, none⟩) 1 c, dotv d.rep d.n] w fun e w' => e = .returned (.int .i64 0) ∧ Ext w w' := by
  obtain ⟨gb, Hg⟩ : ∃ h, Hid (w.heap.size = h) := ⟨_, Lib.hid rfl⟩
  obtain ⟨w1, H1, S1, hx1, ⟨d0, d1⟩, -, -⟩ := alloc2 w d.rep d.n 64 gb Hg.out
  have e0 := hx1.cell h0
  have e1 := hx1.cell h1
  have r0 : ∀ W, Ext w1 W → W.cell? ⟨g, 0, none⟩ = some (.int .i64 d.rep) := fun W x => x.cell e0
  have r1 : ∀ W, Ext w1 W → W.cell? ⟨g, 1, none⟩ = some (.int .i64 d.n) := fun W x => x.cell e1
  have r2 : ∀ W, Ext w1 W → W.cell? ⟨gb, 0, none⟩ = some (.int .i64 d.rep) := fun W x => x.cell d0
  have r3 : ∀ W, Ext w1 W → W.cell? ⟨gb, 1, none⟩ = some (.int .i64 d.n) := fun W x => x.cell d1
  have he := fun r n r' n' W => run_dot r n r' n' W
  have hh := Hg.out
  have q1 := H1.out
  have xT := Ext.refl w1
  clear h0 h1 e0 e1 d0 d1
  unfold dotv
  go_enter Tryz.func179, Tryz.ntmps179
  go_wp2_with fail
  clear hh q1
  refine wp_loop_rounds 1 ?_
  rw [rounds_succ]
  go_wp2_with fail
  refine start_ (n := 6) (S := (fun W => Ext w1 W)) (ds := []) #[false, false, false, false, false, false] (by kernel_rfl) (by kernel_rfl) (by kernel_rfl) (xT.drew) (fun hHeld => ?_)
  refine take_ (i := 0) (N := (some 11)) (v := ?_) (a' := ?_) #[true, false, false, false, false, false] rfl rfl (by kernel_rfl) (fun _ _ _ h => h) (Or.inl ⟨by rfl, ?_⟩) (by assumption) ?_ ?_
  rotate_left
  · intro w' hSw; (try dsimp only at hSw)
    go_simp
    try with_reducible rfl
  rotate_left
  · simp only [Act.put, List.setIfInBounds_toArray, List.set_cons_zero, List.set_cons_succ]
    rfl
  refine take_ (i := 1) (N := (some 12)) (v := ?_) (a' := ?_) #[true, true, false, false, false, false] rfl rfl (by kernel_rfl) (fun _ _ _ h => h) (Or.inl ⟨by rfl, ?_⟩) (by assumption) ?_ ?_
  rotate_left
  · intro w' hSw; (try dsimp only at hSw)
    go_simp
    try with_reducible rfl
  rotate_left
  · simp only [Act.put, List.setIfInBounds_toArray, List.set_cons_zero, List.set_cons_succ]
    rfl
  refine take_ (i := 2) (N := (some 13)) (v := ?_) (a' := ?_) #[true, true, true, false, false, false] rfl rfl (by kernel_rfl) (fun _ _ _ h => h) (Or.inl ⟨by rfl, ?_⟩) (by assumption) ?_ ?_
  rotate_left
  · intro w' hSw; (try dsimp only at hSw)
    go_simp
    try with_reducible rfl
  rotate_left
  · simp only [Act.put, List.setIfInBounds_toArray, List.set_cons_zero, List.set_cons_succ]
    rfl
  refine take_ (i := 3) (N := (some 14)) (v := ?_) (a' := ?_) #[true, true, true, true, false, false] rfl rfl (by kernel_rfl) (fun _ _ _ h => h) (Or.inl ⟨by rfl, ?_⟩) (by assumption) ?_ ?_
  rotate_left
  · intro w' hSw; (try dsimp only at hSw)
    go_simp
    try with_reducible rfl
  rotate_left
  · simp only [Act.put, List.setIfInBounds_toArray, List.set_cons_zero, List.set_cons_succ]
    rfl
  refine take_ (i := 4) (N := (some 15)) (v := ?_) (a' := ?_) #[true, true, true, true, true, false] rfl rfl (by kernel_rfl) (fun _ _ _ h => h) (Or.inl ⟨by rfl, ?_⟩) (by assumption) ?_ ?_
  rotate_left
  · intro w' hSw; (try dsimp only at hSw)
    go_simp
    try with_reducible rfl
  rotate_left
  · simp only [Act.put, List.setIfInBounds_toArray, List.set_cons_zero, List.set_cons_succ]
    rfl
  refine take_ (i := 5) (N := (some 16)) (v := ?_) (a' := ?_) #[true, true, true, true, true, true] rfl rfl (by kernel_rfl) (fun _ _ _ h => h) (Or.inl ⟨by rfl, ?_⟩) (by assumption) ?_ ?_
  rotate_left
  · intro w' hSw; (try dsimp only at hSw)
    go_simp
    try with_reducible rfl
  rotate_left
  · simp only [Act.put, List.setIfInBounds_toArray, List.set_cons_zero, List.set_cons_succ]
    rfl
  refine done_ (by kernel_rfl) ?_
  go_wp2
  go_ret
  exact ⟨rfl, hx1.trans hHeld⟩
theorem has_dot (d : Dt) (g c : Nat) (hc : 1 ≤ c) (w : World) (h0 : w.cell? ⟨g, 0, none⟩ = some (.int .i64 d.rep)) (h1 : w.cell? ⟨g, 1, none⟩ = some (.int .i64 d.n)) : Calls Tryz.prog 146 #[.slice (some ⟨g, 0, none⟩) 1 c, dotv d.rep d.n] w fun e w' => e = .returned (.bool true) ∧ Ext w w' := by
  obtain ⟨gb, Hg⟩ : ∃ h, Hid (w.heap.size = h) := ⟨_, Lib.hid rfl⟩
  obtain ⟨w1, H1, S1, hx1, ⟨d0, d1⟩, -, -⟩ := alloc2 w d.rep d.n 64 gb Hg.out
  have ki := fun W h0 h1 => index_dot d g c hc W h0 h1
  have hh := Hg.out
  have q1 := H1.out
  unfold dotv at ki ⊢
  go_enter Tryz.func146, Tryz.ntmps146
  go_wp2_with fail
  first
    | refine (ki _ h0 h1).mono ?_
    | refine (ki _ (hx1.cell h0) (hx1.cell h1)).mono ?_
  rintro e w2 ⟨rfl, x2⟩
  go_wp2
  go_ret
  first | exact ⟨rfl, hx1.trans x2⟩ | exact ⟨rfl, x2⟩

/-- A maker: a house and a step. -/
abbrev mkL (hb : Nat) (s : Stp) : List Value := .pointer (some ⟨hb, 0, none⟩) :: s.L
theorem mk_cells {w : World} {b hb : Nat} {s : Stp} (h : w.rangeAt b 0 (mkL hb s)) : w.cell? ⟨b, 0, none⟩ = some (.pointer (some ⟨hb, 0, none⟩)) ∧ w.cell? ⟨b, 1, none⟩ = some (.int .i64 s.kind) ∧ w.cell? ⟨b, 13, none⟩ = some (.string s.user) ∧ w.cell? ⟨b, 14, none⟩ = some (.int .i64 s.auc.rep) ∧ w.cell? ⟨b, 15, none⟩ = some (.int .i64 s.auc.n) :=
  ⟨by have := h 0 _ rfl; rwa [Nat.zero_add] at this, by have := h 1 _ rfl; rwa [Nat.zero_add] at this, by have := h 13 _ rfl; rwa [Nat.zero_add] at this, by have := h 14 _ rfl; rwa [Nat.zero_add] at this, by have := h 15 _ rfl; rwa [Nat.zero_add] at this⟩
set_option maxHeartbeats 4000000 in
theorem user_none (w : World) (base bm um dm cm hb : Nat) (H : Hse) (s : Stp) (h : HAt w base bm um dm cm hb H) (hu : H.users = []) (hs : s.user.size ≤ 1048576) (ht : Tabs w) :
    Calls Tryz.prog 104 #[.agg (mkL hb s).toArray] w fun e w' => e = .returned (.int .i64 4) ∧ Ext w w' := by
  obtain ⟨gb, Hg⟩ : ∃ h, Hid (w.heap.size = h) := ⟨_, Lib.hid rfl⟩
  obtain ⟨w1, H1⟩ : ∃ x, Hid (w.alloc (.cells (mkL hb s).toArray 111) = x) := ⟨_, Lib.hid rfl⟩
  have hx1 : Ext w w1 := by rw [← H1.out]; exact (Ext.refl w).alloc _
  obtain ⟨d0, d1, d2, d3, d4⟩ := mk_cells (show w1.rangeAt gb 0 (mkL hb s) by rw [← H1.out, ← Hg.out]; exact rangeAt_new w _ _)
  have h1 := h.ext hx1
  have r0 : ∀ W, Ext w1 W → W.cell? ⟨gb, 0, none⟩ = some (.pointer (some ⟨hb, 0, none⟩)) := fun W x => x.cell d0
  have r1 : ∀ W, Ext w1 W → W.cell? ⟨gb, 13, none⟩ = some (.string s.user) := fun W x => x.cell d2
  have hh := Hg.out
  have q1 := H1.out
  have xT := Ext.refl w1
  clear d0 d1 d2 d3 d4
  go_enter Tryz.func104, Tryz.ntmps104
  go_wp2_with fail
  clear hh q1
  refine start_ (n := 9) (S := (fun W => Ext w1 W)) (ds := []) #[false, false, false, false, false, false, false, false, false] (by kernel_rfl) (by kernel_rfl) (by kernel_rfl) (xT.drew) (fun hHeld => ?_)
  refine take_ (i := 0) (N := (some 3)) (v := ?_) (a' := ?_) #[true, false, false, false, false, false, false, false, false] rfl rfl (by kernel_rfl) (fun _ _ _ h => h) (Or.inl ⟨by rfl, ?_⟩) (by assumption) ?_ ?_
  rotate_left
  · intro w' hSw; (try dsimp only at hSw)
    go_simp
    try with_reducible rfl
  rotate_left
  · simp only [Act.put, List.setIfInBounds_toArray, List.set_cons_zero, List.set_cons_succ]
    rfl
  refine take_ (i := 1) (N := (some 4)) (v := ?_) (a' := ?_) #[true, true, false, false, false, false, false, false, false] rfl rfl (by kernel_rfl) (fun _ _ _ h => h) (Or.inl ⟨by rfl, ?_⟩) (by assumption) ?_ ?_
  rotate_left
  · intro w' hSw; (try dsimp only at hSw)
    go_simp
    try with_reducible rfl
  rotate_left
  · simp only [Act.put, List.setIfInBounds_toArray, List.set_cons_zero, List.set_cons_succ]
    rfl
  refine take_ (i := 3) (N := (some 6)) (v := ?_) (a' := ?_) #[true, true, false, true, false, false, false, false, false] rfl rfl (by kernel_rfl) (fun _ _ _ h => h) (Or.inl ⟨by rfl, ?_⟩) (by assumption) ?_ ?_
  rotate_left
  · intro w' hSw; (try dsimp only at hSw)
    go_simp
    try with_reducible rfl
  rotate_left
  · simp only [Act.put, List.setIfInBounds_toArray, List.set_cons_zero, List.set_cons_succ]
    rfl
  refine take_ (i := 4) (N := (some 7)) (v := ?_) (a' := ?_) #[true, true, false, true, true, false, false, false, false] rfl rfl (by kernel_rfl) (fun _ _ _ h => h) (Or.inl ⟨by rfl, ?_⟩) (by assumption) ?_ ?_
  rotate_left
  · intro w' hSw; (try dsimp only at hSw)
    go_simp
    try with_reducible rfl
  rotate_left
  · simp only [Act.put, List.setIfInBounds_toArray, List.set_cons_zero, List.set_cons_succ]
    rfl
  refine take_ (i := 5) (N := (some 8)) (v := ?_) (a' := ?_) #[true, true, false, true, true, true, false, false, false] rfl rfl (by kernel_rfl) (fun _ _ _ h => h) (Or.inl ⟨by rfl, ?_⟩) (by assumption) ?_ ?_
  rotate_left
  · intro w' hSw; (try dsimp only at hSw)
    go_simp
    try with_reducible rfl
  rotate_left
  · simp only [Act.put, List.setIfInBounds_toArray, List.set_cons_zero, List.set_cons_succ]
    rfl
  refine one_ (i := 2) (N := (some 5)) #[true, true, true, true, true, true, false, false, false] rfl rfl (by kernel_rfl) (by simp) (fun K hK => ?_)
  go_simp
  refine (users_none _ base bm um dm cm hb H (h1.ext hHeld) hu).mono ?_
  rintro e w2 ⟨rfl, x2⟩
  refine hK.out _ _ ?_ (fun hHeld => ?_)
  · first | assumption | exact hHeld.trans (by assumption)
  clear hK K
  (try simp only [Act.put, List.setIfInBounds_toArray, List.set_cons_zero, List.set_cons_succ])
  refine one_ (i := 6) (N := (some 9)) #[true, true, true, true, true, true, true, false, false] rfl rfl (by kernel_rfl) (by simp) (fun K hK => ?_)
  go_simp
  refine (fold_any s.user _ hs (ht.ext (hx1.trans hHeld))).mono ?_
  rintro e w3 ⟨rfl, x3⟩
  refine hK.out _ _ ?_ (fun hHeld => ?_)
  · first | assumption | exact hHeld.trans (by assumption)
  clear hK K
  (try simp only [Act.put, List.setIfInBounds_toArray, List.set_cons_zero, List.set_cons_succ])
  refine one_ (i := 7) (N := (some 10)) #[true, true, true, true, true, true, true, true, false] rfl rfl (by kernel_rfl) (by simp) (fun K hK => ?_)
  go_simp
  refine (has_none _ _).mono ?_
  rintro e w4 ⟨rfl, x4⟩
  refine hK.out _ _ ?_ (fun hHeld => ?_)
  · first | assumption | exact hHeld.trans (by assumption)
  clear hK K
  (try simp only [Act.put, List.setIfInBounds_toArray, List.set_cons_zero, List.set_cons_succ])
  refine take_ (i := 8) (N := (some 11)) (v := ?_) (a' := ?_) #[true, true, true, true, true, true, true, true, true] rfl rfl (by kernel_rfl) (fun _ _ _ h => h) (Or.inl ⟨by rfl, ?_⟩) (by assumption) ?_ ?_
  rotate_left
  · intro w' hSw; (try dsimp only at hSw)
    go_simp
    try with_reducible rfl
  rotate_left
  · simp only [Act.put, List.setIfInBounds_toArray, List.set_cons_zero, List.set_cons_succ]
    rfl
  refine done_ (by kernel_rfl) ?_
  go_wp2
  go_ret
  exact ⟨rfl, hx1.trans hHeld⟩
set_option maxHeartbeats 4000000 in
theorem user_one (w : World) (base bm um dm cm hb : Nat) (H : Hse) (s : Stp) (vv : Value) (h : HAt w base bm um dm cm hb H) (hu : H.users = [(s.user, vv, 0)]) (huc : H.uc = 1) (hs : s.user.size ≤ 1048576) (hf : (ByteArray.mk (foldL (CH s.user)).toArray) = s.user) (ht : Tabs w) :
    Calls Tryz.prog 104 #[.agg (mkL hb s).toArray] w fun e w' => e = .returned (.int .i64 0) ∧ Ext w w' := by
  obtain ⟨gb, Hg⟩ : ∃ h, Hid (w.heap.size = h) := ⟨_, Lib.hid rfl⟩
  obtain ⟨w1, H1⟩ : ∃ x, Hid (w.alloc (.cells (mkL hb s).toArray 111) = x) := ⟨_, Lib.hid rfl⟩
  have hx1 : Ext w w1 := by rw [← H1.out]; exact (Ext.refl w).alloc _
  obtain ⟨d0, d1, d2, d3, d4⟩ := mk_cells (show w1.rangeAt gb 0 (mkL hb s) by rw [← H1.out, ← Hg.out]; exact rangeAt_new w _ _)
  have h1 := h.ext hx1
  have r0 : ∀ W, Ext w1 W → W.cell? ⟨gb, 0, none⟩ = some (.pointer (some ⟨hb, 0, none⟩)) := fun W x => x.cell d0
  have r1 : ∀ W, Ext w1 W → W.cell? ⟨gb, 13, none⟩ = some (.string s.user) := fun W x => x.cell d2
  have kf := fun W ht => fold_any s.user W hs ht
  rw [hf] at kf
  have hh := Hg.out
  have q1 := H1.out
  have xT := Ext.refl w1
  clear d0 d1 d2 d3 d4 hf
  go_enter Tryz.func104, Tryz.ntmps104
  go_wp2_with fail
  clear hh q1
  refine start_ (n := 9) (S := (fun W => Ext w1 W)) (ds := []) #[false, false, false, false, false, false, false, false, false] (by kernel_rfl) (by kernel_rfl) (by kernel_rfl) (xT.drew) (fun hHeld => ?_)
  refine take_ (i := 0) (N := (some 3)) (v := ?_) (a' := ?_) #[true, false, false, false, false, false, false, false, false] rfl rfl (by kernel_rfl) (fun _ _ _ h => h) (Or.inl ⟨by rfl, ?_⟩) (by assumption) ?_ ?_
  rotate_left
  · intro w' hSw; (try dsimp only at hSw)
    go_simp
    try with_reducible rfl
  rotate_left
  · simp only [Act.put, List.setIfInBounds_toArray, List.set_cons_zero, List.set_cons_succ]
    rfl
  refine take_ (i := 1) (N := (some 4)) (v := ?_) (a' := ?_) #[true, true, false, false, false, false, false, false, false] rfl rfl (by kernel_rfl) (fun _ _ _ h => h) (Or.inl ⟨by rfl, ?_⟩) (by assumption) ?_ ?_
  rotate_left
  · intro w' hSw; (try dsimp only at hSw)
    go_simp
    try with_reducible rfl
  rotate_left
  · simp only [Act.put, List.setIfInBounds_toArray, List.set_cons_zero, List.set_cons_succ]
    rfl
  refine take_ (i := 3) (N := (some 6)) (v := ?_) (a' := ?_) #[true, true, false, true, false, false, false, false, false] rfl rfl (by kernel_rfl) (fun _ _ _ h => h) (Or.inl ⟨by rfl, ?_⟩) (by assumption) ?_ ?_
  rotate_left
  · intro w' hSw; (try dsimp only at hSw)
    go_simp
    try with_reducible rfl
  rotate_left
  · simp only [Act.put, List.setIfInBounds_toArray, List.set_cons_zero, List.set_cons_succ]
    rfl
  refine take_ (i := 4) (N := (some 7)) (v := ?_) (a' := ?_) #[true, true, false, true, true, false, false, false, false] rfl rfl (by kernel_rfl) (fun _ _ _ h => h) (Or.inl ⟨by rfl, ?_⟩) (by assumption) ?_ ?_
  rotate_left
  · intro w' hSw; (try dsimp only at hSw)
    go_simp
    try with_reducible rfl
  rotate_left
  · simp only [Act.put, List.setIfInBounds_toArray, List.set_cons_zero, List.set_cons_succ]
    rfl
  refine take_ (i := 5) (N := (some 8)) (v := ?_) (a' := ?_) #[true, true, false, true, true, true, false, false, false] rfl rfl (by kernel_rfl) (fun _ _ _ h => h) (Or.inl ⟨by rfl, ?_⟩) (by assumption) ?_ ?_
  rotate_left
  · intro w' hSw; (try dsimp only at hSw)
    go_simp
    try with_reducible rfl
  rotate_left
  · simp only [Act.put, List.setIfInBounds_toArray, List.set_cons_zero, List.set_cons_succ]
    rfl
  refine one_ (i := 2) (N := (some 5)) #[true, true, true, true, true, true, false, false, false] rfl rfl (by kernel_rfl) (by simp) (fun K hK => ?_)
  go_simp
  refine (users_one _ base bm um dm cm hb H (h1.ext hHeld) s.user vv hu huc).mono ?_
  rintro e w2 ⟨gg, cc, rfl, hcc, hce, x2⟩
  refine hK.out _ _ ?_ (fun hHeld => ?_)
  · first | assumption | exact hHeld.trans (by assumption)
  clear hK K
  (try simp only [Act.put, List.setIfInBounds_toArray, List.set_cons_zero, List.set_cons_succ])
  refine one_ (i := 6) (N := (some 9)) #[true, true, true, true, true, true, true, false, false] rfl rfl (by kernel_rfl) (by simp) (fun K hK => ?_)
  go_simp
  refine (kf _ (ht.ext (hx1.trans hHeld))).mono ?_
  rintro e w3 ⟨rfl, x3⟩
  refine hK.out _ _ ?_ (fun hHeld => ?_)
  · first | assumption | exact hHeld.trans (by assumption)
  clear hK K
  (try simp only [Act.put, List.setIfInBounds_toArray, List.set_cons_zero, List.set_cons_succ])
  refine one_ (i := 7) (N := (some 10)) #[true, true, true, true, true, true, true, true, false] rfl rfl (by kernel_rfl) (by simp) (fun K hK => ?_)
  go_simp
  refine (has_one _ gg cc hcc _ (x3.cell hce)).mono ?_
  rintro e w4 ⟨rfl, x4⟩
  refine hK.out _ _ ?_ (fun hHeld => ?_)
  · first | assumption | exact hHeld.trans (by assumption)
  clear hK K
  (try simp only [Act.put, List.setIfInBounds_toArray, List.set_cons_zero, List.set_cons_succ])
  refine take_ (i := 8) (N := (some 11)) (v := ?_) (a' := ?_) #[true, true, true, true, true, true, true, true, true] rfl rfl (by kernel_rfl) (fun _ _ _ h => h) (Or.inl ⟨by rfl, ?_⟩) (by assumption) ?_ ?_
  rotate_left
  · intro w' hSw; (try dsimp only at hSw)
    go_simp
    try with_reducible rfl
  rotate_left
  · simp only [Act.put, List.setIfInBounds_toArray, List.set_cons_zero, List.set_cons_succ]
    rfl
  refine done_ (by kernel_rfl) ?_
  go_wp2
  go_ret
  exact ⟨rfl, hx1.trans hHeld⟩

/-- The house tells just this auction, and it is open. -/
structure Aucs (w : World) (hb : Nat) (d : Dt) : Prop where
  all : ∀ W, Ext w W → Calls Tryz.prog 48 #[.pointer (some ⟨hb, 0, none⟩)] W fun e w' => ∃ g c, e = .returned (.slice (some ⟨g, 0, none⟩) 1 c) ∧ 1 ≤ c ∧ w'.cell? ⟨g, 0, none⟩ = some (.int .i64 d.rep) ∧ w'.cell? ⟨g, 1, none⟩ = some (.int .i64 d.n) ∧ Ext W w'
  open' : ∀ W, Ext w W → Calls Tryz.prog 147 #[.pointer (some ⟨hb, 0, none⟩), dotv d.rep d.n] W fun e w' => e = .returned (.bool true) ∧ Ext W w'
theorem Aucs.ext {w w' : World} {hb : Nat} {d : Dt} (h : Aucs w hb d) (x : Ext w w') : Aucs w' hb d := ⟨fun W y => h.all W (x.trans y), fun W y => h.open' W (x.trans y)⟩
theorem aucs_one (w : World) (base bm um dm cm hb : Nat) (H : Hse) (h : HAt w base bm um dm cm hb H) (d : Dt) (s : Stp) (hbl : H.blue = [(d, s.V, 0)]) (hbc : H.bc = 1) (hk : s.kind = 1) (hc : H.closed = []) : Aucs w hb d :=
  ⟨fun W x => auctions_one W base bm um dm cm hb H (h.ext x) d s hbl hbc hk, fun W x => open_yes W base bm um dm cm hb H (h.ext x) d s 0 hc (by rw [hbl]; simp [findD]) hk⟩
theorem aucs_two (w : World) (base bm um dm cm hb : Nat) (H : Hse) (h : HAt w base bm um dm cm hb H) (d d2 : Dt) (s s2 : Stp) (hbl : H.blue = [(d, s.V, 0), (d2, s2.V, 1)]) (hbc : H.bc = 2) (hk : s.kind = 1) (hk2 : s2.kind = 2) (hc : H.closed = []) : Aucs w hb d :=
  ⟨fun W x => auctions_two W base bm um dm cm hb H (h.ext x) d d2 s s2 hbl hbc hk hk2, fun W x => open_yes W base bm um dm cm hb H (h.ext x) d s 0 hc (by rw [hbl]; simp [findD]) hk⟩
set_option maxHeartbeats 4000000 in
theorem auction_ok (w : World) (hb : Nat) (s : Stp) (d : Dt) (h : Aucs w hb d) :
    Calls Tryz.prog 103 #[.agg (mkL hb s).toArray, dotv d.rep d.n] w fun e w' => e = .returned (.int .i64 0) ∧ Ext w w' := by
  obtain ⟨gb, Hg⟩ : ∃ h, Hid (w.heap.size = h) := ⟨_, Lib.hid rfl⟩
  obtain ⟨w0, H0⟩ : ∃ x, Hid (w.alloc (.cells (mkL hb s).toArray 111) = x) := ⟨_, Lib.hid rfl⟩
  have hx0 : Ext w w0 := by rw [← H0.out]; exact (Ext.refl w).alloc _
  obtain ⟨d0, d1, d2, d3, d4⟩ := mk_cells (show w0.rangeAt gb 0 (mkL hb s) by rw [← H0.out, ← Hg.out]; exact rangeAt_new w _ _)
  obtain ⟨gd, Gd⟩ : ∃ h, Hid (w0.heap.size = h) := ⟨_, Lib.hid rfl⟩
  obtain ⟨w1, H1, S1, hx01, ⟨z0, z1⟩, -, -⟩ := alloc2 w0 d.rep d.n 64 gd Gd.out
  have hx1 := hx0.trans hx01
  have r0 : ∀ W, Ext w1 W → W.cell? ⟨gb, 0, none⟩ = some (.pointer (some ⟨hb, 0, none⟩)) := fun W x => (hx01.trans x).cell d0
  have r2 : ∀ W, Ext w1 W → W.cell? ⟨gd, 0, none⟩ = some (.int .i64 d.rep) := fun W x => x.cell z0
  have r3 : ∀ W, Ext w1 W → W.cell? ⟨gd, 1, none⟩ = some (.int .i64 d.n) := fun W x => x.cell z1
  have kh := fun g c hc W h0 h1 => has_dot d g c hc W h0 h1
  have ko := h.open'
  have hh := Hg.out
  have hd := Gd.out
  have q0 := H0.out
  have q1 := H1.out
  have xT := Ext.refl w1
  clear d0 d1 d2 d3 d4 z0 z1
  unfold dotv at kh ko ⊢
  go_enter Tryz.func103, Tryz.ntmps103
  go_wp2_with fail
  clear hh q1 q0 hd
  refine start_ (n := 7) (S := (fun W => Ext w1 W)) (ds := []) #[false, false, false, false, false, false, false] (by kernel_rfl) (by kernel_rfl) (by kernel_rfl) (xT.drew) (fun hHeld => ?_)
  refine take_ (i := 0) (N := (some 6)) (v := ?_) (a' := ?_) #[true, false, false, false, false, false, false] rfl rfl (by kernel_rfl) (fun _ _ _ h => h) (Or.inl ⟨by rfl, ?_⟩) (by assumption) ?_ ?_
  rotate_left
  · intro w' hSw; (try dsimp only at hSw)
    go_simp
    try with_reducible rfl
  rotate_left
  · simp only [Act.put, List.setIfInBounds_toArray, List.set_cons_zero, List.set_cons_succ]
    rfl
  refine take_ (i := 1) (N := (some 7)) (v := ?_) (a' := ?_) #[true, true, false, false, false, false, false] rfl rfl (by kernel_rfl) (fun _ _ _ h => h) (Or.inl ⟨by rfl, ?_⟩) (by assumption) ?_ ?_
  rotate_left
  · intro w' hSw; (try dsimp only at hSw)
    go_simp
    try with_reducible rfl
  rotate_left
  · simp only [Act.put, List.setIfInBounds_toArray, List.set_cons_zero, List.set_cons_succ]
    rfl
  refine take_ (i := 3) (N := (some 9)) (v := ?_) (a' := ?_) #[true, true, false, true, false, false, false] rfl rfl (by kernel_rfl) (fun _ _ _ h => h) (Or.inl ⟨by rfl, ?_⟩) (by assumption) ?_ ?_
  rotate_left
  · intro w' hSw; (try dsimp only at hSw)
    go_simp
    try with_reducible rfl
  rotate_left
  · simp only [Act.put, List.setIfInBounds_toArray, List.set_cons_zero, List.set_cons_succ]
    rfl
  refine one_ (i := 2) (N := (some 8)) #[true, true, true, true, false, false, false] rfl rfl (by kernel_rfl) (by simp) (fun K hK => ?_)
  go_simp
  refine (h.all _ (hx1.trans hHeld)).mono ?_
  rintro e w2 ⟨gg, cc, rfl, hcc, hce, hce2, x2⟩
  refine hK.out _ _ ?_ (fun hHeld => ?_)
  · first | assumption | exact hHeld.trans (by assumption)
  clear hK K
  (try simp only [Act.put, List.setIfInBounds_toArray, List.set_cons_zero, List.set_cons_succ])
  refine one_ (i := 4) (N := (some 10)) #[true, true, true, true, true, false, false] rfl rfl (by kernel_rfl) (by simp) (fun K hK => ?_)
  go_simp
  refine (kh gg cc hcc _ hce hce2).mono ?_
  rintro e w4 ⟨rfl, x4⟩
  refine hK.out _ _ ?_ (fun hHeld => ?_)
  · first | assumption | exact hHeld.trans (by assumption)
  clear hK K
  (try simp only [Act.put, List.setIfInBounds_toArray, List.set_cons_zero, List.set_cons_succ])
  refine take_ (i := 5) (N := (some 11)) (v := ?_) (a' := ?_) #[true, true, true, true, true, true, false] rfl rfl (by kernel_rfl) (fun _ _ _ h => h) (Or.inl ⟨by rfl, ?_⟩) (by assumption) ?_ ?_
  rotate_left
  · intro w' hSw; (try dsimp only at hSw)
    go_simp
    try with_reducible rfl
  rotate_left
  · simp only [Act.put, List.setIfInBounds_toArray, List.set_cons_zero, List.set_cons_succ]
    rfl
  refine take_ (i := 6) (N := (some 5)) (v := ?_) (a' := ?_) #[true, true, true, true, true, true, true] rfl rfl (by kernel_rfl) (fun _ _ _ h => h) (Or.inl ⟨by rfl, ?_⟩) (by assumption) ?_ ?_
  rotate_left
  · intro w' hSw; (try dsimp only at hSw)
    go_simp
    try with_reducible rfl
  rotate_left
  · simp only [Act.put, List.setIfInBounds_toArray, List.set_cons_zero, List.set_cons_succ]
    rfl
  refine done_ (by kernel_rfl) ?_
  have c0 := r0 _ hHeld
  have c2 := r2 _ hHeld
  have c3 := r3 _ hHeld
  go_wp2_with fail
  refine (ko _ (hx1.trans hHeld)).mono ?_
  rintro e w5 ⟨rfl, x5⟩
  go_wp2
  go_ret
  exact ⟨rfl, (hx1.trans hHeld).trans x5⟩
end Go.Proofs.YtbemkefcaceekaaGreatDoor
