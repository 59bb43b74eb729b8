/- Top2: auct.Good at a step that may be. -/
import Derived.Test.YtbemkefcaceekaaGreatDoorTop1
set_option linter.unusedVariables false
set_option linter.unusedSimpArgs false
set_option maxRecDepth 100000
namespace Go.Proofs.YtbemkefcaceekaaGreatDoor
open Go.RowKit Go.Lib Go.Proofs.YtbemkefcaceekaaGreatDoorW.PrintWords Go.Proofs.YtbemkefcaceekaaGreatDoorW.PrintLast

/-- In block b lies this step. -/
structure StAt (w : World) (b : Nat) (s : Stp) : Prop where
  all : w.rangeAt b 0 s.L
theorem StAt.ext {w w' : World} {b : Nat} {s : Stp} (h : StAt w b s) (x : Ext w w') : StAt w' b s := ⟨rangeAt_ext h.all x⟩
theorem StAt.new (w : World) (s : Stp) : StAt (w.alloc (.cells s.L.toArray 86)) w.heap.size s := ⟨rangeAt_new w _ _⟩
section
variable {w : World} {b : Nat} {s : Stp}
theorem StAt.whole (h : StAt w b s) : (Instr.loadAt 86 (.pointer (some ⟨b, 0, none⟩))).run Tryz.prog w = .ok s.V w :=
  run_loadAt_mid w b 0 86 s.L _ h.all Tryz.underlying86 rfl (by kernel_rfl)
theorem StAt.dot (h : StAt w b s) : (Instr.loadAt 64 (.pointer (some ⟨b, 1, none⟩))).run Tryz.prog w = .ok (dotv s.dot.rep s.dot.n) w :=
  run_loadAt_mid w b 1 64 s.dot.L _ (rangeAt_sub h.all 1 _ (fun j v hv => by rcases j with _ | _ | j <;> first | exact hv | (simp [Dt.L] at hv))) Tryz.underlying64 rfl (by kernel_rfl)
theorem StAt.auc (h : StAt w b s) : (Instr.loadAt 64 (.pointer (some ⟨b, 13, none⟩))).run Tryz.prog w = .ok (dotv s.auc.rep s.auc.n) w :=
  run_loadAt_mid w b 13 64 s.auc.L _ (rangeAt_sub h.all 13 _ (fun j v hv => by rcases j with _ | _ | j <;> first | exact hv | (simp [Dt.L] at hv))) Tryz.underlying64 rfl (by kernel_rfl)
theorem StAt.bid (h : StAt w b s) : (Instr.loadAt 64 (.pointer (some ⟨b, 15, none⟩))).run Tryz.prog w = .ok (dotv s.bid.rep s.bid.n) w :=
  run_loadAt_mid w b 15 64 s.bid.L _ (rangeAt_sub h.all 15 _ (fun j v hv => by rcases j with _ | _ | j <;> first | exact hv | (simp [Dt.L] at hv))) Tryz.underlying64 rfl (by kernel_rfl)
theorem StAt.seen (h : StAt w b s) : (Instr.loadAt 57 (.pointer (some ⟨b, 3, none⟩))).run Tryz.prog w = .ok (vf s.seen) w :=
  run_loadAt_mid w b 3 57 (vL s.seen) _ (rangeAt_sub h.all 3 _ (fun j v hv => by rcases j with _ | _ | _ | _ | _ | _ | _ | j <;> first | exact hv | (simp [vL] at hv))) Tryz.underlying57 rfl (by kernel_rfl)
theorem StAt.cell (h : StAt w b s) (i : Nat) (v : Value) (hv : s.L[i]? = some v) : w.cell? ⟨b, i, none⟩ = some v := by
  have := h.all i v hv
  rwa [Nat.zero_add] at this
theorem StAt.cells (h : StAt w b s) : w.cell? ⟨b, 0, none⟩ = some (.int .i64 s.kind) ∧ w.cell? ⟨b, 1, none⟩ = some (.int .i64 s.dot.rep) ∧ w.cell? ⟨b, 2, none⟩ = some (.int .i64 s.dot.n) ∧ w.cell? ⟨b, 3, none⟩ = some (.int .i64 (s.seen 0)) ∧ w.cell? ⟨b, 4, none⟩ = some (.int .i64 (s.seen 1)) ∧ w.cell? ⟨b, 5, none⟩ = some (.int .i64 (s.seen 2)) ∧ w.cell? ⟨b, 6, none⟩ = some (.int .i64 (s.seen 3)) ∧ w.cell? ⟨b, 7, none⟩ = some (.int .i64 (s.seen 4)) ∧ w.cell? ⟨b, 8, none⟩ = some (.int .i64 (s.seen 5)) ∧ w.cell? ⟨b, 9, none⟩ = some (.int .i64 (s.seen 6)) ∧ w.cell? ⟨b, 10, none⟩ = some (.int .i64 s.reds) ∧ w.cell? ⟨b, 11, none⟩ = some (.string s.name) ∧ w.cell? ⟨b, 12, none⟩ = some (.string s.user) ∧ w.cell? ⟨b, 13, none⟩ = some (.int .i64 s.auc.rep) ∧ w.cell? ⟨b, 14, none⟩ = some (.int .i64 s.auc.n) ∧ w.cell? ⟨b, 15, none⟩ = some (.int .i64 s.bid.rep) ∧ w.cell? ⟨b, 16, none⟩ = some (.int .i64 s.bid.n) ∧ w.cell? ⟨b, 17, none⟩ = some (.int .i64 s.amount) ∧ w.cell? ⟨b, 18, none⟩ = some (.int .i64 s.funds) :=
  ⟨h.cell 0 _ rfl, h.cell 1 _ rfl, h.cell 2 _ rfl, h.cell 3 _ rfl, h.cell 4 _ rfl, h.cell 5 _ rfl, h.cell 6 _ rfl, h.cell 7 _ rfl, h.cell 8 _ rfl, h.cell 9 _ rfl, h.cell 10 _ rfl, h.cell 11 _ rfl, h.cell 12 _ rfl, h.cell 13 _ rfl, h.cell 14 _ rfl, h.cell 15 _ rfl, h.cell 16 _ rfl, h.cell 17 _ rfl, h.cell 18 _ rfl⟩
theorem StAt.rules (h : StAt w b s) : (∀ W, Ext w W → W.cell? ⟨b, 0, none⟩ = some (.int .i64 s.kind)) ∧ (∀ W, Ext w W → W.cell? ⟨b, 1, none⟩ = some (.int .i64 s.dot.rep)) ∧ (∀ W, Ext w W → W.cell? ⟨b, 2, none⟩ = some (.int .i64 s.dot.n)) ∧ (∀ W, Ext w W → W.cell? ⟨b, 3, none⟩ = some (.int .i64 (s.seen 0))) ∧ (∀ W, Ext w W → W.cell? ⟨b, 4, none⟩ = some (.int .i64 (s.seen 1))) ∧ (∀ W, Ext w W → W.cell? ⟨b, 5, none⟩ = some (.int .i64 (s.seen 2))) ∧ (∀ W, Ext w W → W.cell? ⟨b, 6, none⟩ = some (.int .i64 (s.seen 3))) ∧ (∀ W, Ext w W → W.cell? ⟨b, 7, none⟩ = some (.int .i64 (s.seen 4))) ∧ (∀ W, Ext w W → W.cell? ⟨b, 8, none⟩ = some (.int .i64 (s.seen 5))) ∧ (∀ W, Ext w W → W.cell? ⟨b, 9, none⟩ = some (.int .i64 (s.seen 6))) ∧ (∀ W, Ext w W → W.cell? ⟨b, 10, none⟩ = some (.int .i64 s.reds)) ∧ (∀ W, Ext w W → W.cell? ⟨b, 11, none⟩ = some (.string s.name)) ∧ (∀ W, Ext w W → W.cell? ⟨b, 12, none⟩ = some (.string s.user)) ∧ (∀ W, Ext w W → W.cell? ⟨b, 13, none⟩ = some (.int .i64 s.auc.rep)) ∧ (∀ W, Ext w W → W.cell? ⟨b, 14, none⟩ = some (.int .i64 s.auc.n)) ∧ (∀ W, Ext w W → W.cell? ⟨b, 15, none⟩ = some (.int .i64 s.bid.rep)) ∧ (∀ W, Ext w W → W.cell? ⟨b, 16, none⟩ = some (.int .i64 s.bid.n)) ∧ (∀ W, Ext w W → W.cell? ⟨b, 17, none⟩ = some (.int .i64 s.amount)) ∧ (∀ W, Ext w W → W.cell? ⟨b, 18, none⟩ = some (.int .i64 s.funds)) :=
  ⟨fun W e => (h.ext e).cell 0 _ rfl, fun W e => (h.ext e).cell 1 _ rfl, fun W e => (h.ext e).cell 2 _ rfl, fun W e => (h.ext e).cell 3 _ rfl, fun W e => (h.ext e).cell 4 _ rfl, fun W e => (h.ext e).cell 5 _ rfl, fun W e => (h.ext e).cell 6 _ rfl, fun W e => (h.ext e).cell 7 _ rfl, fun W e => (h.ext e).cell 8 _ rfl, fun W e => (h.ext e).cell 9 _ rfl, fun W e => (h.ext e).cell 10 _ rfl, fun W e => (h.ext e).cell 11 _ rfl, fun W e => (h.ext e).cell 12 _ rfl, fun W e => (h.ext e).cell 13 _ rfl, fun W e => (h.ext e).cell 14 _ rfl, fun W e => (h.ext e).cell 15 _ rfl, fun W e => (h.ext e).cell 16 _ rfl, fun W e => (h.ext e).cell 17 _ rfl, fun W e => (h.ext e).cell 18 _ rfl⟩
end
/-- The name may be there. -/
def WordOk (x : ByteArray) (need : Bool) : Prop := (need = true ∧ x.size ≤ 1048576 ∧ goodL (CH x) = true) ∨ (need = false ∧ x = ⟨#[]⟩)
def PointOk (d : Dt) (need : Bool) : Prop := (need = true ∧ dot7 d.rep d.n = true) ∨ (need = false ∧ d = ⟨0, 0⟩)
def NumOk (n a b : Int) (need : Bool) : Prop := (need = true ∧ a ≤ n ∧ n ≤ b) ∨ (need = false ∧ n = 0)
theorem word_ok (x : ByteArray) (q : Bool) (w : World) (ht : Tabs w) (h : WordOk x q) : Calls Tryz.prog 100 #[.string x, .bool q] w fun e w' => e = .returned (.bool true) ∧ Ext w w' := by
  rcases h with ⟨rfl, h1, h2⟩ | ⟨rfl, rfl⟩
  · exact word_yes x w h1 ht h2
  · exact word_no w
theorem point_ok (d : Dt) (q : Bool) (w : World) (h : PointOk d q) : Calls Tryz.prog 101 #[dotv d.rep d.n, .bool q] w fun e w' => e = .returned (.bool true) ∧ Ext w w' := by
  rcases h with ⟨rfl, h1⟩ | ⟨rfl, rfl⟩
  · exact point_yes _ _ w h1
  · exact point_no w
theorem number_ok (n a b : Int) (q : Bool) (w : World) (h : NumOk n a b q) : Calls Tryz.prog 102 #[.int .i64 n, .int .i64 a, .int .i64 b, .bool q] w fun e w' => e = .returned (.bool true) ∧ Ext w w' := by
  rcases h with ⟨rfl, h1, h2⟩ | ⟨rfl, rfl⟩
  · exact number_yes n a b w h1 h2
  · exact number_no a b w
/-- A step that may be, whose kind needs this. -/
structure Okay (s : Stp) : Prop where
  k1 : 1 ≤ s.kind
  k7 : s.kind ≤ 7
  dot : dot7 s.dot.rep s.dot.n = true
  seen : good7 s.seen = true
  r0 : 0 ≤ s.reds
  rM : s.reds ≤ 1000
  own : (decide (5 ≤ s.kind) && decide (s.kind ≤ 7)) = true ∨ (5 ≤ s.kind → 7 < s.kind) ∧ s.dot.rep = 0 ∧ s.seen 0 = s.dot.n - 1
  rest : ∃ t u a b m f, (∀ w, Calls Tryz.prog 99 #[.int .i64 s.kind] w fun e w' => e = .returned (needsV t u a b m f) ∧ Ext w w') ∧ WordOk s.name t ∧ WordOk s.user u ∧ PointOk s.auc a ∧ PointOk s.bid b ∧ NumOk s.amount 1 1000000000 m ∧ NumOk s.funds 0 1125899906842624 f
set_option maxHeartbeats 4000000 in
theorem agood_any (s : Stp) (w : World) (ht : Tabs w) (h : Okay s) : Calls Tryz.prog 65 #[s.V] w fun e w' => e = .returned (.bool true) ∧ Ext w w' := by
  obtain ⟨t, u, a, b, m, f, hn, o1, o2, o3, o4, o5, o6⟩ := h.rest
  have k1 := h.k1
  have k7 := h.k7
  have r0 := h.r0
  have rM := h.rM
  obtain ⟨g, Hg⟩ : ∃ h, Hid (w.heap.size = h) := ⟨_, Lib.hid rfl⟩
  obtain ⟨w1, H1⟩ : ∃ x, Hid (w.alloc (.cells s.L.toArray 86) = x) := ⟨_, Lib.hid rfl⟩
  have x1 : Ext w w1 := by rw [← H1.out]; exact (Ext.refl w).alloc _
  have S1 : StAt w1 g s := by rw [← H1.out, ← Hg.out]; exact StAt.new w s
  obtain ⟨c0, c1, c2, c3, c4, c5, c6, c7, c8, c9, c10, c11, c12, c13, c14, c15, c16, c17, c18⟩ := S1.cells
  have hg := Hg.out
  have h1 := H1.out
  have hd := fun W => dot_any s.dot.rep s.dot.n W
  have hv := fun W => good_any s.seen W
  unfold dotv at hd
  unfold vf at hv
  go_enter Tryz.func65, Tryz.ntmps65
  go_wp2_with fail
  clear hg h1
  refine (hd _).mono ?_
  rintro e w2 ⟨rfl, x2⟩
  rw [h.dot]
  obtain ⟨c0, c1, c2, c3, c4, c5, c6, c7, c8, c9, c10, c11, c12, c13, c14, c15, c16, c17, c18⟩ := (S1.ext x2).cells
  go_wp2_with fail
  refine (hv _).mono ?_
  rintro e w3 ⟨rfl, x3⟩
  rw [h.seen]
  obtain ⟨c0, c1, c2, c3, c4, c5, c6, c7, c8, c9, c10, c11, c12, c13, c14, c15, c16, c17, c18⟩ := (S1.ext (x2.trans x3)).cells
  go_wp2_with fail
  clear c0 c1 c2 c3 c4 c5 c6 c7 c8 c9 c10 c11 c12 c13 c14 c15 c16 c17 c18
  have S3 := S1.ext (x2.trans x3)
  obtain ⟨r0, r1, r2, r3, r4, r5, r6, r7, r8, r9, r10, r11, r12, r13, r14, r15, r16, r17, r18⟩ := S3.rules
  have pk := fun d q W h => point_ok d q W h
  unfold dotv at pk
  rcases h.own with hred | ⟨hblue, hrep, hown⟩
  ·
    refine start_ (n := 16) (S := (fun W => Ext w3 W)) (ds := []) #[false, false, false, false, false, false, false, false, false, false, false, false, false, false, false, false] (by kernel_rfl) (by kernel_rfl) (by kernel_rfl) ((Ext.refl w3).drew) (fun hHeld => ?_)
    refine take_ (i := 0) (N := (some 39)) (v := .agg (s.L).toArray) (a' := ?_) #[true, false, false, false, false, false, false, false, false, false, false, false, false, false, false, false] rfl rfl (by kernel_rfl) (fun _ _ _ h => h) (yieldsIf_load_mid (by rfl) 86 _ rfl g 0 rfl (s.L) _ (fun W hW => (S3.ext hW).all) Tryz.underlying86 rfl (by kernel_rfl)) (by assumption) ?_ ?_
    rotate_left
    · simp only [Act.put, List.setIfInBounds_toArray, List.set_cons_zero, List.set_cons_succ]
      rfl
    refine one_ (i := 1) (N := (some 40)) #[true, true, false, false, false, false, false, false, false, false, false, false, false, false, false, false] rfl rfl (by kernel_rfl) (by simp) (fun K hK => ?_)
    go_simp
    refine (red_any s _).mono ?_
    rintro e w4 ⟨rfl, x4⟩
    rw [hred]
    refine hK.out _ _ ?_ (fun hHeld => ?_)
    · first | assumption | exact hHeld.trans (by assumption)
    clear hK K
    (try simp only [Act.put, List.setIfInBounds_toArray, List.set_cons_zero, List.set_cons_succ])
    refine take_ (i := 2) (N := (some 41)) (v := ?_) (a' := ?_) #[true, true, true, false, false, false, false, false, false, false, false, false, false, false, false, false] rfl rfl (by kernel_rfl) (fun _ _ _ h => h) (Or.inl ⟨by rfl, ?_⟩) (by assumption) ?_ ?_
    rotate_left
    · intro w' hSw; (try dsimp only at hSw)
      go_simp
      try with_reducible rfl
    rotate_left
    · simp only [Act.put, List.setIfInBounds_toArray, List.set_cons_zero, List.set_cons_succ]
      rfl
    refine take_ (i := 3) (N := (some 42)) (v := ?_) (a' := ?_) #[true, true, true, true, false, false, false, false, false, false, false, false, false, false, false, false] rfl rfl (by kernel_rfl) (fun _ _ _ h => h) (Or.inl ⟨by rfl, ?_⟩) (by assumption) ?_ ?_
    rotate_left
    · intro w' hSw; (try dsimp only at hSw)
      go_simp
      try with_reducible rfl
    rotate_left
    · simp only [Act.put, List.setIfInBounds_toArray, List.set_cons_zero, List.set_cons_succ]
      rfl
    refine take_ (i := 4) (N := (some 43)) (v := undef) (a' := ?_) #[true, true, true, true, true, false, false, false, false, false, false, false, false, false, false, false] rfl rfl (by kernel_rfl) (fun _ _ _ h => h) (Or.inr ⟨by rfl, rfl⟩) (by assumption) ?_ ?_
    rotate_left
    · simp only [Act.put, List.setIfInBounds_toArray, List.set_cons_zero, List.set_cons_succ]
      rfl
    refine take_ (i := 5) (N := (some 44)) (v := undef) (a' := ?_) #[true, true, true, true, true, true, false, false, false, false, false, false, false, false, false, false] rfl rfl (by kernel_rfl) (fun _ _ _ h => h) (Or.inr ⟨by rfl, rfl⟩) (by assumption) ?_ ?_
    rotate_left
    · simp only [Act.put, List.setIfInBounds_toArray, List.set_cons_zero, List.set_cons_succ]
      rfl
    refine take_ (i := 6) (N := (some 45)) (v := undef) (a' := ?_) #[true, true, true, true, true, true, true, false, false, false, false, false, false, false, false, false] rfl rfl (by kernel_rfl) (fun _ _ _ h => h) (Or.inr ⟨by rfl, rfl⟩) (by assumption) ?_ ?_
    rotate_left
    · simp only [Act.put, List.setIfInBounds_toArray, List.set_cons_zero, List.set_cons_succ]
      rfl
    refine take_ (i := 7) (N := (some 46)) (v := undef) (a' := ?_) #[true, true, true, true, true, true, true, true, false, false, false, false, false, false, false, false] rfl rfl (by kernel_rfl) (fun _ _ _ h => h) (Or.inr ⟨by rfl, rfl⟩) (by assumption) ?_ ?_
    rotate_left
    · simp only [Act.put, List.setIfInBounds_toArray, List.set_cons_zero, List.set_cons_succ]
      rfl
    refine take_ (i := 8) (N := (some 47)) (v := undef) (a' := ?_) #[true, true, true, true, true, true, true, true, true, false, false, false, false, false, false, false] rfl rfl (by kernel_rfl) (fun _ _ _ h => h) (Or.inr ⟨by rfl, rfl⟩) (by assumption) ?_ ?_
    rotate_left
    · simp only [Act.put, List.setIfInBounds_toArray, List.set_cons_zero, List.set_cons_succ]
      rfl
    refine take_ (i := 9) (N := (some 48)) (v := undef) (a' := ?_) #[true, true, true, true, true, true, true, true, true, true, false, false, false, false, false, false] rfl rfl (by kernel_rfl) (fun _ _ _ h => h) (Or.inr ⟨by rfl, rfl⟩) (by assumption) ?_ ?_
    rotate_left
    · simp only [Act.put, List.setIfInBounds_toArray, List.set_cons_zero, List.set_cons_succ]
      rfl
    refine take_ (i := 10) (N := (some 49)) (v := undef) (a' := ?_) #[true, true, true, true, true, true, true, true, true, true, true, false, false, false, false, false] rfl rfl (by kernel_rfl) (fun _ _ _ h => h) (Or.inr ⟨by rfl, rfl⟩) (by assumption) ?_ ?_
    rotate_left
    · simp only [Act.put, List.setIfInBounds_toArray, List.set_cons_zero, List.set_cons_succ]
      rfl
    refine take_ (i := 11) (N := (some 50)) (v := undef) (a' := ?_) #[true, true, true, true, true, true, true, true, true, true, true, true, false, false, false, false] rfl rfl (by kernel_rfl) (fun _ _ _ h => h) (Or.inr ⟨by rfl, rfl⟩) (by assumption) ?_ ?_
    rotate_left
    · simp only [Act.put, List.setIfInBounds_toArray, List.set_cons_zero, List.set_cons_succ]
      rfl
    refine take_ (i := 12) (N := (some 51)) (v := undef) (a' := ?_) #[true, true, true, true, true, true, true, true, true, true, true, true, true, false, false, false] rfl rfl (by kernel_rfl) (fun _ _ _ h => h) (Or.inr ⟨by rfl, rfl⟩) (by assumption) ?_ ?_
    rotate_left
    · simp only [Act.put, List.setIfInBounds_toArray, List.set_cons_zero, List.set_cons_succ]
      rfl
    refine take_ (i := 13) (N := (some 52)) (v := undef) (a' := ?_) #[true, true, true, true, true, true, true, true, true, true, true, true, true, true, false, false] rfl rfl (by kernel_rfl) (fun _ _ _ h => h) (Or.inr ⟨by rfl, rfl⟩) (by assumption) ?_ ?_
    rotate_left
    · simp only [Act.put, List.setIfInBounds_toArray, List.set_cons_zero, List.set_cons_succ]
      rfl
    refine take_ (i := 14) (N := (some 53)) (v := undef) (a' := ?_) #[true, true, true, true, true, true, true, true, true, true, true, true, true, true, true, false] rfl rfl (by kernel_rfl) (fun _ _ _ h => h) (Or.inr ⟨by rfl, rfl⟩) (by assumption) ?_ ?_
    rotate_left
    · simp only [Act.put, List.setIfInBounds_toArray, List.set_cons_zero, List.set_cons_succ]
      rfl
    refine take_ (i := 15) (N := (some 54)) (v := ?_) (a' := ?_) #[true, true, true, true, true, true, true, true, true, true, true, true, true, true, true, true] rfl rfl (by kernel_rfl) (fun _ _ _ h => h) (Or.inl ⟨by rfl, ?_⟩) (by assumption) ?_ ?_
    rotate_left
    · intro w' hSw; (try dsimp only at hSw)
      go_simp
      try with_reducible rfl
    rotate_left
    · simp only [Act.put, List.setIfInBounds_toArray, List.set_cons_zero, List.set_cons_succ]
      rfl
    refine done_ (by kernel_rfl) ?_
    clear r0 r1 r2 r3 r4 r5 r6 r7 r8 r9 r10 r11 r12 r13 r14 r15 r16 r17 r18 hd hv
    have S4 := S3.ext hHeld
    obtain ⟨c0, c1, c2, c3, c4, c5, c6, c7, c8, c9, c10, c11, c12, c13, c14, c15, c16, c17, c18⟩ := S4.cells
    have hx4 : Ext w w4 := x1.trans ((x2.trans x3).trans hHeld)
    go_wp2_with fail
    refine (hn _).mono ?_
    rintro e w5 ⟨rfl, x5⟩
    unfold needsV
    obtain ⟨c0, c1, c2, c3, c4, c5, c6, c7, c8, c9, c10, c11, c12, c13, c14, c15, c16, c17, c18⟩ := (S4.ext x5).cells
    go_wp2_with fail
    refine (word_ok s.name t _ (ht.ext (hx4.trans x5)) o1).mono ?_
    rintro e w6 ⟨rfl, x6⟩
    have X6 := x5.trans x6
    obtain ⟨c0, c1, c2, c3, c4, c5, c6, c7, c8, c9, c10, c11, c12, c13, c14, c15, c16, c17, c18⟩ := (S4.ext X6).cells
    go_wp2_with fail
    refine (word_ok s.user u _ (ht.ext (hx4.trans X6)) o2).mono ?_
    rintro e w7 ⟨rfl, x7⟩
    have X7 := X6.trans x7
    obtain ⟨c0, c1, c2, c3, c4, c5, c6, c7, c8, c9, c10, c11, c12, c13, c14, c15, c16, c17, c18⟩ := (S4.ext X7).cells
    go_wp2_with fail
    refine (pk s.auc a _ o3).mono ?_
    rintro e w8 ⟨rfl, x8⟩
    have X8 := X7.trans x8
    obtain ⟨c0, c1, c2, c3, c4, c5, c6, c7, c8, c9, c10, c11, c12, c13, c14, c15, c16, c17, c18⟩ := (S4.ext X8).cells
    go_wp2_with fail
    refine (pk s.bid b _ o4).mono ?_
    rintro e w9 ⟨rfl, x9⟩
    have X9 := X8.trans x9
    obtain ⟨c0, c1, c2, c3, c4, c5, c6, c7, c8, c9, c10, c11, c12, c13, c14, c15, c16, c17, c18⟩ := (S4.ext X9).cells
    go_wp2_with fail
    refine (number_ok s.amount _ _ m _ o5).mono ?_
    rintro e w10 ⟨rfl, x10⟩
    have X10 := X9.trans x10
    obtain ⟨c0, c1, c2, c3, c4, c5, c6, c7, c8, c9, c10, c11, c12, c13, c14, c15, c16, c17, c18⟩ := (S4.ext X10).cells
    go_wp2_with fail
    refine (number_ok s.funds _ _ f _ o6).mono ?_
    rintro e w11 ⟨rfl, x11⟩
    go_wp2
    go_ret
    exact ⟨rfl, hx4.trans (X10.trans x11)⟩
  · have hd7 := h.dot
    simp only [dot7, Bool.and_eq_true, decide_eq_true_eq] at hd7
    obtain ⟨⟨-, d1⟩, d2⟩ := hd7
    have hred : (decide (5 ≤ s.kind) && decide (s.kind ≤ 7)) = false := by
      rw [Bool.and_eq_false_iff, decide_eq_false_iff_not, decide_eq_false_iff_not]
      omega
    obtain ⟨mm, hm⟩ : ∃ m, s.dot.n = m + 1 := ⟨s.dot.n - 1, by omega⟩
    have hown' : s.seen 0 = mm := by omega
    rw [hm] at r2 d1 d2
    rw [hrep] at r1
    rw [hown'] at r3
    clear hm hown hown' hrep
    have hwm : IntKind.i64.wrap mm = mm := by simp (disch := omega) only [IntWalk.i64_in]
    refine start_ (n := 16) (S := (fun W => Ext w3 W)) (ds := []) #[false, false, false, false, false, false, false, false, false, false, false, false, false, false, false, false] (by kernel_rfl) (by kernel_rfl) (by kernel_rfl) ((Ext.refl w3).drew) (fun hHeld => ?_)
    refine take_ (i := 0) (N := (some 39)) (v := .agg (s.L).toArray) (a' := ?_) #[true, false, false, false, false, false, false, false, false, false, false, false, false, false, false, false] rfl rfl (by kernel_rfl) (fun _ _ _ h => h) (yieldsIf_load_mid (by rfl) 86 _ rfl g 0 rfl (s.L) _ (fun W hW => (S3.ext hW).all) Tryz.underlying86 rfl (by kernel_rfl)) (by assumption) ?_ ?_
    rotate_left
    · simp only [Act.put, List.setIfInBounds_toArray, List.set_cons_zero, List.set_cons_succ]
      rfl
    refine one_ (i := 1) (N := (some 40)) #[true, true, false, false, false, false, false, false, false, false, false, false, false, false, false, false] rfl rfl (by kernel_rfl) (by simp) (fun K hK => ?_)
    go_simp
    refine (red_any s _).mono ?_
    rintro e w4 ⟨rfl, x4⟩
    rw [hred]
    refine hK.out _ _ ?_ (fun hHeld => ?_)
    · first | assumption | exact hHeld.trans (by assumption)
    clear hK K
    (try simp only [Act.put, List.setIfInBounds_toArray, List.set_cons_zero, List.set_cons_succ])
    refine take_ (i := 2) (N := (some 41)) (v := ?_) (a' := ?_) #[true, true, true, false, false, false, false, false, false, false, false, false, false, false, false, false] rfl rfl (by kernel_rfl) (fun _ _ _ h => h) (Or.inl ⟨by rfl, ?_⟩) (by assumption) ?_ ?_
    rotate_left
    · intro w' hSw; (try dsimp only at hSw)
      go_simp
      try with_reducible rfl
    rotate_left
    · simp only [Act.put, List.setIfInBounds_toArray, List.set_cons_zero, List.set_cons_succ]
      rfl
    refine take_ (i := 3) (N := (some 42)) (v := ?_) (a' := ?_) #[true, true, true, true, false, false, false, false, false, false, false, false, false, false, false, false] rfl rfl (by kernel_rfl) (fun _ _ _ h => h) (Or.inl ⟨by rfl, ?_⟩) (by assumption) ?_ ?_
    rotate_left
    · intro w' hSw; (try dsimp only at hSw)
      go_simp
      try with_reducible rfl
    rotate_left
    · simp only [Act.put, List.setIfInBounds_toArray, List.set_cons_zero, List.set_cons_succ]
      rfl
    refine take_ (i := 4) (N := (some 43)) (v := ?_) (a' := ?_) #[true, true, true, true, true, false, false, false, false, false, false, false, false, false, false, false] rfl rfl (by kernel_rfl) (fun _ _ _ h => h) (Or.inl ⟨by rfl, ?_⟩) (by assumption) ?_ ?_
    rotate_left
    · intro w' hSw; (try dsimp only at hSw)
      go_simp
      try with_reducible rfl
    rotate_left
    · simp only [Act.put, List.setIfInBounds_toArray, List.set_cons_zero, List.set_cons_succ]
      rfl
    refine take_ (i := 5) (N := (some 44)) (v := ?_) (a' := ?_) #[true, true, true, true, true, true, false, false, false, false, false, false, false, false, false, false] rfl rfl (by kernel_rfl) (fun _ _ _ h => h) (Or.inl ⟨by rfl, ?_⟩) (by assumption) ?_ ?_
    rotate_left
    · intro w' hSw; (try dsimp only at hSw)
      go_simp
      try with_reducible rfl
    rotate_left
    · simp only [Act.put, List.setIfInBounds_toArray, List.set_cons_zero, List.set_cons_succ]
      rfl
    refine take_ (i := 6) (N := (some 45)) (v := ?_) (a' := ?_) #[true, true, true, true, true, true, true, false, false, false, false, false, false, false, false, false] rfl rfl (by kernel_rfl) (fun _ _ _ h => h) (Or.inl ⟨by rfl, ?_⟩) (by assumption) ?_ ?_
    rotate_left
    · intro w' hSw; (try dsimp only at hSw)
      go_simp
      try with_reducible rfl
    rotate_left
    · simp only [Act.put, List.setIfInBounds_toArray, List.set_cons_zero, List.set_cons_succ]
      rfl
    refine take_ (i := 7) (N := (some 46)) (v := ?_) (a' := ?_) #[true, true, true, true, true, true, true, true, false, false, false, false, false, false, false, false] rfl rfl (by kernel_rfl) (fun _ _ _ h => h) (Or.inl ⟨by rfl, ?_⟩) (by assumption) ?_ ?_
    rotate_left
    · intro w' hSw; (try dsimp only at hSw)
      go_simp
      try with_reducible rfl
    rotate_left
    · simp only [Act.put, List.setIfInBounds_toArray, List.set_cons_zero, List.set_cons_succ]
      rfl
    refine take_ (i := 8) (N := (some 47)) (v := ?_) (a' := ?_) #[true, true, true, true, true, true, true, true, true, false, false, false, false, false, false, false] rfl rfl (by kernel_rfl) (fun _ _ _ h => h) (Or.inl ⟨by rfl, ?_⟩) (by assumption) ?_ ?_
    rotate_left
    · intro w' hSw; (try dsimp only at hSw)
      go_simp
      try with_reducible rfl
    rotate_left
    · simp only [Act.put, List.setIfInBounds_toArray, List.set_cons_zero, List.set_cons_succ]
      rfl
    refine take_ (i := 9) (N := (some 48)) (v := ?_) (a' := ?_) #[true, true, true, true, true, true, true, true, true, true, false, false, false, false, false, false] rfl rfl (by kernel_rfl) (fun _ _ _ h => h) (Or.inl ⟨by rfl, ?_⟩) (by assumption) ?_ ?_
    rotate_left
    · intro w' hSw; (try dsimp only at hSw)
      go_simp
      try with_reducible rfl
    rotate_left
    · simp only [Act.put, List.setIfInBounds_toArray, List.set_cons_zero, List.set_cons_succ]
      rfl
    refine take_ (i := 10) (N := (some 49)) (v := ?_) (a' := ?_) #[true, true, true, true, true, true, true, true, true, true, true, false, false, false, false, false] rfl rfl (by kernel_rfl) (fun _ _ _ h => h) (Or.inl ⟨by rfl, ?_⟩) (by assumption) ?_ ?_
    rotate_left
    · intro w' hSw; (try dsimp only at hSw)
      go_simp
      try with_reducible rfl
    rotate_left
    · simp only [Act.put, List.setIfInBounds_toArray, List.set_cons_zero, List.set_cons_succ]
      rfl
    refine take_ (i := 11) (N := (some 50)) (v := ?_) (a' := ?_) #[true, true, true, true, true, true, true, true, true, true, true, true, false, false, false, false] rfl rfl (by kernel_rfl) (fun _ _ _ h => h) (Or.inl ⟨by rfl, ?_⟩) (by assumption) ?_ ?_
    rotate_left
    · intro w' hSw; (try dsimp only at hSw)
      go_simp
      try with_reducible rfl
    rotate_left
    · simp only [Act.put, List.setIfInBounds_toArray, List.set_cons_zero, List.set_cons_succ]
      rfl
    refine take_ (i := 12) (N := (some 51)) (v := ?_) (a' := ?_) #[true, true, true, true, true, true, true, true, true, true, true, true, true, false, false, false] rfl rfl (by kernel_rfl) (fun _ _ _ h => h) (Or.inl ⟨by rfl, ?_⟩) (by assumption) ?_ ?_
    rotate_left
    · intro w' hSw; (try dsimp only at hSw)
      go_simp
      try with_reducible rfl
    rotate_left
    · simp only [Act.put, List.setIfInBounds_toArray, List.set_cons_zero, List.set_cons_succ]
      rfl
    refine take_ (i := 13) (N := (some 52)) (v := ?_) (a' := ?_) #[true, true, true, true, true, true, true, true, true, true, true, true, true, true, false, false] rfl rfl (by kernel_rfl) (fun _ _ _ h => h) (Or.inl ⟨by rfl, ?_⟩) (by assumption) ?_ ?_
    rotate_left
    · intro w' hSw; (try dsimp only at hSw)
      go_simp
      try with_reducible rfl
    rotate_left
    · simp only [Act.put, List.setIfInBounds_toArray, List.set_cons_zero, List.set_cons_succ]
      rfl
    refine take_ (i := 14) (N := (some 53)) (v := ?_) (a' := ?_) #[true, true, true, true, true, true, true, true, true, true, true, true, true, true, true, false] rfl rfl (by kernel_rfl) (fun _ _ _ h => h) (Or.inl ⟨by rfl, ?_⟩) (by assumption) ?_ ?_
    rotate_left
    · intro w' hSw; (try dsimp only at hSw)
      go_simp
      try with_reducible rfl
    rotate_left
    · simp only [Act.put, List.setIfInBounds_toArray, List.set_cons_zero, List.set_cons_succ]
      rfl
    refine take_ (i := 15) (N := (some 54)) (v := ?_) (a' := ?_) #[true, true, true, true, true, true, true, true, true, true, true, true, true, true, true, true] rfl rfl (by kernel_rfl) (fun _ _ _ h => h) (Or.inl ⟨by rfl, ?_⟩) (by assumption) ?_ ?_
    rotate_left
    · intro w' hSw; (try dsimp only at hSw)
      go_simp
      try with_reducible rfl
    rotate_left
    · simp only [Act.put, List.setIfInBounds_toArray, List.set_cons_zero, List.set_cons_succ]
      rfl
    refine done_ (by kernel_rfl) ?_
    clear r0 r1 r2 r3 r4 r5 r6 r7 r8 r9 r10 r11 r12 r13 r14 r15 r16 r17 r18 hd hv
    have S4 := S3.ext hHeld
    obtain ⟨c0, c1, c2, c3, c4, c5, c6, c7, c8, c9, c10, c11, c12, c13, c14, c15, c16, c17, c18⟩ := S4.cells
    have hx4 : Ext w w4 := x1.trans ((x2.trans x3).trans hHeld)
    go_wp2_with fail
    refine (hn _).mono ?_
    rintro e w5 ⟨rfl, x5⟩
    unfold needsV
    obtain ⟨c0, c1, c2, c3, c4, c5, c6, c7, c8, c9, c10, c11, c12, c13, c14, c15, c16, c17, c18⟩ := (S4.ext x5).cells
    go_wp2_with fail
    refine (word_ok s.name t _ (ht.ext (hx4.trans x5)) o1).mono ?_
    rintro e w6 ⟨rfl, x6⟩
    have X6 := x5.trans x6
    obtain ⟨c0, c1, c2, c3, c4, c5, c6, c7, c8, c9, c10, c11, c12, c13, c14, c15, c16, c17, c18⟩ := (S4.ext X6).cells
    go_wp2_with fail
    refine (word_ok s.user u _ (ht.ext (hx4.trans X6)) o2).mono ?_
    rintro e w7 ⟨rfl, x7⟩
    have X7 := X6.trans x7
    obtain ⟨c0, c1, c2, c3, c4, c5, c6, c7, c8, c9, c10, c11, c12, c13, c14, c15, c16, c17, c18⟩ := (S4.ext X7).cells
    go_wp2_with fail
    refine (pk s.auc a _ o3).mono ?_
    rintro e w8 ⟨rfl, x8⟩
    have X8 := X7.trans x8
    obtain ⟨c0, c1, c2, c3, c4, c5, c6, c7, c8, c9, c10, c11, c12, c13, c14, c15, c16, c17, c18⟩ := (S4.ext X8).cells
    go_wp2_with fail
    refine (pk s.bid b _ o4).mono ?_
    rintro e w9 ⟨rfl, x9⟩
    have X9 := X8.trans x9
    obtain ⟨c0, c1, c2, c3, c4, c5, c6, c7, c8, c9, c10, c11, c12, c13, c14, c15, c16, c17, c18⟩ := (S4.ext X9).cells
    go_wp2_with fail
    refine (number_ok s.amount _ _ m _ o5).mono ?_
    rintro e w10 ⟨rfl, x10⟩
    have X10 := X9.trans x10
    obtain ⟨c0, c1, c2, c3, c4, c5, c6, c7, c8, c9, c10, c11, c12, c13, c14, c15, c16, c17, c18⟩ := (S4.ext X10).cells
    go_wp2_with fail
    refine (number_ok s.funds _ _ f _ o6).mono ?_
    rintro e w11 ⟨rfl, x11⟩
    go_wp2
    go_ret
    exact ⟨rfl, hx4.trans (X10.trans x11)⟩
end Go.Proofs.YtbemkefcaceekaaGreatDoor
