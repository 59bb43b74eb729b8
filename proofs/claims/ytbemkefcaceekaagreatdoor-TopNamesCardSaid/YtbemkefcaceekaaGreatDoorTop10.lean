/- Top10: Open, Winner. -/
import Derived.Test.YtbemkefcaceekaaGreatDoorTop9
set_option linter.unusedVariables false
set_option linter.unusedSimpArgs false
set_option maxRecDepth 100000
namespace Go.Proofs.YtbemkefcaceekaaGreatDoor
open Go.RowKit Go.Lib Go.Shelf Go.Proofs.YtbemkefcaceekaaGreatDoorW.PrintWords Go.Proofs.YtbemkefcaceekaaGreatDoorW.PrintLast

theorem HAt.rules {w : World} {base bm um dm cm hb : Nat} {H : Hse} (h : HAt w base bm um dm cm hb H) : (∀ W, Ext w W → W.cell? ⟨hb, 0, none⟩ = some (.int .i64 (H.have' 0))) ∧ (∀ W, Ext w W → W.cell? ⟨hb, 1, none⟩ = some (.int .i64 (H.have' 1))) ∧ (∀ W, Ext w W → W.cell? ⟨hb, 2, none⟩ = some (.int .i64 (H.have' 2))) ∧ (∀ W, Ext w W → W.cell? ⟨hb, 3, none⟩ = some (.int .i64 (H.have' 3))) ∧ (∀ W, Ext w W → W.cell? ⟨hb, 4, none⟩ = some (.int .i64 (H.have' 4))) ∧ (∀ W, Ext w W → W.cell? ⟨hb, 5, none⟩ = some (.int .i64 (H.have' 5))) ∧ (∀ W, Ext w W → W.cell? ⟨hb, 6, none⟩ = some (.int .i64 (H.have' 6))) ∧
    (∀ W, Ext w W → W.cell? ⟨hb, 7, none⟩ = some (.map (some bm))) ∧ (∀ W, Ext w W → W.cell? ⟨hb, 8, none⟩ = some H.red) ∧ (∀ W, Ext w W → W.cell? ⟨hb, 9, none⟩ = some (.map (some um))) ∧ (∀ W, Ext w W → W.cell? ⟨hb, 10, none⟩ = some (.map (some dm))) ∧ (∀ W, Ext w W → W.cell? ⟨hb, 11, none⟩ = some (.map (some cm))) :=
  ⟨fun W e => (h.ext e).cell 0 _ rfl, fun W e => (h.ext e).cell 1 _ rfl, fun W e => (h.ext e).cell 2 _ rfl, fun W e => (h.ext e).cell 3 _ rfl, fun W e => (h.ext e).cell 4 _ rfl, fun W e => (h.ext e).cell 5 _ rfl, fun W e => (h.ext e).cell 6 _ rfl, fun W e => (h.ext e).cell 7 _ rfl, fun W e => (h.ext e).cell 8 _ rfl, fun W e => (h.ext e).cell 9 _ rfl, fun W e => (h.ext e).cell 10 _ rfl, fun W e => (h.ext e).cell 11 _ rfl⟩
theorem MapD.ext {w w' : World} {m : Nat} {l : List EntD} {c : Nat} (h : MapD w m l c) (x : Ext w w') : MapD w' m l c := (x.out.block _ (Array.getElem?_eq_some_iff.1 h).1).trans h
theorem MapT.ext {w w' : World} {m : Nat} {l : List EntT} {c : Nat} (h : MapT w m l c) (x : Ext w w') : MapT w' m l c := (x.out.block _ (Array.getElem?_eq_some_iff.1 h).1).trans h
def outZ : Value := .agg #[.int .i64 0, .int .i64 0, .string ⟨#[]⟩, .int .i64 0]
def outV (d : Dt) (u : ByteArray) (n : Int) : Value := .agg #[.int .i64 d.rep, .int .i64 d.n, .string u, .int .i64 n]
theorem zeroOut (w : World) : (zeroValue 130).run Tryz.prog w = .ok outZ w := by kernel_rfl
def stepZ : Stp := ⟨0, ⟨0, 0⟩, fun _ => 0, 0, ⟨#[]⟩, ⟨#[]⟩, ⟨0, 0⟩, ⟨0, 0⟩, 0, 0⟩
theorem zeroStep (w : World) : (zeroValue 86).run Tryz.prog w = .ok stepZ.V w := by kernel_rfl
theorem field_kind (s : Stp) (w : World) : (Instr.field 86 (.agg s.L.toArray) 0).run Tryz.prog w = .ok (.int .i64 s.kind) w := by
  unfold Instr.field
  simp only [Sem.run_bind, run_underlying Tryz.underlying86, Result.andThen_ok]
  exact part_plain Tryz.underlying3 rfl rfl
set_option maxHeartbeats 4000000 in
theorem open_yes (w : World) (base bm um dm cm hb : Nat) (H : Hse) (h : HAt w base bm um dm cm hb H) (d : Dt) (s : Stp) (i : Nat) (hc : H.closed = []) (hf : findD d H.blue 0 = some (i, s.V)) (hk : s.kind = 1) :
    Calls Tryz.prog 147 #[.pointer (some ⟨hb, 0, none⟩), dotv d.rep d.n] w fun e w' => e = .returned (.bool true) ∧ Ext w w' := by
  obtain ⟨g, Hg⟩ : ∃ h, Hid (w.heap.size = h) := ⟨_, Lib.hid rfl⟩
  obtain ⟨w1, H1, S1, hx1, ⟨d0, d1⟩, -, -⟩ := alloc2 w d.rep d.n 64 g Hg.out
  have h1 := h.ext hx1
  obtain ⟨q0, q1, q2, q3, q4, q5, q6, q7, q8, q9, q10, q11⟩ := h1.rules
  have r0 : ∀ W, Ext w1 W → W.cell? ⟨g, 0, none⟩ = some (.int .i64 d.rep) := fun W x => x.cell d0
  have r1 : ∀ W, Ext w1 W → W.cell? ⟨g, 1, none⟩ = some (.int .i64 d.n) := fun W x => x.cell d1
  have lc : ∀ W, Ext w1 W → (Instr.lookup 56 (.map (some cm)) (.agg #[.int .i64 d.rep, .int .i64 d.n]) true).run Tryz.prog W = .ok (.tuple #[.agg #[.int .i64 0, .int .i64 0, .string ⟨#[]⟩, .int .i64 0], .bool false]) W := fun W x => by
    have := (look_dot Tryz.underlying56 (h1.closed.ext x) d outZ (zeroOut W)).2
    rw [hc] at this
    exact this
  have lb : ∀ W, Ext w1 W → (Instr.lookup 53 (.map (some bm)) (.agg #[.int .i64 d.rep, .int .i64 d.n]) false).run Tryz.prog W = .ok (.agg s.L.toArray) W := fun W x => by
    have := (look_dot Tryz.underlying53 (h1.blue.ext x) d stepZ.V (zeroStep W)).1
    rw [hf] at this
    exact this
  have lf := fun W => field_kind s W
  rw [hk] at lf
  have hh := Hg.out
  have e1 := H1.out
  have xT := Ext.refl w1
  clear d0 d1 hc hf
  unfold dotv
  go_enter Tryz.func147, Tryz.ntmps147
  go_wp2_with fail
  clear hh e1
  refine start_ (n := 12) (S := (fun W => Ext w1 W)) (ds := []) #[false, false, false, false, false, false, false, false, false, false, false, false] (by kernel_rfl) (by kernel_rfl) (by kernel_rfl) (xT.drew) (fun hHeld => ?_)
  refine take_ (i := 0) (N := (some 8)) (v := ?_) (a' := ?_) #[true, false, false, false, false, false, false, false, false, false, false, false] rfl rfl (by kernel_rfl) (fun _ _ _ h => h) (Or.inl ⟨by rfl, ?_⟩) (by assumption) ?_ ?_
  rotate_left
  · intro w' hSw; (try dsimp only at hSw)
    go_simp
    try with_reducible rfl
  rotate_left
  · simp only [Act.put, List.setIfInBounds_toArray, List.set_cons_zero, List.set_cons_succ]
    rfl
  refine take_ (i := 1) (N := (some 9)) (v := ?_) (a' := ?_) #[true, true, false, false, false, false, false, false, false, false, false, false] rfl rfl (by kernel_rfl) (fun _ _ _ h => h) (Or.inl ⟨by rfl, ?_⟩) (by assumption) ?_ ?_
  rotate_left
  · intro w' hSw; (try dsimp only at hSw)
    go_simp
    try with_reducible rfl
  rotate_left
  · simp only [Act.put, List.setIfInBounds_toArray, List.set_cons_zero, List.set_cons_succ]
    rfl
  refine take_ (i := 2) (N := (some 10)) (v := ?_) (a' := ?_) #[true, true, true, false, false, false, false, false, false, false, false, false] rfl rfl (by kernel_rfl) (fun _ _ _ h => h) (Or.inl ⟨by rfl, ?_⟩) (by assumption) ?_ ?_
  rotate_left
  · intro w' hSw; (try dsimp only at hSw)
    go_simp
    try with_reducible rfl
  rotate_left
  · simp only [Act.put, List.setIfInBounds_toArray, List.set_cons_zero, List.set_cons_succ]
    rfl
  refine take_ (i := 3) (N := (some 11)) (v := ?_) (a' := ?_) #[true, true, true, true, false, false, false, false, false, false, false, false] rfl rfl (by kernel_rfl) (fun _ _ _ h => h) (Or.inl ⟨by rfl, ?_⟩) (by assumption) ?_ ?_
  rotate_left
  · intro w' hSw; (try dsimp only at hSw)
    go_simp
    try with_reducible rfl
  rotate_left
  · simp only [Act.put, List.setIfInBounds_toArray, List.set_cons_zero, List.set_cons_succ]
    rfl
  refine take_ (i := 4) (N := (some 12)) (v := ?_) (a' := ?_) #[true, true, true, true, true, false, false, false, false, false, false, false] rfl rfl (by kernel_rfl) (fun _ _ _ h => h) (Or.inl ⟨by rfl, ?_⟩) (by assumption) ?_ ?_
  rotate_left
  · intro w' hSw; (try dsimp only at hSw)
    go_simp
    try with_reducible rfl
  rotate_left
  · simp only [Act.put, List.setIfInBounds_toArray, List.set_cons_zero, List.set_cons_succ]
    rfl
  refine take_ (i := 5) (N := (some 13)) (v := ?_) (a' := ?_) #[true, true, true, true, true, true, false, false, false, false, false, false] rfl rfl (by kernel_rfl) (fun _ _ _ h => h) (Or.inl ⟨by rfl, ?_⟩) (by assumption) ?_ ?_
  rotate_left
  · intro w' hSw; (try dsimp only at hSw)
    go_simp
    try with_reducible rfl
  rotate_left
  · simp only [Act.put, List.setIfInBounds_toArray, List.set_cons_zero, List.set_cons_succ]
    rfl
  refine take_ (i := 6) (N := (some 7)) (v := ?_) (a' := ?_) #[true, true, true, true, true, true, true, false, false, false, false, false] rfl rfl (by kernel_rfl) (fun _ _ _ h => h) (Or.inl ⟨by rfl, ?_⟩) (by assumption) ?_ ?_
  rotate_left
  · intro w' hSw; (try dsimp only at hSw)
    go_simp
    try with_reducible rfl
  rotate_left
  · simp only [Act.put, List.setIfInBounds_toArray, List.set_cons_zero, List.set_cons_succ]
    rfl
  refine take_ (i := 7) (N := (some 14)) (v := ?_) (a' := ?_) #[true, true, true, true, true, true, true, true, false, false, false, false] rfl rfl (by kernel_rfl) (fun _ _ _ h => h) (Or.inl ⟨by rfl, ?_⟩) (by assumption) ?_ ?_
  rotate_left
  · intro w' hSw; (try dsimp only at hSw)
    go_simp
    try with_reducible rfl
  rotate_left
  · simp only [Act.put, List.setIfInBounds_toArray, List.set_cons_zero, List.set_cons_succ]
    rfl
  refine take_ (i := 8) (N := (some 15)) (v := ?_) (a' := ?_) #[true, true, true, true, true, true, true, true, true, false, false, false] rfl rfl (by kernel_rfl) (fun _ _ _ h => h) (Or.inl ⟨by rfl, ?_⟩) (by assumption) ?_ ?_
  rotate_left
  · intro w' hSw; (try dsimp only at hSw)
    go_simp
    try with_reducible rfl
  rotate_left
  · simp only [Act.put, List.setIfInBounds_toArray, List.set_cons_zero, List.set_cons_succ]
    rfl
  refine one_ (i := 9) (N := (some 5)) #[true, true, true, true, true, true, true, true, true, true, false, false] rfl rfl (by kernel_rfl) (by simp) (fun K hK => ?_)
  go_simp
  obtain ⟨g1, G1⟩ : ∃ x, Hid ((World.heap w1).size = x) := ⟨_, Lib.hid rfl⟩
  obtain ⟨u1, U1⟩ : ∃ x, Hid ((World.alloc w1 (.cells (#[Value.int .i64 0, .int .i64 0, .string ⟨#[]⟩, .int .i64 0] : Array Value) 130)).drew = x) := ⟨_, Lib.hid rfl⟩
  have bu1 : u1.heap[g1]? = some (.cells (#[Value.int .i64 0, .int .i64 0, .string ⟨#[]⟩, .int .i64 0] : Array Value) 130) := by rw [← U1.out, ← G1.out]; exact Array.getElem?_push_size
  have xu1 : Ext w1 u1 := by rw [← U1.out]; exact ((Ext.refl _).alloc _).drew
  obtain ⟨v1, V1⟩ : ∃ x, Hid (((((u1.setCell ⟨g1, 0, none⟩ (Value.int .i64 0)).setCell ⟨g1, 1, none⟩ (.int .i64 0)).setCell ⟨g1, 2, none⟩ (.string ⟨#[]⟩)).setCell ⟨g1, 3, none⟩ (.int .i64 0)) = x) := ⟨_, Lib.hid rfl⟩
  have bv1 : v1.heap[g1]? = some (.cells #[Value.int .i64 0, .int .i64 0, .string ⟨#[]⟩, .int .i64 0] 130) := by rw [← V1.out]; exact (blk_set (blk_set (blk_set (blk_set bu1 0 _) 1 _) 2 _) 3 _)
  have hle1 : (World.heap w1).size ≤ g1 := Nat.le_of_eq G1.out
  have xv1 : Ext w1 v1 := by rw [← V1.out]; exact ((((xu1.setCell (p := ⟨g1, 0, none⟩) hle1 _).setCell (p := ⟨g1, 1, none⟩) hle1 _).setCell (p := ⟨g1, 2, none⟩) hle1 _).setCell (p := ⟨g1, 3, none⟩) hle1 _)
  clear hle1
  have cu1_0 : u1.cell? ⟨g1, 0, none⟩ = some (Value.int .i64 0) := by simp [World.cell?, bu1]
  have cu1_1 : u1.cell? ⟨g1, 1, none⟩ = some (.int .i64 0) := by simp [World.cell?, bu1]
  have cu1_2 : u1.cell? ⟨g1, 2, none⟩ = some (.string ⟨#[]⟩) := by simp [World.cell?, bu1]
  have cu1_3 : u1.cell? ⟨g1, 3, none⟩ = some (.int .i64 0) := by simp [World.cell?, bu1]
  have fu1_0 : u1.frozen? ⟨g1, 0, none⟩ = false := by simp [World.frozen?, bu1]
  have fu1_1 : u1.frozen? ⟨g1, 1, none⟩ = false := by simp [World.frozen?, bu1]
  have fu1_2 : u1.frozen? ⟨g1, 2, none⟩ = false := by simp [World.frozen?, bu1]
  have fu1_3 : u1.frozen? ⟨g1, 3, none⟩ = false := by simp [World.frozen?, bu1]
  rw [G1.out, U1.out]
  have rv1 := V1.out
  refine hK.out _ _ ?_ (fun hHeld => ?_)
  · first | assumption | exact hHeld.trans (by assumption)
  clear hK K
  (try simp only [Act.put, List.setIfInBounds_toArray, List.set_cons_zero, List.set_cons_succ])
  refine one_ (i := 10) (N := none) #[true, true, true, true, true, true, true, true, true, true, true, false] rfl rfl (by kernel_rfl) (by simp) (fun K hK => ?_)
  go_simp
  clear rv1 cu1_0 fu1_0 cu1_1 fu1_1 cu1_2 fu1_2 cu1_3 fu1_3
  refine hK.out _ _ ?_ (fun hHeld => ?_)
  · first | assumption | exact hHeld.trans (by assumption)
  clear hK K
  (try simp only [Act.put, List.setIfInBounds_toArray, List.set_cons_zero, List.set_cons_succ])
  refine take_ (i := 11) (N := (some 6)) (v := ?_) (a' := ?_) #[true, true, true, true, true, true, true, true, true, true, true, true] rfl rfl (by kernel_rfl) (fun _ _ _ h => h) (Or.inl ⟨by rfl, ?_⟩) (by assumption) ?_ ?_
  rotate_left
  · intro w' hSw; (try dsimp only at hSw)
    go_simp
    try with_reducible rfl
  rotate_left
  · simp only [Act.put, List.setIfInBounds_toArray, List.set_cons_zero, List.set_cons_succ]
    rfl
  refine done_ (by kernel_rfl) ?_
  clear q0 q1 q2 q3 q4 q5 q6 q8 q9 q10 q11 lc
  go_wp2_with fail
  refine start_ (n := 13) (S := (fun W => Ext w1 W)) (ds := []) #[false, false, false, false, false, false, false, false, false, false, false, false, false] (by kernel_rfl) (by kernel_rfl) (by kernel_rfl) (xv1.drew) (fun hHeld => ?_)
  refine take_ (i := 0) (N := (some 16)) (v := ?_) (a' := ?_) #[true, false, false, false, false, false, false, false, false, false, false, false, false] rfl rfl (by kernel_rfl) (fun _ _ _ h => h) (Or.inl ⟨by rfl, ?_⟩) (by assumption) ?_ ?_
  rotate_left
  · intro w' hSw; (try dsimp only at hSw)
    go_simp
    try with_reducible rfl
  rotate_left
  · simp only [Act.put, List.setIfInBounds_toArray, List.set_cons_zero, List.set_cons_succ]
    rfl
  refine take_ (i := 1) (N := (some 17)) (v := ?_) (a' := ?_) #[true, true, false, false, false, false, false, false, false, false, false, false, false] rfl rfl (by kernel_rfl) (fun _ _ _ h => h) (Or.inl ⟨by rfl, ?_⟩) (by assumption) ?_ ?_
  rotate_left
  · intro w' hSw; (try dsimp only at hSw)
    go_simp
    try with_reducible rfl
  rotate_left
  · simp only [Act.put, List.setIfInBounds_toArray, List.set_cons_zero, List.set_cons_succ]
    rfl
  refine take_ (i := 2) (N := (some 18)) (v := ?_) (a' := ?_) #[true, true, true, false, false, false, false, false, false, false, false, false, false] rfl rfl (by kernel_rfl) (fun _ _ _ h => h) (Or.inl ⟨by rfl, ?_⟩) (by assumption) ?_ ?_
  rotate_left
  · intro w' hSw; (try dsimp only at hSw)
    go_simp
    try with_reducible rfl
  rotate_left
  · simp only [Act.put, List.setIfInBounds_toArray, List.set_cons_zero, List.set_cons_succ]
    rfl
  refine take_ (i := 3) (N := (some 19)) (v := ?_) (a' := ?_) #[true, true, true, true, false, false, false, false, false, false, false, false, false] rfl rfl (by kernel_rfl) (fun _ _ _ h => h) (Or.inl ⟨by rfl, ?_⟩) (by assumption) ?_ ?_
  rotate_left
  · intro w' hSw; (try dsimp only at hSw)
    go_simp
    try with_reducible rfl
  rotate_left
  · simp only [Act.put, List.setIfInBounds_toArray, List.set_cons_zero, List.set_cons_succ]
    rfl
  refine take_ (i := 4) (N := (some 20)) (v := ?_) (a' := ?_) #[true, true, true, true, true, false, false, false, false, false, false, false, false] rfl rfl (by kernel_rfl) (fun _ _ _ h => h) (Or.inl ⟨by rfl, ?_⟩) (by assumption) ?_ ?_
  rotate_left
  · intro w' hSw; (try dsimp only at hSw)
    go_simp
    try with_reducible rfl
  rotate_left
  · simp only [Act.put, List.setIfInBounds_toArray, List.set_cons_zero, List.set_cons_succ]
    rfl
  refine take_ (i := 5) (N := (some 21)) (v := ?_) (a' := ?_) #[true, true, true, true, true, true, false, false, false, false, false, false, false] rfl rfl (by kernel_rfl) (fun _ _ _ h => h) (Or.inl ⟨by rfl, ?_⟩) (by assumption) ?_ ?_
  rotate_left
  · intro w' hSw; (try dsimp only at hSw)
    go_simp
    try with_reducible rfl
  rotate_left
  · simp only [Act.put, List.setIfInBounds_toArray, List.set_cons_zero, List.set_cons_succ]
    rfl
  refine take_ (i := 6) (N := (some 22)) (v := ?_) (a' := ?_) #[true, true, true, true, true, true, true, false, false, false, false, false, false] rfl rfl (by kernel_rfl) (fun _ _ _ h => h) (Or.inl ⟨by rfl, ?_⟩) (by assumption) ?_ ?_
  rotate_left
  · intro w' hSw; (try dsimp only at hSw)
    go_simp
    try with_reducible rfl
  rotate_left
  · simp only [Act.put, List.setIfInBounds_toArray, List.set_cons_zero, List.set_cons_succ]
    rfl
  refine take_ (i := 7) (N := (some 23)) (v := ?_) (a' := ?_) #[true, true, true, true, true, true, true, true, false, false, false, false, false] rfl rfl (by kernel_rfl) (fun _ _ _ h => h) (Or.inl ⟨by rfl, ?_⟩) (by assumption) ?_ ?_
  rotate_left
  · intro w' hSw; (try dsimp only at hSw)
    go_simp
    try with_reducible rfl
  rotate_left
  · simp only [Act.put, List.setIfInBounds_toArray, List.set_cons_zero, List.set_cons_succ]
    rfl
  refine take_ (i := 8) (N := (some 24)) (v := ?_) (a' := ?_) #[true, true, true, true, true, true, true, true, true, false, false, false, false] rfl rfl (by kernel_rfl) (fun _ _ _ h => h) (Or.inl ⟨by rfl, ?_⟩) (by assumption) ?_ ?_
  rotate_left
  · intro w' hSw; (try dsimp only at hSw)
    go_simp
    try with_reducible rfl
  rotate_left
  · simp only [Act.put, List.setIfInBounds_toArray, List.set_cons_zero, List.set_cons_succ]
    rfl
  refine take_ (i := 9) (N := (some 25)) (v := ?_) (a' := ?_) #[true, true, true, true, true, true, true, true, true, true, false, false, false] rfl rfl (by kernel_rfl) (fun _ _ _ h => h) (Or.inl ⟨by rfl, ?_⟩) (by assumption) ?_ ?_
  rotate_left
  · intro w' hSw; (try dsimp only at hSw)
    go_simp
    try with_reducible rfl
  rotate_left
  · simp only [Act.put, List.setIfInBounds_toArray, List.set_cons_zero, List.set_cons_succ]
    rfl
  refine take_ (i := 10) (N := (some 26)) (v := ?_) (a' := ?_) #[true, true, true, true, true, true, true, true, true, true, true, false, false] rfl rfl (by kernel_rfl) (fun _ _ _ h => h) (Or.inl ⟨by rfl, ?_⟩) (by assumption) ?_ ?_
  rotate_left
  · intro w' hSw; (try dsimp only at hSw)
    go_simp
    try with_reducible rfl
  rotate_left
  · simp only [Act.put, List.setIfInBounds_toArray, List.set_cons_zero, List.set_cons_succ]
    rfl
  refine take_ (i := 11) (N := (some 27)) (v := ?_) (a' := ?_) #[true, true, true, true, true, true, true, true, true, true, true, true, false] rfl rfl (by kernel_rfl) (fun _ _ _ h => h) (Or.inl ⟨by rfl, ?_⟩) (by assumption) ?_ ?_
  rotate_left
  · intro w' hSw; (try dsimp only at hSw)
    go_simp
    try with_reducible rfl
  rotate_left
  · simp only [Act.put, List.setIfInBounds_toArray, List.set_cons_zero, List.set_cons_succ]
    rfl
  refine take_ (i := 12) (N := (some 4)) (v := ?_) (a' := ?_) #[true, true, true, true, true, true, true, true, true, true, true, true, true] rfl rfl (by kernel_rfl) (fun _ _ _ h => h) (Or.inl ⟨by rfl, ?_⟩) (by assumption) ?_ ?_
  rotate_left
  · intro w' hSw; (try dsimp only at hSw)
    go_simp
    try with_reducible rfl
  rotate_left
  · simp only [Act.put, List.setIfInBounds_toArray, List.set_cons_zero, List.set_cons_succ]
    rfl
  refine done_ (by kernel_rfl) ?_
  go_wp2
  go_ret
  exact ⟨rfl, hx1.trans hHeld⟩
set_option maxHeartbeats 4000000 in
theorem winner_yes (w : World) (base bm um dm cm hb : Nat) (H : Hse) (h : HAt w base bm um dm cm hb H) (d o : Dt) (u : ByteArray) (n : Int) (i : Nat) (hf : findD d H.closed 0 = some (i, outV o u n)) :
    Calls Tryz.prog 53 #[.pointer (some ⟨hb, 0, none⟩), dotv d.rep d.n] w fun e w' => e = .returned (.tuple #[dotv o.rep o.n, .string u, .int .i64 n, .bool true]) ∧ Ext w w' := by
  obtain ⟨g, Hg⟩ : ∃ h, Hid (w.heap.size = h) := ⟨_, Lib.hid rfl⟩
  obtain ⟨w0, H0, S0, hx0, ⟨d0, d1⟩, -, -⟩ := alloc2 w d.rep d.n 64 g Hg.out
  obtain ⟨gz, Gz⟩ : ∃ h, Hid (w0.heap.size = h) := ⟨_, Lib.hid rfl⟩
  obtain ⟨w1, H1, S1, hx1, ⟨z0, z1⟩, fz, -⟩ := alloc2 w0 0 0 64 gz Gz.out
  have h1 := h.ext (hx0.trans hx1)
  obtain ⟨q0, q1, q2, q3, q4, q5, q6, q7, q8, q9, q10, q11⟩ := h1.rules
  have r0 : ∀ W, Ext w1 W → W.cell? ⟨g, 0, none⟩ = some (.int .i64 d.rep) := fun W x => (hx1.trans x).cell d0
  have r1 : ∀ W, Ext w1 W → W.cell? ⟨g, 1, none⟩ = some (.int .i64 d.n) := fun W x => (hx1.trans x).cell d1
  have lc : ∀ W, Ext w1 W → (Instr.lookup 56 (.map (some cm)) (.agg #[.int .i64 d.rep, .int .i64 d.n]) true).run Tryz.prog W = .ok (.tuple #[.agg #[.int .i64 o.rep, .int .i64 o.n, .string u, .int .i64 n], .bool true]) W := fun W x => by
    have := (look_dot Tryz.underlying56 (h1.closed.ext x) d outZ (zeroOut W)).2
    rw [hf] at this
    exact this
  have hh := Hg.out
  have e0 := H0.out
  have hz := Gz.out
  have e1 := H1.out
  have xT := Ext.refl w1
  have hxx := hx0.trans hx1
  have hzb : w1.heap[gz]? = some (.cells #[.int .i64 0, .int .i64 0] 64) := by rw [← H1.out, ← Gz.out]; exact Array.getElem?_push_size
  clear d0 d1 hf z0 z1 fz
  unfold dotv
  go_enter Tryz.func53, Tryz.ntmps53
  go_wp2_with fail
  clear hh e1 e0 hz
  refine start_ (n := 12) (S := (fun W => Ext w1 W)) (ds := []) #[false, false, false, false, false, false, false, false, false, false, false, false] (by kernel_rfl) (by kernel_rfl) (by kernel_rfl) (xT.drew) (fun hHeld => ?_)
  refine take_ (i := 0) (N := (some 10)) (v := ?_) (a' := ?_) #[true, false, false, false, false, false, false, false, false, false, false, false] rfl rfl (by kernel_rfl) (fun _ _ _ h => h) (Or.inl ⟨by rfl, ?_⟩) (by assumption) ?_ ?_
  rotate_left
  · intro w' hSw; (try dsimp only at hSw)
    go_simp
    try with_reducible rfl
  rotate_left
  · simp only [Act.put, List.setIfInBounds_toArray, List.set_cons_zero, List.set_cons_succ]
    rfl
  refine take_ (i := 1) (N := (some 11)) (v := ?_) (a' := ?_) #[true, true, false, false, false, false, false, false, false, false, false, false] rfl rfl (by kernel_rfl) (fun _ _ _ h => h) (Or.inl ⟨by rfl, ?_⟩) (by assumption) ?_ ?_
  rotate_left
  · intro w' hSw; (try dsimp only at hSw)
    go_simp
    try with_reducible rfl
  rotate_left
  · simp only [Act.put, List.setIfInBounds_toArray, List.set_cons_zero, List.set_cons_succ]
    rfl
  refine take_ (i := 2) (N := (some 12)) (v := ?_) (a' := ?_) #[true, true, true, false, false, false, false, false, false, false, false, false] rfl rfl (by kernel_rfl) (fun _ _ _ h => h) (Or.inl ⟨by rfl, ?_⟩) (by assumption) ?_ ?_
  rotate_left
  · intro w' hSw; (try dsimp only at hSw)
    go_simp
    try with_reducible rfl
  rotate_left
  · simp only [Act.put, List.setIfInBounds_toArray, List.set_cons_zero, List.set_cons_succ]
    rfl
  refine take_ (i := 3) (N := (some 13)) (v := ?_) (a' := ?_) #[true, true, true, true, false, false, false, false, false, false, false, false] rfl rfl (by kernel_rfl) (fun _ _ _ h => h) (Or.inl ⟨by rfl, ?_⟩) (by assumption) ?_ ?_
  rotate_left
  · intro w' hSw; (try dsimp only at hSw)
    go_simp
    try with_reducible rfl
  rotate_left
  · simp only [Act.put, List.setIfInBounds_toArray, List.set_cons_zero, List.set_cons_succ]
    rfl
  refine take_ (i := 4) (N := (some 14)) (v := ?_) (a' := ?_) #[true, true, true, true, true, false, false, false, false, false, false, false] rfl rfl (by kernel_rfl) (fun _ _ _ h => h) (Or.inl ⟨by rfl, ?_⟩) (by assumption) ?_ ?_
  rotate_left
  · intro w' hSw; (try dsimp only at hSw)
    go_simp
    try with_reducible rfl
  rotate_left
  · simp only [Act.put, List.setIfInBounds_toArray, List.set_cons_zero, List.set_cons_succ]
    rfl
  refine take_ (i := 5) (N := (some 15)) (v := ?_) (a' := ?_) #[true, true, true, true, true, true, false, false, false, false, false, false] rfl rfl (by kernel_rfl) (fun _ _ _ h => h) (Or.inl ⟨by rfl, ?_⟩) (by assumption) ?_ ?_
  rotate_left
  · intro w' hSw; (try dsimp only at hSw)
    go_simp
    try with_reducible rfl
  rotate_left
  · simp only [Act.put, List.setIfInBounds_toArray, List.set_cons_zero, List.set_cons_succ]
    rfl
  refine take_ (i := 6) (N := (some 9)) (v := ?_) (a' := ?_) #[true, true, true, true, true, true, true, false, false, false, false, false] rfl rfl (by kernel_rfl) (fun _ _ _ h => h) (Or.inl ⟨by rfl, ?_⟩) (by assumption) ?_ ?_
  rotate_left
  · intro w' hSw; (try dsimp only at hSw)
    go_simp
    try with_reducible rfl
  rotate_left
  · simp only [Act.put, List.setIfInBounds_toArray, List.set_cons_zero, List.set_cons_succ]
    rfl
  refine take_ (i := 7) (N := (some 16)) (v := ?_) (a' := ?_) #[true, true, true, true, true, true, true, true, false, false, false, false] rfl rfl (by kernel_rfl) (fun _ _ _ h => h) (Or.inl ⟨by rfl, ?_⟩) (by assumption) ?_ ?_
  rotate_left
  · intro w' hSw; (try dsimp only at hSw)
    go_simp
    try with_reducible rfl
  rotate_left
  · simp only [Act.put, List.setIfInBounds_toArray, List.set_cons_zero, List.set_cons_succ]
    rfl
  refine take_ (i := 8) (N := (some 17)) (v := ?_) (a' := ?_) #[true, true, true, true, true, true, true, true, true, false, false, false] rfl rfl (by kernel_rfl) (fun _ _ _ h => h) (Or.inl ⟨by rfl, ?_⟩) (by assumption) ?_ ?_
  rotate_left
  · intro w' hSw; (try dsimp only at hSw)
    go_simp
    try with_reducible rfl
  rotate_left
  · simp only [Act.put, List.setIfInBounds_toArray, List.set_cons_zero, List.set_cons_succ]
    rfl
  refine one_ (i := 9) (N := (some 8)) #[true, true, true, true, true, true, true, true, true, true, false, false] rfl rfl (by kernel_rfl) (by simp) (fun K hK => ?_)
  go_simp
  obtain ⟨g1, G1⟩ : ∃ x, Hid ((World.heap w1).size = x) := ⟨_, Lib.hid rfl⟩
  obtain ⟨u1, U1⟩ : ∃ x, Hid ((World.alloc w1 (.cells (#[Value.int .i64 0, .int .i64 0, .string ⟨#[]⟩, .int .i64 0] : Array Value) 130)).drew = x) := ⟨_, Lib.hid rfl⟩
  have bu1 : u1.heap[g1]? = some (.cells (#[Value.int .i64 0, .int .i64 0, .string ⟨#[]⟩, .int .i64 0] : Array Value) 130) := by rw [← U1.out, ← G1.out]; exact Array.getElem?_push_size
  have xu1 : Ext w1 u1 := by rw [← U1.out]; exact ((Ext.refl _).alloc _).drew
  obtain ⟨v1, V1⟩ : ∃ x, Hid (((((u1.setCell ⟨g1, 0, none⟩ (Value.int .i64 o.rep)).setCell ⟨g1, 1, none⟩ (.int .i64 o.n)).setCell ⟨g1, 2, none⟩ (.string u)).setCell ⟨g1, 3, none⟩ (.int .i64 n)) = x) := ⟨_, Lib.hid rfl⟩
  have bv1 : v1.heap[g1]? = some (.cells #[Value.int .i64 o.rep, .int .i64 o.n, .string u, .int .i64 n] 130) := by rw [← V1.out]; exact (blk_set (blk_set (blk_set (blk_set bu1 0 _) 1 _) 2 _) 3 _)
  have hle1 : (World.heap w1).size ≤ g1 := Nat.le_of_eq G1.out
  have xv1 : Ext w1 v1 := by rw [← V1.out]; exact ((((xu1.setCell (p := ⟨g1, 0, none⟩) hle1 _).setCell (p := ⟨g1, 1, none⟩) hle1 _).setCell (p := ⟨g1, 2, none⟩) hle1 _).setCell (p := ⟨g1, 3, none⟩) hle1 _)
  clear hle1
  have cu1_0 : u1.cell? ⟨g1, 0, none⟩ = some (Value.int .i64 0) := by simp [World.cell?, bu1]
  have cu1_1 : u1.cell? ⟨g1, 1, none⟩ = some (.int .i64 0) := by simp [World.cell?, bu1]
  have cu1_2 : u1.cell? ⟨g1, 2, none⟩ = some (.string ⟨#[]⟩) := by simp [World.cell?, bu1]
  have cu1_3 : u1.cell? ⟨g1, 3, none⟩ = some (.int .i64 0) := by simp [World.cell?, bu1]
  have fu1_0 : u1.frozen? ⟨g1, 0, none⟩ = false := by simp [World.frozen?, bu1]
  have fu1_1 : u1.frozen? ⟨g1, 1, none⟩ = false := by simp [World.frozen?, bu1]
  have fu1_2 : u1.frozen? ⟨g1, 2, none⟩ = false := by simp [World.frozen?, bu1]
  have fu1_3 : u1.frozen? ⟨g1, 3, none⟩ = false := by simp [World.frozen?, bu1]
  rw [G1.out, U1.out]
  have rv1 := V1.out
  refine hK.out _ _ ?_ (fun hHeld => ?_)
  · first | assumption | exact hHeld.trans (by assumption)
  clear hK K
  (try simp only [Act.put, List.setIfInBounds_toArray, List.set_cons_zero, List.set_cons_succ])
  refine one_ (i := 10) (N := none) #[true, true, true, true, true, true, true, true, true, true, true, false] rfl rfl (by kernel_rfl) (by simp) (fun K hK => ?_)
  go_simp
  clear rv1 cu1_0 fu1_0 cu1_1 fu1_1 cu1_2 fu1_2 cu1_3 fu1_3
  refine hK.out _ _ ?_ (fun hHeld => ?_)
  · first | assumption | exact hHeld.trans (by assumption)
  clear hK K
  (try simp only [Act.put, List.setIfInBounds_toArray, List.set_cons_zero, List.set_cons_succ])
  refine take_ (i := 11) (N := (some 7)) (v := ?_) (a' := ?_) #[true, true, true, true, true, true, true, true, true, true, true, true] rfl rfl (by kernel_rfl) (fun _ _ _ h => h) (Or.inl ⟨by rfl, ?_⟩) (by assumption) ?_ ?_
  rotate_left
  · intro w' hSw; (try dsimp only at hSw)
    go_simp
    try with_reducible rfl
  rotate_left
  · simp only [Act.put, List.setIfInBounds_toArray, List.set_cons_zero, List.set_cons_succ]
    rfl
  refine done_ (by kernel_rfl) ?_
  clear q0 q1 q2 q3 q4 q5 q6 q7 q8 q9 q10 q11 lc r0 r1
  have p0 : ∀ W, (Ext w0 W ∧ W.heap[g1]? = some (.cells #[.int .i64 o.rep, .int .i64 o.n, .string u, .int .i64 n] 130)) → W.cell? ⟨g1, 0, none⟩ = some (.int .i64 o.rep) := fun W x => by simp [World.cell?, x.2]
  have p1 : ∀ W, (Ext w0 W ∧ W.heap[g1]? = some (.cells #[.int .i64 o.rep, .int .i64 o.n, .string u, .int .i64 n] 130)) → W.cell? ⟨g1, 1, none⟩ = some (.int .i64 o.n) := fun W x => by simp [World.cell?, x.2]
  have p2 : ∀ W, (Ext w0 W ∧ W.heap[g1]? = some (.cells #[.int .i64 o.rep, .int .i64 o.n, .string u, .int .i64 n] 130)) → W.cell? ⟨g1, 2, none⟩ = some (.string u) := fun W x => by simp [World.cell?, x.2]
  have p3 : ∀ W, (Ext w0 W ∧ W.heap[g1]? = some (.cells #[.int .i64 o.rep, .int .i64 o.n, .string u, .int .i64 n] 130)) → W.cell? ⟨g1, 3, none⟩ = some (.int .i64 n) := fun W x => by simp [World.cell?, x.2]
  go_wp2_with fail
  have c0 : v1.cell? ⟨gz, 0, none⟩ = some (.int .i64 0) := (xv1.cell (by simp [World.cell?, hzb]))
  have c1 : v1.cell? ⟨gz, 1, none⟩ = some (.int .i64 0) := (xv1.cell (by simp [World.cell?, hzb]))
  have hvb : v1.heap[gz]? = some (.cells #[.int .i64 0, .int .i64 0] 64) := (xv1.out.block gz (Array.getElem?_eq_some_iff.1 hzb).1).trans hzb
  have f0 : v1.frozen? ⟨gz, 0, none⟩ = false := by simp [World.frozen?, hvb]
  have f1 : v1.frozen? ⟨gz, 1, none⟩ = false := by simp [World.frozen?, hvb]
  obtain ⟨z, Z⟩ : ∃ y, Hid ((v1.setCell ⟨gz, 0, none⟩ (.int .i64 o.rep)).setCell ⟨gz, 1, none⟩ (.int .i64 o.n) = y) := ⟨_, Lib.hid rfl⟩
  have hzz : z.heap[gz]? = some (.cells #[.int .i64 o.rep, .int .i64 o.n] 64) := by rw [← Z.out]; exact blk_set (blk_set hvb 0 _) 1 _
  have e0 : z.cell? ⟨gz, 0, none⟩ = some (.int .i64 o.rep) := by simp [World.cell?, hzz]
  have e1 : z.cell? ⟨gz, 1, none⟩ = some (.int .i64 o.n) := by simp [World.cell?, hzz]
  have hle : w0.heap.size ≤ gz := Nat.le_of_eq Gz.out
  have xz : Ext w0 z.drew := by rw [← Z.out]; exact (((hx1.trans xv1).setCell (p := ⟨gz, 0, none⟩) hle _).setCell (p := ⟨gz, 1, none⟩) hle _).drew
  have rz := Z.out
  clear hle
  have hs0 : Ext w0 v1.drew ∧ v1.drew.heap[g1]? = some (.cells #[.int .i64 o.rep, .int .i64 o.n, .string u, .int .i64 n] 130) := ⟨(hx1.trans xv1).drew, bv1⟩
  have hne : g1 ≠ gz := by
    have q1 := G1.out
    have q2 := (Array.getElem?_eq_some_iff.1 hzb).1
    omega
  have hs1 : Ext w0 z.drew ∧ z.drew.heap[g1]? = some (.cells #[.int .i64 o.rep, .int .i64 o.n, .string u, .int .i64 n] 130) := ⟨xz, by
    have k : Chg [gz] v1 z := by rw [← Z.out]; exact ((Chg.refl _ _).set gz 0 _ (by simp)).set gz 1 _ (by simp)
    exact (k.block g1 (Array.getElem?_eq_some_iff.1 bv1).1 (by simpa using hne)).trans bv1⟩
  have Hbv := Lib.hid bv1
  have Hzb := Lib.hid hzb
  have Hzz := Lib.hid hzz
  have Hvb := Lib.hid hvb
  clear bv1 hzb hzz hvb hne bu1
  refine start_ (n := 11) (S := (fun W => Ext w0 W ∧ W.heap[g1]? = some (.cells #[.int .i64 o.rep, .int .i64 o.n, .string u, .int .i64 n] 130))) (ds := []) #[false, false, false, false, false, false, false, false, false, false, false] (by kernel_rfl) (by kernel_rfl) (by kernel_rfl) (hs0) (fun hHeld => ?_)
  refine take_ (i := 0) (N := (some 18)) (v := ?_) (a' := ?_) #[true, false, false, false, false, false, false, false, false, false, false] rfl rfl (by kernel_rfl) (fun _ _ _ h => h) (Or.inl ⟨by rfl, ?_⟩) (by assumption) ?_ ?_
  rotate_left
  · intro w' hSw; (try dsimp only at hSw)
    go_simp
    try with_reducible rfl
  rotate_left
  · simp only [Act.put, List.setIfInBounds_toArray, List.set_cons_zero, List.set_cons_succ]
    rfl
  refine take_ (i := 1) (N := (some 19)) (v := ?_) (a' := ?_) #[true, true, false, false, false, false, false, false, false, false, false] rfl rfl (by kernel_rfl) (fun _ _ _ h => h) (Or.inl ⟨by rfl, ?_⟩) (by assumption) ?_ ?_
  rotate_left
  · intro w' hSw; (try dsimp only at hSw)
    go_simp
    try with_reducible rfl
  rotate_left
  · simp only [Act.put, List.setIfInBounds_toArray, List.set_cons_zero, List.set_cons_succ]
    rfl
  refine take_ (i := 2) (N := (some 20)) (v := ?_) (a' := ?_) #[true, true, true, false, false, false, false, false, false, false, false] rfl rfl (by kernel_rfl) (fun _ _ _ h => h) (Or.inl ⟨by rfl, ?_⟩) (by assumption) ?_ ?_
  rotate_left
  · intro w' hSw; (try dsimp only at hSw)
    go_simp
    try with_reducible rfl
  rotate_left
  · simp only [Act.put, List.setIfInBounds_toArray, List.set_cons_zero, List.set_cons_succ]
    rfl
  refine take_ (i := 3) (N := (some 21)) (v := ?_) (a' := ?_) #[true, true, true, true, false, false, false, false, false, false, false] rfl rfl (by kernel_rfl) (fun _ _ _ h => h) (Or.inl ⟨by rfl, ?_⟩) (by assumption) ?_ ?_
  rotate_left
  · intro w' hSw; (try dsimp only at hSw)
    go_simp
    try with_reducible rfl
  rotate_left
  · simp only [Act.put, List.setIfInBounds_toArray, List.set_cons_zero, List.set_cons_succ]
    rfl
  refine take_ (i := 4) (N := (some 22)) (v := ?_) (a' := ?_) #[true, true, true, true, true, false, false, false, false, false, false] rfl rfl (by kernel_rfl) (fun _ _ _ h => h) (Or.inl ⟨by rfl, ?_⟩) (by assumption) ?_ ?_
  rotate_left
  · intro w' hSw; (try dsimp only at hSw)
    go_simp
    try with_reducible rfl
  rotate_left
  · simp only [Act.put, List.setIfInBounds_toArray, List.set_cons_zero, List.set_cons_succ]
    rfl
  refine take_ (i := 5) (N := (some 23)) (v := ?_) (a' := ?_) #[true, true, true, true, true, true, false, false, false, false, false] rfl rfl (by kernel_rfl) (fun _ _ _ h => h) (Or.inl ⟨by rfl, ?_⟩) (by assumption) ?_ ?_
  rotate_left
  · intro w' hSw; (try dsimp only at hSw)
    go_simp
    try with_reducible rfl
  rotate_left
  · simp only [Act.put, List.setIfInBounds_toArray, List.set_cons_zero, List.set_cons_succ]
    rfl
  refine take_ (i := 6) (N := (some 24)) (v := ?_) (a' := ?_) #[true, true, true, true, true, true, true, false, false, false, false] rfl rfl (by kernel_rfl) (fun _ _ _ h => h) (Or.inl ⟨by rfl, ?_⟩) (by assumption) ?_ ?_
  rotate_left
  · intro w' hSw; (try dsimp only at hSw)
    go_simp
    try with_reducible rfl
  rotate_left
  · simp only [Act.put, List.setIfInBounds_toArray, List.set_cons_zero, List.set_cons_succ]
    rfl
  refine one_ (i := 7) (N := none) #[true, true, true, true, true, true, true, true, false, false, false] rfl rfl (by kernel_rfl) (by simp) (fun K hK => ?_)
  go_simp
  clear rz c0 c1 f0 f1
  refine hK.out _ _ ?_ (fun hHeld => ?_)
  · first | assumption | exact hHeld.trans (by assumption)
  clear hK K
  (try simp only [Act.put, List.setIfInBounds_toArray, List.set_cons_zero, List.set_cons_succ])
  refine take_ (i := 8) (N := (some 5)) (v := ?_) (a' := ?_) #[true, true, true, true, true, true, true, true, true, false, false] rfl rfl (by kernel_rfl) (fun _ _ _ h => h) (Or.inl ⟨by rfl, ?_⟩) (by assumption) ?_ ?_
  rotate_left
  · intro w' hSw; (try dsimp only at hSw)
    go_simp
    try with_reducible rfl
  rotate_left
  · simp only [Act.put, List.setIfInBounds_toArray, List.set_cons_zero, List.set_cons_succ]
    rfl
  refine take_ (i := 9) (N := (some 6)) (v := ?_) (a' := ?_) #[true, true, true, true, true, true, true, true, true, true, false] rfl rfl (by kernel_rfl) (fun _ _ _ h => h) (Or.inl ⟨by rfl, ?_⟩) (by assumption) ?_ ?_
  rotate_left
  · intro w' hSw; (try dsimp only at hSw)
    go_simp
    try with_reducible rfl
  rotate_left
  · simp only [Act.put, List.setIfInBounds_toArray, List.set_cons_zero, List.set_cons_succ]
    rfl
  refine take_ (i := 10) (N := (some 7)) (v := ?_) (a' := ?_) #[true, true, true, true, true, true, true, true, true, true, true] rfl rfl (by kernel_rfl) (fun _ _ _ h => h) (Or.inl ⟨by rfl, ?_⟩) (by assumption) ?_ ?_
  rotate_left
  · intro w' hSw; (try dsimp only at hSw)
    go_simp
    try with_reducible rfl
  rotate_left
  · simp only [Act.put, List.setIfInBounds_toArray, List.set_cons_zero, List.set_cons_succ]
    rfl
  refine done_ (by kernel_rfl) ?_
  go_wp2
  refine bodyPost_ret (v := .tuple #[dotv o.rep o.n, .string u, .int .i64 n, .bool true]) (by simp [results, Tryz.results53, go_sem, dotv, e0, e1]) rfl ⟨rfl, hx0.trans hHeld.1⟩
end Go.Proofs.YtbemkefcaceekaaGreatDoor
