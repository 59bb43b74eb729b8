/- Top26: the winner's line (winner$1). -/
import Derived.Test.YtbemkefcaceekaaGreatDoorTop25
set_option linter.unusedVariables false
set_option linter.unusedSimpArgs false
set_option maxRecDepth 100000
namespace Go.Proofs.YtbemkefcaceekaaGreatDoor
open Go.RowKit Go.Lib Go.Shelf Go.Proofs.YtbemkefcaceekaaGreatDoorW.PrintWords Go.Proofs.YtbemkefcaceekaaGreatDoorW.PrintLast

def winL (n : Nat) (u : ByteArray) (m : Nat) : ByteArray := (((showL 0 n ++ ⟨#[32]⟩) ++ u) ++ ⟨#[32]⟩) ++ ⟨(Lib.decDigits m).toArray⟩
set_option maxHeartbeats 8000000 in
theorem winner1_any (w0 w : World) (base bm um dm cm hb sb : Nat) (H : Hse) (R : V7) (hS : Sh w0 w base bm um dm cm hb sb H R) (p : Nat) (d : Dt) (hp : w.heap[p]? = some (.cells #[.int .i64 d.rep, .int .i64 d.n] 64))
    (n m i : Nat) (u : ByteArray) (hf : findD d H.closed 0 = some (i, outV ⟨0, (n : Int)⟩ u (m : Int))) (hn : n < 100) (hn1 : 1 ≤ n) (hm : m < 100) (hu : u.size ≤ 1000) :
    Calls Tryz.prog 52 #[.pointer (some ⟨sb, 0, none⟩), .pointer (some ⟨p, 0, none⟩)] w fun e w' => e = .returned (.string (winL n u m)) ∧ Sh w0 w' base bm um dm cm hb sb H R ∧ Kept w w' := by
  have r0 : ∀ W, Ext w W → W.cell? ⟨p, 0, none⟩ = some (.int .i64 d.rep) := fun W x => x.cell (by simp [World.cell?, hp])
  have r1 : ∀ W, Ext w W → W.cell? ⟨p, 1, none⟩ = some (.int .i64 d.n) := fun W x => x.cell (by simp [World.cell?, hp])
  have r2 : ∀ W, Ext w W → W.cell? ⟨sb, 0, none⟩ = some (.pointer (some ⟨hb, 0, none⟩)) := fun W x => (hS.extend x).cell 0 _ rfl
  have kw := fun W x => winner_yes W base bm um dm cm hb H (hS.hat.ext x) d ⟨0, (n : Int)⟩ u (m : Int) i hf
  unfold dotv at kw
  dsimp only at kw
  have ks := fun W => show_any 0 n (by omega) hn W
  unfold dotv at ks
  have kf := fun W => Tryz.strconv_FormatInt_10_small m hm W
  have hs1 := showL_size 0 n (by omega) hn
  have hs2 := dec_small m hm
  obtain ⟨A, hA⟩ : ∃ A, Hid (A = showL 0 n) := ⟨_, Lib.hid rfl⟩
  obtain ⟨B, hB⟩ : ∃ B, Hid (B = ByteArray.mk (Lib.decDigits m).toArray) := ⟨_, Lib.hid rfl⟩
  rw [← hA.out] at ks hs1
  rw [← hB.out] at kf
  have hB2 : B.size ≤ 2 := by rw [hB.out]; show (Lib.decDigits m).toArray.size ≤ 2; rw [List.size_toArray]; exact hs2
  have Q1 : Hid (¬ 9223372036854775807 < A.size + (ByteArray.mk #[32]).size) := Lib.hid (by show ¬ _ < A.size + 1; omega)
  have Q1' : Hid (¬ 9223372036854775807 < A.size + 1) := Lib.hid (by omega)
  have Q2 : Hid (¬ 9223372036854775807 < (A ++ ⟨#[32]⟩).size + u.size) := Lib.hid (by rw [ByteArray.size_append]; show ¬ _ < A.size + 1 + u.size; omega)
  have Q2' : Hid (¬ 9223372036854775807 < A.size + 1 + u.size) := Lib.hid (by omega)
  have Q3 : Hid (¬ 9223372036854775807 < ((A ++ ⟨#[32]⟩) ++ u).size + (ByteArray.mk #[32]).size) := Lib.hid (by rw [ByteArray.size_append, ByteArray.size_append]; show ¬ _ < A.size + 1 + u.size + 1; omega)
  have Q3' : Hid (¬ 9223372036854775807 < A.size + 1 + u.size + 1) := Lib.hid (by omega)
  have Q4 : Hid (¬ 9223372036854775807 < (((A ++ ⟨#[32]⟩) ++ u) ++ ⟨#[32]⟩).size + B.size) := Lib.hid (by rw [ByteArray.size_append, ByteArray.size_append, ByteArray.size_append]; show ¬ _ < A.size + 1 + u.size + 1 + B.size; omega)
  have Q4' : Hid (¬ 9223372036854775807 < A.size + 1 + u.size + 1 + B.size) := Lib.hid (by omega)
  have hz : ((n : Int) == 0) = false := by simp; omega
  have Kd0 : Hid (∀ W, (Op.equalIn 10000 64 (.agg #[.int .i64 0, .int .i64 (n : Int)]) (.agg #[.int .i64 0, .int .i64 0])).run Tryz.prog W = .ok false W) := Lib.hid (fun W => by rw [run_dot, hz]; rfl)
  have Hks := Lib.hid ks
  have Hkf := Lib.hid kf
  have xT := Ext.refl w
  clear hp hf hn hn1 hm hu hs1 hs2 hB2 hz ks kf
  go_enter Tryz.func52, Tryz.ntmps52
  go_wp2_with fail
  refine start_ (n := 16) (S := (fun W => Ext w W)) (ds := []) #[false, false, false, false, false, false, false, false, false, false, false, false, false, false, false, false] (by kernel_rfl) (by kernel_rfl) (by kernel_rfl) (xT.drew) (fun hHeld => ?_)
  refine take_ (i := 0) (N := (some 9)) (v := ?_) (a' := ?_) #[true, false, false, false, false, false, false, false, false, false, false, false, false, false, false, false] rfl rfl (by kernel_rfl) (fun _ _ _ h => h) (Or.inl ⟨by rfl, ?_⟩) (by assumption) ?_ ?_
  rotate_left
  · intro w' hSw; (try dsimp only at hSw)
    go_simp
    try with_reducible rfl
  rotate_left
  · simp only [Act.put, List.setIfInBounds_toArray, List.set_cons_zero, List.set_cons_succ]
    rfl
  refine take_ (i := 1) (N := (some 10)) (v := ?_) (a' := ?_) #[true, true, false, false, false, false, false, false, false, false, false, false, false, false, false, false] rfl rfl (by kernel_rfl) (fun _ _ _ h => h) (Or.inl ⟨by rfl, ?_⟩) (by assumption) ?_ ?_
  rotate_left
  · intro w' hSw; (try dsimp only at hSw)
    go_simp
    try with_reducible rfl
  rotate_left
  · simp only [Act.put, List.setIfInBounds_toArray, List.set_cons_zero, List.set_cons_succ]
    rfl
  refine take_ (i := 2) (N := (some 11)) (v := ?_) (a' := ?_) #[true, true, true, false, false, false, false, false, false, false, false, false, false, false, false, false] rfl rfl (by kernel_rfl) (fun _ _ _ h => h) (Or.inl ⟨by rfl, ?_⟩) (by assumption) ?_ ?_
  rotate_left
  · intro w' hSw; (try dsimp only at hSw)
    go_simp
    try with_reducible rfl
  rotate_left
  · simp only [Act.put, List.setIfInBounds_toArray, List.set_cons_zero, List.set_cons_succ]
    rfl
  refine take_ (i := 3) (N := (some 12)) (v := ?_) (a' := ?_) #[true, true, true, true, false, false, false, false, false, false, false, false, false, false, false, false] rfl rfl (by kernel_rfl) (fun _ _ _ h => h) (Or.inl ⟨by rfl, ?_⟩) (by assumption) ?_ ?_
  rotate_left
  · intro w' hSw; (try dsimp only at hSw)
    go_simp
    try with_reducible rfl
  rotate_left
  · simp only [Act.put, List.setIfInBounds_toArray, List.set_cons_zero, List.set_cons_succ]
    rfl
  refine take_ (i := 4) (N := (some 13)) (v := ?_) (a' := ?_) #[true, true, true, true, true, false, false, false, false, false, false, false, false, false, false, false] rfl rfl (by kernel_rfl) (fun _ _ _ h => h) (Or.inl ⟨by rfl, ?_⟩) (by assumption) ?_ ?_
  rotate_left
  · intro w' hSw; (try dsimp only at hSw)
    go_simp
    try with_reducible rfl
  rotate_left
  · simp only [Act.put, List.setIfInBounds_toArray, List.set_cons_zero, List.set_cons_succ]
    rfl
  refine join_ (σ := Nat) 0 #[true, true, true, true, true, true, true, true, true, true, true, true, true, true, true, true] (fun s => [(14, .tuple #[.agg #[.int .i64 0, .int .i64 (n : Int)], .string u, .int .i64 (m : Int), .bool true]), (8, .tuple #[.agg #[.int .i64 0, .int .i64 (n : Int)], .string u, .int .i64 (m : Int), .bool true]), (15, .agg #[.int .i64 0, .int .i64 (n : Int)]), (16, .string u), (17, .int .i64 (m : Int)), (18, .bool true), (4, .pointer (some ⟨s, 0, none⟩)), (5, .string u), (6, .int .i64 (m : Int)), (7, .bool true)]) (fun s W => Ext w W ∧ W.heap[s]? = some (.cells #[.int .i64 0, .int .i64 (n : Int)] 64)) ?_ ?_
  · intro s wj hF
    simp only [putAll, Act.put, List.setIfInBounds_toArray, List.set_cons_zero, List.set_cons_succ]
    refine done_ (by kernel_rfl) ?_
    obtain ⟨xj, bj⟩ := hF
    have c0 : wj.cell? ⟨s, 0, none⟩ = some (.int .i64 0) := by simp [World.cell?, bj]
    have c1 : wj.cell? ⟨s, 1, none⟩ = some (.int .i64 (n : Int)) := by simp [World.cell?, bj]
    clear r0 r1 r2 kw
    have kd := Kd0.out
    go_wp2_with fail
    refine (Hks.out _).mono ?_
    rintro e w5 ⟨rfl, x5⟩
    clear c0 c1 kd
    have q1 := Q1.out
    have q2 := Q2.out
    have q3 := Q3.out
    have q1' := Q1'.out
    have q2' := Q2'.out
    have q3' := Q3'.out
    have q4 := Q4.out
    have q4' := Q4'.out
    have kf := Hkf.out
    have hs5 := hS.extend (xj.trans x5)
    have kp5 := Kept.of_ext (xj.trans x5)
    go_wp2_with fail
    refine (kf _).mono ?_
    rintro e w6 ⟨rfl, rfl⟩
    go_wp2
    go_ret
    exact ⟨by rw [winL, ← hA.out, ← hB.out]; rfl, hs5, kp5⟩
  · intro hJ
    refine two_ (i := 5) (Ni := (some 14)) (j := 11) (Nj := (some 4)) #[true, true, true, true, true, true, false, false, false, false, false, false, false, false, false, false] #[true, true, true, true, true, false, false, false, false, false, false, true, false, false, false, false] rfl rfl rfl rfl (by kernel_rfl) (by simp) (by simp) (fun K hK => ?_) (fun K hK => ?_)
    · go_simp
      refine (kw _ (xT.drew)).mono ?_
      rintro e u1 ⟨rfl, hu1⟩
      refine hK.out _ _ ?_ (fun hHeld => ?_)
      · exact ((xT.drew).trans hu1)
      clear hK K
      (try simp only [Act.put, List.setIfInBounds_toArray, List.set_cons_zero, List.set_cons_succ])
      refine take_ (i := 6) (N := (some 8)) (v := ?_) (a' := ?_) #[true, true, true, true, true, true, true, false, false, false, false, false, false, false, false, false] rfl rfl (by kernel_rfl) (fun _ _ _ h => h) (Or.inl ⟨by rfl, ?_⟩) (by assumption) ?_ ?_
      rotate_left
      · intro w' hSw; (try dsimp only at hSw)
        go_simp
        try with_reducible rfl
      rotate_left
      · simp only [Act.put, List.setIfInBounds_toArray, List.set_cons_zero, List.set_cons_succ]
        rfl
      refine take_ (i := 7) (N := (some 15)) (v := ?_) (a' := ?_) #[true, true, true, true, true, true, true, true, false, false, false, false, false, false, false, false] rfl rfl (by kernel_rfl) (fun _ _ _ h => h) (Or.inl ⟨by rfl, ?_⟩) (by assumption) ?_ ?_
      rotate_left
      · intro w' hSw; (try dsimp only at hSw)
        go_simp
        try with_reducible rfl
      rotate_left
      · simp only [Act.put, List.setIfInBounds_toArray, List.set_cons_zero, List.set_cons_succ]
        rfl
      refine take_ (i := 8) (N := (some 16)) (v := ?_) (a' := ?_) #[true, true, true, true, true, true, true, true, true, false, false, false, false, false, false, false] rfl rfl (by kernel_rfl) (fun _ _ _ h => h) (Or.inl ⟨by rfl, ?_⟩) (by assumption) ?_ ?_
      rotate_left
      · intro w' hSw; (try dsimp only at hSw)
        go_simp
        try with_reducible rfl
      rotate_left
      · simp only [Act.put, List.setIfInBounds_toArray, List.set_cons_zero, List.set_cons_succ]
        rfl
      refine take_ (i := 9) (N := (some 17)) (v := ?_) (a' := ?_) #[true, true, true, true, true, true, true, true, true, true, false, false, false, false, false, false] rfl rfl (by kernel_rfl) (fun _ _ _ h => h) (Or.inl ⟨by rfl, ?_⟩) (by assumption) ?_ ?_
      rotate_left
      · intro w' hSw; (try dsimp only at hSw)
        go_simp
        try with_reducible rfl
      rotate_left
      · simp only [Act.put, List.setIfInBounds_toArray, List.set_cons_zero, List.set_cons_succ]
        rfl
      refine take_ (i := 10) (N := (some 18)) (v := ?_) (a' := ?_) #[true, true, true, true, true, true, true, true, true, true, true, false, false, false, false, false] rfl rfl (by kernel_rfl) (fun _ _ _ h => h) (Or.inl ⟨by rfl, ?_⟩) (by assumption) ?_ ?_
      rotate_left
      · intro w' hSw; (try dsimp only at hSw)
        go_simp
        try with_reducible rfl
      rotate_left
      · simp only [Act.put, List.setIfInBounds_toArray, List.set_cons_zero, List.set_cons_succ]
        rfl
      refine one_ (i := 11) (N := (some 4)) #[true, true, true, true, true, true, true, true, true, true, true, true, false, false, false, false] rfl rfl (by kernel_rfl) (by simp) (fun K hK => ?_)
      obtain ⟨g2, G2⟩ : ∃ x, Hid ((World.heap u1).size = x) := ⟨_, Lib.hid rfl⟩
      obtain ⟨u2, U2⟩ : ∃ x, Hid ((World.alloc u1 (.cells #[Value.int .i64 0, .int .i64 0] 64)) = x) := ⟨_, Lib.hid rfl⟩
      have bu2 : u2.heap[g2]? = some (.cells #[Value.int .i64 0, .int .i64 0] 64) := by rw [← U2.out, ← G2.out]; exact Array.getElem?_push_size
      have xu2 : Ext u1 u2 := by rw [← U2.out]; exact ((Ext.refl _).alloc _)
      have hge2 : (World.heap w).size ≤ g2 := Nat.le_trans (Ext.size (((xT.drew).trans hu1))) (Nat.le_of_eq G2.out)
      have ru2 := U2.out
      have rg2 := G2.out
      go_simp
      clear ru2 rg2
      refine hK.out _ _ ?_ (fun hHeld => ?_)
      · exact ((((xT.drew).trans hu1)).trans xu2)
      clear hK K
      (try simp only [Act.put, List.setIfInBounds_toArray, List.set_cons_zero, List.set_cons_succ])
      refine one_ (i := 12) (N := none) #[true, true, true, true, true, true, true, true, true, true, true, true, true, false, false, false] rfl rfl (by kernel_rfl) (by simp) (fun K hK => ?_)
      have bb3 : u2.heap[g2]? = some (.cells #[Value.int .i64 0, .int .i64 0] 64) := bu2
      have sc3_0 : u2.cell? ⟨g2, 0, none⟩ = some (Value.int .i64 0) := by simp [World.cell?, bb3]
      have sf3_0 : u2.frozen? ⟨g2, 0, none⟩ = false := by simp [World.frozen?, bb3]
      have sc3_1 : u2.cell? ⟨g2, 1, none⟩ = some (.int .i64 0) := by simp [World.cell?, bb3]
      have sf3_1 : u2.frozen? ⟨g2, 1, none⟩ = false := by simp [World.frozen?, bb3]
      obtain ⟨u3, U3⟩ : ∃ x, Hid ((World.setCell (World.setCell u2 ⟨g2, 0, none⟩ (Value.int .i64 0)) ⟨g2, 1, none⟩ (.int .i64 (n : Int))) = x) := ⟨_, Lib.hid rfl⟩
      have bu3 : u3.heap[g2]? = some (.cells #[Value.int .i64 0, .int .i64 (n : Int)] 64) := by rw [← U3.out]; exact (blk_set (blk_set bb3 0 _) 1 _)
      have xu3 : Ext w u3 := by rw [← U3.out]; exact (Ext.setCell (Ext.setCell ((((xT.drew).trans hu1)).trans xu2) (p := ⟨g2, 0, none⟩) hge2 _) (p := ⟨g2, 1, none⟩) hge2 _)
      have ru3 := U3.out
      go_simp
      clear ru3 sc3_0 sf3_0 sc3_1 sf3_1
      refine hK.out _ _ ?_ (fun hHeld => ?_)
      · exact xu3
      clear hK K
      (try simp only [Act.put, List.setIfInBounds_toArray, List.set_cons_zero, List.set_cons_succ])
      refine take_ (i := 13) (N := (some 5)) (v := ?_) (a' := ?_) #[true, true, true, true, true, true, true, true, true, true, true, true, true, true, false, false] rfl rfl (by kernel_rfl) (fun _ _ _ h => h) (Or.inl ⟨by rfl, ?_⟩) (by assumption) ?_ ?_
      rotate_left
      · intro w' hSw; (try dsimp only at hSw)
        go_simp
        try with_reducible rfl
      rotate_left
      · simp only [Act.put, List.setIfInBounds_toArray, List.set_cons_zero, List.set_cons_succ]
        rfl
      refine take_ (i := 14) (N := (some 6)) (v := ?_) (a' := ?_) #[true, true, true, true, true, true, true, true, true, true, true, true, true, true, true, false] rfl rfl (by kernel_rfl) (fun _ _ _ h => h) (Or.inl ⟨by rfl, ?_⟩) (by assumption) ?_ ?_
      rotate_left
      · intro w' hSw; (try dsimp only at hSw)
        go_simp
        try with_reducible rfl
      rotate_left
      · simp only [Act.put, List.setIfInBounds_toArray, List.set_cons_zero, List.set_cons_succ]
        rfl
      refine take_ (i := 15) (N := (some 7)) (v := ?_) (a' := ?_) #[true, true, true, true, true, true, true, true, true, true, true, true, true, true, true, true] rfl rfl (by kernel_rfl) (fun _ _ _ h => h) (Or.inl ⟨by rfl, ?_⟩) (by assumption) ?_ ?_
      rotate_left
      · intro w' hSw; (try dsimp only at hSw)
        go_simp
        try with_reducible rfl
      rotate_left
      · simp only [Act.put, List.setIfInBounds_toArray, List.set_cons_zero, List.set_cons_succ]
        rfl
      have hj := hJ g2 u3 ⟨xu3, bu3⟩
      simp only [putAll, Act.put, List.setIfInBounds_toArray, List.set_cons_zero, List.set_cons_succ] at hj
      exact hj
    · obtain ⟨g4, G4⟩ : ∃ x, Hid ((World.heap w).size = x) := ⟨_, Lib.hid rfl⟩
      obtain ⟨u4, U4⟩ : ∃ x, Hid ((World.alloc w (.cells #[Value.int .i64 0, .int .i64 0] 64)).drew = x) := ⟨_, Lib.hid rfl⟩
      have bu4 : u4.heap[g4]? = some (.cells #[Value.int .i64 0, .int .i64 0] 64) := by rw [← U4.out, ← G4.out]; exact Array.getElem?_push_size
      have xu4 : Ext w u4 := by rw [← U4.out]; exact ((Ext.refl _).alloc _).drew
      have hge4 : (World.heap w).size ≤ g4 := Nat.le_trans (Ext.size (xT.drew)) (Nat.le_of_eq G4.out)
      have ru4 := U4.out
      have rg4 := G4.out
      go_simp
      clear ru4 rg4
      refine hK.out _ _ ?_ (fun hHeld => ?_)
      · exact xu4
      clear hK K
      (try simp only [Act.put, List.setIfInBounds_toArray, List.set_cons_zero, List.set_cons_succ])
      refine one_ (i := 5) (N := (some 14)) #[true, true, true, true, true, true, false, false, false, false, false, true, false, false, false, false] rfl rfl (by kernel_rfl) (by simp) (fun K hK => ?_)
      go_simp
      refine (kw _ (xu4)).mono ?_
      rintro e u5 ⟨rfl, hu5⟩
      refine hK.out _ _ ?_ (fun hHeld => ?_)
      · exact ((xu4).trans hu5)
      clear hK K
      (try simp only [Act.put, List.setIfInBounds_toArray, List.set_cons_zero, List.set_cons_succ])
      refine take_ (i := 6) (N := (some 8)) (v := ?_) (a' := ?_) #[true, true, true, true, true, true, true, false, false, false, false, true, false, false, false, false] rfl rfl (by kernel_rfl) (fun _ _ _ h => h) (Or.inl ⟨by rfl, ?_⟩) (by assumption) ?_ ?_
      rotate_left
      · intro w' hSw; (try dsimp only at hSw)
        go_simp
        try with_reducible rfl
      rotate_left
      · simp only [Act.put, List.setIfInBounds_toArray, List.set_cons_zero, List.set_cons_succ]
        rfl
      refine take_ (i := 7) (N := (some 15)) (v := ?_) (a' := ?_) #[true, true, true, true, true, true, true, true, false, false, false, true, false, false, false, false] rfl rfl (by kernel_rfl) (fun _ _ _ h => h) (Or.inl ⟨by rfl, ?_⟩) (by assumption) ?_ ?_
      rotate_left
      · intro w' hSw; (try dsimp only at hSw)
        go_simp
        try with_reducible rfl
      rotate_left
      · simp only [Act.put, List.setIfInBounds_toArray, List.set_cons_zero, List.set_cons_succ]
        rfl
      refine take_ (i := 8) (N := (some 16)) (v := ?_) (a' := ?_) #[true, true, true, true, true, true, true, true, true, false, false, true, false, false, false, false] rfl rfl (by kernel_rfl) (fun _ _ _ h => h) (Or.inl ⟨by rfl, ?_⟩) (by assumption) ?_ ?_
      rotate_left
      · intro w' hSw; (try dsimp only at hSw)
        go_simp
        try with_reducible rfl
      rotate_left
      · simp only [Act.put, List.setIfInBounds_toArray, List.set_cons_zero, List.set_cons_succ]
        rfl
      refine take_ (i := 9) (N := (some 17)) (v := ?_) (a' := ?_) #[true, true, true, true, true, true, true, true, true, true, false, true, false, false, false, false] rfl rfl (by kernel_rfl) (fun _ _ _ h => h) (Or.inl ⟨by rfl, ?_⟩) (by assumption) ?_ ?_
      rotate_left
      · intro w' hSw; (try dsimp only at hSw)
        go_simp
        try with_reducible rfl
      rotate_left
      · simp only [Act.put, List.setIfInBounds_toArray, List.set_cons_zero, List.set_cons_succ]
        rfl
      refine take_ (i := 10) (N := (some 18)) (v := ?_) (a' := ?_) #[true, true, true, true, true, true, true, true, true, true, true, true, false, false, false, false] rfl rfl (by kernel_rfl) (fun _ _ _ h => h) (Or.inl ⟨by rfl, ?_⟩) (by assumption) ?_ ?_
      rotate_left
      · intro w' hSw; (try dsimp only at hSw)
        go_simp
        try with_reducible rfl
      rotate_left
      · simp only [Act.put, List.setIfInBounds_toArray, List.set_cons_zero, List.set_cons_succ]
        rfl
      refine one_ (i := 12) (N := none) #[true, true, true, true, true, true, true, true, true, true, true, true, true, false, false, false] rfl rfl (by kernel_rfl) (by simp) (fun K hK => ?_)
      have bb6 : u5.heap[g4]? = some (.cells #[Value.int .i64 0, .int .i64 0] 64) := ((hu5.out.block _ (Array.getElem?_eq_some_iff.1 bu4).1).trans bu4)
      have sc6_0 : u5.cell? ⟨g4, 0, none⟩ = some (Value.int .i64 0) := by simp [World.cell?, bb6]
      have sf6_0 : u5.frozen? ⟨g4, 0, none⟩ = false := by simp [World.frozen?, bb6]
      have sc6_1 : u5.cell? ⟨g4, 1, none⟩ = some (.int .i64 0) := by simp [World.cell?, bb6]
      have sf6_1 : u5.frozen? ⟨g4, 1, none⟩ = false := by simp [World.frozen?, bb6]
      obtain ⟨u6, U6⟩ : ∃ x, Hid ((World.setCell (World.setCell u5 ⟨g4, 0, none⟩ (Value.int .i64 0)) ⟨g4, 1, none⟩ (.int .i64 (n : Int))) = x) := ⟨_, Lib.hid rfl⟩
      have bu6 : u6.heap[g4]? = some (.cells #[Value.int .i64 0, .int .i64 (n : Int)] 64) := by rw [← U6.out]; exact (blk_set (blk_set bb6 0 _) 1 _)
      have xu6 : Ext w u6 := by rw [← U6.out]; exact (Ext.setCell (Ext.setCell ((xu4).trans hu5) (p := ⟨g4, 0, none⟩) hge4 _) (p := ⟨g4, 1, none⟩) hge4 _)
      have ru6 := U6.out
      go_simp
      clear ru6 sc6_0 sf6_0 sc6_1 sf6_1
      refine hK.out _ _ ?_ (fun hHeld => ?_)
      · exact xu6
      clear hK K
      (try simp only [Act.put, List.setIfInBounds_toArray, List.set_cons_zero, List.set_cons_succ])
      refine take_ (i := 13) (N := (some 5)) (v := ?_) (a' := ?_) #[true, true, true, true, true, true, true, true, true, true, true, true, true, true, false, false] rfl rfl (by kernel_rfl) (fun _ _ _ h => h) (Or.inl ⟨by rfl, ?_⟩) (by assumption) ?_ ?_
      rotate_left
      · intro w' hSw; (try dsimp only at hSw)
        go_simp
        try with_reducible rfl
      rotate_left
      · simp only [Act.put, List.setIfInBounds_toArray, List.set_cons_zero, List.set_cons_succ]
        rfl
      refine take_ (i := 14) (N := (some 6)) (v := ?_) (a' := ?_) #[true, true, true, true, true, true, true, true, true, true, true, true, true, true, true, false] rfl rfl (by kernel_rfl) (fun _ _ _ h => h) (Or.inl ⟨by rfl, ?_⟩) (by assumption) ?_ ?_
      rotate_left
      · intro w' hSw; (try dsimp only at hSw)
        go_simp
        try with_reducible rfl
      rotate_left
      · simp only [Act.put, List.setIfInBounds_toArray, List.set_cons_zero, List.set_cons_succ]
        rfl
      refine take_ (i := 15) (N := (some 7)) (v := ?_) (a' := ?_) #[true, true, true, true, true, true, true, true, true, true, true, true, true, true, true, true] rfl rfl (by kernel_rfl) (fun _ _ _ h => h) (Or.inl ⟨by rfl, ?_⟩) (by assumption) ?_ ?_
      rotate_left
      · intro w' hSw; (try dsimp only at hSw)
        go_simp
        try with_reducible rfl
      rotate_left
      · simp only [Act.put, List.setIfInBounds_toArray, List.set_cons_zero, List.set_cons_succ]
        rfl
      have hj := hJ g4 u6 ⟨xu6, bu6⟩
      simp only [putAll, Act.put, List.setIfInBounds_toArray, List.set_cons_zero, List.set_cons_succ] at hj
      exact hj
end Go.Proofs.YtbemkefcaceekaaGreatDoor
