/- Top25: take of a blue step; a call's line (made$1). -/
import Derived.Test.YtbemkefcaceekaaGreatDoorTop24
set_option linter.unusedVariables false
set_option linter.unusedSimpArgs false
set_option maxRecDepth 100000
namespace Go.Proofs.YtbemkefcaceekaaGreatDoor
open Go.RowKit Go.Lib Go.Shelf Go.Proofs.YtbemkefcaceekaaGreatDoorW.PrintWords Go.Proofs.YtbemkefcaceekaaGreatDoorW.PrintLast

set_option maxHeartbeats 4000000 in
theorem take_blue (w0 w : World) (base bm um dm cm hb sb : Nat) (H H' : Hse) (R : V7) (hS : Sh w0 w base bm um dm cm hb sb H R) (s : Stp) (n : Nat) (hn : n < 100) (hrep : s.dot.rep = 0) (hdn : s.dot.n = n) (hred : (decide (5 ≤ s.kind) && decide (s.kind ≤ 7)) = false)
    (hDo : ∀ W, Sh w0 W base bm um dm cm hb sb H R → Calls Tryz.prog 67 #[.pointer (some ⟨hb, 0, none⟩), .agg s.L.toArray] W fun e w' => e = .returned (.int .i64 0) ∧ HAt w' base bm um dm cm hb H' ∧ Chg [hb, bm] W w') :
    Calls Tryz.prog 43 #[.pointer (some ⟨sb, 0, none⟩), .agg s.L.toArray] w fun e w' => e = .returned (.string (showL 0 n)) ∧ Sh w0 w' base bm um dm cm hb sb H' R ∧ Kept w w' := by
  obtain ⟨g, Hg⟩ : ∃ h, Hid (w.heap.size = h) := ⟨_, Lib.hid rfl⟩
  obtain ⟨w1, H1⟩ : ∃ x, Hid (w.alloc (.cells s.L.toArray 86) = x) := ⟨_, Lib.hid rfl⟩
  have x1 : Ext w w1 := by rw [← H1.out]; exact (Ext.refl w).alloc _
  have S1 : StAt w1 g s := by rw [← H1.out, ← Hg.out]; exact StAt.new w s
  have sub : ∀ k ∈ [hb, bm], k ∈ sb :: hb :: bm :: um :: dm :: cm :: redB H.red := by
    intro k hk
    simp only [List.mem_cons, List.not_mem_nil, or_false] at hk ⊢
    rcases hk with rfl | rfl <;> simp
  have hgl : g ∉ [hb, bm] := fun hm => by
    have := Hg.out
    have := hS.lt g (sub g hm)
    omega
  have hsl : sb ∉ [hb, bm] := by
    have := hS.sb_not
    simp only [List.mem_cons, List.not_mem_nil, or_false, not_or] at this ⊢
    exact ⟨this.1, this.2.1⟩
  have hh := Hg.out
  have q1 := H1.out
  have HD := Lib.hid hDo
  have Hred := Lib.hid hred
  have Hrep := Lib.hid hrep
  have Hdn := Lib.hid hdn
  clear hDo hred hrep hdn
  go_enter Tryz.func43, Tryz.ntmps43
  go_wp2_with ((with_reducible refine gate_dst (N := 8) rfl ?_); refine halt ?_)
  clear hh q1
  refine unhalt (wpList_load_mid rfl 86 _ rfl g 0 rfl s.L _ S1.all Tryz.underlying86 rfl (by kernel_rfl) ?_)
  go_wp2_with fail
  refine (red_any s _).mono ?_
  rintro e w2 ⟨rfl, x2⟩
  rw [Hred.out]
  have h2 := hS.extend (x1.trans x2)
  have S2 := S1.ext x2
  have c0 : ∀ W, Chg [hb, bm] w2 W → W.cell? ⟨sb, 0, none⟩ = some (.pointer (some ⟨hb, 0, none⟩)) := fun W k => by
    have b := (k.block sb (Array.getElem?_eq_some_iff.1 h2.blk).1 hsl).trans h2.blk
    simp [World.cell?, b, shL]
  have cT : Chg [hb, bm] w2 w2.drew := Chg.of_ext (Ext.refl w2).drew
  go_wp2_with fail
  refine start_ (n := 7) (S := (fun W => Chg [hb, bm] w2 W)) (ds := []) #[false, false, false, false, false, false, false] (by kernel_rfl) (by kernel_rfl) (by kernel_rfl) (cT) (fun hHeld => ?_)
  refine take_ (i := 0) (N := (some 11)) (v := ?_) (a' := ?_) #[true, false, false, false, false, false, false] rfl rfl (by kernel_rfl) (fun _ _ _ h => h) (Or.inl ⟨by rfl, ?_⟩) (by assumption) ?_ ?_
  rotate_left
  · intro w' hSw; (try dsimp only at hSw)
    go_simp
    try with_reducible rfl
  rotate_left
  · simp only [Act.put, List.setIfInBounds_toArray, List.set_cons_zero, List.set_cons_succ]
    rfl
  refine take_ (i := 1) (N := (some 12)) (v := ?_) (a' := ?_) #[true, true, false, false, false, false, false] rfl rfl (by kernel_rfl) (fun _ _ _ h => h) (Or.inl ⟨by rfl, ?_⟩) (by assumption) ?_ ?_
  rotate_left
  · intro w' hSw; (try dsimp only at hSw)
    go_simp
    try with_reducible rfl
  rotate_left
  · simp only [Act.put, List.setIfInBounds_toArray, List.set_cons_zero, List.set_cons_succ]
    rfl
  refine take_ (i := 2) (N := (some 13)) (v := ?_) (a' := ?_) #[true, true, true, false, false, false, false] rfl rfl (by kernel_rfl) (fun _ _ _ h => h) (Or.inl ⟨by rfl, ?_⟩) (by assumption) ?_ ?_
  rotate_left
  · intro w' hSw; (try dsimp only at hSw)
    go_simp
    try with_reducible rfl
  rotate_left
  · simp only [Act.put, List.setIfInBounds_toArray, List.set_cons_zero, List.set_cons_succ]
    rfl
  refine take_ (i := 3) (N := (some 14)) (v := ?_) (a' := ?_) #[true, true, true, true, false, false, false] rfl rfl (by kernel_rfl) (fun _ _ _ h => h) (Or.inl ⟨by rfl, ?_⟩) (by assumption) ?_ ?_
  rotate_left
  · intro w' hSw; (try dsimp only at hSw)
    go_simp
    try with_reducible rfl
  rotate_left
  · simp only [Act.put, List.setIfInBounds_toArray, List.set_cons_zero, List.set_cons_succ]
    rfl
  refine take_ (i := 4) (N := (some 15)) (v := .agg (s.L).toArray) (a' := ?_) #[true, true, true, true, true, false, false] rfl rfl (by kernel_rfl) (fun _ _ _ h => h) (yieldsIf_load_mid (by rfl) 86 _ rfl g 0 rfl (s.L) _ (fun W hW => range_chg S2.all hW hgl) Tryz.underlying86 rfl (by kernel_rfl)) (by assumption) ?_ ?_
  rotate_left
  · simp only [Act.put, List.setIfInBounds_toArray, List.set_cons_zero, List.set_cons_succ]
    rfl
  refine one_ (i := 5) (N := (some 16)) #[true, true, true, true, true, true, false] rfl rfl (by kernel_rfl) (by simp) (fun K hK => ?_)
  go_simp
  refine (HD.out _ (h2.extend (Ext.refl _).drew)).mono ?_
  rintro e w3 ⟨rfl, hat3, k23⟩
  refine hK.out _ _ ?_ (fun hHeld => ?_)
  · first | assumption | exact hHeld.trans (by assumption)
  clear hK K
  (try simp only [Act.put, List.setIfInBounds_toArray, List.set_cons_zero, List.set_cons_succ])
  refine take_ (i := 6) (N := (some 5)) (v := ?_) (a' := ?_) #[true, true, true, true, true, true, true] rfl rfl (by kernel_rfl) (fun _ _ _ h => h) (Or.inl ⟨by rfl, ?_⟩) (by assumption) ?_ ?_
  rotate_left
  · intro w' hSw; (try dsimp only at hSw)
    go_simp
    try with_reducible rfl
  rotate_left
  · simp only [Act.put, List.setIfInBounds_toArray, List.set_cons_zero, List.set_cons_succ]
    rfl
  refine done_ (by kernel_rfl) ?_
  clear c0
  have k13 := hHeld
  have b3 := (k13.block sb (Array.getElem?_eq_some_iff.1 h2.blk).1 hsl).trans h2.blk
  obtain ⟨h3, kp3⟩ := h2.chg k13 sub hat3 b3
  have S3 : StAt w3 g s := ⟨range_chg S2.all k13 hgl⟩
  have t1 : w3.cell? ⟨g, 1, none⟩ = some (.int .i64 0) := by rw [← Hrep.out]; exact S3.cell 1 _ rfl
  have t2 : w3.cell? ⟨g, 2, none⟩ = some (.int .i64 (n : Int)) := by rw [← Hdn.out]; exact S3.cell 2 _ rfl
  clear S3
  go_wp2_with fail
  refine (show_any 0 n (by omega) hn _).mono ?_
  rintro e w5 ⟨rfl, x5⟩
  have hs5 := h3.extend x5
  have kp5 := ((Kept.of_ext (x1.trans x2)).trans kp3).trans (Kept.of_ext x5)
  go_wp2
  go_ret
  exact ⟨rfl, hs5, kp5⟩
set_option maxHeartbeats 8000000 in
theorem made_blue (w0 w : World) (base bm um dm cm hb sb : Nat) (H : Hse) (R : V7) (hS : Sh w0 w base bm um dm cm hb sb H R) (p q : Nat) (c : Cl) (hp : w.heap[p]? = some (.cells #[.int .i64 0] 2)) (hq : w.heap[q]? = some (.cells c.L.toArray 66))
    (n : Int) (Hn : Hid (n = H.have' 0 + 1)) (h0 : 0 ≤ H.have' 0) (h1 : H.have' 0 ≤ 1000) (hkd : (decide (5 ≤ c.kind) && decide (c.kind ≤ 7)) = false) (o : ByteArray) (Q : World → Prop)
    (hmk : ∀ W, Sh w0 W base bm um dm cm hb sb H R → Calls Tryz.prog 42 #[.pointer (some ⟨hb, 0, none⟩), .agg c.L.toArray, .agg #[.int .i64 0, .int .i64 n]] W fun e w' => e = .returned (.tuple #[.agg (mkS H c ⟨0, n⟩).L.toArray, .int .i64 0]) ∧ Ext W w')
    (htk : ∀ W, Sh w0 W base bm um dm cm hb sb H R → Calls Tryz.prog 43 #[.pointer (some ⟨sb, 0, none⟩), .agg (mkS H c ⟨0, n⟩).L.toArray] W fun e w' => e = .returned (.string o) ∧ Q w' ∧ Kept W w') :
    Calls Tryz.prog 38 #[.pointer (some ⟨sb, 0, none⟩), .pointer (some ⟨p, 0, none⟩), .pointer (some ⟨q, 0, none⟩)] w fun e w' => e = .returned (.string o) ∧ Q w' ∧ Kept w w' := by
  have r0 : ∀ W, Ext w W → W.cell? ⟨p, 0, none⟩ = some (.int .i64 0) := fun W x => x.cell (by simp [World.cell?, hp])
  have r1 : ∀ W, Ext w W → W.cell? ⟨sb, 0, none⟩ = some (.pointer (some ⟨hb, 0, none⟩)) := fun W x => (hS.extend x).cell 0 _ rfl
  have cp0 := r0 w (Ext.refl w)
  have kh := fun W x => have_any W base bm um dm cm hb H (hS.hat.ext x)
  have ki : ∀ W, (Instr.index 57 (.agg #[.int .i64 (H.have' 0), .int .i64 (H.have' 1), .int .i64 (H.have' 2), .int .i64 (H.have' 3), .int .i64 (H.have' 4), .int .i64 (H.have' 5), .int .i64 (H.have' 6)]) (.int .i64 0)).run Tryz.prog W = .ok (.int .i64 (H.have' 0)) W := fun W => run_idx7 Tryz.underlying57 H.have' 0 (by decide) W
  have hwm : IntKind.i64.wrap (H.have' 0 + 1) = H.have' 0 + 1 := by simp (disch := omega) only [IntWalk.i64_in]
  have xT := Ext.refl w
  have Hmk := Lib.hid hmk
  have Htk := Lib.hid htk
  have Hp := Lib.hid hp
  have Hq := Lib.hid hq
  have Hkd := Lib.hid hkd
  clear hmk htk hp hq hkd
  unfold vf at kh
  go_enter Tryz.func38, Tryz.ntmps38
  go_wp2_with fail
  clear cp0
  refine start_ (n := 12) (S := (fun W => Ext w W)) (ds := []) #[false, false, false, false, false, false, false, false, false, false, false, false] (by kernel_rfl) (by kernel_rfl) (by kernel_rfl) (xT.drew) (fun hHeld => ?_)
  refine take_ (i := 0) (N := (some 11)) (v := ?_) (a' := ?_) #[true, false, false, false, false, false, false, false, false, false, false, false] rfl rfl (by kernel_rfl) (fun _ _ _ h => h) (Or.inl ⟨by rfl, ?_⟩) (by assumption) ?_ ?_
  rotate_left
  · intro w' hSw; (try dsimp only at hSw)
    go_simp
    try with_reducible rfl
  rotate_left
  · simp only [Act.put, List.setIfInBounds_toArray, List.set_cons_zero, List.set_cons_succ]
    rfl
  refine take_ (i := 1) (N := (some 12)) (v := ?_) (a' := ?_) #[true, true, false, false, false, false, false, false, false, false, false, false] rfl rfl (by kernel_rfl) (fun _ _ _ h => h) (Or.inl ⟨by rfl, ?_⟩) (by assumption) ?_ ?_
  rotate_left
  · intro w' hSw; (try dsimp only at hSw)
    go_simp
    try with_reducible rfl
  rotate_left
  · simp only [Act.put, List.setIfInBounds_toArray, List.set_cons_zero, List.set_cons_succ]
    rfl
  refine take_ (i := 2) (N := (some 13)) (v := ?_) (a' := ?_) #[true, true, true, false, false, false, false, false, false, false, false, false] rfl rfl (by kernel_rfl) (fun _ _ _ h => h) (Or.inl ⟨by rfl, ?_⟩) (by assumption) ?_ ?_
  rotate_left
  · intro w' hSw; (try dsimp only at hSw)
    go_simp
    try with_reducible rfl
  rotate_left
  · simp only [Act.put, List.setIfInBounds_toArray, List.set_cons_zero, List.set_cons_succ]
    rfl
  refine take_ (i := 3) (N := (some 14)) (v := ?_) (a' := ?_) #[true, true, true, true, false, false, false, false, false, false, false, false] rfl rfl (by kernel_rfl) (fun _ _ _ h => h) (Or.inl ⟨by rfl, ?_⟩) (by assumption) ?_ ?_
  rotate_left
  · intro w' hSw; (try dsimp only at hSw)
    go_simp
    try with_reducible rfl
  rotate_left
  · simp only [Act.put, List.setIfInBounds_toArray, List.set_cons_zero, List.set_cons_succ]
    rfl
  refine take_ (i := 4) (N := (some 15)) (v := ?_) (a' := ?_) #[true, true, true, true, true, false, false, false, false, false, false, false] rfl rfl (by kernel_rfl) (fun _ _ _ h => h) (Or.inl ⟨by rfl, ?_⟩) (by assumption) ?_ ?_
  rotate_left
  · intro w' hSw; (try dsimp only at hSw)
    go_simp
    try with_reducible rfl
  rotate_left
  · simp only [Act.put, List.setIfInBounds_toArray, List.set_cons_zero, List.set_cons_succ]
    rfl
  refine take_ (i := 6) (N := (some 17)) (v := ?_) (a' := ?_) #[true, true, true, true, true, false, true, false, false, false, false, false] rfl rfl (by kernel_rfl) (fun _ _ _ h => h) (Or.inl ⟨by rfl, ?_⟩) (by assumption) ?_ ?_
  rotate_left
  · intro w' hSw; (try dsimp only at hSw)
    go_simp
    try with_reducible rfl
  rotate_left
  · simp only [Act.put, List.setIfInBounds_toArray, List.set_cons_zero, List.set_cons_succ]
    rfl
  refine join_ (σ := Nat) 0 #[true, true, true, true, true, true, true, true, true, true, true, true] (fun s => [(16, .agg #[.int .i64 (H.have' 0), .int .i64 (H.have' 1), .int .i64 (H.have' 2), .int .i64 (H.have' 3), .int .i64 (H.have' 4), .int .i64 (H.have' 5), .int .i64 (H.have' 6)]), (18, .int .i64 (H.have' 0)), (19, .int .i64 (H.have' 0 + 1)), (20, .agg #[.int .i64 0, .int .i64 (H.have' 0 + 1)]), (5, .pointer (some ⟨s, 0, none⟩))]) (fun s W => Ext w W ∧ W.heap[s]? = some (.cells #[.int .i64 0, .int .i64 (H.have' 0 + 1)] 64) ∧ w.heap.size ≤ s) ?_ ?_
  · intro s wj hF
    simp only [putAll, Act.put, List.setIfInBounds_toArray, List.set_cons_zero, List.set_cons_succ]
    refine done_ (by kernel_rfl) ?_
    obtain ⟨xj, bj, hsj⟩ := hF
    have cq : wj.cell? ⟨q, 0, none⟩ = some (.int .i64 c.kind) := by
      have b := (xj.out.block _ (Array.getElem?_eq_some_iff.1 Hq.out).1).trans Hq.out
      simp [World.cell?, b, Cl.L]
    clear r0 r1 kh ki hwm
    go_wp2_with fail
    refine (red_any ⟨c.kind, ⟨0, 0⟩, fun _ => 0, 0, ⟨#[]⟩, ⟨#[]⟩, ⟨0, 0⟩, ⟨0, 0⟩, 0, 0⟩ _).mono ?_
    rintro e w5 ⟨rfl, x5⟩
    dsimp only
    rw [Hkd.out]
    clear cq
    have X5 := xj.trans x5
    have b5 := (x5.out.block _ (Array.getElem?_eq_some_iff.1 bj).1).trans bj
    obtain ⟨w6, hw6⟩ : ∃ x, x = w5 := ⟨_, rfl⟩
    have b6 : w6.heap[s]? = some (.cells #[.int .i64 0, .int .i64 n] 64) := by rw [hw6, Hn.out]; exact b5
    have X6 : Ext w w6 := by rw [hw6]; exact X5
    rw [← hw6]
    clear hw6 b5
    have h6 := hS.extend X6
    have p1 : ∀ W, Ext w6 W → W.cell? ⟨sb, 0, none⟩ = some (.pointer (some ⟨hb, 0, none⟩)) := fun W x => (h6.extend x).cell 0 _ rfl
    have p2 : ∀ W, Ext w6 W → W.cell? ⟨s, 0, none⟩ = some (.int .i64 0) := fun W x => x.cell (by simp [World.cell?, b6])
    have p3 : ∀ W, Ext w6 W → W.cell? ⟨s, 1, none⟩ = some (.int .i64 n) := fun W x => x.cell (by simp [World.cell?, b6])
    have rq : w6.rangeAt q 0 c.L := by
      have b := (X6.out.block _ (Array.getElem?_eq_some_iff.1 Hq.out).1).trans Hq.out
      intro j v hv
      simp only [World.cell?, b, Nat.zero_add]
      simpa using hv
    have km := fun W x => Hmk.out W (h6.extend x)
    have Km := Lib.hid km
    clear km
    have xT6 := Ext.refl w6
    go_wp2_with fail
    refine start_ (n := 13) (S := (fun W => Ext w6 W)) (ds := []) #[false, false, false, false, false, false, false, false, false, false, false, false, false] (by kernel_rfl) (by kernel_rfl) (by kernel_rfl) (xT6.drew) (fun hHeld => ?_)
    refine take_ (i := 0) (N := (some 34)) (v := ?_) (a' := ?_) #[true, false, false, false, false, false, false, false, false, false, false, false, false] rfl rfl (by kernel_rfl) (fun _ _ _ h => h) (Or.inl ⟨by rfl, ?_⟩) (by assumption) ?_ ?_
    rotate_left
    · intro w' hSw; (try dsimp only at hSw)
      go_simp
      try with_reducible rfl
    rotate_left
    · simp only [Act.put, List.setIfInBounds_toArray, List.set_cons_zero, List.set_cons_succ]
      rfl
    refine take_ (i := 1) (N := (some 35)) (v := ?_) (a' := ?_) #[true, true, false, false, false, false, false, false, false, false, false, false, false] rfl rfl (by kernel_rfl) (fun _ _ _ h => h) (Or.inl ⟨by rfl, ?_⟩) (by assumption) ?_ ?_
    rotate_left
    · intro w' hSw; (try dsimp only at hSw)
      go_simp
      try with_reducible rfl
    rotate_left
    · simp only [Act.put, List.setIfInBounds_toArray, List.set_cons_zero, List.set_cons_succ]
      rfl
    refine take_ (i := 2) (N := (some 36)) (v := ?_) (a' := ?_) #[true, true, true, false, false, false, false, false, false, false, false, false, false] rfl rfl (by kernel_rfl) (fun _ _ _ h => h) (Or.inl ⟨by rfl, ?_⟩) (by assumption) ?_ ?_
    rotate_left
    · intro w' hSw; (try dsimp only at hSw)
      go_simp
      try with_reducible rfl
    rotate_left
    · simp only [Act.put, List.setIfInBounds_toArray, List.set_cons_zero, List.set_cons_succ]
      rfl
    refine take_ (i := 3) (N := (some 37)) (v := ?_) (a' := ?_) #[true, true, true, true, false, false, false, false, false, false, false, false, false] rfl rfl (by kernel_rfl) (fun _ _ _ h => h) (Or.inl ⟨by rfl, ?_⟩) (by assumption) ?_ ?_
    rotate_left
    · intro w' hSw; (try dsimp only at hSw)
      go_simp
      try with_reducible rfl
    rotate_left
    · simp only [Act.put, List.setIfInBounds_toArray, List.set_cons_zero, List.set_cons_succ]
      rfl
    refine take_ (i := 4) (N := (some 38)) (v := .agg (c.L).toArray) (a' := ?_) #[true, true, true, true, true, false, false, false, false, false, false, false, false] rfl rfl (by kernel_rfl) (fun _ _ _ h => h) (yieldsIf_load_mid (by rfl) 66 _ rfl q 0 rfl (c.L) _ (fun W hW => rangeAt_ext rq hW) Tryz.underlying66 rfl (by kernel_rfl)) (by assumption) ?_ ?_
    rotate_left
    · simp only [Act.put, List.setIfInBounds_toArray, List.set_cons_zero, List.set_cons_succ]
      rfl
    refine take_ (i := 5) (N := (some 39)) (v := ?_) (a' := ?_) #[true, true, true, true, true, true, false, false, false, false, false, false, false] rfl rfl (by kernel_rfl) (fun _ _ _ h => h) (Or.inl ⟨by rfl, ?_⟩) (by assumption) ?_ ?_
    rotate_left
    · intro w' hSw; (try dsimp only at hSw)
      go_simp
      try with_reducible rfl
    rotate_left
    · simp only [Act.put, List.setIfInBounds_toArray, List.set_cons_zero, List.set_cons_succ]
      rfl
    refine join_ (σ := Nat) 0 #[true, true, true, true, true, true, true, true, true, true, true, true, true] (fun s => [(40, .tuple #[.agg (mkS H c ⟨0, n⟩).L.toArray, .int .i64 0]), (33, .tuple #[.agg (mkS H c ⟨0, n⟩).L.toArray, .int .i64 0]), (41, .agg (mkS H c ⟨0, n⟩).L.toArray), (42, .int .i64 0), (6, .pointer (some ⟨s, 0, none⟩)), (7, .int .i64 0)]) (fun s W => Ext w6 W ∧ W.heap[s]? = some (.cells (mkS H c ⟨0, n⟩).L.toArray 86)) ?_ ?_
    · intro s_1 wk hF
      simp only [putAll, Act.put, List.setIfInBounds_toArray, List.set_cons_zero, List.set_cons_succ]
      refine done_ (by kernel_rfl) ?_
      obtain ⟨xk, bk⟩ := hF
      have Sk := StAt.of_block bk
      clear p1 p2 p3
      go_wp2_with ((with_reducible refine gate_dst (N := 48) rfl ?_); refine halt ?_)
      refine unhalt (wpList_load_mid rfl 86 _ rfl s_1 0 rfl (mkS H c ⟨0, n⟩).L _ Sk.all Tryz.underlying86 rfl (by kernel_rfl) ?_)
      go_wp2_with fail
      refine (Htk.out _ (h6.extend xk)).mono ?_
      rintro e w9 ⟨rfl, hq9, hk9⟩
      have HQ := Lib.hid hq9
      have kp9 := (Kept.of_ext (X6.trans xk)).trans hk9
      clear hq9
      go_wp2
      go_ret
      exact ⟨rfl, HQ.out, kp9⟩
    · intro hJ
      refine two_ (i := 6) (Ni := (some 40)) (j := 10) (Nj := (some 6)) #[true, true, true, true, true, true, true, false, false, false, false, false, false] #[true, true, true, true, true, true, false, false, false, false, true, false, false] rfl rfl rfl rfl (by kernel_rfl) (by simp) (by simp) (fun K hK => ?_) (fun K hK => ?_)
      · go_simp
        refine (Km.out _ (xT6.drew)).mono ?_
        rintro e u1 ⟨rfl, hu1⟩
        refine hK.out _ _ ?_ (fun hHeld => ?_)
        · exact ((xT6.drew).trans hu1)
        clear hK K
        (try simp only [Act.put, List.setIfInBounds_toArray, List.set_cons_zero, List.set_cons_succ])
        refine take_ (i := 7) (N := (some 33)) (v := ?_) (a' := ?_) #[true, true, true, true, true, true, true, true, false, false, false, false, false] rfl rfl (by kernel_rfl) (fun _ _ _ h => h) (Or.inl ⟨by rfl, ?_⟩) (by assumption) ?_ ?_
        rotate_left
        · intro w' hSw; (try dsimp only at hSw)
          go_simp
          try with_reducible rfl
        rotate_left
        · simp only [Act.put, List.setIfInBounds_toArray, List.set_cons_zero, List.set_cons_succ]
          rfl
        refine take_ (i := 8) (N := (some 41)) (v := ?_) (a' := ?_) #[true, true, true, true, true, true, true, true, true, false, false, false, false] rfl rfl (by kernel_rfl) (fun _ _ _ h => h) (Or.inl ⟨by rfl, ?_⟩) (by assumption) ?_ ?_
        rotate_left
        · intro w' hSw; (try dsimp only at hSw)
          go_simp
          try with_reducible rfl
        rotate_left
        · simp only [Act.put, List.setIfInBounds_toArray, List.set_cons_zero, List.set_cons_succ]
          rfl
        refine take_ (i := 9) (N := (some 42)) (v := ?_) (a' := ?_) #[true, true, true, true, true, true, true, true, true, true, false, false, false] rfl rfl (by kernel_rfl) (fun _ _ _ h => h) (Or.inl ⟨by rfl, ?_⟩) (by assumption) ?_ ?_
        rotate_left
        · intro w' hSw; (try dsimp only at hSw)
          go_simp
          try with_reducible rfl
        rotate_left
        · simp only [Act.put, List.setIfInBounds_toArray, List.set_cons_zero, List.set_cons_succ]
          rfl
        refine one_ (i := 10) (N := (some 6)) #[true, true, true, true, true, true, true, true, true, true, true, false, false] rfl rfl (by kernel_rfl) (by simp) (fun K hK => ?_)
        obtain ⟨g2, G2⟩ : ∃ x, Hid ((World.heap u1).size = x) := ⟨_, Lib.hid rfl⟩
        obtain ⟨u2, U2⟩ : ∃ x, Hid ((World.alloc u1 (.cells #[Value.int .i64 0, .int .i64 0, .int .i64 0, .int .i64 0, .int .i64 0, .int .i64 0, .int .i64 0, .int .i64 0, .int .i64 0, .int .i64 0, .int .i64 0, .string ⟨#[]⟩, .string ⟨#[]⟩, .int .i64 0, .int .i64 0, .int .i64 0, .int .i64 0, .int .i64 0, .int .i64 0] 86)) = x) := ⟨_, Lib.hid rfl⟩
        have bu2 : u2.heap[g2]? = some (.cells #[Value.int .i64 0, .int .i64 0, .int .i64 0, .int .i64 0, .int .i64 0, .int .i64 0, .int .i64 0, .int .i64 0, .int .i64 0, .int .i64 0, .int .i64 0, .string ⟨#[]⟩, .string ⟨#[]⟩, .int .i64 0, .int .i64 0, .int .i64 0, .int .i64 0, .int .i64 0, .int .i64 0] 86) := by rw [← U2.out, ← G2.out]; exact Array.getElem?_push_size
        have xu2 : Ext u1 u2 := by rw [← U2.out]; exact ((Ext.refl _).alloc _)
        have hge2 : (World.heap w6).size ≤ g2 := Nat.le_trans (Ext.size (((xT6.drew).trans hu1))) (Nat.le_of_eq G2.out)
        have ru2 := U2.out
        have rg2 := G2.out
        go_simp
        clear ru2 rg2
        refine hK.out _ _ ?_ (fun hHeld => ?_)
        · exact ((((xT6.drew).trans hu1)).trans xu2)
        clear hK K
        (try simp only [Act.put, List.setIfInBounds_toArray, List.set_cons_zero, List.set_cons_succ])
        refine one_ (i := 11) (N := none) #[true, true, true, true, true, true, true, true, true, true, true, true, false] rfl rfl (by kernel_rfl) (by simp) (fun K hK => ?_)
        obtain ⟨u3, hst, bu3, ku3⟩ := store_step (bu2) rfl (mkS H c ⟨0, n⟩)
        have hl : (mkS H c ⟨0, n⟩).L.length = 19 := rfl
        have xu3 : Ext w6 u3 := ku3.toExt (((((xT6.drew).trans hu1)).trans xu2)) (fun k hk => by have e1 : k = g2 := (by simpa using hk); omega)
        go_simp
        clear hst hl
        refine hK.out _ _ ?_ (fun hHeld => ?_)
        · exact xu3
        clear hK K
        (try simp only [Act.put, List.setIfInBounds_toArray, List.set_cons_zero, List.set_cons_succ])
        refine take_ (i := 12) (N := (some 7)) (v := ?_) (a' := ?_) #[true, true, true, true, true, true, true, true, true, true, true, true, true] rfl rfl (by kernel_rfl) (fun _ _ _ h => h) (Or.inl ⟨by rfl, ?_⟩) (by assumption) ?_ ?_
        rotate_left
        · intro w' hSw; (try dsimp only at hSw)
          go_simp
          try with_reducible rfl
        rotate_left
        · simp only [Act.put, List.setIfInBounds_toArray, List.set_cons_zero, List.set_cons_succ]
          rfl
        have hj := hJ g2 u3 ⟨xu3, bu3⟩
        simp only [putAll, Act.put, List.setIfInBounds_toArray, List.set_cons_zero, List.set_cons_succ] at hj
        exact hj
      · obtain ⟨g4, G4⟩ : ∃ x, Hid ((World.heap w6).size = x) := ⟨_, Lib.hid rfl⟩
        obtain ⟨u4, U4⟩ : ∃ x, Hid ((World.alloc w6 (.cells #[Value.int .i64 0, .int .i64 0, .int .i64 0, .int .i64 0, .int .i64 0, .int .i64 0, .int .i64 0, .int .i64 0, .int .i64 0, .int .i64 0, .int .i64 0, .string ⟨#[]⟩, .string ⟨#[]⟩, .int .i64 0, .int .i64 0, .int .i64 0, .int .i64 0, .int .i64 0, .int .i64 0] 86)).drew = x) := ⟨_, Lib.hid rfl⟩
        have bu4 : u4.heap[g4]? = some (.cells #[Value.int .i64 0, .int .i64 0, .int .i64 0, .int .i64 0, .int .i64 0, .int .i64 0, .int .i64 0, .int .i64 0, .int .i64 0, .int .i64 0, .int .i64 0, .string ⟨#[]⟩, .string ⟨#[]⟩, .int .i64 0, .int .i64 0, .int .i64 0, .int .i64 0, .int .i64 0, .int .i64 0] 86) := by rw [← U4.out, ← G4.out]; exact Array.getElem?_push_size
        have xu4 : Ext w6 u4 := by rw [← U4.out]; exact ((Ext.refl _).alloc _).drew
        have hge4 : (World.heap w6).size ≤ g4 := Nat.le_trans (Ext.size (xT6.drew)) (Nat.le_of_eq G4.out)
        have ru4 := U4.out
        have rg4 := G4.out
        go_simp
        clear ru4 rg4
        refine hK.out _ _ ?_ (fun hHeld => ?_)
        · exact xu4
        clear hK K
        (try simp only [Act.put, List.setIfInBounds_toArray, List.set_cons_zero, List.set_cons_succ])
        refine one_ (i := 6) (N := (some 40)) #[true, true, true, true, true, true, true, false, false, false, true, false, false] rfl rfl (by kernel_rfl) (by simp) (fun K hK => ?_)
        go_simp
        refine (Km.out _ (xu4)).mono ?_
        rintro e u5 ⟨rfl, hu5⟩
        refine hK.out _ _ ?_ (fun hHeld => ?_)
        · exact ((xu4).trans hu5)
        clear hK K
        (try simp only [Act.put, List.setIfInBounds_toArray, List.set_cons_zero, List.set_cons_succ])
        refine take_ (i := 7) (N := (some 33)) (v := ?_) (a' := ?_) #[true, true, true, true, true, true, true, true, false, false, true, false, false] rfl rfl (by kernel_rfl) (fun _ _ _ h => h) (Or.inl ⟨by rfl, ?_⟩) (by assumption) ?_ ?_
        rotate_left
        · intro w' hSw; (try dsimp only at hSw)
          go_simp
          try with_reducible rfl
        rotate_left
        · simp only [Act.put, List.setIfInBounds_toArray, List.set_cons_zero, List.set_cons_succ]
          rfl
        refine take_ (i := 8) (N := (some 41)) (v := ?_) (a' := ?_) #[true, true, true, true, true, true, true, true, true, false, true, false, false] rfl rfl (by kernel_rfl) (fun _ _ _ h => h) (Or.inl ⟨by rfl, ?_⟩) (by assumption) ?_ ?_
        rotate_left
        · intro w' hSw; (try dsimp only at hSw)
          go_simp
          try with_reducible rfl
        rotate_left
        · simp only [Act.put, List.setIfInBounds_toArray, List.set_cons_zero, List.set_cons_succ]
          rfl
        refine take_ (i := 9) (N := (some 42)) (v := ?_) (a' := ?_) #[true, true, true, true, true, true, true, true, true, true, true, false, false] rfl rfl (by kernel_rfl) (fun _ _ _ h => h) (Or.inl ⟨by rfl, ?_⟩) (by assumption) ?_ ?_
        rotate_left
        · intro w' hSw; (try dsimp only at hSw)
          go_simp
          try with_reducible rfl
        rotate_left
        · simp only [Act.put, List.setIfInBounds_toArray, List.set_cons_zero, List.set_cons_succ]
          rfl
        refine one_ (i := 11) (N := none) #[true, true, true, true, true, true, true, true, true, true, true, true, false] rfl rfl (by kernel_rfl) (by simp) (fun K hK => ?_)
        obtain ⟨u6, hst, bu6, ku6⟩ := store_step (((hu5.out.block _ (Array.getElem?_eq_some_iff.1 bu4).1).trans bu4)) rfl (mkS H c ⟨0, n⟩)
        have hl : (mkS H c ⟨0, n⟩).L.length = 19 := rfl
        have xu6 : Ext w6 u6 := ku6.toExt (((xu4).trans hu5)) (fun k hk => by have e1 : k = g4 := (by simpa using hk); omega)
        go_simp
        clear hst hl
        refine hK.out _ _ ?_ (fun hHeld => ?_)
        · exact xu6
        clear hK K
        (try simp only [Act.put, List.setIfInBounds_toArray, List.set_cons_zero, List.set_cons_succ])
        refine take_ (i := 12) (N := (some 7)) (v := ?_) (a' := ?_) #[true, true, true, true, true, true, true, true, true, true, true, true, true] rfl rfl (by kernel_rfl) (fun _ _ _ h => h) (Or.inl ⟨by rfl, ?_⟩) (by assumption) ?_ ?_
        rotate_left
        · intro w' hSw; (try dsimp only at hSw)
          go_simp
          try with_reducible rfl
        rotate_left
        · simp only [Act.put, List.setIfInBounds_toArray, List.set_cons_zero, List.set_cons_succ]
          rfl
        have hj := hJ g4 u6 ⟨xu6, bu6⟩
        simp only [putAll, Act.put, List.setIfInBounds_toArray, List.set_cons_zero, List.set_cons_succ] at hj
        exact hj
  · intro hJ
    refine two_ (i := 5) (Ni := (some 16)) (j := 10) (Nj := (some 5)) #[true, true, true, true, true, true, true, false, false, false, false, false] #[true, true, true, true, true, false, true, false, false, false, true, false] rfl rfl rfl rfl (by kernel_rfl) (by simp) (by simp) (fun K hK => ?_) (fun K hK => ?_)
    · go_simp
      refine (kh _ (xT.drew)).mono ?_
      rintro e u1 ⟨rfl, hu1⟩
      refine hK.out _ _ ?_ (fun hHeld => ?_)
      · exact ((xT.drew).trans hu1)
      clear hK K
      (try simp only [Act.put, List.setIfInBounds_toArray, List.set_cons_zero, List.set_cons_succ])
      refine take_ (i := 7) (N := (some 18)) (v := ?_) (a' := ?_) #[true, true, true, true, true, true, true, true, false, false, false, false] rfl rfl (by kernel_rfl) (fun _ _ _ h => h) (Or.inl ⟨by rfl, ?_⟩) (by assumption) ?_ ?_
      rotate_left
      · intro w' hSw; (try dsimp only at hSw)
        go_simp
        try with_reducible rfl
      rotate_left
      · simp only [Act.put, List.setIfInBounds_toArray, List.set_cons_zero, List.set_cons_succ]
        rfl
      refine take_ (i := 8) (N := (some 19)) (v := ?_) (a' := ?_) #[true, true, true, true, true, true, true, true, true, false, false, false] rfl rfl (by kernel_rfl) (fun _ _ _ h => h) (Or.inl ⟨by rfl, ?_⟩) (by assumption) ?_ ?_
      rotate_left
      · intro w' hSw; (try dsimp only at hSw)
        go_simp
        try with_reducible rfl
      rotate_left
      · simp only [Act.put, List.setIfInBounds_toArray, List.set_cons_zero, List.set_cons_succ]
        rfl
      refine take_ (i := 9) (N := (some 20)) (v := ?_) (a' := ?_) #[true, true, true, true, true, true, true, true, true, true, false, false] rfl rfl (by kernel_rfl) (fun _ _ _ h => h) (Or.inl ⟨by rfl, ?_⟩) (by assumption) ?_ ?_
      rotate_left
      · intro w' hSw; (try dsimp only at hSw)
        go_simp
        try with_reducible rfl
      rotate_left
      · simp only [Act.put, List.setIfInBounds_toArray, List.set_cons_zero, List.set_cons_succ]
        rfl
      refine one_ (i := 10) (N := (some 5)) #[true, true, true, true, true, true, true, true, true, true, true, false] rfl rfl (by kernel_rfl) (by simp) (fun K hK => ?_)
      obtain ⟨g2, G2⟩ : ∃ x, Hid ((World.heap u1).size = x) := ⟨_, Lib.hid rfl⟩
      obtain ⟨u2, U2⟩ : ∃ x, Hid ((World.alloc u1 (.cells #[Value.int .i64 0, .int .i64 0] 64)) = x) := ⟨_, Lib.hid rfl⟩
      have bu2 : u2.heap[g2]? = some (.cells #[Value.int .i64 0, .int .i64 0] 64) := by rw [← U2.out, ← G2.out]; exact Array.getElem?_push_size
      have xu2 : Ext u1 u2 := by rw [← U2.out]; exact ((Ext.refl _).alloc _)
      have hge2 : (World.heap w).size ≤ g2 := Nat.le_trans (Ext.size (((xT.drew).trans hu1))) (Nat.le_of_eq G2.out)
      have ru2 := U2.out
      have rg2 := G2.out
      go_simp
      clear ru2 rg2
      refine hK.out _ _ ?_ (fun hHeld => ?_)
      · exact ((((xT.drew).trans hu1)).trans xu2)
      clear hK K
      (try simp only [Act.put, List.setIfInBounds_toArray, List.set_cons_zero, List.set_cons_succ])
      refine one_ (i := 11) (N := none) #[true, true, true, true, true, true, true, true, true, true, true, true] rfl rfl (by kernel_rfl) (by simp) (fun K hK => ?_)
      have bb3 : u2.heap[g2]? = some (.cells #[Value.int .i64 0, .int .i64 0] 64) := bu2
      have sc3_0 : u2.cell? ⟨g2, 0, none⟩ = some (Value.int .i64 0) := by simp [World.cell?, bb3]
      have sf3_0 : u2.frozen? ⟨g2, 0, none⟩ = false := by simp [World.frozen?, bb3]
      have sc3_1 : u2.cell? ⟨g2, 1, none⟩ = some (.int .i64 0) := by simp [World.cell?, bb3]
      have sf3_1 : u2.frozen? ⟨g2, 1, none⟩ = false := by simp [World.frozen?, bb3]
      obtain ⟨u3, U3⟩ : ∃ x, Hid ((World.setCell (World.setCell u2 ⟨g2, 0, none⟩ (Value.int .i64 0)) ⟨g2, 1, none⟩ (.int .i64 (H.have' 0 + 1))) = x) := ⟨_, Lib.hid rfl⟩
      have bu3 : u3.heap[g2]? = some (.cells #[Value.int .i64 0, .int .i64 (H.have' 0 + 1)] 64) := by rw [← U3.out]; exact (blk_set (blk_set bb3 0 _) 1 _)
      have xu3 : Ext w u3 := by rw [← U3.out]; exact (Ext.setCell (Ext.setCell ((((xT.drew).trans hu1)).trans xu2) (p := ⟨g2, 0, none⟩) hge2 _) (p := ⟨g2, 1, none⟩) hge2 _)
      have ru3 := U3.out
      go_simp
      clear ru3 sc3_0 sf3_0 sc3_1 sf3_1
      refine hK.out _ _ ?_ (fun hHeld => ?_)
      · exact xu3
      clear hK K
      (try simp only [Act.put, List.setIfInBounds_toArray, List.set_cons_zero, List.set_cons_succ])
      have hj := hJ g2 u3 ⟨xu3, bu3, hge2⟩
      simp only [putAll, Act.put, List.setIfInBounds_toArray, List.set_cons_zero, List.set_cons_succ] at hj
      exact hj
    · obtain ⟨g4, G4⟩ : ∃ x, Hid ((World.heap w).size = x) := ⟨_, Lib.hid rfl⟩
      obtain ⟨u4, U4⟩ : ∃ x, Hid ((World.alloc w (.cells #[Value.int .i64 0, .int .i64 0] 64)).drew = x) := ⟨_, Lib.hid rfl⟩
      have bu4 : u4.heap[g4]? = some (.cells #[Value.int .i64 0, .int .i64 0] 64) := by rw [← U4.out, ← G4.out]; exact Array.getElem?_push_size
      have xu4 : Ext w u4 := by rw [← U4.out]; exact ((Ext.refl _).alloc _).drew
      have hge4 : (World.heap w).size ≤ g4 := Nat.le_trans (Ext.size (xT.drew)) (Nat.le_of_eq G4.out)
      have ru4 := U4.out
      have rg4 := G4.out
      go_simp
      clear ru4 rg4
      refine hK.out _ _ ?_ (fun hHeld => ?_)
      · exact xu4
      clear hK K
      (try simp only [Act.put, List.setIfInBounds_toArray, List.set_cons_zero, List.set_cons_succ])
      refine one_ (i := 5) (N := (some 16)) #[true, true, true, true, true, true, true, false, false, false, true, false] rfl rfl (by kernel_rfl) (by simp) (fun K hK => ?_)
      go_simp
      refine (kh _ (xu4)).mono ?_
      rintro e u5 ⟨rfl, hu5⟩
      refine hK.out _ _ ?_ (fun hHeld => ?_)
      · exact ((xu4).trans hu5)
      clear hK K
      (try simp only [Act.put, List.setIfInBounds_toArray, List.set_cons_zero, List.set_cons_succ])
      refine take_ (i := 7) (N := (some 18)) (v := ?_) (a' := ?_) #[true, true, true, true, true, true, true, true, false, false, true, false] rfl rfl (by kernel_rfl) (fun _ _ _ h => h) (Or.inl ⟨by rfl, ?_⟩) (by assumption) ?_ ?_
      rotate_left
      · intro w' hSw; (try dsimp only at hSw)
        go_simp
        try with_reducible rfl
      rotate_left
      · simp only [Act.put, List.setIfInBounds_toArray, List.set_cons_zero, List.set_cons_succ]
        rfl
      refine take_ (i := 8) (N := (some 19)) (v := ?_) (a' := ?_) #[true, true, true, true, true, true, true, true, true, false, true, false] rfl rfl (by kernel_rfl) (fun _ _ _ h => h) (Or.inl ⟨by rfl, ?_⟩) (by assumption) ?_ ?_
      rotate_left
      · intro w' hSw; (try dsimp only at hSw)
        go_simp
        try with_reducible rfl
      rotate_left
      · simp only [Act.put, List.setIfInBounds_toArray, List.set_cons_zero, List.set_cons_succ]
        rfl
      refine take_ (i := 9) (N := (some 20)) (v := ?_) (a' := ?_) #[true, true, true, true, true, true, true, true, true, true, true, false] rfl rfl (by kernel_rfl) (fun _ _ _ h => h) (Or.inl ⟨by rfl, ?_⟩) (by assumption) ?_ ?_
      rotate_left
      · intro w' hSw; (try dsimp only at hSw)
        go_simp
        try with_reducible rfl
      rotate_left
      · simp only [Act.put, List.setIfInBounds_toArray, List.set_cons_zero, List.set_cons_succ]
        rfl
      refine one_ (i := 11) (N := none) #[true, true, true, true, true, true, true, true, true, true, true, true] rfl rfl (by kernel_rfl) (by simp) (fun K hK => ?_)
      have bb6 : u5.heap[g4]? = some (.cells #[Value.int .i64 0, .int .i64 0] 64) := ((hu5.out.block _ (Array.getElem?_eq_some_iff.1 bu4).1).trans bu4)
      have sc6_0 : u5.cell? ⟨g4, 0, none⟩ = some (Value.int .i64 0) := by simp [World.cell?, bb6]
      have sf6_0 : u5.frozen? ⟨g4, 0, none⟩ = false := by simp [World.frozen?, bb6]
      have sc6_1 : u5.cell? ⟨g4, 1, none⟩ = some (.int .i64 0) := by simp [World.cell?, bb6]
      have sf6_1 : u5.frozen? ⟨g4, 1, none⟩ = false := by simp [World.frozen?, bb6]
      obtain ⟨u6, U6⟩ : ∃ x, Hid ((World.setCell (World.setCell u5 ⟨g4, 0, none⟩ (Value.int .i64 0)) ⟨g4, 1, none⟩ (.int .i64 (H.have' 0 + 1))) = x) := ⟨_, Lib.hid rfl⟩
      have bu6 : u6.heap[g4]? = some (.cells #[Value.int .i64 0, .int .i64 (H.have' 0 + 1)] 64) := by rw [← U6.out]; exact (blk_set (blk_set bb6 0 _) 1 _)
      have xu6 : Ext w u6 := by rw [← U6.out]; exact (Ext.setCell (Ext.setCell ((xu4).trans hu5) (p := ⟨g4, 0, none⟩) hge4 _) (p := ⟨g4, 1, none⟩) hge4 _)
      have ru6 := U6.out
      go_simp
      clear ru6 sc6_0 sf6_0 sc6_1 sf6_1
      refine hK.out _ _ ?_ (fun hHeld => ?_)
      · exact xu6
      clear hK K
      (try simp only [Act.put, List.setIfInBounds_toArray, List.set_cons_zero, List.set_cons_succ])
      have hj := hJ g4 u6 ⟨xu6, bu6, hge4⟩
      simp only [putAll, Act.put, List.setIfInBounds_toArray, List.set_cons_zero, List.set_cons_succ] at hj
      exact hj
set_option maxHeartbeats 8000000 in
theorem made_red (w0 w : World) (base bm um dm cm hb sb : Nat) (H : Hse) (R : V7) (hS : Sh w0 w base bm um dm cm hb sb H R) (p q : Nat) (c : Cl) (hp : w.heap[p]? = some (.cells #[.int .i64 0] 2)) (hq : w.heap[q]? = some (.cells c.L.toArray 66))
    (n : Int) (Hn : Hid (n = R 0 + 1)) (hR0 : 0 ≤ R 0) (hR1 : R 0 ≤ 1000) (h0 : 0 ≤ H.have' 0) (h1 : H.have' 0 ≤ 1000) (hkd : (decide (5 ≤ c.kind) && decide (c.kind ≤ 7)) = true) (o : ByteArray) (Q : World → Prop)
    (hmk : ∀ W, Sh w0 W base bm um dm cm hb sb H R → Calls Tryz.prog 42 #[.pointer (some ⟨hb, 0, none⟩), .agg c.L.toArray, .agg #[.int .i64 0, .int .i64 n]] W fun e w' => e = .returned (.tuple #[.agg (mkS H c ⟨0, n⟩).L.toArray, .int .i64 0]) ∧ Ext W w')
    (htk : ∀ W, Sh w0 W base bm um dm cm hb sb H R → Calls Tryz.prog 43 #[.pointer (some ⟨sb, 0, none⟩), .agg (mkS H c ⟨0, n⟩).L.toArray] W fun e w' => e = .returned (.string o) ∧ Q w' ∧ Kept W w') :
    Calls Tryz.prog 38 #[.pointer (some ⟨sb, 0, none⟩), .pointer (some ⟨p, 0, none⟩), .pointer (some ⟨q, 0, none⟩)] w fun e w' => e = .returned (.string o) ∧ Q w' ∧ Kept w w' := by
  have r0 : ∀ W, Ext w W → W.cell? ⟨p, 0, none⟩ = some (.int .i64 0) := fun W x => x.cell (by simp [World.cell?, hp])
  have r1 : ∀ W, Ext w W → W.cell? ⟨sb, 0, none⟩ = some (.pointer (some ⟨hb, 0, none⟩)) := fun W x => (hS.extend x).cell 0 _ rfl
  have cp0 := r0 w (Ext.refl w)
  have kh := fun W x => have_any W base bm um dm cm hb H (hS.hat.ext x)
  have ki : ∀ W, (Instr.index 57 (.agg #[.int .i64 (H.have' 0), .int .i64 (H.have' 1), .int .i64 (H.have' 2), .int .i64 (H.have' 3), .int .i64 (H.have' 4), .int .i64 (H.have' 5), .int .i64 (H.have' 6)]) (.int .i64 0)).run Tryz.prog W = .ok (.int .i64 (H.have' 0)) W := fun W => run_idx7 Tryz.underlying57 H.have' 0 (by decide) W
  have hwm : IntKind.i64.wrap (H.have' 0 + 1) = H.have' 0 + 1 := by simp (disch := omega) only [IntWalk.i64_in]
  have xT := Ext.refl w
  have Hmk := Lib.hid hmk
  have Htk := Lib.hid htk
  have Hp := Lib.hid hp
  have Hq := Lib.hid hq
  have Hkd := Lib.hid hkd
  clear hmk htk hp hq hkd
  unfold vf at kh
  go_enter Tryz.func38, Tryz.ntmps38
  go_wp2_with fail
  clear cp0
  refine start_ (n := 12) (S := (fun W => Ext w W)) (ds := []) #[false, false, false, false, false, false, false, false, false, false, false, false] (by kernel_rfl) (by kernel_rfl) (by kernel_rfl) (xT.drew) (fun hHeld => ?_)
  refine take_ (i := 0) (N := (some 11)) (v := ?_) (a' := ?_) #[true, false, false, false, false, false, false, false, false, false, false, false] rfl rfl (by kernel_rfl) (fun _ _ _ h => h) (Or.inl ⟨by rfl, ?_⟩) (by assumption) ?_ ?_
  rotate_left
  · intro w' hSw; (try dsimp only at hSw)
    go_simp
    try with_reducible rfl
  rotate_left
  · simp only [Act.put, List.setIfInBounds_toArray, List.set_cons_zero, List.set_cons_succ]
    rfl
  refine take_ (i := 1) (N := (some 12)) (v := ?_) (a' := ?_) #[true, true, false, false, false, false, false, false, false, false, false, false] rfl rfl (by kernel_rfl) (fun _ _ _ h => h) (Or.inl ⟨by rfl, ?_⟩) (by assumption) ?_ ?_
  rotate_left
  · intro w' hSw; (try dsimp only at hSw)
    go_simp
    try with_reducible rfl
  rotate_left
  · simp only [Act.put, List.setIfInBounds_toArray, List.set_cons_zero, List.set_cons_succ]
    rfl
  refine take_ (i := 2) (N := (some 13)) (v := ?_) (a' := ?_) #[true, true, true, false, false, false, false, false, false, false, false, false] rfl rfl (by kernel_rfl) (fun _ _ _ h => h) (Or.inl ⟨by rfl, ?_⟩) (by assumption) ?_ ?_
  rotate_left
  · intro w' hSw; (try dsimp only at hSw)
    go_simp
    try with_reducible rfl
  rotate_left
  · simp only [Act.put, List.setIfInBounds_toArray, List.set_cons_zero, List.set_cons_succ]
    rfl
  refine take_ (i := 3) (N := (some 14)) (v := ?_) (a' := ?_) #[true, true, true, true, false, false, false, false, false, false, false, false] rfl rfl (by kernel_rfl) (fun _ _ _ h => h) (Or.inl ⟨by rfl, ?_⟩) (by assumption) ?_ ?_
  rotate_left
  · intro w' hSw; (try dsimp only at hSw)
    go_simp
    try with_reducible rfl
  rotate_left
  · simp only [Act.put, List.setIfInBounds_toArray, List.set_cons_zero, List.set_cons_succ]
    rfl
  refine take_ (i := 4) (N := (some 15)) (v := ?_) (a' := ?_) #[true, true, true, true, true, false, false, false, false, false, false, false] rfl rfl (by kernel_rfl) (fun _ _ _ h => h) (Or.inl ⟨by rfl, ?_⟩) (by assumption) ?_ ?_
  rotate_left
  · intro w' hSw; (try dsimp only at hSw)
    go_simp
    try with_reducible rfl
  rotate_left
  · simp only [Act.put, List.setIfInBounds_toArray, List.set_cons_zero, List.set_cons_succ]
    rfl
  refine take_ (i := 6) (N := (some 17)) (v := ?_) (a' := ?_) #[true, true, true, true, true, false, true, false, false, false, false, false] rfl rfl (by kernel_rfl) (fun _ _ _ h => h) (Or.inl ⟨by rfl, ?_⟩) (by assumption) ?_ ?_
  rotate_left
  · intro w' hSw; (try dsimp only at hSw)
    go_simp
    try with_reducible rfl
  rotate_left
  · simp only [Act.put, List.setIfInBounds_toArray, List.set_cons_zero, List.set_cons_succ]
    rfl
  refine join_ (σ := Nat) 0 #[true, true, true, true, true, true, true, true, true, true, true, true] (fun s => [(16, .agg #[.int .i64 (H.have' 0), .int .i64 (H.have' 1), .int .i64 (H.have' 2), .int .i64 (H.have' 3), .int .i64 (H.have' 4), .int .i64 (H.have' 5), .int .i64 (H.have' 6)]), (18, .int .i64 (H.have' 0)), (19, .int .i64 (H.have' 0 + 1)), (20, .agg #[.int .i64 0, .int .i64 (H.have' 0 + 1)]), (5, .pointer (some ⟨s, 0, none⟩))]) (fun s W => Ext w W ∧ W.heap[s]? = some (.cells #[.int .i64 0, .int .i64 (H.have' 0 + 1)] 64) ∧ w.heap.size ≤ s) ?_ ?_
  · intro s wj hF
    simp only [putAll, Act.put, List.setIfInBounds_toArray, List.set_cons_zero, List.set_cons_succ]
    refine done_ (by kernel_rfl) ?_
    obtain ⟨xj, bj, hsj⟩ := hF
    have cq : wj.cell? ⟨q, 0, none⟩ = some (.int .i64 c.kind) := by
      have b := (xj.out.block _ (Array.getElem?_eq_some_iff.1 Hq.out).1).trans Hq.out
      simp [World.cell?, b, Cl.L]
    clear r0 r1 kh ki hwm
    go_wp2_with fail
    refine (red_any ⟨c.kind, ⟨0, 0⟩, fun _ => 0, 0, ⟨#[]⟩, ⟨#[]⟩, ⟨0, 0⟩, ⟨0, 0⟩, 0, 0⟩ _).mono ?_
    rintro e w5 ⟨rfl, x5⟩
    dsimp only
    rw [Hkd.out]
    clear cq
    have X5 := xj.trans x5
    have b5 := (x5.out.block _ (Array.getElem?_eq_some_iff.1 bj).1).trans bj
    have h5 := hS.extend X5
    have p0 : ∀ W, Ext w5 W → W.cell? ⟨p, 0, none⟩ = some (.int .i64 0) := fun W x => (X5.trans x).cell (by simp [World.cell?, Hp.out])
    have p1 : ∀ W, Ext w5 W → W.cell? ⟨sb, 1, none⟩ = some (.int .i64 (R 0)) := fun W x => (h5.extend x).cell 1 _ rfl
    have hwm : IntKind.i64.wrap (R 0 + 1) = R 0 + 1 := by simp (disch := omega) only [IntWalk.i64_in]
    have f5 : w5.frozen? ⟨s, 1, none⟩ = false := by simp [World.frozen?, b5]
    have c5 : w5.cell? ⟨s, 1, none⟩ = some (.int .i64 (H.have' 0 + 1)) := by simp [World.cell?, b5]
    obtain ⟨w6s, U6⟩ : ∃ x, Hid (w5.setCell ⟨s, 1, none⟩ (.int .i64 (R 0 + 1)) = x) := ⟨_, Lib.hid rfl⟩
    have ru := U6.out
    have xT5 := Ext.refl w5
    go_wp2_with fail
    refine start_ (n := 9) (S := (fun W => Ext w5 W)) (ds := [8]) #[false, false, false, false, false, false, false, false, false] (by kernel_rfl) (by kernel_rfl) (by kernel_rfl) (xT5.drew) (fun hHeld => ?_)
    refine take_ (i := 0) (N := (some 25)) (v := ?_) (a' := ?_) #[true, false, false, false, false, false, false, false, false] rfl rfl (by kernel_rfl) (fun _ _ _ h => h) (Or.inl ⟨by rfl, ?_⟩) (by assumption) ?_ ?_
    rotate_left
    · intro w' hSw; (try dsimp only at hSw)
      go_simp
      try with_reducible rfl
    rotate_left
    · simp only [Act.put, List.setIfInBounds_toArray, List.set_cons_zero, List.set_cons_succ]
      rfl
    refine take_ (i := 1) (N := (some 26)) (v := ?_) (a' := ?_) #[true, true, false, false, false, false, false, false, false] rfl rfl (by kernel_rfl) (fun _ _ _ h => h) (Or.inl ⟨by rfl, ?_⟩) (by assumption) ?_ ?_
    rotate_left
    · intro w' hSw; (try dsimp only at hSw)
      go_simp
      try with_reducible rfl
    rotate_left
    · simp only [Act.put, List.setIfInBounds_toArray, List.set_cons_zero, List.set_cons_succ]
      rfl
    refine take_ (i := 2) (N := (some 27)) (v := ?_) (a' := ?_) #[true, true, true, false, false, false, false, false, false] rfl rfl (by kernel_rfl) (fun _ _ _ h => h) (Or.inl ⟨by rfl, ?_⟩) (by assumption) ?_ ?_
    rotate_left
    · intro w' hSw; (try dsimp only at hSw)
      go_simp
      try with_reducible rfl
    rotate_left
    · simp only [Act.put, List.setIfInBounds_toArray, List.set_cons_zero, List.set_cons_succ]
      rfl
    refine take_ (i := 3) (N := (some 28)) (v := ?_) (a' := ?_) #[true, true, true, true, false, false, false, false, false] rfl rfl (by kernel_rfl) (fun _ _ _ h => h) (Or.inl ⟨by rfl, ?_⟩) (by assumption) ?_ ?_
    rotate_left
    · intro w' hSw; (try dsimp only at hSw)
      go_simp
      try with_reducible rfl
    rotate_left
    · simp only [Act.put, List.setIfInBounds_toArray, List.set_cons_zero, List.set_cons_succ]
      rfl
    refine take_ (i := 4) (N := (some 29)) (v := ?_) (a' := ?_) #[true, true, true, true, true, false, false, false, false] rfl rfl (by kernel_rfl) (fun _ _ _ h => h) (Or.inl ⟨by rfl, ?_⟩) (by assumption) ?_ ?_
    rotate_left
    · intro w' hSw; (try dsimp only at hSw)
      go_simp
      try with_reducible rfl
    rotate_left
    · simp only [Act.put, List.setIfInBounds_toArray, List.set_cons_zero, List.set_cons_succ]
      rfl
    refine take_ (i := 5) (N := (some 30)) (v := ?_) (a' := ?_) #[true, true, true, true, true, true, false, false, false] rfl rfl (by kernel_rfl) (fun _ _ _ h => h) (Or.inl ⟨by rfl, ?_⟩) (by assumption) ?_ ?_
    rotate_left
    · intro w' hSw; (try dsimp only at hSw)
      go_simp
      try with_reducible rfl
    rotate_left
    · simp only [Act.put, List.setIfInBounds_toArray, List.set_cons_zero, List.set_cons_succ]
      rfl
    refine take_ (i := 6) (N := (some 31)) (v := ?_) (a' := ?_) #[true, true, true, true, true, true, true, false, false] rfl rfl (by kernel_rfl) (fun _ _ _ h => h) (Or.inl ⟨by rfl, ?_⟩) (by assumption) ?_ ?_
    rotate_left
    · intro w' hSw; (try dsimp only at hSw)
      go_simp
      try with_reducible rfl
    rotate_left
    · simp only [Act.put, List.setIfInBounds_toArray, List.set_cons_zero, List.set_cons_succ]
      rfl
    refine take_ (i := 7) (N := (some 32)) (v := ?_) (a' := ?_) #[true, true, true, true, true, true, true, true, false] rfl rfl (by kernel_rfl) (fun _ _ _ h => h) (Or.inl ⟨by rfl, ?_⟩) (by assumption) ?_ ?_
    rotate_left
    · intro w' hSw; (try dsimp only at hSw)
      go_simp
      try with_reducible rfl
    rotate_left
    · simp only [Act.put, List.setIfInBounds_toArray, List.set_cons_zero, List.set_cons_succ]
      rfl
    refine last_ (i := 8) (N := none) #[true, true, true, true, true, true, true, true, true] rfl rfl (by kernel_rfl) (by simp) (fun K hK => ?_)
    go_simp
    clear ru
    refine hK.out _ _ ?_
    clear hK K
    (try simp only [Act.put, List.setIfInBounds_toArray, List.set_cons_zero, List.set_cons_succ])
    refine done_ (by kernel_rfl) ?_
    have b6s : w6s.drew.heap[s]? = some (.cells #[.int .i64 0, .int .i64 n] 64) := by
      rw [Hn.out, ← U6.out]
      exact blk_set b5 1 _
    have X6s : Ext w w6s.drew := by
      rw [← U6.out]
      exact (X5.setCell (p := ⟨s, 1, none⟩) hsj _).drew
    obtain ⟨w6, W6e⟩ : ∃ x, Hid (w6s.drew = x) := ⟨_, Lib.hid rfl⟩
    have b6 : w6.heap[s]? = some (.cells #[.int .i64 0, .int .i64 n] 64) := by rw [← W6e.out]; exact b6s
    have X6 : Ext w w6 := by rw [← W6e.out]; exact X6s
    rw [W6e.out]
    clear b5 b6s X6s p0 p1 f5 c5 hwm
    have h6 := hS.extend X6
    have p1 : ∀ W, Ext w6 W → W.cell? ⟨sb, 0, none⟩ = some (.pointer (some ⟨hb, 0, none⟩)) := fun W x => (h6.extend x).cell 0 _ rfl
    have p2 : ∀ W, Ext w6 W → W.cell? ⟨s, 0, none⟩ = some (.int .i64 0) := fun W x => x.cell (by simp [World.cell?, b6])
    have p3 : ∀ W, Ext w6 W → W.cell? ⟨s, 1, none⟩ = some (.int .i64 n) := fun W x => x.cell (by simp [World.cell?, b6])
    have rq : w6.rangeAt q 0 c.L := by
      have b := (X6.out.block _ (Array.getElem?_eq_some_iff.1 Hq.out).1).trans Hq.out
      intro j v hv
      simp only [World.cell?, b, Nat.zero_add]
      simpa using hv
    have km := fun W x => Hmk.out W (h6.extend x)
    have Km := Lib.hid km
    clear km
    have xT6 := Ext.refl w6
    go_wp2_with fail
    refine start_ (n := 13) (S := (fun W => Ext w6 W)) (ds := []) #[false, false, false, false, false, false, false, false, false, false, false, false, false] (by kernel_rfl) (by kernel_rfl) (by kernel_rfl) (xT6.drew) (fun hHeld => ?_)
    refine take_ (i := 0) (N := (some 34)) (v := ?_) (a' := ?_) #[true, false, false, false, false, false, false, false, false, false, false, false, false] rfl rfl (by kernel_rfl) (fun _ _ _ h => h) (Or.inl ⟨by rfl, ?_⟩) (by assumption) ?_ ?_
    rotate_left
    · intro w' hSw; (try dsimp only at hSw)
      go_simp
      try with_reducible rfl
    rotate_left
    · simp only [Act.put, List.setIfInBounds_toArray, List.set_cons_zero, List.set_cons_succ]
      rfl
    refine take_ (i := 1) (N := (some 35)) (v := ?_) (a' := ?_) #[true, true, false, false, false, false, false, false, false, false, false, false, false] rfl rfl (by kernel_rfl) (fun _ _ _ h => h) (Or.inl ⟨by rfl, ?_⟩) (by assumption) ?_ ?_
    rotate_left
    · intro w' hSw; (try dsimp only at hSw)
      go_simp
      try with_reducible rfl
    rotate_left
    · simp only [Act.put, List.setIfInBounds_toArray, List.set_cons_zero, List.set_cons_succ]
      rfl
    refine take_ (i := 2) (N := (some 36)) (v := ?_) (a' := ?_) #[true, true, true, false, false, false, false, false, false, false, false, false, false] rfl rfl (by kernel_rfl) (fun _ _ _ h => h) (Or.inl ⟨by rfl, ?_⟩) (by assumption) ?_ ?_
    rotate_left
    · intro w' hSw; (try dsimp only at hSw)
      go_simp
      try with_reducible rfl
    rotate_left
    · simp only [Act.put, List.setIfInBounds_toArray, List.set_cons_zero, List.set_cons_succ]
      rfl
    refine take_ (i := 3) (N := (some 37)) (v := ?_) (a' := ?_) #[true, true, true, true, false, false, false, false, false, false, false, false, false] rfl rfl (by kernel_rfl) (fun _ _ _ h => h) (Or.inl ⟨by rfl, ?_⟩) (by assumption) ?_ ?_
    rotate_left
    · intro w' hSw; (try dsimp only at hSw)
      go_simp
      try with_reducible rfl
    rotate_left
    · simp only [Act.put, List.setIfInBounds_toArray, List.set_cons_zero, List.set_cons_succ]
      rfl
    refine take_ (i := 4) (N := (some 38)) (v := .agg (c.L).toArray) (a' := ?_) #[true, true, true, true, true, false, false, false, false, false, false, false, false] rfl rfl (by kernel_rfl) (fun _ _ _ h => h) (yieldsIf_load_mid (by rfl) 66 _ rfl q 0 rfl (c.L) _ (fun W hW => rangeAt_ext rq hW) Tryz.underlying66 rfl (by kernel_rfl)) (by assumption) ?_ ?_
    rotate_left
    · simp only [Act.put, List.setIfInBounds_toArray, List.set_cons_zero, List.set_cons_succ]
      rfl
    refine take_ (i := 5) (N := (some 39)) (v := ?_) (a' := ?_) #[true, true, true, true, true, true, false, false, false, false, false, false, false] rfl rfl (by kernel_rfl) (fun _ _ _ h => h) (Or.inl ⟨by rfl, ?_⟩) (by assumption) ?_ ?_
    rotate_left
    · intro w' hSw; (try dsimp only at hSw)
      go_simp
      try with_reducible rfl
    rotate_left
    · simp only [Act.put, List.setIfInBounds_toArray, List.set_cons_zero, List.set_cons_succ]
      rfl
    refine join_ (σ := Nat) 0 #[true, true, true, true, true, true, true, true, true, true, true, true, true] (fun s => [(40, .tuple #[.agg (mkS H c ⟨0, n⟩).L.toArray, .int .i64 0]), (33, .tuple #[.agg (mkS H c ⟨0, n⟩).L.toArray, .int .i64 0]), (41, .agg (mkS H c ⟨0, n⟩).L.toArray), (42, .int .i64 0), (6, .pointer (some ⟨s, 0, none⟩)), (7, .int .i64 0)]) (fun s W => Ext w6 W ∧ W.heap[s]? = some (.cells (mkS H c ⟨0, n⟩).L.toArray 86)) ?_ ?_
    · intro s_1 wk hF
      simp only [putAll, Act.put, List.setIfInBounds_toArray, List.set_cons_zero, List.set_cons_succ]
      refine done_ (by kernel_rfl) ?_
      obtain ⟨xk, bk⟩ := hF
      have Sk := StAt.of_block bk
      clear p1 p2 p3
      go_wp2_with ((with_reducible refine gate_dst (N := 48) rfl ?_); refine halt ?_)
      refine unhalt (wpList_load_mid rfl 86 _ rfl s_1 0 rfl (mkS H c ⟨0, n⟩).L _ Sk.all Tryz.underlying86 rfl (by kernel_rfl) ?_)
      go_wp2_with fail
      refine (Htk.out _ (h6.extend xk)).mono ?_
      rintro e w9 ⟨rfl, hq9, hk9⟩
      have HQ := Lib.hid hq9
      have kp9 := (Kept.of_ext (X6.trans xk)).trans hk9
      clear hq9
      go_wp2
      go_ret
      exact ⟨rfl, HQ.out, kp9⟩
    · intro hJ
      refine two_ (i := 6) (Ni := (some 40)) (j := 10) (Nj := (some 6)) #[true, true, true, true, true, true, true, false, false, false, false, false, false] #[true, true, true, true, true, true, false, false, false, false, true, false, false] rfl rfl rfl rfl (by kernel_rfl) (by simp) (by simp) (fun K hK => ?_) (fun K hK => ?_)
      · go_simp
        refine (Km.out _ (xT6.drew)).mono ?_
        rintro e u1 ⟨rfl, hu1⟩
        refine hK.out _ _ ?_ (fun hHeld => ?_)
        · exact ((xT6.drew).trans hu1)
        clear hK K
        (try simp only [Act.put, List.setIfInBounds_toArray, List.set_cons_zero, List.set_cons_succ])
        refine take_ (i := 7) (N := (some 33)) (v := ?_) (a' := ?_) #[true, true, true, true, true, true, true, true, false, false, false, false, false] rfl rfl (by kernel_rfl) (fun _ _ _ h => h) (Or.inl ⟨by rfl, ?_⟩) (by assumption) ?_ ?_
        rotate_left
        · intro w' hSw; (try dsimp only at hSw)
          go_simp
          try with_reducible rfl
        rotate_left
        · simp only [Act.put, List.setIfInBounds_toArray, List.set_cons_zero, List.set_cons_succ]
          rfl
        refine take_ (i := 8) (N := (some 41)) (v := ?_) (a' := ?_) #[true, true, true, true, true, true, true, true, true, false, false, false, false] rfl rfl (by kernel_rfl) (fun _ _ _ h => h) (Or.inl ⟨by rfl, ?_⟩) (by assumption) ?_ ?_
        rotate_left
        · intro w' hSw; (try dsimp only at hSw)
          go_simp
          try with_reducible rfl
        rotate_left
        · simp only [Act.put, List.setIfInBounds_toArray, List.set_cons_zero, List.set_cons_succ]
          rfl
        refine take_ (i := 9) (N := (some 42)) (v := ?_) (a' := ?_) #[true, true, true, true, true, true, true, true, true, true, false, false, false] rfl rfl (by kernel_rfl) (fun _ _ _ h => h) (Or.inl ⟨by rfl, ?_⟩) (by assumption) ?_ ?_
        rotate_left
        · intro w' hSw; (try dsimp only at hSw)
          go_simp
          try with_reducible rfl
        rotate_left
        · simp only [Act.put, List.setIfInBounds_toArray, List.set_cons_zero, List.set_cons_succ]
          rfl
        refine one_ (i := 10) (N := (some 6)) #[true, true, true, true, true, true, true, true, true, true, true, false, false] rfl rfl (by kernel_rfl) (by simp) (fun K hK => ?_)
        obtain ⟨g2, G2⟩ : ∃ x, Hid ((World.heap u1).size = x) := ⟨_, Lib.hid rfl⟩
        obtain ⟨u2, U2⟩ : ∃ x, Hid ((World.alloc u1 (.cells #[Value.int .i64 0, .int .i64 0, .int .i64 0, .int .i64 0, .int .i64 0, .int .i64 0, .int .i64 0, .int .i64 0, .int .i64 0, .int .i64 0, .int .i64 0, .string ⟨#[]⟩, .string ⟨#[]⟩, .int .i64 0, .int .i64 0, .int .i64 0, .int .i64 0, .int .i64 0, .int .i64 0] 86)) = x) := ⟨_, Lib.hid rfl⟩
        have bu2 : u2.heap[g2]? = some (.cells #[Value.int .i64 0, .int .i64 0, .int .i64 0, .int .i64 0, .int .i64 0, .int .i64 0, .int .i64 0, .int .i64 0, .int .i64 0, .int .i64 0, .int .i64 0, .string ⟨#[]⟩, .string ⟨#[]⟩, .int .i64 0, .int .i64 0, .int .i64 0, .int .i64 0, .int .i64 0, .int .i64 0] 86) := by rw [← U2.out, ← G2.out]; exact Array.getElem?_push_size
        have xu2 : Ext u1 u2 := by rw [← U2.out]; exact ((Ext.refl _).alloc _)
        have hge2 : (World.heap w6).size ≤ g2 := Nat.le_trans (Ext.size (((xT6.drew).trans hu1))) (Nat.le_of_eq G2.out)
        have ru2 := U2.out
        have rg2 := G2.out
        go_simp
        clear ru2 rg2
        refine hK.out _ _ ?_ (fun hHeld => ?_)
        · exact ((((xT6.drew).trans hu1)).trans xu2)
        clear hK K
        (try simp only [Act.put, List.setIfInBounds_toArray, List.set_cons_zero, List.set_cons_succ])
        refine one_ (i := 11) (N := none) #[true, true, true, true, true, true, true, true, true, true, true, true, false] rfl rfl (by kernel_rfl) (by simp) (fun K hK => ?_)
        obtain ⟨u3, hst, bu3, ku3⟩ := store_step (bu2) rfl (mkS H c ⟨0, n⟩)
        have hl : (mkS H c ⟨0, n⟩).L.length = 19 := rfl
        have xu3 : Ext w6 u3 := ku3.toExt (((((xT6.drew).trans hu1)).trans xu2)) (fun k hk => by have e1 : k = g2 := (by simpa using hk); omega)
        go_simp
        clear hst hl
        refine hK.out _ _ ?_ (fun hHeld => ?_)
        · exact xu3
        clear hK K
        (try simp only [Act.put, List.setIfInBounds_toArray, List.set_cons_zero, List.set_cons_succ])
        refine take_ (i := 12) (N := (some 7)) (v := ?_) (a' := ?_) #[true, true, true, true, true, true, true, true, true, true, true, true, true] rfl rfl (by kernel_rfl) (fun _ _ _ h => h) (Or.inl ⟨by rfl, ?_⟩) (by assumption) ?_ ?_
        rotate_left
        · intro w' hSw; (try dsimp only at hSw)
          go_simp
          try with_reducible rfl
        rotate_left
        · simp only [Act.put, List.setIfInBounds_toArray, List.set_cons_zero, List.set_cons_succ]
          rfl
        have hj := hJ g2 u3 ⟨xu3, bu3⟩
        simp only [putAll, Act.put, List.setIfInBounds_toArray, List.set_cons_zero, List.set_cons_succ] at hj
        exact hj
      · obtain ⟨g4, G4⟩ : ∃ x, Hid ((World.heap w6).size = x) := ⟨_, Lib.hid rfl⟩
        obtain ⟨u4, U4⟩ : ∃ x, Hid ((World.alloc w6 (.cells #[Value.int .i64 0, .int .i64 0, .int .i64 0, .int .i64 0, .int .i64 0, .int .i64 0, .int .i64 0, .int .i64 0, .int .i64 0, .int .i64 0, .int .i64 0, .string ⟨#[]⟩, .string ⟨#[]⟩, .int .i64 0, .int .i64 0, .int .i64 0, .int .i64 0, .int .i64 0, .int .i64 0] 86)).drew = x) := ⟨_, Lib.hid rfl⟩
        have bu4 : u4.heap[g4]? = some (.cells #[Value.int .i64 0, .int .i64 0, .int .i64 0, .int .i64 0, .int .i64 0, .int .i64 0, .int .i64 0, .int .i64 0, .int .i64 0, .int .i64 0, .int .i64 0, .string ⟨#[]⟩, .string ⟨#[]⟩, .int .i64 0, .int .i64 0, .int .i64 0, .int .i64 0, .int .i64 0, .int .i64 0] 86) := by rw [← U4.out, ← G4.out]; exact Array.getElem?_push_size
        have xu4 : Ext w6 u4 := by rw [← U4.out]; exact ((Ext.refl _).alloc _).drew
        have hge4 : (World.heap w6).size ≤ g4 := Nat.le_trans (Ext.size (xT6.drew)) (Nat.le_of_eq G4.out)
        have ru4 := U4.out
        have rg4 := G4.out
        go_simp
        clear ru4 rg4
        refine hK.out _ _ ?_ (fun hHeld => ?_)
        · exact xu4
        clear hK K
        (try simp only [Act.put, List.setIfInBounds_toArray, List.set_cons_zero, List.set_cons_succ])
        refine one_ (i := 6) (N := (some 40)) #[true, true, true, true, true, true, true, false, false, false, true, false, false] rfl rfl (by kernel_rfl) (by simp) (fun K hK => ?_)
        go_simp
        refine (Km.out _ (xu4)).mono ?_
        rintro e u5 ⟨rfl, hu5⟩
        refine hK.out _ _ ?_ (fun hHeld => ?_)
        · exact ((xu4).trans hu5)
        clear hK K
        (try simp only [Act.put, List.setIfInBounds_toArray, List.set_cons_zero, List.set_cons_succ])
        refine take_ (i := 7) (N := (some 33)) (v := ?_) (a' := ?_) #[true, true, true, true, true, true, true, true, false, false, true, false, false] rfl rfl (by kernel_rfl) (fun _ _ _ h => h) (Or.inl ⟨by rfl, ?_⟩) (by assumption) ?_ ?_
        rotate_left
        · intro w' hSw; (try dsimp only at hSw)
          go_simp
          try with_reducible rfl
        rotate_left
        · simp only [Act.put, List.setIfInBounds_toArray, List.set_cons_zero, List.set_cons_succ]
          rfl
        refine take_ (i := 8) (N := (some 41)) (v := ?_) (a' := ?_) #[true, true, true, true, true, true, true, true, true, false, true, false, false] rfl rfl (by kernel_rfl) (fun _ _ _ h => h) (Or.inl ⟨by rfl, ?_⟩) (by assumption) ?_ ?_
        rotate_left
        · intro w' hSw; (try dsimp only at hSw)
          go_simp
          try with_reducible rfl
        rotate_left
        · simp only [Act.put, List.setIfInBounds_toArray, List.set_cons_zero, List.set_cons_succ]
          rfl
        refine take_ (i := 9) (N := (some 42)) (v := ?_) (a' := ?_) #[true, true, true, true, true, true, true, true, true, true, true, false, false] rfl rfl (by kernel_rfl) (fun _ _ _ h => h) (Or.inl ⟨by rfl, ?_⟩) (by assumption) ?_ ?_
        rotate_left
        · intro w' hSw; (try dsimp only at hSw)
          go_simp
          try with_reducible rfl
        rotate_left
        · simp only [Act.put, List.setIfInBounds_toArray, List.set_cons_zero, List.set_cons_succ]
          rfl
        refine one_ (i := 11) (N := none) #[true, true, true, true, true, true, true, true, true, true, true, true, false] rfl rfl (by kernel_rfl) (by simp) (fun K hK => ?_)
        obtain ⟨u6, hst, bu6, ku6⟩ := store_step (((hu5.out.block _ (Array.getElem?_eq_some_iff.1 bu4).1).trans bu4)) rfl (mkS H c ⟨0, n⟩)
        have hl : (mkS H c ⟨0, n⟩).L.length = 19 := rfl
        have xu6 : Ext w6 u6 := ku6.toExt (((xu4).trans hu5)) (fun k hk => by have e1 : k = g4 := (by simpa using hk); omega)
        go_simp
        clear hst hl
        refine hK.out _ _ ?_ (fun hHeld => ?_)
        · exact xu6
        clear hK K
        (try simp only [Act.put, List.setIfInBounds_toArray, List.set_cons_zero, List.set_cons_succ])
        refine take_ (i := 12) (N := (some 7)) (v := ?_) (a' := ?_) #[true, true, true, true, true, true, true, true, true, true, true, true, true] rfl rfl (by kernel_rfl) (fun _ _ _ h => h) (Or.inl ⟨by rfl, ?_⟩) (by assumption) ?_ ?_
        rotate_left
        · intro w' hSw; (try dsimp only at hSw)
          go_simp
          try with_reducible rfl
        rotate_left
        · simp only [Act.put, List.setIfInBounds_toArray, List.set_cons_zero, List.set_cons_succ]
          rfl
        have hj := hJ g4 u6 ⟨xu6, bu6⟩
        simp only [putAll, Act.put, List.setIfInBounds_toArray, List.set_cons_zero, List.set_cons_succ] at hj
        exact hj
  · intro hJ
    refine two_ (i := 5) (Ni := (some 16)) (j := 10) (Nj := (some 5)) #[true, true, true, true, true, true, true, false, false, false, false, false] #[true, true, true, true, true, false, true, false, false, false, true, false] rfl rfl rfl rfl (by kernel_rfl) (by simp) (by simp) (fun K hK => ?_) (fun K hK => ?_)
    · go_simp
      refine (kh _ (xT.drew)).mono ?_
      rintro e u1 ⟨rfl, hu1⟩
      refine hK.out _ _ ?_ (fun hHeld => ?_)
      · exact ((xT.drew).trans hu1)
      clear hK K
      (try simp only [Act.put, List.setIfInBounds_toArray, List.set_cons_zero, List.set_cons_succ])
      refine take_ (i := 7) (N := (some 18)) (v := ?_) (a' := ?_) #[true, true, true, true, true, true, true, true, false, false, false, false] rfl rfl (by kernel_rfl) (fun _ _ _ h => h) (Or.inl ⟨by rfl, ?_⟩) (by assumption) ?_ ?_
      rotate_left
      · intro w' hSw; (try dsimp only at hSw)
        go_simp
        try with_reducible rfl
      rotate_left
      · simp only [Act.put, List.setIfInBounds_toArray, List.set_cons_zero, List.set_cons_succ]
        rfl
      refine take_ (i := 8) (N := (some 19)) (v := ?_) (a' := ?_) #[true, true, true, true, true, true, true, true, true, false, false, false] rfl rfl (by kernel_rfl) (fun _ _ _ h => h) (Or.inl ⟨by rfl, ?_⟩) (by assumption) ?_ ?_
      rotate_left
      · intro w' hSw; (try dsimp only at hSw)
        go_simp
        try with_reducible rfl
      rotate_left
      · simp only [Act.put, List.setIfInBounds_toArray, List.set_cons_zero, List.set_cons_succ]
        rfl
      refine take_ (i := 9) (N := (some 20)) (v := ?_) (a' := ?_) #[true, true, true, true, true, true, true, true, true, true, false, false] rfl rfl (by kernel_rfl) (fun _ _ _ h => h) (Or.inl ⟨by rfl, ?_⟩) (by assumption) ?_ ?_
      rotate_left
      · intro w' hSw; (try dsimp only at hSw)
        go_simp
        try with_reducible rfl
      rotate_left
      · simp only [Act.put, List.setIfInBounds_toArray, List.set_cons_zero, List.set_cons_succ]
        rfl
      refine one_ (i := 10) (N := (some 5)) #[true, true, true, true, true, true, true, true, true, true, true, false] rfl rfl (by kernel_rfl) (by simp) (fun K hK => ?_)
      obtain ⟨g2, G2⟩ : ∃ x, Hid ((World.heap u1).size = x) := ⟨_, Lib.hid rfl⟩
      obtain ⟨u2, U2⟩ : ∃ x, Hid ((World.alloc u1 (.cells #[Value.int .i64 0, .int .i64 0] 64)) = x) := ⟨_, Lib.hid rfl⟩
      have bu2 : u2.heap[g2]? = some (.cells #[Value.int .i64 0, .int .i64 0] 64) := by rw [← U2.out, ← G2.out]; exact Array.getElem?_push_size
      have xu2 : Ext u1 u2 := by rw [← U2.out]; exact ((Ext.refl _).alloc _)
      have hge2 : (World.heap w).size ≤ g2 := Nat.le_trans (Ext.size (((xT.drew).trans hu1))) (Nat.le_of_eq G2.out)
      have ru2 := U2.out
      have rg2 := G2.out
      go_simp
      clear ru2 rg2
      refine hK.out _ _ ?_ (fun hHeld => ?_)
      · exact ((((xT.drew).trans hu1)).trans xu2)
      clear hK K
      (try simp only [Act.put, List.setIfInBounds_toArray, List.set_cons_zero, List.set_cons_succ])
      refine one_ (i := 11) (N := none) #[true, true, true, true, true, true, true, true, true, true, true, true] rfl rfl (by kernel_rfl) (by simp) (fun K hK => ?_)
      have bb3 : u2.heap[g2]? = some (.cells #[Value.int .i64 0, .int .i64 0] 64) := bu2
      have sc3_0 : u2.cell? ⟨g2, 0, none⟩ = some (Value.int .i64 0) := by simp [World.cell?, bb3]
      have sf3_0 : u2.frozen? ⟨g2, 0, none⟩ = false := by simp [World.frozen?, bb3]
      have sc3_1 : u2.cell? ⟨g2, 1, none⟩ = some (.int .i64 0) := by simp [World.cell?, bb3]
      have sf3_1 : u2.frozen? ⟨g2, 1, none⟩ = false := by simp [World.frozen?, bb3]
      obtain ⟨u3, U3⟩ : ∃ x, Hid ((World.setCell (World.setCell u2 ⟨g2, 0, none⟩ (Value.int .i64 0)) ⟨g2, 1, none⟩ (.int .i64 (H.have' 0 + 1))) = x) := ⟨_, Lib.hid rfl⟩
      have bu3 : u3.heap[g2]? = some (.cells #[Value.int .i64 0, .int .i64 (H.have' 0 + 1)] 64) := by rw [← U3.out]; exact (blk_set (blk_set bb3 0 _) 1 _)
      have xu3 : Ext w u3 := by rw [← U3.out]; exact (Ext.setCell (Ext.setCell ((((xT.drew).trans hu1)).trans xu2) (p := ⟨g2, 0, none⟩) hge2 _) (p := ⟨g2, 1, none⟩) hge2 _)
      have ru3 := U3.out
      go_simp
      clear ru3 sc3_0 sf3_0 sc3_1 sf3_1
      refine hK.out _ _ ?_ (fun hHeld => ?_)
      · exact xu3
      clear hK K
      (try simp only [Act.put, List.setIfInBounds_toArray, List.set_cons_zero, List.set_cons_succ])
      have hj := hJ g2 u3 ⟨xu3, bu3, hge2⟩
      simp only [putAll, Act.put, List.setIfInBounds_toArray, List.set_cons_zero, List.set_cons_succ] at hj
      exact hj
    · obtain ⟨g4, G4⟩ : ∃ x, Hid ((World.heap w).size = x) := ⟨_, Lib.hid rfl⟩
      obtain ⟨u4, U4⟩ : ∃ x, Hid ((World.alloc w (.cells #[Value.int .i64 0, .int .i64 0] 64)).drew = x) := ⟨_, Lib.hid rfl⟩
      have bu4 : u4.heap[g4]? = some (.cells #[Value.int .i64 0, .int .i64 0] 64) := by rw [← U4.out, ← G4.out]; exact Array.getElem?_push_size
      have xu4 : Ext w u4 := by rw [← U4.out]; exact ((Ext.refl _).alloc _).drew
      have hge4 : (World.heap w).size ≤ g4 := Nat.le_trans (Ext.size (xT.drew)) (Nat.le_of_eq G4.out)
      have ru4 := U4.out
      have rg4 := G4.out
      go_simp
      clear ru4 rg4
      refine hK.out _ _ ?_ (fun hHeld => ?_)
      · exact xu4
      clear hK K
      (try simp only [Act.put, List.setIfInBounds_toArray, List.set_cons_zero, List.set_cons_succ])
      refine one_ (i := 5) (N := (some 16)) #[true, true, true, true, true, true, true, false, false, false, true, false] rfl rfl (by kernel_rfl) (by simp) (fun K hK => ?_)
      go_simp
      refine (kh _ (xu4)).mono ?_
      rintro e u5 ⟨rfl, hu5⟩
      refine hK.out _ _ ?_ (fun hHeld => ?_)
      · exact ((xu4).trans hu5)
      clear hK K
      (try simp only [Act.put, List.setIfInBounds_toArray, List.set_cons_zero, List.set_cons_succ])
      refine take_ (i := 7) (N := (some 18)) (v := ?_) (a' := ?_) #[true, true, true, true, true, true, true, true, false, false, true, false] rfl rfl (by kernel_rfl) (fun _ _ _ h => h) (Or.inl ⟨by rfl, ?_⟩) (by assumption) ?_ ?_
      rotate_left
      · intro w' hSw; (try dsimp only at hSw)
        go_simp
        try with_reducible rfl
      rotate_left
      · simp only [Act.put, List.setIfInBounds_toArray, List.set_cons_zero, List.set_cons_succ]
        rfl
      refine take_ (i := 8) (N := (some 19)) (v := ?_) (a' := ?_) #[true, true, true, true, true, true, true, true, true, false, true, false] rfl rfl (by kernel_rfl) (fun _ _ _ h => h) (Or.inl ⟨by rfl, ?_⟩) (by assumption) ?_ ?_
      rotate_left
      · intro w' hSw; (try dsimp only at hSw)
        go_simp
        try with_reducible rfl
      rotate_left
      · simp only [Act.put, List.setIfInBounds_toArray, List.set_cons_zero, List.set_cons_succ]
        rfl
      refine take_ (i := 9) (N := (some 20)) (v := ?_) (a' := ?_) #[true, true, true, true, true, true, true, true, true, true, true, false] rfl rfl (by kernel_rfl) (fun _ _ _ h => h) (Or.inl ⟨by rfl, ?_⟩) (by assumption) ?_ ?_
      rotate_left
      · intro w' hSw; (try dsimp only at hSw)
        go_simp
        try with_reducible rfl
      rotate_left
      · simp only [Act.put, List.setIfInBounds_toArray, List.set_cons_zero, List.set_cons_succ]
        rfl
      refine one_ (i := 11) (N := none) #[true, true, true, true, true, true, true, true, true, true, true, true] rfl rfl (by kernel_rfl) (by simp) (fun K hK => ?_)
      have bb6 : u5.heap[g4]? = some (.cells #[Value.int .i64 0, .int .i64 0] 64) := ((hu5.out.block _ (Array.getElem?_eq_some_iff.1 bu4).1).trans bu4)
      have sc6_0 : u5.cell? ⟨g4, 0, none⟩ = some (Value.int .i64 0) := by simp [World.cell?, bb6]
      have sf6_0 : u5.frozen? ⟨g4, 0, none⟩ = false := by simp [World.frozen?, bb6]
      have sc6_1 : u5.cell? ⟨g4, 1, none⟩ = some (.int .i64 0) := by simp [World.cell?, bb6]
      have sf6_1 : u5.frozen? ⟨g4, 1, none⟩ = false := by simp [World.frozen?, bb6]
      obtain ⟨u6, U6⟩ : ∃ x, Hid ((World.setCell (World.setCell u5 ⟨g4, 0, none⟩ (Value.int .i64 0)) ⟨g4, 1, none⟩ (.int .i64 (H.have' 0 + 1))) = x) := ⟨_, Lib.hid rfl⟩
      have bu6 : u6.heap[g4]? = some (.cells #[Value.int .i64 0, .int .i64 (H.have' 0 + 1)] 64) := by rw [← U6.out]; exact (blk_set (blk_set bb6 0 _) 1 _)
      have xu6 : Ext w u6 := by rw [← U6.out]; exact (Ext.setCell (Ext.setCell ((xu4).trans hu5) (p := ⟨g4, 0, none⟩) hge4 _) (p := ⟨g4, 1, none⟩) hge4 _)
      have ru6 := U6.out
      go_simp
      clear ru6 sc6_0 sf6_0 sc6_1 sf6_1
      refine hK.out _ _ ?_ (fun hHeld => ?_)
      · exact xu6
      clear hK K
      (try simp only [Act.put, List.setIfInBounds_toArray, List.set_cons_zero, List.set_cons_succ])
      have hj := hJ g4 u6 ⟨xu6, bu6, hge4⟩
      simp only [putAll, Act.put, List.setIfInBounds_toArray, List.set_cons_zero, List.set_cons_succ] at hj
      exact hj
end Go.Proofs.YtbemkefcaceekaaGreatDoor
