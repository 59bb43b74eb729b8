/- Top23: House.Do: an auction is closed. -/
import Derived.Test.YtbemkefcaceekaaGreatDoorTop22
set_option linter.unusedVariables false
set_option linter.unusedSimpArgs false
set_option maxRecDepth 100000
namespace Go.Proofs.YtbemkefcaceekaaGreatDoor
open Go.RowKit Go.Lib Go.Shelf Go.Proofs.YtbemkefcaceekaaGreatDoorW.PrintWords Go.Proofs.YtbemkefcaceekaaGreatDoorW.PrintLast

set_option maxHeartbeats 8000000 in
theorem do_close (w w0 : World) (base bm um dm cm hb : Nat) (H : Hse) (s : Stp) (h : HAt w base bm um dm cm hb H) (hbase : base ≤ w.heap.size) (x0 : Ext w0 w) (ht : Tabs w0) (lo : w0.heap.size ≤ hb ∧ w0.heap.size ≤ base) (hg : Okay s) (hk : s.kind = 7)
    (hle : le7 s.seen H.have' = true) (hrd : s.reds ≤ H.nred) (hnr : H.nred ≤ 1000) (hu8 : s.user.size ≤ 1048576)
    (d d2 : Dt) (t t2 : Stp) (j i i2 : Nat) (F : ByteArray) (hbl : H.blue = [(d, t.V, 0), (d2, t2.V, 1)]) (hbc : H.bc = 2) (tk : t.kind = 1) (tk2 : t2.kind = 2) (hau : t2.auc = s.auc)
    (hs1 : has7 s.seen d.rep d.n = true) (hs2 : has7 s.seen d2.rep d2.n = true) (hsa : has7 s.seen s.auc.rep s.auc.n = true) (hfa : findD s.auc H.blue 0 = some (i, t.V)) (hf : findD d2 H.blue 0 = some (i2, t2.V)) (hs : t2.user.size ≤ 1048576)
    (hF : ByteArray.mk (foldL (CH t2.user)).toArray = F) (hu : findT F H.users 0 = some (j, .bool true)) (hcl : H.closed = []) :
    Calls Tryz.prog 68 #[.pointer (some ⟨hb, 0, none⟩), .agg s.L.toArray] w fun e w' => ∃ g cap, e = .returned (.tuple #[.bool true, .int .i64 0]) ∧
      HAt w' base bm um dm cm hb { H with red := .slice (some ⟨g, 0, none⟩) (H.nred + 1) cap, nred := H.nred + 1, closed := H.closed ++ [(s.auc, outV d2 t2.user t2.amount, H.cc)], cc := H.cc + 1 } ∧ Chg (hb :: cm :: redB H.red) w w' := by
  have kh := fun W => has_any s.seen s.auc.rep s.auc.n W
  rw [hsa] at kh
  unfold vf dotv at kh
  have Kh := Lib.hid kh
  have Hw : Hid (∀ W red nred, Ext w0 W → HAt W base bm um dm cm hb { H with red := red, nred := nred } → Calls Tryz.prog 108 #[.pointer (some ⟨hb, 0, none⟩), .agg s.L.toArray] W fun e w' => e = .returned (.agg #[.int .i64 d2.rep, .int .i64 d2.n, .string t2.user, .int .i64 t2.amount]) ∧ Ext W w') :=
    Lib.hid (fun W red nred x hW => ends_two W base bm um dm cm hb _ hW (ht.ext x) d d2 t t2 s j i2 F hbl hbc tk tk2 hau hs1 hs2 hf hs hF hu)
  have Hfa := Lib.hid hfa
  have Hcl := Lib.hid hcl
  have Tk := Lib.hid tk
  obtain ⟨i0, hi, hz0, hz1, hz2⟩ := info_parts info_step
  obtain ⟨g, Hg⟩ : ∃ h, Hid (w.heap.size = h) := ⟨_, Lib.hid rfl⟩
  obtain ⟨w1, H1⟩ : ∃ x, Hid (w.alloc (.cells s.L.toArray 86) = x) := ⟨_, Lib.hid rfl⟩
  have x1 : Ext w w1 := by rw [← H1.out]; exact (Ext.refl w).alloc _
  have S1 : StAt w1 g s := by rw [← H1.out, ← Hg.out]; exact StAt.new w s
  obtain ⟨xs, hxs⟩ := h.red
  obtain ⟨RA, RC, hrv⟩ : ∃ A c, H.red = .slice A H.nred c := by
    rcases hxs.2 with ⟨e, e0⟩ | ⟨g, cap, cur, e, _⟩
    · exact ⟨none, 0, by rw [e, e0]⟩
    · exact ⟨_, _, e⟩
  rw [hrv] at hxs
  have rlt := h.red_lt
  rw [hrv] at rlt
  have hgl : g ∉ redB (.slice RA H.nred RC) := fun hm => by have := (rlt _ hm).2; have := Hg.out; omega
  have hhl : hb ∉ redB (.slice RA H.nred RC) := fun hm => by have := (rlt _ hm).1; have := h.lt.2.2.2.2; omega
  obtain ⟨RL, hRL⟩ : ∃ l, Hid (redB (.slice RA H.nred RC) = l) := ⟨_, Lib.hid rfl⟩
  rw [hRL.out] at rlt hgl hhl
  have Hxs := Lib.hid hxs
  have Hrlt := Lib.hid rlt
  have Hgl := Lib.hid hgl
  have Hhl := Lib.hid hhl
  have hh := Hg.out
  have q1 := H1.out
  have hred : (decide (5 ≤ s.kind) && decide (s.kind ≤ 7)) = true := by rw [hk]; rfl
  have kl := fun W => le_any s.seen H.have' W
  rw [hle] at kl
  unfold vf at kl
  have Hrv := Lib.hid hrv
  have Hred := Lib.hid hred
  have Hk := Lib.hid hk
  have Hi := Lib.hid hi
  have Hz0 := Lib.hid hz0
  have Hz1 := Lib.hid hz1
  have Hz2 := Lib.hid hz2
  have Hbase := Lib.hid hbase
  have Hnr := Lib.hid hnr
  have Hlo := Lib.hid lo
  clear hxs hrv hle hred hgl rlt hhl hk hi hz0 hz1 hz2 hbase lo hbl hbc tk tk2 hau hs1 hs2 hsa hfa hf hs hF hu hcl kh
  go_enter Tryz.func68, Tryz.ntmps68
  go_wp2_with ((with_reducible refine gate_dst (N := 11) rfl ?_); refine halt ?_)
  clear hh q1
  refine unhalt (wpList_load_mid rfl 86 _ rfl g 0 rfl s.L _ S1.all Tryz.underlying86 rfl (by kernel_rfl) ?_)
  go_wp2_with fail
  refine (agood_any s _ (ht.ext (x0.trans x1)) hg).mono ?_
  rintro e w2 ⟨rfl, x2⟩
  go_wp2_with ((with_reducible refine gate_dst (N := 15) rfl ?_); refine halt ?_)
  refine unhalt (wpList_load_g (by rfl) 86 _ rfl g 0 rfl s.L _ (S1.ext x2).all Tryz.underlying86 rfl (by kernel_rfl) ?_)
  go_wp2_with fail
  refine (red_any s _).mono ?_
  rintro e w3 ⟨rfl, x3⟩
  rw [Hred.out]
  have X3 := x1.trans (x2.trans x3)
  have S3 := S1.ext (x2.trans x3)
  have h3 := h.ext X3
  obtain ⟨r0, r1, r2, r3, r4, r5, r6, r7, r8, r9, r10, r11, r12, r13, r14, r15, r16, r17, r18⟩ := S3.rules
  obtain ⟨q0, q1, q2, q3, q4, q5, q6, q7, q8, q9, q10, q11⟩ := h3.rules
  rw [Hrv.out] at q8
  have xT := Ext.refl w3
  go_wp2_with fail
  have hrdI : ¬ ((H.nred : Int) < s.reds) := by omega
  refine start_ (n := 19) (S := (fun W => Ext w3 W)) (ds := []) #[false, false, false, false, false, false, false, false, false, false, false, false, false, false, false, false, false, false, false] (by kernel_rfl) (by kernel_rfl) (by kernel_rfl) (xT.drew) (fun hHeld => ?_)
  refine take_ (i := 0) (N := (some 20)) (v := ?_) (a' := ?_) #[true, false, false, false, false, false, false, false, false, false, false, false, false, false, false, false, false, false, false] rfl rfl (by kernel_rfl) (fun _ _ _ h => h) (Or.inl ⟨by rfl, ?_⟩) (by assumption) ?_ ?_
  rotate_left
  · intro w' hSw; (try dsimp only at hSw)
    go_simp
    try with_reducible rfl
  rotate_left
  · simp only [Act.put, List.setIfInBounds_toArray, List.set_cons_zero, List.set_cons_succ]
    rfl
  refine take_ (i := 1) (N := (some 21)) (v := ?_) (a' := ?_) #[true, true, false, false, false, false, false, false, false, false, false, false, false, false, false, false, false, false, false] rfl rfl (by kernel_rfl) (fun _ _ _ h => h) (Or.inl ⟨by rfl, ?_⟩) (by assumption) ?_ ?_
  rotate_left
  · intro w' hSw; (try dsimp only at hSw)
    go_simp
    try with_reducible rfl
  rotate_left
  · simp only [Act.put, List.setIfInBounds_toArray, List.set_cons_zero, List.set_cons_succ]
    rfl
  refine take_ (i := 2) (N := (some 22)) (v := ?_) (a' := ?_) #[true, true, true, false, false, false, false, false, false, false, false, false, false, false, false, false, false, false, false] rfl rfl (by kernel_rfl) (fun _ _ _ h => h) (Or.inl ⟨by rfl, ?_⟩) (by assumption) ?_ ?_
  rotate_left
  · intro w' hSw; (try dsimp only at hSw)
    go_simp
    try with_reducible rfl
  rotate_left
  · simp only [Act.put, List.setIfInBounds_toArray, List.set_cons_zero, List.set_cons_succ]
    rfl
  refine take_ (i := 3) (N := (some 23)) (v := ?_) (a' := ?_) #[true, true, true, true, false, false, false, false, false, false, false, false, false, false, false, false, false, false, false] rfl rfl (by kernel_rfl) (fun _ _ _ h => h) (Or.inl ⟨by rfl, ?_⟩) (by assumption) ?_ ?_
  rotate_left
  · intro w' hSw; (try dsimp only at hSw)
    go_simp
    try with_reducible rfl
  rotate_left
  · simp only [Act.put, List.setIfInBounds_toArray, List.set_cons_zero, List.set_cons_succ]
    rfl
  refine take_ (i := 4) (N := (some 24)) (v := ?_) (a' := ?_) #[true, true, true, true, true, false, false, false, false, false, false, false, false, false, false, false, false, false, false] rfl rfl (by kernel_rfl) (fun _ _ _ h => h) (Or.inl ⟨by rfl, ?_⟩) (by assumption) ?_ ?_
  rotate_left
  · intro w' hSw; (try dsimp only at hSw)
    go_simp
    try with_reducible rfl
  rotate_left
  · simp only [Act.put, List.setIfInBounds_toArray, List.set_cons_zero, List.set_cons_succ]
    rfl
  refine take_ (i := 5) (N := (some 25)) (v := ?_) (a' := ?_) #[true, true, true, true, true, true, false, false, false, false, false, false, false, false, false, false, false, false, false] rfl rfl (by kernel_rfl) (fun _ _ _ h => h) (Or.inl ⟨by rfl, ?_⟩) (by assumption) ?_ ?_
  rotate_left
  · intro w' hSw; (try dsimp only at hSw)
    go_simp
    try with_reducible rfl
  rotate_left
  · simp only [Act.put, List.setIfInBounds_toArray, List.set_cons_zero, List.set_cons_succ]
    rfl
  refine one_ (i := 6) (N := (some 26)) #[true, true, true, true, true, true, true, false, false, false, false, false, false, false, false, false, false, false, false] rfl rfl (by kernel_rfl) (by simp) (fun K hK => ?_)
  go_simp
  refine (kl _).mono ?_
  rintro e w5 ⟨rfl, x5⟩
  refine hK.out _ _ ?_ (fun hHeld => ?_)
  · first | assumption | exact hHeld.trans (by assumption)
  clear hK K
  (try simp only [Act.put, List.setIfInBounds_toArray, List.set_cons_zero, List.set_cons_succ])
  refine take_ (i := 7) (N := (some 27)) (v := ?_) (a' := ?_) #[true, true, true, true, true, true, true, true, false, false, false, false, false, false, false, false, false, false, false] rfl rfl (by kernel_rfl) (fun _ _ _ h => h) (Or.inl ⟨by rfl, ?_⟩) (by assumption) ?_ ?_
  rotate_left
  · intro w' hSw; (try dsimp only at hSw)
    go_simp
    try with_reducible rfl
  rotate_left
  · simp only [Act.put, List.setIfInBounds_toArray, List.set_cons_zero, List.set_cons_succ]
    rfl
  refine take_ (i := 8) (N := (some 28)) (v := ?_) (a' := ?_) #[true, true, true, true, true, true, true, true, true, false, false, false, false, false, false, false, false, false, false] rfl rfl (by kernel_rfl) (fun _ _ _ h => h) (Or.inl ⟨by rfl, ?_⟩) (by assumption) ?_ ?_
  rotate_left
  · intro w' hSw; (try dsimp only at hSw)
    go_simp
    try with_reducible rfl
  rotate_left
  · simp only [Act.put, List.setIfInBounds_toArray, List.set_cons_zero, List.set_cons_succ]
    rfl
  refine take_ (i := 9) (N := (some 29)) (v := ?_) (a' := ?_) #[true, true, true, true, true, true, true, true, true, true, false, false, false, false, false, false, false, false, false] rfl rfl (by kernel_rfl) (fun _ _ _ h => h) (Or.inl ⟨by rfl, ?_⟩) (by assumption) ?_ ?_
  rotate_left
  · intro w' hSw; (try dsimp only at hSw)
    go_simp
    try with_reducible rfl
  rotate_left
  · simp only [Act.put, List.setIfInBounds_toArray, List.set_cons_zero, List.set_cons_succ]
    rfl
  refine take_ (i := 10) (N := (some 30)) (v := ?_) (a' := ?_) #[true, true, true, true, true, true, true, true, true, true, true, false, false, false, false, false, false, false, false] rfl rfl (by kernel_rfl) (fun _ _ _ h => h) (Or.inl ⟨by rfl, ?_⟩) (by assumption) ?_ ?_
  rotate_left
  · intro w' hSw; (try dsimp only at hSw)
    go_simp
    try with_reducible rfl
  rotate_left
  · simp only [Act.put, List.setIfInBounds_toArray, List.set_cons_zero, List.set_cons_succ]
    rfl
  refine take_ (i := 11) (N := (some 31)) (v := ?_) (a' := ?_) #[true, true, true, true, true, true, true, true, true, true, true, true, false, false, false, false, false, false, false] rfl rfl (by kernel_rfl) (fun _ _ _ h => h) (Or.inl ⟨by rfl, ?_⟩) (by assumption) ?_ ?_
  rotate_left
  · intro w' hSw; (try dsimp only at hSw)
    go_simp
    try with_reducible rfl
  rotate_left
  · simp only [Act.put, List.setIfInBounds_toArray, List.set_cons_zero, List.set_cons_succ]
    rfl
  refine take_ (i := 12) (N := (some 32)) (v := ?_) (a' := ?_) #[true, true, true, true, true, true, true, true, true, true, true, true, true, false, false, false, false, false, false] rfl rfl (by kernel_rfl) (fun _ _ _ h => h) (Or.inl ⟨by rfl, ?_⟩) (by assumption) ?_ ?_
  rotate_left
  · intro w' hSw; (try dsimp only at hSw)
    go_simp
    try with_reducible rfl
  rotate_left
  · simp only [Act.put, List.setIfInBounds_toArray, List.set_cons_zero, List.set_cons_succ]
    rfl
  refine take_ (i := 13) (N := (some 33)) (v := ?_) (a' := ?_) #[true, true, true, true, true, true, true, true, true, true, true, true, true, true, false, false, false, false, false] rfl rfl (by kernel_rfl) (fun _ _ _ h => h) (Or.inl ⟨by rfl, ?_⟩) (by assumption) ?_ ?_
  rotate_left
  · intro w' hSw; (try dsimp only at hSw)
    go_simp
    try with_reducible rfl
  rotate_left
  · simp only [Act.put, List.setIfInBounds_toArray, List.set_cons_zero, List.set_cons_succ]
    rfl
  refine take_ (i := 14) (N := (some 34)) (v := ?_) (a' := ?_) #[true, true, true, true, true, true, true, true, true, true, true, true, true, true, true, false, false, false, false] rfl rfl (by kernel_rfl) (fun _ _ _ h => h) (Or.inl ⟨by rfl, ?_⟩) (by assumption) ?_ ?_
  rotate_left
  · intro w' hSw; (try dsimp only at hSw)
    go_simp
    try with_reducible rfl
  rotate_left
  · simp only [Act.put, List.setIfInBounds_toArray, List.set_cons_zero, List.set_cons_succ]
    rfl
  refine take_ (i := 15) (N := (some 35)) (v := ?_) (a' := ?_) #[true, true, true, true, true, true, true, true, true, true, true, true, true, true, true, true, false, false, false] rfl rfl (by kernel_rfl) (fun _ _ _ h => h) (Or.inl ⟨by rfl, ?_⟩) (by assumption) ?_ ?_
  rotate_left
  · intro w' hSw; (try dsimp only at hSw)
    go_simp
    try with_reducible rfl
  rotate_left
  · simp only [Act.put, List.setIfInBounds_toArray, List.set_cons_zero, List.set_cons_succ]
    rfl
  refine take_ (i := 16) (N := (some 36)) (v := ?_) (a' := ?_) #[true, true, true, true, true, true, true, true, true, true, true, true, true, true, true, true, true, false, false] rfl rfl (by kernel_rfl) (fun _ _ _ h => h) (Or.inl ⟨by rfl, ?_⟩) (by assumption) ?_ ?_
  rotate_left
  · intro w' hSw; (try dsimp only at hSw)
    go_simp
    try with_reducible rfl
  rotate_left
  · simp only [Act.put, List.setIfInBounds_toArray, List.set_cons_zero, List.set_cons_succ]
    rfl
  refine take_ (i := 17) (N := (some 37)) (v := ?_) (a' := ?_) #[true, true, true, true, true, true, true, true, true, true, true, true, true, true, true, true, true, true, false] rfl rfl (by kernel_rfl) (fun _ _ _ h => h) (Or.inl ⟨by rfl, ?_⟩) (by assumption) ?_ ?_
  rotate_left
  · intro w' hSw; (try dsimp only at hSw)
    go_simp
    try with_reducible rfl
  rotate_left
  · simp only [Act.put, List.setIfInBounds_toArray, List.set_cons_zero, List.set_cons_succ]
    rfl
  refine take_ (i := 18) (N := (some 19)) (v := ?_) (a' := ?_) #[true, true, true, true, true, true, true, true, true, true, true, true, true, true, true, true, true, true, true] rfl rfl (by kernel_rfl) (fun _ _ _ h => h) (Or.inl ⟨by rfl, ?_⟩) (by assumption) ?_ ?_
  rotate_left
  · intro w' hSw; (try dsimp only at hSw)
    go_simp
    try with_reducible rfl
  rotate_left
  · simp only [Act.put, List.setIfInBounds_toArray, List.set_cons_zero, List.set_cons_succ]
    rfl
  refine done_ (by kernel_rfl) ?_
  go_wp2_with fail
  have x35 := hHeld
  have h5 := h3.ext hHeld
  have S5 := S3.ext hHeld
  have c8 : ∀ W, Chg RL w5 W → W.cell? ⟨hb, 8, none⟩ = some (.slice RA H.nred RC) := fun W k => by
    have b5 := (k.block hb h5.sizes.2.2.2.2 Hhl.out).trans h5.all
    rw [← Hrv.out]
    simp [World.cell?, b5, Hse.L]
  have f8 : ∀ W, Chg RL w5 W → W.frozen? ⟨hb, 8, none⟩ = false := fun W k => by
    have b5 := (k.block hb h5.sizes.2.2.2.2 Hhl.out).trans h5.all
    simp [World.frozen?, b5]
  have cT : Chg RL w5 w5.drew := Chg.of_ext (Ext.refl w5).drew
  clear r0 r1 r2 r3 r4 r5 r6 r7 r8 r9 r10 r11 r12 r13 r14 r15 r16 r17 r18 q0 q1 q2 q3 q4 q5 q6 q7 q8 q9 q10 q11 kl hrdI
  refine start_ (n := 11) (S := (fun W => Chg RL w5 W)) (ds := [10]) #[false, false, false, false, false, false, false, false, false, false, false] (by kernel_rfl) (by kernel_rfl) (by kernel_rfl) (cT) (fun hHeld => ?_)
  refine take_ (i := 0) (N := (some 38)) (v := ?_) (a' := ?_) #[true, false, false, false, false, false, false, false, false, false, false] rfl rfl (by kernel_rfl) (fun _ _ _ h => h) (Or.inl ⟨by rfl, ?_⟩) (by assumption) ?_ ?_
  rotate_left
  · intro w' hSw; (try dsimp only at hSw)
    go_simp
    try with_reducible rfl
  rotate_left
  · simp only [Act.put, List.setIfInBounds_toArray, List.set_cons_zero, List.set_cons_succ]
    rfl
  refine take_ (i := 1) (N := (some 39)) (v := ?_) (a' := ?_) #[true, true, false, false, false, false, false, false, false, false, false] rfl rfl (by kernel_rfl) (fun _ _ _ h => h) (Or.inl ⟨by rfl, ?_⟩) (by assumption) ?_ ?_
  rotate_left
  · intro w' hSw; (try dsimp only at hSw)
    go_simp
    try with_reducible rfl
  rotate_left
  · simp only [Act.put, List.setIfInBounds_toArray, List.set_cons_zero, List.set_cons_succ]
    rfl
  refine take_ (i := 2) (N := (some 40)) (v := ?_) (a' := ?_) #[true, true, true, false, false, false, false, false, false, false, false] rfl rfl (by kernel_rfl) (fun _ _ _ h => h) (Or.inl ⟨by rfl, ?_⟩) (by assumption) ?_ ?_
  rotate_left
  · intro w' hSw; (try dsimp only at hSw)
    go_simp
    try with_reducible rfl
  rotate_left
  · simp only [Act.put, List.setIfInBounds_toArray, List.set_cons_zero, List.set_cons_succ]
    rfl
  refine take_ (i := 3) (N := (some 41)) (v := ?_) (a' := ?_) #[true, true, true, true, false, false, false, false, false, false, false] rfl rfl (by kernel_rfl) (fun _ _ _ h => h) (Or.inl ⟨by rfl, ?_⟩) (by assumption) ?_ ?_
  rotate_left
  · intro w' hSw; (try dsimp only at hSw)
    go_simp
    try with_reducible rfl
  rotate_left
  · simp only [Act.put, List.setIfInBounds_toArray, List.set_cons_zero, List.set_cons_succ]
    rfl
  refine take_ (i := 4) (N := (some 42)) (v := ?_) (a' := ?_) #[true, true, true, true, true, false, false, false, false, false, false] rfl rfl (by kernel_rfl) (fun _ _ _ h => h) (Or.inl ⟨by rfl, ?_⟩) (by assumption) ?_ ?_
  rotate_left
  · intro w' hSw; (try dsimp only at hSw)
    go_simp
    try with_reducible rfl
  rotate_left
  · simp only [Act.put, List.setIfInBounds_toArray, List.set_cons_zero, List.set_cons_succ]
    rfl
  refine take_ (i := 5) (N := (some 43)) (v := .agg (s.L).toArray) (a' := ?_) #[true, true, true, true, true, true, false, false, false, false, false] rfl rfl (by kernel_rfl) (fun _ _ _ h => h) (yieldsIf_load_mid (by rfl) 86 _ rfl g 0 rfl (s.L) _ (fun W hW => range_chg S5.all hW Hgl.out) Tryz.underlying86 rfl (by kernel_rfl)) (by assumption) ?_ ?_
  rotate_left
  · simp only [Act.put, List.setIfInBounds_toArray, List.set_cons_zero, List.set_cons_succ]
    rfl
  refine one_ (i := 6) (N := (some 44)) #[true, true, true, true, true, true, true, false, false, false, false] rfl rfl (by kernel_rfl) (by simp) (fun K hK => ?_)
  refine at_stepSlice (some 44) rfl rfl _ rfl s rfl ?_
  obtain ⟨gz, GZ⟩ : ∃ x, Hid ((World.heap w5.drew).size = x) := ⟨_, Lib.hid rfl⟩
  obtain ⟨w6, W6⟩ : ∃ x, Hid (World.alloc w5.drew (.cells s.L.toArray 86) = x) := ⟨_, Lib.hid rfl⟩
  rw [GZ.out, W6.out]
  have e56 : Ext w5 w6 := by rw [← W6.out]; exact (Ext.refl _).drew.alloc _
  have bz : w6.heap[gz]? = some (.cells s.L.toArray 86) := by rw [← W6.out, ← GZ.out]; exact Array.getElem?_push_size
  have k56 : Chg RL w5 w6 := Chg.of_ext e56
  have Sz : StAt w6 gz s := StAt.of_block bz
  have own6 := row_chg (row_chg Hxs.out (Chg.of_ext (l := []) (X3.trans x35)) (by simp)) (Chg.of_ext (l := []) e56) (by simp)
  have Own6 := Lib.hid own6
  clear own6 bz
  refine hK.out _ _ ?_ (fun hHeld => ?_)
  · first | assumption | exact hHeld.trans (by assumption)
  clear hK K
  (try simp only [Act.put, List.setIfInBounds_toArray, List.set_cons_zero, List.set_cons_succ])
  refine one_ (i := 7) (N := (some 45)) #[true, true, true, true, true, true, true, true, false, false, false] rfl rfl (by kernel_rfl) (by simp) (fun K hK => ?_)
  refine at_own (some 45) rfl rfl _ _ 58 rfl base 86 i0 (.agg zs19) 19 168 Tryz.underlying58 Hi.out Hz0.out Hz1.out Hz2.out rfl (by decide) (.slice RA H.nred RC) H.nred xs rfl Own6.out ⟨gz, 0, none⟩ 1 1 s.L rfl rfl (fun j u hj => by have := Sz.all j u hj; rw [Nat.zero_add] at this; by_cases e : j = 0 <;> simpa [Addr.add, e] using this) (oneCell_L s) (by have := Hnr.out; unfold maxLen; omega) (by have := Hnr.out; omega) (by have := e56.size; have := (X3.trans x35).size; have := Hbase.out; omega) ?_
  intro v7 w7 own7 hgr7 _
  obtain ⟨g7, cap7, rfl⟩ : ∃ g cap, v7 = .slice (some ⟨g, 0, none⟩) (H.nred + 1) cap := by
    rcases own7.2 with ⟨-, h0⟩ | ⟨g, cap, cur, hv, -⟩
    · omega
    · exact ⟨g, cap, hv⟩
  have k67 : Chg RL w6 w7 := by
    have k := grown_chg hgr7
    rw [hRL.out] at k
    exact k
  have k57 := k56.trans k67
  have f7 := f8 w7 k57
  have c7 := c8 w7 k57
  obtain ⟨u, U⟩ : ∃ x, Hid (w7.setCell ⟨hb, 8, none⟩ (.slice (some ⟨g7, 0, none⟩) (H.nred + 1) cap7) = x) := ⟨_, Lib.hid rfl⟩
  have ru := U.out
  have Hgr7 := Lib.hid hgr7
  have Own7 := Lib.hid own7
  clear hgr7 own7
  refine hK.out _ _ ?_ (fun hHeld => ?_)
  · first | assumption | exact hHeld.trans (by assumption)
  clear hK K
  (try simp only [Act.put, List.setIfInBounds_toArray, List.set_cons_zero, List.set_cons_succ])
  refine take_ (i := 8) (N := (some 46)) (v := ?_) (a' := ?_) #[true, true, true, true, true, true, true, true, true, false, false] rfl rfl (by kernel_rfl) (fun _ _ _ h => h) (Or.inl ⟨by rfl, ?_⟩) (by assumption) ?_ ?_
  rotate_left
  · intro w' hSw; (try dsimp only at hSw)
    go_simp
    try with_reducible rfl
  rotate_left
  · simp only [Act.put, List.setIfInBounds_toArray, List.set_cons_zero, List.set_cons_succ]
    rfl
  refine take_ (i := 9) (N := (some 47)) (v := ?_) (a' := ?_) #[true, true, true, true, true, true, true, true, true, true, false] rfl rfl (by kernel_rfl) (fun _ _ _ h => h) (Or.inl ⟨by rfl, ?_⟩) (by assumption) ?_ ?_
  rotate_left
  · intro w' hSw; (try dsimp only at hSw)
    go_simp
    try with_reducible rfl
  rotate_left
  · simp only [Act.put, List.setIfInBounds_toArray, List.set_cons_zero, List.set_cons_succ]
    rfl
  refine last_ (i := 10) (N := none) #[true, true, true, true, true, true, true, true, true, true, true] rfl rfl (by kernel_rfl) (by simp) (fun K hK => ?_)
  go_simp
  clear ru
  refine hK.out _ _ ?_
  clear hK K
  (try simp only [Act.put, List.setIfInBounds_toArray, List.set_cons_zero, List.set_cons_succ])
  refine done_ (by kernel_rfl) ?_
  have hu : HAt u base bm um dm cm hb { H with red := .slice (some ⟨g7, 0, none⟩) (H.nred + 1) cap7, nred := H.nred + 1 } := by
    rw [← U.out]
    exact (h5.ext e56).put_red (by rw [Hrv.out]; exact Hgr7.out) _ _ Own7.out
  have ku : Chg (hb :: RL) w u := by
    rw [← U.out]
    exact ((Chg.of_ext (X3.trans x35)).trans (k57.mono (by simp +contextual))).set hb 8 _ (by simp)
  have hgu : g ∉ hb :: RL := by
    have := h.sizes.2.2.2.2
    have := Hg.out
    have := Hgl.out
    simp only [List.mem_cons, not_or]
    exact ⟨by omega, this⟩
  have k5u : Chg (hb :: RL) w5 u := by
    rw [← U.out]
    exact (k57.mono (by simp +contextual)).set hb 8 _ (by simp)
  have Su : StAt u g s := ⟨range_chg S5.all k5u hgu⟩
  have x0u : Ext w0 u := ku.toExt x0 (fun k hk => by
    rcases List.mem_cons.1 hk with rfl | hk
    · exact Hlo.out.1
    · have := (Hrlt.out k hk).1
      have := Hlo.out.2
      omega)
  clear c8 f8 cT k57 k67 k56 f7 c7 S5 S3 S1 h5 h3 hHeld
  have c12 := Su.cell 12 _ rfl
  go_wp2_with fail
  refine (fold_any s.user _ hu8 (ht.ext x0u)).mono ?_
  rintro e u2 ⟨rfl, xu2⟩
  clear c12
  have h2 := hu.ext xu2
  have S2 := Su.ext xu2
  have c0 : u2.cell? ⟨g, 0, none⟩ = some (.int .i64 7) := by rw [← Hk.out]; exact S2.cell 0 _ rfl
  go_wp2_with fail
  clear c0
  obtain ⟨r0, r1, r2, r3, r4, r5, r6, r7, r8, r9, r10, r11, r12, r13, r14, r15, r16, r17, r18⟩ := S2.rules
  obtain ⟨q0, q1, q2, q3, q4, q5, q6, q7, q8, q9, q10, q11⟩ := h2.rules
  have lc : ∀ W, Ext u2 W → (Instr.lookup 56 (.map (some cm)) (.agg #[.int .i64 s.auc.rep, .int .i64 s.auc.n]) true).run Tryz.prog W = .ok (.tuple #[.agg #[.int .i64 0, .int .i64 0, .string ⟨#[]⟩, .int .i64 0], .bool false]) W := fun W x => by
    have := (look_dot Tryz.underlying56 (h2.closed.ext x) s.auc outZ (zeroOut W)).2
    dsimp only at this
    rw [Hcl.out] at this
    exact this
  have lb : ∀ W, Ext u2 W → (Instr.lookup 53 (.map (some bm)) (.agg #[.int .i64 s.auc.rep, .int .i64 s.auc.n]) false).run Tryz.prog W = .ok (.agg t.L.toArray) W := fun W x => by
    have := (look_dot Tryz.underlying53 (h2.blue.ext x) s.auc stepZ.V (zeroStep W)).1
    dsimp only at this
    rw [Hfa.out] at this
    exact this
  have lf := fun W => field_kind t W
  rw [Tk.out] at lf
  have ps : ∀ W, Ext u2 W → (Instr.mapUpdate 56 (.map (some cm)) (.agg #[.int .i64 s.auc.rep, .int .i64 s.auc.n]) (.agg #[.int .i64 d2.rep, .int .i64 d2.n, .string t2.user, .int .i64 t2.amount])).run Tryz.prog W = .ok () (setB W cm (.map ((H.closed ++ [(s.auc, outV d2 t2.user t2.amount, H.cc)]).map entD).toArray (H.cc + 1))) := fun W x =>
    store_dot Tryz.underlying56 (h2.closed.ext x) s.auc (outV d2 t2.user t2.amount) (by dsimp only; rw [Hcl.out]; rfl)
  have Ps := Lib.hid ps
  have Hlb := Lib.hid lb
  have Hlf := Lib.hid lf
  have xT2 := Ext.refl u2
  clear ps lb lf
  refine start_ (n := 13) (S := (fun W => Ext u2 W)) (ds := []) #[false, false, false, false, false, false, false, false, false, false, false, false, false] (by kernel_rfl) (by kernel_rfl) (by kernel_rfl) (xT2.drew) (fun hHeld => ?_)
  refine take_ (i := 0) (N := (some 92)) (v := ?_) (a' := ?_) #[true, false, false, false, false, false, false, false, false, false, false, false, false] rfl rfl (by kernel_rfl) (fun _ _ _ h => h) (Or.inl ⟨by rfl, ?_⟩) (by assumption) ?_ ?_
  rotate_left
  · intro w' hSw; (try dsimp only at hSw)
    go_simp
    try with_reducible rfl
  rotate_left
  · simp only [Act.put, List.setIfInBounds_toArray, List.set_cons_zero, List.set_cons_succ]
    rfl
  refine take_ (i := 1) (N := (some 93)) (v := ?_) (a' := ?_) #[true, true, false, false, false, false, false, false, false, false, false, false, false] rfl rfl (by kernel_rfl) (fun _ _ _ h => h) (Or.inl ⟨by rfl, ?_⟩) (by assumption) ?_ ?_
  rotate_left
  · intro w' hSw; (try dsimp only at hSw)
    go_simp
    try with_reducible rfl
  rotate_left
  · simp only [Act.put, List.setIfInBounds_toArray, List.set_cons_zero, List.set_cons_succ]
    rfl
  refine take_ (i := 2) (N := (some 94)) (v := ?_) (a' := ?_) #[true, true, true, false, false, false, false, false, false, false, false, false, false] rfl rfl (by kernel_rfl) (fun _ _ _ h => h) (Or.inl ⟨by rfl, ?_⟩) (by assumption) ?_ ?_
  rotate_left
  · intro w' hSw; (try dsimp only at hSw)
    go_simp
    try with_reducible rfl
  rotate_left
  · simp only [Act.put, List.setIfInBounds_toArray, List.set_cons_zero, List.set_cons_succ]
    rfl
  refine take_ (i := 3) (N := (some 95)) (v := ?_) (a' := ?_) #[true, true, true, true, false, false, false, false, false, false, false, false, false] rfl rfl (by kernel_rfl) (fun _ _ _ h => h) (Or.inl ⟨by rfl, ?_⟩) (by assumption) ?_ ?_
  rotate_left
  · intro w' hSw; (try dsimp only at hSw)
    go_simp
    try with_reducible rfl
  rotate_left
  · simp only [Act.put, List.setIfInBounds_toArray, List.set_cons_zero, List.set_cons_succ]
    rfl
  refine take_ (i := 4) (N := (some 96)) (v := ?_) (a' := ?_) #[true, true, true, true, true, false, false, false, false, false, false, false, false] rfl rfl (by kernel_rfl) (fun _ _ _ h => h) (Or.inl ⟨by rfl, ?_⟩) (by assumption) ?_ ?_
  rotate_left
  · intro w' hSw; (try dsimp only at hSw)
    go_simp
    try with_reducible rfl
  rotate_left
  · simp only [Act.put, List.setIfInBounds_toArray, List.set_cons_zero, List.set_cons_succ]
    rfl
  refine take_ (i := 5) (N := (some 97)) (v := ?_) (a' := ?_) #[true, true, true, true, true, true, false, false, false, false, false, false, false] rfl rfl (by kernel_rfl) (fun _ _ _ h => h) (Or.inl ⟨by rfl, ?_⟩) (by assumption) ?_ ?_
  rotate_left
  · intro w' hSw; (try dsimp only at hSw)
    go_simp
    try with_reducible rfl
  rotate_left
  · simp only [Act.put, List.setIfInBounds_toArray, List.set_cons_zero, List.set_cons_succ]
    rfl
  refine take_ (i := 6) (N := (some 98)) (v := ?_) (a' := ?_) #[true, true, true, true, true, true, true, false, false, false, false, false, false] rfl rfl (by kernel_rfl) (fun _ _ _ h => h) (Or.inl ⟨by rfl, ?_⟩) (by assumption) ?_ ?_
  rotate_left
  · intro w' hSw; (try dsimp only at hSw)
    go_simp
    try with_reducible rfl
  rotate_left
  · simp only [Act.put, List.setIfInBounds_toArray, List.set_cons_zero, List.set_cons_succ]
    rfl
  refine take_ (i := 7) (N := (some 91)) (v := ?_) (a' := ?_) #[true, true, true, true, true, true, true, true, false, false, false, false, false] rfl rfl (by kernel_rfl) (fun _ _ _ h => h) (Or.inl ⟨by rfl, ?_⟩) (by assumption) ?_ ?_
  rotate_left
  · intro w' hSw; (try dsimp only at hSw)
    go_simp
    try with_reducible rfl
  rotate_left
  · simp only [Act.put, List.setIfInBounds_toArray, List.set_cons_zero, List.set_cons_succ]
    rfl
  refine take_ (i := 8) (N := (some 99)) (v := ?_) (a' := ?_) #[true, true, true, true, true, true, true, true, true, false, false, false, false] rfl rfl (by kernel_rfl) (fun _ _ _ h => h) (Or.inl ⟨by rfl, ?_⟩) (by assumption) ?_ ?_
  rotate_left
  · intro w' hSw; (try dsimp only at hSw)
    go_simp
    try with_reducible rfl
  rotate_left
  · simp only [Act.put, List.setIfInBounds_toArray, List.set_cons_zero, List.set_cons_succ]
    rfl
  refine take_ (i := 9) (N := (some 100)) (v := ?_) (a' := ?_) #[true, true, true, true, true, true, true, true, true, true, false, false, false] rfl rfl (by kernel_rfl) (fun _ _ _ h => h) (Or.inl ⟨by rfl, ?_⟩) (by assumption) ?_ ?_
  rotate_left
  · intro w' hSw; (try dsimp only at hSw)
    go_simp
    try with_reducible rfl
  rotate_left
  · simp only [Act.put, List.setIfInBounds_toArray, List.set_cons_zero, List.set_cons_succ]
    rfl
  refine one_ (i := 10) (N := (some 8)) #[true, true, true, true, true, true, true, true, true, true, true, false, false] rfl rfl (by kernel_rfl) (by simp) (fun K hK => ?_)
  go_simp
  obtain ⟨g1, G1⟩ : ∃ x, Hid ((World.heap u2).size = x) := ⟨_, Lib.hid rfl⟩
  obtain ⟨u1, U1⟩ : ∃ x, Hid ((World.alloc u2 (.cells (#[Value.int .i64 0, .int .i64 0, .string ⟨#[]⟩, .int .i64 0] : Array Value) 130)).drew = x) := ⟨_, Lib.hid rfl⟩
  have bu1 : u1.heap[g1]? = some (.cells (#[Value.int .i64 0, .int .i64 0, .string ⟨#[]⟩, .int .i64 0] : Array Value) 130) := by rw [← U1.out, ← G1.out]; exact Array.getElem?_push_size
  have xu1 : Ext u2 u1 := by rw [← U1.out]; exact ((Ext.refl _).alloc _).drew
  obtain ⟨v1, V1⟩ : ∃ x, Hid (((((u1.setCell ⟨g1, 0, none⟩ (Value.int .i64 0)).setCell ⟨g1, 1, none⟩ (.int .i64 0)).setCell ⟨g1, 2, none⟩ (.string ⟨#[]⟩)).setCell ⟨g1, 3, none⟩ (.int .i64 0)) = x) := ⟨_, Lib.hid rfl⟩
  have bv1 : v1.heap[g1]? = some (.cells #[Value.int .i64 0, .int .i64 0, .string ⟨#[]⟩, .int .i64 0] 130) := by rw [← V1.out]; exact (blk_set (blk_set (blk_set (blk_set bu1 0 _) 1 _) 2 _) 3 _)
  have hle1 : (World.heap u2).size ≤ g1 := Nat.le_of_eq G1.out
  have xv1 : Ext u2 v1 := by rw [← V1.out]; exact ((((xu1.setCell (p := ⟨g1, 0, none⟩) hle1 _).setCell (p := ⟨g1, 1, none⟩) hle1 _).setCell (p := ⟨g1, 2, none⟩) hle1 _).setCell (p := ⟨g1, 3, none⟩) hle1 _)
  clear hle1
  have cu1_0 : u1.cell? ⟨g1, 0, none⟩ = some (Value.int .i64 0) := by simp [World.cell?, bu1]
  have cu1_1 : u1.cell? ⟨g1, 1, none⟩ = some (.int .i64 0) := by simp [World.cell?, bu1]
  have cu1_2 : u1.cell? ⟨g1, 2, none⟩ = some (.string ⟨#[]⟩) := by simp [World.cell?, bu1]
  have cu1_3 : u1.cell? ⟨g1, 3, none⟩ = some (.int .i64 0) := by simp [World.cell?, bu1]
  have fu1_0 : u1.frozen? ⟨g1, 0, none⟩ = false := by simp [World.frozen?, bu1]
  have fu1_1 : u1.frozen? ⟨g1, 1, none⟩ = false := by simp [World.frozen?, bu1]
  have fu1_2 : u1.frozen? ⟨g1, 2, none⟩ = false := by simp [World.frozen?, bu1]
  have fu1_3 : u1.frozen? ⟨g1, 3, none⟩ = false := by simp [World.frozen?, bu1]
  rw [G1.out, U1.out]
  have rv1 := V1.out
  refine hK.out _ _ ?_ (fun hHeld => ?_)
  · first | assumption | exact hHeld.trans (by assumption)
  clear hK K
  (try simp only [Act.put, List.setIfInBounds_toArray, List.set_cons_zero, List.set_cons_succ])
  refine one_ (i := 11) (N := none) #[true, true, true, true, true, true, true, true, true, true, true, true, false] rfl rfl (by kernel_rfl) (by simp) (fun K hK => ?_)
  go_simp
  clear rv1 cu1_0 fu1_0 cu1_1 fu1_1 cu1_2 fu1_2 cu1_3 fu1_3
  refine hK.out _ _ ?_ (fun hHeld => ?_)
  · first | assumption | exact hHeld.trans (by assumption)
  clear hK K
  (try simp only [Act.put, List.setIfInBounds_toArray, List.set_cons_zero, List.set_cons_succ])
  refine take_ (i := 12) (N := (some 9)) (v := ?_) (a' := ?_) #[true, true, true, true, true, true, true, true, true, true, true, true, true] rfl rfl (by kernel_rfl) (fun _ _ _ h => h) (Or.inl ⟨by rfl, ?_⟩) (by assumption) ?_ ?_
  rotate_left
  · intro w' hSw; (try dsimp only at hSw)
    go_simp
    try with_reducible rfl
  rotate_left
  · simp only [Act.put, List.setIfInBounds_toArray, List.set_cons_zero, List.set_cons_succ]
    rfl
  refine done_ (by kernel_rfl) ?_
  clear lc
  have lb := Hlb.out
  have lf := Hlf.out
  have kh := Kh.out
  go_wp2_with fail
  refine start_ (n := 20) (S := (fun W => Ext u2 W)) (ds := []) #[false, false, false, false, false, false, false, false, false, false, false, false, false, false, false, false, false, false, false, false] (by kernel_rfl) (by kernel_rfl) (by kernel_rfl) (xv1.drew) (fun hHeld => ?_)
  refine take_ (i := 0) (N := (some 101)) (v := ?_) (a' := ?_) #[true, false, false, false, false, false, false, false, false, false, false, false, false, false, false, false, false, false, false, false] rfl rfl (by kernel_rfl) (fun _ _ _ h => h) (Or.inl ⟨by rfl, ?_⟩) (by assumption) ?_ ?_
  rotate_left
  · intro w' hSw; (try dsimp only at hSw)
    go_simp
    try with_reducible rfl
  rotate_left
  · simp only [Act.put, List.setIfInBounds_toArray, List.set_cons_zero, List.set_cons_succ]
    rfl
  refine take_ (i := 1) (N := (some 102)) (v := ?_) (a' := ?_) #[true, true, false, false, false, false, false, false, false, false, false, false, false, false, false, false, false, false, false, false] rfl rfl (by kernel_rfl) (fun _ _ _ h => h) (Or.inl ⟨by rfl, ?_⟩) (by assumption) ?_ ?_
  rotate_left
  · intro w' hSw; (try dsimp only at hSw)
    go_simp
    try with_reducible rfl
  rotate_left
  · simp only [Act.put, List.setIfInBounds_toArray, List.set_cons_zero, List.set_cons_succ]
    rfl
  refine take_ (i := 2) (N := (some 103)) (v := ?_) (a' := ?_) #[true, true, true, false, false, false, false, false, false, false, false, false, false, false, false, false, false, false, false, false] rfl rfl (by kernel_rfl) (fun _ _ _ h => h) (Or.inl ⟨by rfl, ?_⟩) (by assumption) ?_ ?_
  rotate_left
  · intro w' hSw; (try dsimp only at hSw)
    go_simp
    try with_reducible rfl
  rotate_left
  · simp only [Act.put, List.setIfInBounds_toArray, List.set_cons_zero, List.set_cons_succ]
    rfl
  refine take_ (i := 3) (N := (some 104)) (v := ?_) (a' := ?_) #[true, true, true, true, false, false, false, false, false, false, false, false, false, false, false, false, false, false, false, false] rfl rfl (by kernel_rfl) (fun _ _ _ h => h) (Or.inl ⟨by rfl, ?_⟩) (by assumption) ?_ ?_
  rotate_left
  · intro w' hSw; (try dsimp only at hSw)
    go_simp
    try with_reducible rfl
  rotate_left
  · simp only [Act.put, List.setIfInBounds_toArray, List.set_cons_zero, List.set_cons_succ]
    rfl
  refine take_ (i := 4) (N := (some 105)) (v := ?_) (a' := ?_) #[true, true, true, true, true, false, false, false, false, false, false, false, false, false, false, false, false, false, false, false] rfl rfl (by kernel_rfl) (fun _ _ _ h => h) (Or.inl ⟨by rfl, ?_⟩) (by assumption) ?_ ?_
  rotate_left
  · intro w' hSw; (try dsimp only at hSw)
    go_simp
    try with_reducible rfl
  rotate_left
  · simp only [Act.put, List.setIfInBounds_toArray, List.set_cons_zero, List.set_cons_succ]
    rfl
  refine take_ (i := 5) (N := (some 106)) (v := ?_) (a' := ?_) #[true, true, true, true, true, true, false, false, false, false, false, false, false, false, false, false, false, false, false, false] rfl rfl (by kernel_rfl) (fun _ _ _ h => h) (Or.inl ⟨by rfl, ?_⟩) (by assumption) ?_ ?_
  rotate_left
  · intro w' hSw; (try dsimp only at hSw)
    go_simp
    try with_reducible rfl
  rotate_left
  · simp only [Act.put, List.setIfInBounds_toArray, List.set_cons_zero, List.set_cons_succ]
    rfl
  refine one_ (i := 6) (N := (some 107)) #[true, true, true, true, true, true, true, false, false, false, false, false, false, false, false, false, false, false, false, false] rfl rfl (by kernel_rfl) (by simp) (fun K hK => ?_)
  go_simp
  refine (kh _).mono ?_
  rintro e u5 ⟨rfl, x5⟩
  refine hK.out _ _ ?_ (fun hHeld => ?_)
  · first | assumption | exact hHeld.trans (by assumption)
  clear hK K
  (try simp only [Act.put, List.setIfInBounds_toArray, List.set_cons_zero, List.set_cons_succ])
  refine take_ (i := 7) (N := (some 108)) (v := ?_) (a' := ?_) #[true, true, true, true, true, true, true, true, false, false, false, false, false, false, false, false, false, false, false, false] rfl rfl (by kernel_rfl) (fun _ _ _ h => h) (Or.inl ⟨by rfl, ?_⟩) (by assumption) ?_ ?_
  rotate_left
  · intro w' hSw; (try dsimp only at hSw)
    go_simp
    try with_reducible rfl
  rotate_left
  · simp only [Act.put, List.setIfInBounds_toArray, List.set_cons_zero, List.set_cons_succ]
    rfl
  refine take_ (i := 8) (N := (some 109)) (v := ?_) (a' := ?_) #[true, true, true, true, true, true, true, true, true, false, false, false, false, false, false, false, false, false, false, false] rfl rfl (by kernel_rfl) (fun _ _ _ h => h) (Or.inl ⟨by rfl, ?_⟩) (by assumption) ?_ ?_
  rotate_left
  · intro w' hSw; (try dsimp only at hSw)
    go_simp
    try with_reducible rfl
  rotate_left
  · simp only [Act.put, List.setIfInBounds_toArray, List.set_cons_zero, List.set_cons_succ]
    rfl
  refine take_ (i := 9) (N := (some 110)) (v := ?_) (a' := ?_) #[true, true, true, true, true, true, true, true, true, true, false, false, false, false, false, false, false, false, false, false] rfl rfl (by kernel_rfl) (fun _ _ _ h => h) (Or.inl ⟨by rfl, ?_⟩) (by assumption) ?_ ?_
  rotate_left
  · intro w' hSw; (try dsimp only at hSw)
    go_simp
    try with_reducible rfl
  rotate_left
  · simp only [Act.put, List.setIfInBounds_toArray, List.set_cons_zero, List.set_cons_succ]
    rfl
  refine take_ (i := 10) (N := (some 111)) (v := ?_) (a' := ?_) #[true, true, true, true, true, true, true, true, true, true, true, false, false, false, false, false, false, false, false, false] rfl rfl (by kernel_rfl) (fun _ _ _ h => h) (Or.inl ⟨by rfl, ?_⟩) (by assumption) ?_ ?_
  rotate_left
  · intro w' hSw; (try dsimp only at hSw)
    go_simp
    try with_reducible rfl
  rotate_left
  · simp only [Act.put, List.setIfInBounds_toArray, List.set_cons_zero, List.set_cons_succ]
    rfl
  refine take_ (i := 11) (N := (some 112)) (v := ?_) (a' := ?_) #[true, true, true, true, true, true, true, true, true, true, true, true, false, false, false, false, false, false, false, false] rfl rfl (by kernel_rfl) (fun _ _ _ h => h) (Or.inl ⟨by rfl, ?_⟩) (by assumption) ?_ ?_
  rotate_left
  · intro w' hSw; (try dsimp only at hSw)
    go_simp
    try with_reducible rfl
  rotate_left
  · simp only [Act.put, List.setIfInBounds_toArray, List.set_cons_zero, List.set_cons_succ]
    rfl
  refine take_ (i := 12) (N := (some 113)) (v := ?_) (a' := ?_) #[true, true, true, true, true, true, true, true, true, true, true, true, true, false, false, false, false, false, false, false] rfl rfl (by kernel_rfl) (fun _ _ _ h => h) (Or.inl ⟨by rfl, ?_⟩) (by assumption) ?_ ?_
  rotate_left
  · intro w' hSw; (try dsimp only at hSw)
    go_simp
    try with_reducible rfl
  rotate_left
  · simp only [Act.put, List.setIfInBounds_toArray, List.set_cons_zero, List.set_cons_succ]
    rfl
  refine take_ (i := 13) (N := (some 114)) (v := ?_) (a' := ?_) #[true, true, true, true, true, true, true, true, true, true, true, true, true, true, false, false, false, false, false, false] rfl rfl (by kernel_rfl) (fun _ _ _ h => h) (Or.inl ⟨by rfl, ?_⟩) (by assumption) ?_ ?_
  rotate_left
  · intro w' hSw; (try dsimp only at hSw)
    go_simp
    try with_reducible rfl
  rotate_left
  · simp only [Act.put, List.setIfInBounds_toArray, List.set_cons_zero, List.set_cons_succ]
    rfl
  refine take_ (i := 14) (N := (some 115)) (v := ?_) (a' := ?_) #[true, true, true, true, true, true, true, true, true, true, true, true, true, true, true, false, false, false, false, false] rfl rfl (by kernel_rfl) (fun _ _ _ h => h) (Or.inl ⟨by rfl, ?_⟩) (by assumption) ?_ ?_
  rotate_left
  · intro w' hSw; (try dsimp only at hSw)
    go_simp
    try with_reducible rfl
  rotate_left
  · simp only [Act.put, List.setIfInBounds_toArray, List.set_cons_zero, List.set_cons_succ]
    rfl
  refine take_ (i := 15) (N := (some 116)) (v := ?_) (a' := ?_) #[true, true, true, true, true, true, true, true, true, true, true, true, true, true, true, true, false, false, false, false] rfl rfl (by kernel_rfl) (fun _ _ _ h => h) (Or.inl ⟨by rfl, ?_⟩) (by assumption) ?_ ?_
  rotate_left
  · intro w' hSw; (try dsimp only at hSw)
    go_simp
    try with_reducible rfl
  rotate_left
  · simp only [Act.put, List.setIfInBounds_toArray, List.set_cons_zero, List.set_cons_succ]
    rfl
  refine take_ (i := 16) (N := (some 117)) (v := ?_) (a' := ?_) #[true, true, true, true, true, true, true, true, true, true, true, true, true, true, true, true, true, false, false, false] rfl rfl (by kernel_rfl) (fun _ _ _ h => h) (Or.inl ⟨by rfl, ?_⟩) (by assumption) ?_ ?_
  rotate_left
  · intro w' hSw; (try dsimp only at hSw)
    go_simp
    try with_reducible rfl
  rotate_left
  · simp only [Act.put, List.setIfInBounds_toArray, List.set_cons_zero, List.set_cons_succ]
    rfl
  refine take_ (i := 17) (N := (some 118)) (v := ?_) (a' := ?_) #[true, true, true, true, true, true, true, true, true, true, true, true, true, true, true, true, true, true, false, false] rfl rfl (by kernel_rfl) (fun _ _ _ h => h) (Or.inl ⟨by rfl, ?_⟩) (by assumption) ?_ ?_
  rotate_left
  · intro w' hSw; (try dsimp only at hSw)
    go_simp
    try with_reducible rfl
  rotate_left
  · simp only [Act.put, List.setIfInBounds_toArray, List.set_cons_zero, List.set_cons_succ]
    rfl
  refine take_ (i := 18) (N := (some 119)) (v := ?_) (a' := ?_) #[true, true, true, true, true, true, true, true, true, true, true, true, true, true, true, true, true, true, true, false] rfl rfl (by kernel_rfl) (fun _ _ _ h => h) (Or.inl ⟨by rfl, ?_⟩) (by assumption) ?_ ?_
  rotate_left
  · intro w' hSw; (try dsimp only at hSw)
    go_simp
    try with_reducible rfl
  rotate_left
  · simp only [Act.put, List.setIfInBounds_toArray, List.set_cons_zero, List.set_cons_succ]
    rfl
  refine take_ (i := 19) (N := (some 120)) (v := ?_) (a' := ?_) #[true, true, true, true, true, true, true, true, true, true, true, true, true, true, true, true, true, true, true, true] rfl rfl (by kernel_rfl) (fun _ _ _ h => h) (Or.inl ⟨by rfl, ?_⟩) (by assumption) ?_ ?_
  rotate_left
  · intro w' hSw; (try dsimp only at hSw)
    go_simp
    try with_reducible rfl
  rotate_left
  · simp only [Act.put, List.setIfInBounds_toArray, List.set_cons_zero, List.set_cons_succ]
    rfl
  refine done_ (by kernel_rfl) ?_
  clear lb lf kh r3 r4 r5 r6 r7 r8 r9
  have ps := Ps.out
  have x25 := hHeld
  go_wp2_with fail
  refine start_ (n := 10) (S := (fun W => Ext u2 W)) (ds := [9]) #[false, false, false, false, false, false, false, false, false, false] (by kernel_rfl) (by kernel_rfl) (by kernel_rfl) (x25.drew) (fun hHeld => ?_)
  refine take_ (i := 0) (N := (some 121)) (v := ?_) (a' := ?_) #[true, false, false, false, false, false, false, false, false, false] rfl rfl (by kernel_rfl) (fun _ _ _ h => h) (Or.inl ⟨by rfl, ?_⟩) (by assumption) ?_ ?_
  rotate_left
  · intro w' hSw; (try dsimp only at hSw)
    go_simp
    try with_reducible rfl
  rotate_left
  · simp only [Act.put, List.setIfInBounds_toArray, List.set_cons_zero, List.set_cons_succ]
    rfl
  refine take_ (i := 1) (N := (some 122)) (v := ?_) (a' := ?_) #[true, true, false, false, false, false, false, false, false, false] rfl rfl (by kernel_rfl) (fun _ _ _ h => h) (Or.inl ⟨by rfl, ?_⟩) (by assumption) ?_ ?_
  rotate_left
  · intro w' hSw; (try dsimp only at hSw)
    go_simp
    try with_reducible rfl
  rotate_left
  · simp only [Act.put, List.setIfInBounds_toArray, List.set_cons_zero, List.set_cons_succ]
    rfl
  refine take_ (i := 2) (N := (some 123)) (v := ?_) (a' := ?_) #[true, true, true, false, false, false, false, false, false, false] rfl rfl (by kernel_rfl) (fun _ _ _ h => h) (Or.inl ⟨by rfl, ?_⟩) (by assumption) ?_ ?_
  rotate_left
  · intro w' hSw; (try dsimp only at hSw)
    go_simp
    try with_reducible rfl
  rotate_left
  · simp only [Act.put, List.setIfInBounds_toArray, List.set_cons_zero, List.set_cons_succ]
    rfl
  refine take_ (i := 3) (N := (some 124)) (v := ?_) (a' := ?_) #[true, true, true, true, false, false, false, false, false, false] rfl rfl (by kernel_rfl) (fun _ _ _ h => h) (Or.inl ⟨by rfl, ?_⟩) (by assumption) ?_ ?_
  rotate_left
  · intro w' hSw; (try dsimp only at hSw)
    go_simp
    try with_reducible rfl
  rotate_left
  · simp only [Act.put, List.setIfInBounds_toArray, List.set_cons_zero, List.set_cons_succ]
    rfl
  refine take_ (i := 4) (N := (some 125)) (v := ?_) (a' := ?_) #[true, true, true, true, true, false, false, false, false, false] rfl rfl (by kernel_rfl) (fun _ _ _ h => h) (Or.inl ⟨by rfl, ?_⟩) (by assumption) ?_ ?_
  rotate_left
  · intro w' hSw; (try dsimp only at hSw)
    go_simp
    try with_reducible rfl
  rotate_left
  · simp only [Act.put, List.setIfInBounds_toArray, List.set_cons_zero, List.set_cons_succ]
    rfl
  refine take_ (i := 5) (N := (some 126)) (v := ?_) (a' := ?_) #[true, true, true, true, true, true, false, false, false, false] rfl rfl (by kernel_rfl) (fun _ _ _ h => h) (Or.inl ⟨by rfl, ?_⟩) (by assumption) ?_ ?_
  rotate_left
  · intro w' hSw; (try dsimp only at hSw)
    go_simp
    try with_reducible rfl
  rotate_left
  · simp only [Act.put, List.setIfInBounds_toArray, List.set_cons_zero, List.set_cons_succ]
    rfl
  refine take_ (i := 6) (N := (some 127)) (v := ?_) (a' := ?_) #[true, true, true, true, true, true, true, false, false, false] rfl rfl (by kernel_rfl) (fun _ _ _ h => h) (Or.inl ⟨by rfl, ?_⟩) (by assumption) ?_ ?_
  rotate_left
  · intro w' hSw; (try dsimp only at hSw)
    go_simp
    try with_reducible rfl
  rotate_left
  · simp only [Act.put, List.setIfInBounds_toArray, List.set_cons_zero, List.set_cons_succ]
    rfl
  refine take_ (i := 7) (N := (some 128)) (v := .agg (s.L).toArray) (a' := ?_) #[true, true, true, true, true, true, true, true, false, false] rfl rfl (by kernel_rfl) (fun _ _ _ h => h) (yieldsIf_load_mid (by rfl) 86 _ rfl g 0 rfl (s.L) _ (fun W hW => (S2.ext hW).all) Tryz.underlying86 rfl (by kernel_rfl)) (by assumption) ?_ ?_
  rotate_left
  · simp only [Act.put, List.setIfInBounds_toArray, List.set_cons_zero, List.set_cons_succ]
    rfl
  refine one_ (i := 8) (N := (some 129)) #[true, true, true, true, true, true, true, true, true, false] rfl rfl (by kernel_rfl) (by simp) (fun K hK => ?_)
  go_simp
  refine (Hw.out _ _ _ (x0u.trans (xu2.trans hHeld)) (h2.ext hHeld)).mono ?_
  rintro e u7 ⟨rfl, x7⟩
  refine hK.out _ _ ?_ (fun hHeld => ?_)
  · first | assumption | exact hHeld.trans (by assumption)
  clear hK K
  (try simp only [Act.put, List.setIfInBounds_toArray, List.set_cons_zero, List.set_cons_succ])
  refine last_ (i := 9) (N := none) #[true, true, true, true, true, true, true, true, true, true] rfl rfl (by kernel_rfl) (by simp) (fun K hK => ?_)
  go_simp
  refine hK.out _ _ ?_
  clear hK K
  (try simp only [Act.put, List.setIfInBounds_toArray, List.set_cons_zero, List.set_cons_succ])
  refine done_ (by kernel_rfl) ?_
  have hfin := (h2.ext hHeld).put_closed s.auc (outV d2 t2.user t2.amount)
  have kfin : Chg (hb :: cm :: redB H.red) w (setB u7 cm (.map ((H.closed ++ [(s.auc, outV d2 t2.user t2.amount, H.cc)]).map entD).toArray (H.cc + 1))) := by
    rw [Hrv.out, hRL.out]
    exact ((ku.mono (by intro k hk; simp only [List.mem_cons] at hk ⊢; rcases hk with hk | hk; exact Or.inl hk; exact Or.inr (Or.inr hk))).ext (xu2.trans hHeld)).trans ((setB_chg _ _ _).mono (by simp))
  have Hfin := Lib.hid hfin
  have Kfin := Lib.hid kfin
  clear hfin kfin ps S2 h2
  go_wp2
  go_ret2
  have Hf2 := Hfin.out
  have Kf2 := Kfin.out
  simp only [List.map_append, List.map_cons, List.map_nil] at Hf2 Kf2
  first | exact ⟨g7, cap7, rfl, Hf2, Kf2⟩ | exact ⟨rfl, ⟨g7, cap7, Hf2⟩, Kf2⟩
end Go.Proofs.YtbemkefcaceekaaGreatDoor
