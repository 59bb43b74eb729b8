/- Top22: House.Do: a name is registered; an auction is closed. -/
import Derived.Test.YtbemkefcaceekaaGreatDoorTop21
set_option linter.unusedVariables false
set_option linter.unusedSimpArgs false
set_option maxRecDepth 100000
namespace Go.Proofs.YtbemkefcaceekaaGreatDoor
open Go.RowKit Go.Lib Go.Shelf Go.Proofs.YtbemkefcaceekaaGreatDoorW.PrintWords Go.Proofs.YtbemkefcaceekaaGreatDoorW.PrintLast

/-- The block that a slice lies in. -/
def redB (v : Value) : List Nat := match v with | .slice (some a) _ _ => [a.block] | _ => []
theorem own_mem {v : Value} {k : Nat} (h : v.ownBlock = some k) : k ∈ redB v := by
  unfold Value.ownBlock at h
  split at h
  · simpa [redB] using h.symm
  · simp at h
theorem grown_chg {w w' : World} {v : Value} (h : w.grownBy w' v.ownBlock) : Chg (redB v) w w' :=
  ⟨h.os, h.tape, h.output, h.size, fun k hk hn => h.block k hk (fun he => hn (own_mem he.symm))⟩
theorem HAt.red_lt {w : World} {base bm um dm cm hb : Nat} {H : Hse} (h : HAt w base bm um dm cm hb H) : ∀ k ∈ redB H.red, base ≤ k ∧ k < w.heap.size := by
  obtain ⟨xs, hx⟩ := h.red
  rcases hx.2 with ⟨e, -⟩ | ⟨g, cap, cur, e, hg, hh, -⟩
  · rw [e]; intro k hk; simp [redB] at hk
  · rw [e]; intro k hk
    obtain rfl : k = g := by simpa [redB] using hk
    exact ⟨hg, (Array.getElem?_eq_some_iff.1 hh).1⟩
theorem HAt.put_red {w w1 : World} {base bm um dm cm hb : Nat} {H : Hse} (h : HAt w base bm um dm cm hb H) (hg : w.grownBy w1 H.red.ownBlock) (xs' : List Value) (v' : Value) (ho : w1.ownsRow base 86 19 v' (H.nred + 1) xs') :
    HAt (w1.setCell ⟨hb, 8, none⟩ v') base bm um dm cm hb { H with red := v', nred := H.nred + 1 } := by
  have k1 := grown_chg hg
  have hr := h.red_lt
  obtain ⟨s1, s2, s3, s4, s5⟩ := h.sizes
  obtain ⟨l1, l2, l3, l4, l5⟩ := h.lt
  have nd := h.nd
  simp only [List.nodup_cons, List.mem_cons, List.not_mem_nil, or_false, not_or, List.nodup_nil, and_true, not_false_eq_true] at nd
  obtain ⟨⟨-, -, -, n1⟩, ⟨-, -, n2⟩, ⟨-, n3⟩, n4⟩ := nd
  have m : ∀ {k : Nat}, k < base → k ∉ redB H.red := fun hk hm => by have := hr _ hm; omega
  have k2 : Chg [hb] w1 (w1.setCell ⟨hb, 8, none⟩ v') := (Chg.refl _ _).set hb 8 _ (by simp)
  have q : ∀ {k : Nat} {o : Obj}, k < w.heap.size → k < base → k ≠ hb → w.heap[k]? = some o → (w1.setCell ⟨hb, 8, none⟩ v').heap[k]? = some o := fun a b c e =>
    (k2.block _ (Nat.lt_of_lt_of_le a k1.size) (by simpa using c)).trans ((k1.block _ a (m b)).trans e)
  refine ⟨?_, q s1 l1 n1 h.blue, q s2 l2 n2 h.users, q s3 l3 n3 h.drawn, q s4 l4 n4 h.closed, ⟨xs', row_chg ho k2 (by simpa using l5)⟩, h.nd, h.lt⟩
  have := blk_set ((k1.block hb s5 (m l5)).trans h.all) 8 v'
  rw [this]
  simp [Hse.L]
theorem HAt.put_user {w : World} {base bm um dm cm hb : Nat} {H : Hse} (h : HAt w base bm um dm cm hb H) (d : ByteArray) (v : Value) : HAt (setB w um (.map ((H.users ++ [(d, v, H.uc)]).map entT).toArray (H.uc + 1))) base bm um dm cm hb { H with users := H.users ++ [(d, v, H.uc)], uc := H.uc + 1 } := by
  have k := setB_chg w um (.map ((H.users ++ [(d, v, H.uc)]).map entT).toArray (H.uc + 1))
  have nd := h.nd
  simp only [List.nodup_cons, List.mem_cons, List.not_mem_nil, or_false, not_or, List.nodup_nil, and_true, not_false_eq_true] at nd
  obtain ⟨⟨n1, -, -, -⟩, ⟨n2, n3, n4⟩, -⟩ := nd
  obtain ⟨s1, s2, s3, s4, s5⟩ := h.sizes
  obtain ⟨xs, hx⟩ := h.red
  exact ⟨(k.block hb s5 (by simpa using Ne.symm n4)).trans h.all, (k.block bm s1 (by simpa using n1)).trans h.blue, setB_at _ s2, (k.block dm s3 (by simpa using Ne.symm n2)).trans h.drawn, (k.block cm s4 (by simpa using Ne.symm n3)).trans h.closed, ⟨xs, row_chg hx k (by simpa using h.lt.2.1)⟩, h.nd, h.lt⟩
theorem HAt.put_closed {w : World} {base bm um dm cm hb : Nat} {H : Hse} (h : HAt w base bm um dm cm hb H) (d : Dt) (v : Value) : HAt (setB w cm (.map ((H.closed ++ [(d, v, H.cc)]).map entD).toArray (H.cc + 1))) base bm um dm cm hb { H with closed := H.closed ++ [(d, v, H.cc)], cc := H.cc + 1 } := by
  have k := setB_chg w cm (.map ((H.closed ++ [(d, v, H.cc)]).map entD).toArray (H.cc + 1))
  have nd := h.nd
  simp only [List.nodup_cons, List.mem_cons, List.not_mem_nil, or_false, not_or, List.nodup_nil, and_true, not_false_eq_true] at nd
  obtain ⟨⟨-, -, n1, -⟩, ⟨-, n2, -⟩, ⟨n3, -⟩, n4⟩ := nd
  obtain ⟨s1, s2, s3, s4, s5⟩ := h.sizes
  obtain ⟨xs, hx⟩ := h.red
  exact ⟨(k.block hb s5 (by simpa using Ne.symm n4)).trans h.all, (k.block bm s1 (by simpa using n1)).trans h.blue, (k.block um s2 (by simpa using n2)).trans h.users, (k.block dm s3 (by simpa using n3)).trans h.drawn, setB_at _ s4, ⟨xs, row_chg hx k (by simpa using h.lt.2.2.2.1)⟩, h.nd, h.lt⟩
theorem info_step : (Tryz.prog.info? 86).map (fun i => (i.zero, i.size, i.bytes)) = some (some (.agg zs19), 19, 168) := by kernel_rfl
theorem run_stepSlice (s : Stp) (w : World) : (Instr.buildSlice 58 1 #[(0, .agg s.L.toArray)]).run Tryz.prog w = .ok (.slice (some ⟨w.heap.size, 0, none⟩) 1 1) (w.alloc (.cells s.L.toArray 86)) := by kernel_rfl
/-- A slice of one step, alone in a region of open order. -/
theorem at_stepSlice {ops : Array Oper} {o : Oper} {a : Act} {Q : Exit → Act → World → Prop} {W : World} {K : Act → World → Prop} {p : Prop} (N : Option Nat) (hd : o.dst = N)
    (hw : Region.wanted o (yielded ops a.tmps) = true) (x : Operand) (ho : o.op = .buildSlice 58 1 #[(0, x)]) (s : Stp) (hx : a.eval x = .agg s.L.toArray)
    (h : K (a.put N (.slice (some ⟨W.heap.size, 0, none⟩) 1 1)) (W.alloc (.cells s.L.toArray 86))) :
    if Region.wanted o (yielded ops a.tmps) = true then o.wp Tryz.prog a W K Q else p := by
  subst hd
  rw [if_pos hw]
  unfold Oper.wp execOp
  simp only [ho, List.map_toArray, List.map_cons, List.map_nil, hx, Sem.run_bind, run_stepSlice, Result.andThen_ok, Sem.run_pure]
  exact h
set_option maxHeartbeats 8000000 in
theorem do_reg (w w0 : World) (base bm um dm cm hb : Nat) (H : Hse) (s : Stp) (h : HAt w base bm um dm cm hb H) (hbase : base ≤ w.heap.size) (x0 : Ext w0 w) (ht : Tabs w0) (lo : w0.heap.size ≤ hb ∧ w0.heap.size ≤ base) (hg : Okay s) (hk : s.kind = 5)
    (hle : le7 s.seen H.have' = true) (hrd : s.reds ≤ H.nred) (hnr : H.nred ≤ 1000) (hu8 : s.user.size ≤ 1048576) (F : ByteArray) (hF : ByteArray.mk (foldL (CH s.user)).toArray = F) (hf : findT F H.users 0 = none) :
    Calls Tryz.prog 68 #[.pointer (some ⟨hb, 0, none⟩), .agg s.L.toArray] w fun e w' => ∃ g cap, e = .returned (.tuple #[.bool true, .int .i64 0]) ∧
      HAt w' base bm um dm cm hb { H with red := .slice (some ⟨g, 0, none⟩) (H.nred + 1) cap, nred := H.nred + 1, users := H.users ++ [(F, Value.bool true, H.uc)], uc := H.uc + 1 } ∧ Chg (hb :: um :: redB H.red) w w' := by
  have Hf := Lib.hid hf
  have HF := Lib.hid hF
  obtain ⟨i0, hi, hz0, hz1, hz2⟩ := info_parts info_step
  obtain ⟨g, Hg⟩ : ∃ h, Hid (w.heap.size = h) := ⟨_, Lib.hid rfl⟩
  obtain ⟨w1, H1⟩ : ∃ x, Hid (w.alloc (.cells s.L.toArray 86) = x) := ⟨_, Lib.hid rfl⟩
  have x1 : Ext w w1 := by rw [← H1.out]; exact (Ext.refl w).alloc _
  have S1 : StAt w1 g s := by rw [← H1.out, ← Hg.out]; exact StAt.new w s
  obtain ⟨xs, hxs⟩ := h.red
  obtain ⟨RA, RC, hrv⟩ : ∃ A c, H.red = .slice A H.nred c := by
    rcases hxs.2 with ⟨e, e0⟩ | ⟨g, cap, cur, e, _⟩
    · exact ⟨none, 0, by rw [e, e0]⟩
    · exact ⟨_, _, e⟩
  rw [hrv] at hxs
  have rlt := h.red_lt
  rw [hrv] at rlt
  have hgl : g ∉ redB (.slice RA H.nred RC) := fun hm => by have := (rlt _ hm).2; have := Hg.out; omega
  have hhl : hb ∉ redB (.slice RA H.nred RC) := fun hm => by have := (rlt _ hm).1; have := h.lt.2.2.2.2; omega
  obtain ⟨RL, hRL⟩ : ∃ l, Hid (redB (.slice RA H.nred RC) = l) := ⟨_, Lib.hid rfl⟩
  rw [hRL.out] at rlt hgl hhl
  have Hxs := Lib.hid hxs
  have Hrlt := Lib.hid rlt
  have Hgl := Lib.hid hgl
  have Hhl := Lib.hid hhl
  have hh := Hg.out
  have q1 := H1.out
  have hred : (decide (5 ≤ s.kind) && decide (s.kind ≤ 7)) = true := by rw [hk]; rfl
  have kl := fun W => le_any s.seen H.have' W
  rw [hle] at kl
  unfold vf at kl
  have Hrv := Lib.hid hrv
  have Hred := Lib.hid hred
  have Hk := Lib.hid hk
  have Hi := Lib.hid hi
  have Hz0 := Lib.hid hz0
  have Hz1 := Lib.hid hz1
  have Hz2 := Lib.hid hz2
  have Hbase := Lib.hid hbase
  have Hnr := Lib.hid hnr
  have Hlo := Lib.hid lo
  clear hxs hrv hle hred hgl rlt hhl hk hi hz0 hz1 hz2 hbase lo hF hf
  go_enter Tryz.func68, Tryz.ntmps68
  go_wp2_with ((with_reducible refine gate_dst (N := 11) rfl ?_); refine halt ?_)
  clear hh q1
  refine unhalt (wpList_load_mid rfl 86 _ rfl g 0 rfl s.L _ S1.all Tryz.underlying86 rfl (by kernel_rfl) ?_)
  go_wp2_with fail
  refine (agood_any s _ (ht.ext (x0.trans x1)) hg).mono ?_
  rintro e w2 ⟨rfl, x2⟩
  go_wp2_with ((with_reducible refine gate_dst (N := 15) rfl ?_); refine halt ?_)
  refine unhalt (wpList_load_g (by rfl) 86 _ rfl g 0 rfl s.L _ (S1.ext x2).all Tryz.underlying86 rfl (by kernel_rfl) ?_)
  go_wp2_with fail
  refine (red_any s _).mono ?_
  rintro e w3 ⟨rfl, x3⟩
  rw [Hred.out]
  have X3 := x1.trans (x2.trans x3)
  have S3 := S1.ext (x2.trans x3)
  have h3 := h.ext X3
  obtain ⟨r0, r1, r2, r3, r4, r5, r6, r7, r8, r9, r10, r11, r12, r13, r14, r15, r16, r17, r18⟩ := S3.rules
  obtain ⟨q0, q1, q2, q3, q4, q5, q6, q7, q8, q9, q10, q11⟩ := h3.rules
  rw [Hrv.out] at q8
  have xT := Ext.refl w3
  go_wp2_with fail
  have hrdI : ¬ ((H.nred : Int) < s.reds) := by omega
  refine start_ (n := 19) (S := (fun W => Ext w3 W)) (ds := []) #[false, false, false, false, false, false, false, false, false, false, false, false, false, false, false, false, false, false, false] (by kernel_rfl) (by kernel_rfl) (by kernel_rfl) (xT.drew) (fun hHeld => ?_)
  refine take_ (i := 0) (N := (some 20)) (v := ?_) (a' := ?_) #[true, false, false, false, false, false, false, false, false, false, false, false, false, false, false, false, false, false, false] rfl rfl (by kernel_rfl) (fun _ _ _ h => h) (Or.inl ⟨by rfl, ?_⟩) (by assumption) ?_ ?_
  rotate_left
  · intro w' hSw; (try dsimp only at hSw)
    go_simp
    try with_reducible rfl
  rotate_left
  · simp only [Act.put, List.setIfInBounds_toArray, List.set_cons_zero, List.set_cons_succ]
    rfl
  refine take_ (i := 1) (N := (some 21)) (v := ?_) (a' := ?_) #[true, true, false, false, false, false, false, false, false, false, false, false, false, false, false, false, false, false, false] rfl rfl (by kernel_rfl) (fun _ _ _ h => h) (Or.inl ⟨by rfl, ?_⟩) (by assumption) ?_ ?_
  rotate_left
  · intro w' hSw; (try dsimp only at hSw)
    go_simp
    try with_reducible rfl
  rotate_left
  · simp only [Act.put, List.setIfInBounds_toArray, List.set_cons_zero, List.set_cons_succ]
    rfl
  refine take_ (i := 2) (N := (some 22)) (v := ?_) (a' := ?_) #[true, true, true, false, false, false, false, false, false, false, false, false, false, false, false, false, false, false, false] rfl rfl (by kernel_rfl) (fun _ _ _ h => h) (Or.inl ⟨by rfl, ?_⟩) (by assumption) ?_ ?_
  rotate_left
  · intro w' hSw; (try dsimp only at hSw)
    go_simp
    try with_reducible rfl
  rotate_left
  · simp only [Act.put, List.setIfInBounds_toArray, List.set_cons_zero, List.set_cons_succ]
    rfl
  refine take_ (i := 3) (N := (some 23)) (v := ?_) (a' := ?_) #[true, true, true, true, false, false, false, false, false, false, false, false, false, false, false, false, false, false, false] rfl rfl (by kernel_rfl) (fun _ _ _ h => h) (Or.inl ⟨by rfl, ?_⟩) (by assumption) ?_ ?_
  rotate_left
  · intro w' hSw; (try dsimp only at hSw)
    go_simp
    try with_reducible rfl
  rotate_left
  · simp only [Act.put, List.setIfInBounds_toArray, List.set_cons_zero, List.set_cons_succ]
    rfl
  refine take_ (i := 4) (N := (some 24)) (v := ?_) (a' := ?_) #[true, true, true, true, true, false, false, false, false, false, false, false, false, false, false, false, false, false, false] rfl rfl (by kernel_rfl) (fun _ _ _ h => h) (Or.inl ⟨by rfl, ?_⟩) (by assumption) ?_ ?_
  rotate_left
  · intro w' hSw; (try dsimp only at hSw)
    go_simp
    try with_reducible rfl
  rotate_left
  · simp only [Act.put, List.setIfInBounds_toArray, List.set_cons_zero, List.set_cons_succ]
    rfl
  refine take_ (i := 5) (N := (some 25)) (v := ?_) (a' := ?_) #[true, true, true, true, true, true, false, false, false, false, false, false, false, false, false, false, false, false, false] rfl rfl (by kernel_rfl) (fun _ _ _ h => h) (Or.inl ⟨by rfl, ?_⟩) (by assumption) ?_ ?_
  rotate_left
  · intro w' hSw; (try dsimp only at hSw)
    go_simp
    try with_reducible rfl
  rotate_left
  · simp only [Act.put, List.setIfInBounds_toArray, List.set_cons_zero, List.set_cons_succ]
    rfl
  refine one_ (i := 6) (N := (some 26)) #[true, true, true, true, true, true, true, false, false, false, false, false, false, false, false, false, false, false, false] rfl rfl (by kernel_rfl) (by simp) (fun K hK => ?_)
  go_simp
  refine (kl _).mono ?_
  rintro e w5 ⟨rfl, x5⟩
  refine hK.out _ _ ?_ (fun hHeld => ?_)
  · first | assumption | exact hHeld.trans (by assumption)
  clear hK K
  (try simp only [Act.put, List.setIfInBounds_toArray, List.set_cons_zero, List.set_cons_succ])
  refine take_ (i := 7) (N := (some 27)) (v := ?_) (a' := ?_) #[true, true, true, true, true, true, true, true, false, false, false, false, false, false, false, false, false, false, false] rfl rfl (by kernel_rfl) (fun _ _ _ h => h) (Or.inl ⟨by rfl, ?_⟩) (by assumption) ?_ ?_
  rotate_left
  · intro w' hSw; (try dsimp only at hSw)
    go_simp
    try with_reducible rfl
  rotate_left
  · simp only [Act.put, List.setIfInBounds_toArray, List.set_cons_zero, List.set_cons_succ]
    rfl
  refine take_ (i := 8) (N := (some 28)) (v := ?_) (a' := ?_) #[true, true, true, true, true, true, true, true, true, false, false, false, false, false, false, false, false, false, false] rfl rfl (by kernel_rfl) (fun _ _ _ h => h) (Or.inl ⟨by rfl, ?_⟩) (by assumption) ?_ ?_
  rotate_left
  · intro w' hSw; (try dsimp only at hSw)
    go_simp
    try with_reducible rfl
  rotate_left
  · simp only [Act.put, List.setIfInBounds_toArray, List.set_cons_zero, List.set_cons_succ]
    rfl
  refine take_ (i := 9) (N := (some 29)) (v := ?_) (a' := ?_) #[true, true, true, true, true, true, true, true, true, true, false, false, false, false, false, false, false, false, false] rfl rfl (by kernel_rfl) (fun _ _ _ h => h) (Or.inl ⟨by rfl, ?_⟩) (by assumption) ?_ ?_
  rotate_left
  · intro w' hSw; (try dsimp only at hSw)
    go_simp
    try with_reducible rfl
  rotate_left
  · simp only [Act.put, List.setIfInBounds_toArray, List.set_cons_zero, List.set_cons_succ]
    rfl
  refine take_ (i := 10) (N := (some 30)) (v := ?_) (a' := ?_) #[true, true, true, true, true, true, true, true, true, true, true, false, false, false, false, false, false, false, false] rfl rfl (by kernel_rfl) (fun _ _ _ h => h) (Or.inl ⟨by rfl, ?_⟩) (by assumption) ?_ ?_
  rotate_left
  · intro w' hSw; (try dsimp only at hSw)
    go_simp
    try with_reducible rfl
  rotate_left
  · simp only [Act.put, List.setIfInBounds_toArray, List.set_cons_zero, List.set_cons_succ]
    rfl
  refine take_ (i := 11) (N := (some 31)) (v := ?_) (a' := ?_) #[true, true, true, true, true, true, true, true, true, true, true, true, false, false, false, false, false, false, false] rfl rfl (by kernel_rfl) (fun _ _ _ h => h) (Or.inl ⟨by rfl, ?_⟩) (by assumption) ?_ ?_
  rotate_left
  · intro w' hSw; (try dsimp only at hSw)
    go_simp
    try with_reducible rfl
  rotate_left
  · simp only [Act.put, List.setIfInBounds_toArray, List.set_cons_zero, List.set_cons_succ]
    rfl
  refine take_ (i := 12) (N := (some 32)) (v := ?_) (a' := ?_) #[true, true, true, true, true, true, true, true, true, true, true, true, true, false, false, false, false, false, false] rfl rfl (by kernel_rfl) (fun _ _ _ h => h) (Or.inl ⟨by rfl, ?_⟩) (by assumption) ?_ ?_
  rotate_left
  · intro w' hSw; (try dsimp only at hSw)
    go_simp
    try with_reducible rfl
  rotate_left
  · simp only [Act.put, List.setIfInBounds_toArray, List.set_cons_zero, List.set_cons_succ]
    rfl
  refine take_ (i := 13) (N := (some 33)) (v := ?_) (a' := ?_) #[true, true, true, true, true, true, true, true, true, true, true, true, true, true, false, false, false, false, false] rfl rfl (by kernel_rfl) (fun _ _ _ h => h) (Or.inl ⟨by rfl, ?_⟩) (by assumption) ?_ ?_
  rotate_left
  · intro w' hSw; (try dsimp only at hSw)
    go_simp
    try with_reducible rfl
  rotate_left
  · simp only [Act.put, List.setIfInBounds_toArray, List.set_cons_zero, List.set_cons_succ]
    rfl
  refine take_ (i := 14) (N := (some 34)) (v := ?_) (a' := ?_) #[true, true, true, true, true, true, true, true, true, true, true, true, true, true, true, false, false, false, false] rfl rfl (by kernel_rfl) (fun _ _ _ h => h) (Or.inl ⟨by rfl, ?_⟩) (by assumption) ?_ ?_
  rotate_left
  · intro w' hSw; (try dsimp only at hSw)
    go_simp
    try with_reducible rfl
  rotate_left
  · simp only [Act.put, List.setIfInBounds_toArray, List.set_cons_zero, List.set_cons_succ]
    rfl
  refine take_ (i := 15) (N := (some 35)) (v := ?_) (a' := ?_) #[true, true, true, true, true, true, true, true, true, true, true, true, true, true, true, true, false, false, false] rfl rfl (by kernel_rfl) (fun _ _ _ h => h) (Or.inl ⟨by rfl, ?_⟩) (by assumption) ?_ ?_
  rotate_left
  · intro w' hSw; (try dsimp only at hSw)
    go_simp
    try with_reducible rfl
  rotate_left
  · simp only [Act.put, List.setIfInBounds_toArray, List.set_cons_zero, List.set_cons_succ]
    rfl
  refine take_ (i := 16) (N := (some 36)) (v := ?_) (a' := ?_) #[true, true, true, true, true, true, true, true, true, true, true, true, true, true, true, true, true, false, false] rfl rfl (by kernel_rfl) (fun _ _ _ h => h) (Or.inl ⟨by rfl, ?_⟩) (by assumption) ?_ ?_
  rotate_left
  · intro w' hSw; (try dsimp only at hSw)
    go_simp
    try with_reducible rfl
  rotate_left
  · simp only [Act.put, List.setIfInBounds_toArray, List.set_cons_zero, List.set_cons_succ]
    rfl
  refine take_ (i := 17) (N := (some 37)) (v := ?_) (a' := ?_) #[true, true, true, true, true, true, true, true, true, true, true, true, true, true, true, true, true, true, false] rfl rfl (by kernel_rfl) (fun _ _ _ h => h) (Or.inl ⟨by rfl, ?_⟩) (by assumption) ?_ ?_
  rotate_left
  · intro w' hSw; (try dsimp only at hSw)
    go_simp
    try with_reducible rfl
  rotate_left
  · simp only [Act.put, List.setIfInBounds_toArray, List.set_cons_zero, List.set_cons_succ]
    rfl
  refine take_ (i := 18) (N := (some 19)) (v := ?_) (a' := ?_) #[true, true, true, true, true, true, true, true, true, true, true, true, true, true, true, true, true, true, true] rfl rfl (by kernel_rfl) (fun _ _ _ h => h) (Or.inl ⟨by rfl, ?_⟩) (by assumption) ?_ ?_
  rotate_left
  · intro w' hSw; (try dsimp only at hSw)
    go_simp
    try with_reducible rfl
  rotate_left
  · simp only [Act.put, List.setIfInBounds_toArray, List.set_cons_zero, List.set_cons_succ]
    rfl
  refine done_ (by kernel_rfl) ?_
  go_wp2_with fail
  have x35 := hHeld
  have h5 := h3.ext hHeld
  have S5 := S3.ext hHeld
  have c8 : ∀ W, Chg RL w5 W → W.cell? ⟨hb, 8, none⟩ = some (.slice RA H.nred RC) := fun W k => by
    have b5 := (k.block hb h5.sizes.2.2.2.2 Hhl.out).trans h5.all
    rw [← Hrv.out]
    simp [World.cell?, b5, Hse.L]
  have f8 : ∀ W, Chg RL w5 W → W.frozen? ⟨hb, 8, none⟩ = false := fun W k => by
    have b5 := (k.block hb h5.sizes.2.2.2.2 Hhl.out).trans h5.all
    simp [World.frozen?, b5]
  have cT : Chg RL w5 w5.drew := Chg.of_ext (Ext.refl w5).drew
  clear r0 r1 r2 r3 r4 r5 r6 r7 r8 r9 r10 r11 r12 r13 r14 r15 r16 r17 r18 q0 q1 q2 q3 q4 q5 q6 q7 q8 q9 q10 q11 kl hrdI
  refine start_ (n := 11) (S := (fun W => Chg RL w5 W)) (ds := [10]) #[false, false, false, false, false, false, false, false, false, false, false] (by kernel_rfl) (by kernel_rfl) (by kernel_rfl) (cT) (fun hHeld => ?_)
  refine take_ (i := 0) (N := (some 38)) (v := ?_) (a' := ?_) #[true, false, false, false, false, false, false, false, false, false, false] rfl rfl (by kernel_rfl) (fun _ _ _ h => h) (Or.inl ⟨by rfl, ?_⟩) (by assumption) ?_ ?_
  rotate_left
  · intro w' hSw; (try dsimp only at hSw)
    go_simp
    try with_reducible rfl
  rotate_left
  · simp only [Act.put, List.setIfInBounds_toArray, List.set_cons_zero, List.set_cons_succ]
    rfl
  refine take_ (i := 1) (N := (some 39)) (v := ?_) (a' := ?_) #[true, true, false, false, false, false, false, false, false, false, false] rfl rfl (by kernel_rfl) (fun _ _ _ h => h) (Or.inl ⟨by rfl, ?_⟩) (by assumption) ?_ ?_
  rotate_left
  · intro w' hSw; (try dsimp only at hSw)
    go_simp
    try with_reducible rfl
  rotate_left
  · simp only [Act.put, List.setIfInBounds_toArray, List.set_cons_zero, List.set_cons_succ]
    rfl
  refine take_ (i := 2) (N := (some 40)) (v := ?_) (a' := ?_) #[true, true, true, false, false, false, false, false, false, false, false] rfl rfl (by kernel_rfl) (fun _ _ _ h => h) (Or.inl ⟨by rfl, ?_⟩) (by assumption) ?_ ?_
  rotate_left
  · intro w' hSw; (try dsimp only at hSw)
    go_simp
    try with_reducible rfl
  rotate_left
  · simp only [Act.put, List.setIfInBounds_toArray, List.set_cons_zero, List.set_cons_succ]
    rfl
  refine take_ (i := 3) (N := (some 41)) (v := ?_) (a' := ?_) #[true, true, true, true, false, false, false, false, false, false, false] rfl rfl (by kernel_rfl) (fun _ _ _ h => h) (Or.inl ⟨by rfl, ?_⟩) (by assumption) ?_ ?_
  rotate_left
  · intro w' hSw; (try dsimp only at hSw)
    go_simp
    try with_reducible rfl
  rotate_left
  · simp only [Act.put, List.setIfInBounds_toArray, List.set_cons_zero, List.set_cons_succ]
    rfl
  refine take_ (i := 4) (N := (some 42)) (v := ?_) (a' := ?_) #[true, true, true, true, true, false, false, false, false, false, false] rfl rfl (by kernel_rfl) (fun _ _ _ h => h) (Or.inl ⟨by rfl, ?_⟩) (by assumption) ?_ ?_
  rotate_left
  · intro w' hSw; (try dsimp only at hSw)
    go_simp
    try with_reducible rfl
  rotate_left
  · simp only [Act.put, List.setIfInBounds_toArray, List.set_cons_zero, List.set_cons_succ]
    rfl
  refine take_ (i := 5) (N := (some 43)) (v := .agg (s.L).toArray) (a' := ?_) #[true, true, true, true, true, true, false, false, false, false, false] rfl rfl (by kernel_rfl) (fun _ _ _ h => h) (yieldsIf_load_mid (by rfl) 86 _ rfl g 0 rfl (s.L) _ (fun W hW => range_chg S5.all hW Hgl.out) Tryz.underlying86 rfl (by kernel_rfl)) (by assumption) ?_ ?_
  rotate_left
  · simp only [Act.put, List.setIfInBounds_toArray, List.set_cons_zero, List.set_cons_succ]
    rfl
  refine one_ (i := 6) (N := (some 44)) #[true, true, true, true, true, true, true, false, false, false, false] rfl rfl (by kernel_rfl) (by simp) (fun K hK => ?_)
  refine at_stepSlice (some 44) rfl rfl _ rfl s rfl ?_
  obtain ⟨gz, GZ⟩ : ∃ x, Hid ((World.heap w5.drew).size = x) := ⟨_, Lib.hid rfl⟩
  obtain ⟨w6, W6⟩ : ∃ x, Hid (World.alloc w5.drew (.cells s.L.toArray 86) = x) := ⟨_, Lib.hid rfl⟩
  rw [GZ.out, W6.out]
  have e56 : Ext w5 w6 := by rw [← W6.out]; exact (Ext.refl _).drew.alloc _
  have bz : w6.heap[gz]? = some (.cells s.L.toArray 86) := by rw [← W6.out, ← GZ.out]; exact Array.getElem?_push_size
  have k56 : Chg RL w5 w6 := Chg.of_ext e56
  have Sz : StAt w6 gz s := StAt.of_block bz
  have own6 := row_chg (row_chg Hxs.out (Chg.of_ext (l := []) (X3.trans x35)) (by simp)) (Chg.of_ext (l := []) e56) (by simp)
  have Own6 := Lib.hid own6
  clear own6 bz
  refine hK.out _ _ ?_ (fun hHeld => ?_)
  · first | assumption | exact hHeld.trans (by assumption)
  clear hK K
  (try simp only [Act.put, List.setIfInBounds_toArray, List.set_cons_zero, List.set_cons_succ])
  refine one_ (i := 7) (N := (some 45)) #[true, true, true, true, true, true, true, true, false, false, false] rfl rfl (by kernel_rfl) (by simp) (fun K hK => ?_)
  refine at_own (some 45) rfl rfl _ _ 58 rfl base 86 i0 (.agg zs19) 19 168 Tryz.underlying58 Hi.out Hz0.out Hz1.out Hz2.out rfl (by decide) (.slice RA H.nred RC) H.nred xs rfl Own6.out ⟨gz, 0, none⟩ 1 1 s.L rfl rfl (fun j u hj => by have := Sz.all j u hj; rw [Nat.zero_add] at this; by_cases e : j = 0 <;> simpa [Addr.add, e] using this) (oneCell_L s) (by have := Hnr.out; unfold maxLen; omega) (by have := Hnr.out; omega) (by have := e56.size; have := (X3.trans x35).size; have := Hbase.out; omega) ?_
  intro v7 w7 own7 hgr7 _
  obtain ⟨g7, cap7, rfl⟩ : ∃ g cap, v7 = .slice (some ⟨g, 0, none⟩) (H.nred + 1) cap := by
    rcases own7.2 with ⟨-, h0⟩ | ⟨g, cap, cur, hv, -⟩
    · omega
    · exact ⟨g, cap, hv⟩
  have k67 : Chg RL w6 w7 := by
    have k := grown_chg hgr7
    rw [hRL.out] at k
    exact k
  have k57 := k56.trans k67
  have f7 := f8 w7 k57
  have c7 := c8 w7 k57
  obtain ⟨u, U⟩ : ∃ x, Hid (w7.setCell ⟨hb, 8, none⟩ (.slice (some ⟨g7, 0, none⟩) (H.nred + 1) cap7) = x) := ⟨_, Lib.hid rfl⟩
  have ru := U.out
  have Hgr7 := Lib.hid hgr7
  have Own7 := Lib.hid own7
  clear hgr7 own7
  refine hK.out _ _ ?_ (fun hHeld => ?_)
  · first | assumption | exact hHeld.trans (by assumption)
  clear hK K
  (try simp only [Act.put, List.setIfInBounds_toArray, List.set_cons_zero, List.set_cons_succ])
  refine take_ (i := 8) (N := (some 46)) (v := ?_) (a' := ?_) #[true, true, true, true, true, true, true, true, true, false, false] rfl rfl (by kernel_rfl) (fun _ _ _ h => h) (Or.inl ⟨by rfl, ?_⟩) (by assumption) ?_ ?_
  rotate_left
  · intro w' hSw; (try dsimp only at hSw)
    go_simp
    try with_reducible rfl
  rotate_left
  · simp only [Act.put, List.setIfInBounds_toArray, List.set_cons_zero, List.set_cons_succ]
    rfl
  refine take_ (i := 9) (N := (some 47)) (v := ?_) (a' := ?_) #[true, true, true, true, true, true, true, true, true, true, false] rfl rfl (by kernel_rfl) (fun _ _ _ h => h) (Or.inl ⟨by rfl, ?_⟩) (by assumption) ?_ ?_
  rotate_left
  · intro w' hSw; (try dsimp only at hSw)
    go_simp
    try with_reducible rfl
  rotate_left
  · simp only [Act.put, List.setIfInBounds_toArray, List.set_cons_zero, List.set_cons_succ]
    rfl
  refine last_ (i := 10) (N := none) #[true, true, true, true, true, true, true, true, true, true, true] rfl rfl (by kernel_rfl) (by simp) (fun K hK => ?_)
  go_simp
  clear ru
  refine hK.out _ _ ?_
  clear hK K
  (try simp only [Act.put, List.setIfInBounds_toArray, List.set_cons_zero, List.set_cons_succ])
  refine done_ (by kernel_rfl) ?_
  have hu : HAt u base bm um dm cm hb { H with red := .slice (some ⟨g7, 0, none⟩) (H.nred + 1) cap7, nred := H.nred + 1 } := by
    rw [← U.out]
    exact (h5.ext e56).put_red (by rw [Hrv.out]; exact Hgr7.out) _ _ Own7.out
  have ku : Chg (hb :: RL) w u := by
    rw [← U.out]
    exact ((Chg.of_ext (X3.trans x35)).trans (k57.mono (by simp +contextual))).set hb 8 _ (by simp)
  have hgu : g ∉ hb :: RL := by
    have := h.sizes.2.2.2.2
    have := Hg.out
    have := Hgl.out
    simp only [List.mem_cons, not_or]
    exact ⟨by omega, this⟩
  have k5u : Chg (hb :: RL) w5 u := by
    rw [← U.out]
    exact (k57.mono (by simp +contextual)).set hb 8 _ (by simp)
  have Su : StAt u g s := ⟨range_chg S5.all k5u hgu⟩
  have x0u : Ext w0 u := ku.toExt x0 (fun k hk => by
    rcases List.mem_cons.1 hk with rfl | hk
    · exact Hlo.out.1
    · have := (Hrlt.out k hk).1
      have := Hlo.out.2
      omega)
  clear c8 f8 cT k57 k67 k56 f7 c7 S5 S3 S1 h5 h3 hHeld
  have c12 := Su.cell 12 _ rfl
  go_wp2_with fail
  refine (fold_any s.user _ hu8 (ht.ext x0u)).mono ?_
  rintro e u2 ⟨rfl, xu2⟩
  clear c12
  have h2 := hu.ext xu2
  have S2 := Su.ext xu2
  rw [HF.out]
  have c0 : u2.cell? ⟨g, 0, none⟩ = some (.int .i64 5) := by rw [← Hk.out]; exact S2.cell 0 _ rfl
  have c9 := h2.cell 9 _ rfl
  have lu : (Instr.lookup 54 (.map (some um)) (.string F) false).run Tryz.prog u2 = .ok (.bool false) u2 := by
    have := (look_str Tryz.underlying54 h2.users F (.bool false) (by kernel_rfl))
    dsimp only at this
    rw [Hf.out] at this
    exact this
  obtain ⟨u3, U3⟩ : ∃ x, Hid (setB u2 um (.map ((H.users ++ [(F, Value.bool true, H.uc)]).map entT).toArray (H.uc + 1)) = x) := ⟨_, Lib.hid rfl⟩
  have lp : (Instr.mapUpdate 54 (.map (some um)) (.string F) (.bool true)).run Tryz.prog u2 = .ok () u3 := by
    rw [← U3.out]
    exact store_str Tryz.underlying54 h2.users F (.bool true) Hf.out
  have hfin : HAt u3 base bm um dm cm hb { H with red := .slice (some ⟨g7, 0, none⟩) (H.nred + 1) cap7, nred := H.nred + 1, users := H.users ++ [(F, Value.bool true, H.uc)], uc := H.uc + 1 } := by
    rw [← U3.out]
    exact h2.put_user F (.bool true)
  have kfin : Chg (hb :: um :: redB H.red) w u3 := by
    rw [← U3.out, Hrv.out, hRL.out]
    exact ((ku.mono (by intro k hk; simp only [List.mem_cons] at hk ⊢; rcases hk with hk | hk; exact Or.inl hk; exact Or.inr (Or.inr hk))).ext xu2).trans ((setB_chg _ _ _).mono (by simp))
  have Hfin := Lib.hid hfin
  have Kfin := Lib.hid kfin
  clear hfin kfin S2 h2
  go_wp2
  go_ret2
  exact ⟨g7, cap7, rfl, Hfin.out, Kfin.out⟩
end Go.Proofs.YtbemkefcaceekaaGreatDoor
