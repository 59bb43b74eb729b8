/- Top19: an append alone in a region; IndexFunc, DeleteFunc, MaxFunc at one element; best, and the two closures. -/
import Derived.Test.YtbemkefcaceekaaGreatDoorTop18
set_option linter.unusedVariables false
set_option linter.unusedSimpArgs false
set_option maxRecDepth 100000
namespace Go.Proofs.YtbemkefcaceekaaGreatDoor
open Go.RowKit Go.Lib Go.Shelf Go.Proofs.YtbemkefcaceekaaGreatDoorW.PrintWords Go.Proofs.YtbemkefcaceekaaGreatDoorW.PrintLast

/-- append onto an own slice, alone in a region of open order. -/
theorem at_own {ops : Array Oper} {o : Oper} {a : Act} {Q : Exit → Act → World → Prop} {W : World} {K : Act → World → Prop} {p : Prop} (N : Option Nat) (hd : o.dst = N)
    (hw : Region.wanted o (yielded ops a.tmps) = true) (s x : Operand) (t : TypeId)
    (ho : o.op = .call { callee := .builtin .append, args := #[s, x], argTypes := #[t, t] })
    (base : Nat) (e : TypeId) (i : TypeInfo) (z : Value) (size bytes : Nat) (ht : Tryz.prog.underlying t = some (.slice e)) (hi : Tryz.prog.info? e = some i) (hz : i.zero = some z)
    (hsize : i.size = size) (hby : i.bytes = bytes) (hzs : z.cells.size = size) (hsz : 0 < size)
    (v : Value) (n : Nat) (xs : List Value) (hs : a.eval s = v) (hown : W.ownsRow base e size v n xs)
    (ad : Addr) (m c : Nat) (news : List Value) (hx : a.eval x = .slice (some ad) m c) (hl : news.length = m * size) (hnews : ∀ j u, news[j]? = some u → W.cell? (ad.add j) = some u) (h1 : ∀ u ∈ news, u.oneCell' = true)
    (h63 : n + m ≤ maxLen) (hbytes : (n + m) * bytes ≤ 140737488355328) (hbase : base ≤ W.heap.size)
    (h : ∀ v' w', w'.ownsRow base e size v' (n + m) (xs ++ news) → W.grownBy w' v.ownBlock → (v'.ownBlock = v.ownBlock ∨ v'.ownBlock = some W.heap.size) → K (a.put N v') w') :
    if Region.wanted o (yielded ops a.tmps) = true then o.wp Tryz.prog a W K Q else p := by
  subst hd
  obtain ⟨v', w', hr, h2, h3, h4, h5⟩ := run_append_own_at (P := Tryz.prog) W base t o.type e i z size bytes ht hi hz hsize hby hzs hsz v n xs hown ad m c news hl hnews h1 h63 hbytes hbase
  rw [if_pos hw]
  unfold Oper.wp execOp
  simp only [ho, resolve, invoke, builtin, Sem.run_bind, Sem.run_pure, Result.andThen_ok, List.map_toArray, List.map_cons, List.map_nil, hs, hx, hr]
  exact h v' w' h2 h3 h5

/- slices.IndexFunc, DeleteFunc at one element that stays. -/
theorem indexf_b (p : Nat) (d : Dt) (g c : Nat) (hc : 1 ≤ c) (w : World) (h0 : w.cell? ⟨g, 0, none⟩ = some (.int .i64 d.rep)) (h1 : w.cell? ⟨g, 1, none⟩ = some (.int .i64 d.n))
    (hF : ∀ W, Ext w W → Calls Tryz.prog 169 #[dotv d.rep d.n, .pointer (some ⟨p, 0, none⟩)] W fun e w' => e = .returned (.bool false) ∧ Ext W w') :
    Calls Tryz.prog 181 #[.slice (some ⟨g, 0, none⟩) 1 c, .func (.func 169) #[] #[.pointer (some ⟨p, 0, none⟩)]] w fun e w' => e = .returned (.int .i64 (-1)) ∧ Ext w w' := by
  unfold dotv at hF
  have Hf := Lib.hid hF
  clear hF
  go_enter Tryz.func181, Tryz.ntmps181
  go_wp2_with fail
  refine wp_loop_rounds 2 ?_
  rw [rounds_succ]
  go_wp2_with fail
  refine (Hf.out _ (Ext.refl _)).mono ?_
  rintro e w1 ⟨rfl, x1⟩
  go_wp2_with fail
  rw [rounds_succ]
  go_wp2
  go_ret
  exact ⟨rfl, x1⟩
theorem deletef_b (p : Nat) (d : Dt) (g c : Nat) (hc : 1 ≤ c) (w : World) (h0 : w.cell? ⟨g, 0, none⟩ = some (.int .i64 d.rep)) (h1 : w.cell? ⟨g, 1, none⟩ = some (.int .i64 d.n))
    (hF : ∀ W, Ext w W → Calls Tryz.prog 169 #[dotv d.rep d.n, .pointer (some ⟨p, 0, none⟩)] W fun e w' => e = .returned (.bool false) ∧ Ext W w') :
    Calls Tryz.prog 149 #[.slice (some ⟨g, 0, none⟩) 1 c, .func (.func 169) #[] #[.pointer (some ⟨p, 0, none⟩)]] w fun e w' => e = .returned (.slice (some ⟨g, 0, none⟩) 1 c) ∧ Ext w w' := by
  have Hk := Lib.hid (indexf_b p d g c hc w h0 h1 hF)
  clear hF h0 h1
  go_enter Tryz.func149, Tryz.ntmps149
  go_wp2_with fail
  refine Hk.out.mono ?_
  rintro e w1 ⟨rfl, x1⟩
  go_wp2
  go_ret
  exact ⟨rfl, x1⟩
theorem indexf_e (p : Nat) (d : Dt) (g c : Nat) (hc : 1 ≤ c) (w : World) (h0 : w.cell? ⟨g, 0, none⟩ = some (.int .i64 d.rep)) (h1 : w.cell? ⟨g, 1, none⟩ = some (.int .i64 d.n))
    (hF : ∀ W, Ext w W → Calls Tryz.prog 150 #[dotv d.rep d.n, .pointer (some ⟨p, 0, none⟩)] W fun e w' => e = .returned (.bool false) ∧ Ext W w') :
    Calls Tryz.prog 181 #[.slice (some ⟨g, 0, none⟩) 1 c, .func (.func 150) #[] #[.pointer (some ⟨p, 0, none⟩)]] w fun e w' => e = .returned (.int .i64 (-1)) ∧ Ext w w' := by
  unfold dotv at hF
  have Hf := Lib.hid hF
  clear hF
  go_enter Tryz.func181, Tryz.ntmps181
  go_wp2_with fail
  refine wp_loop_rounds 2 ?_
  rw [rounds_succ]
  go_wp2_with fail
  refine (Hf.out _ (Ext.refl _)).mono ?_
  rintro e w1 ⟨rfl, x1⟩
  go_wp2_with fail
  rw [rounds_succ]
  go_wp2
  go_ret
  exact ⟨rfl, x1⟩
theorem deletef_e (p : Nat) (d : Dt) (g c : Nat) (hc : 1 ≤ c) (w : World) (h0 : w.cell? ⟨g, 0, none⟩ = some (.int .i64 d.rep)) (h1 : w.cell? ⟨g, 1, none⟩ = some (.int .i64 d.n))
    (hF : ∀ W, Ext w W → Calls Tryz.prog 150 #[dotv d.rep d.n, .pointer (some ⟨p, 0, none⟩)] W fun e w' => e = .returned (.bool false) ∧ Ext W w') :
    Calls Tryz.prog 149 #[.slice (some ⟨g, 0, none⟩) 1 c, .func (.func 150) #[] #[.pointer (some ⟨p, 0, none⟩)]] w fun e w' => e = .returned (.slice (some ⟨g, 0, none⟩) 1 c) ∧ Ext w w' := by
  have Hk := Lib.hid (indexf_e p d g c hc w h0 h1 hF)
  clear hF h0 h1
  go_enter Tryz.func149, Tryz.ntmps149
  go_wp2_with fail
  refine Hk.out.mono ?_
  rintro e w1 ⟨rfl, x1⟩
  go_wp2
  go_ret
  exact ⟨rfl, x1⟩
theorem results_cell1 {P : Program} {fn : Func} {p : Tmp} {ty : TypeId} (h : fn.results = #[.cell p ty]) (tmps : Array Value) (w : World) (g : Nat) (t : TypeId) (cs : Array Value) (fr : Nat × Nat) (d : TypeDesc)
    (hp : tmps.getD p undef = .pointer (some ⟨g, 0, none⟩)) (hg : w.heap[g]? = some (.cells cs t fr))
    (hu : P.underlying ty = some d) (hd : (match d with | .struct _ | .array _ _ => true | _ => false) = true) (hi : (P.info? ty).map (·.size) = some cs.size) :
    (results fn tmps).run P w = .ok (.agg cs) w := by
  have hp' : tmps[p]?.getD undef = .pointer (some ⟨g, 0, none⟩) := by simpa using hp
  simp [results, h, hp', asAddr, run_loadVar_row w g t ty cs fr d hg hu hd hi]
/-- slices.MaxFunc at one element. -/
theorem maxf_one (f : Value) (d : Dt) (g c : Nat) (hc : 1 ≤ c) (w : World) (h0 : w.cell? ⟨g, 0, none⟩ = some (.int .i64 d.rep)) (h1 : w.cell? ⟨g, 1, none⟩ = some (.int .i64 d.n)) :
    Calls Tryz.prog 129 #[.slice (some ⟨g, 0, none⟩) 1 c, f] w fun e w' => e = .returned (dotv d.rep d.n) ∧ Ext w w' := by
  obtain ⟨r, n⟩ := d
  dsimp only at h0 h1 ⊢
  have x0 := Ext.refl w
  obtain ⟨ga, Gga⟩ : ∃ x, Hid ((World.heap w).size = x) := ⟨_, Lib.hid rfl⟩
  obtain ⟨wa, Hwa⟩ : ∃ x, Hid ((World.alloc w (.cells #[.int .i64 0, .int .i64 0] 64)) = x) := ⟨_, Lib.hid rfl⟩
  have bga_wa : wa.heap[ga]? = some (.cells #[.int .i64 0, .int .i64 0] 64) := by rw [← Hwa.out, ← Gga.out]; exact Array.getElem?_push_size
  have ewa : Ext w wa := by rw [← Hwa.out]; exact ((Ext.refl _).alloc _)
  have xwa : Ext w wa := Ext.trans (x0) ewa
  have lga : (World.heap w).size ≤ ga := Nat.le_trans (Ext.size (x0)) (Nat.le_of_eq Gga.out)
  obtain ⟨gb, Ggb⟩ : ∃ x, Hid ((World.heap wa).size = x) := ⟨_, Lib.hid rfl⟩
  obtain ⟨wb, Hwb⟩ : ∃ x, Hid ((World.alloc wa (.cells #[.int .i64 0, .int .i64 0] 64)) = x) := ⟨_, Lib.hid rfl⟩
  have bgb_wb : wb.heap[gb]? = some (.cells #[.int .i64 0, .int .i64 0] 64) := by rw [← Hwb.out, ← Ggb.out]; exact Array.getElem?_push_size
  have ewb : Ext wa wb := by rw [← Hwb.out]; exact ((Ext.refl _).alloc _)
  have xwb : Ext w wb := Ext.trans (xwa) ewb
  have lgb : (World.heap w).size ≤ gb := Nat.le_trans (Ext.size (xwa)) (Nat.le_of_eq Ggb.out)
  have ngagb : ga ≠ gb := Nat.ne_of_lt (Nat.lt_of_lt_of_eq (Array.getElem?_eq_some_iff.1 bga_wa).1 Ggb.out)
  have bga_wb : wb.heap[ga]? = some (.cells #[.int .i64 0, .int .i64 0] 64) := (ewb.out.block _ (Array.getElem?_eq_some_iff.1 bga_wa).1).trans bga_wa
  have cgb_wb_0 : wb.cell? ⟨gb, 0, none⟩ = some (.int .i64 0) := by simp [World.cell?, bgb_wb]
  have fgb_wb_0 : wb.frozen? ⟨gb, 0, none⟩ = false := by simp [World.frozen?, bgb_wb]
  have cgb_wb_1 : wb.cell? ⟨gb, 1, none⟩ = some (.int .i64 0) := by simp [World.cell?, bgb_wb]
  have fgb_wb_1 : wb.frozen? ⟨gb, 1, none⟩ = false := by simp [World.frozen?, bgb_wb]
  obtain ⟨wc, Hwc⟩ : ∃ x, Hid ((World.setCell (World.setCell wb ⟨gb, 0, none⟩ (.int .i64 r)) ⟨gb, 1, none⟩ (.int .i64 n)) = x) := ⟨_, Lib.hid rfl⟩
  have bgb_wc : wc.heap[gb]? = some (.cells #[.int .i64 r, .int .i64 n] 64) := by rw [← Hwc.out]; exact (blk_set (blk_set bgb_wb 0 _) 1 _)
  have kwc : Chg [gb] wb wc := by rw [← Hwc.out]; exact (Chg.set (Chg.set (Chg.refl [gb] wb) gb 0 _ (by simp)) gb 1 _ (by simp))
  have xwc : Ext w wc := by rw [← Hwc.out]; exact ((Ext.setCell (Ext.setCell xwb (p := ⟨gb, 0, none⟩) lgb _) (p := ⟨gb, 1, none⟩) lgb _))
  have bga_wc : wc.heap[ga]? = some (.cells #[.int .i64 0, .int .i64 0] 64) := (kwc.block _ (Array.getElem?_eq_some_iff.1 bga_wb).1 (by simpa using ngagb)).trans bga_wb
  have cgb_wc_0 : wc.cell? ⟨gb, 0, none⟩ = some (.int .i64 r) := by simp [World.cell?, bgb_wc]
  have cgb_wc_1 : wc.cell? ⟨gb, 1, none⟩ = some (.int .i64 n) := by simp [World.cell?, bgb_wc]
  have cga_wc_0 : wc.cell? ⟨ga, 0, none⟩ = some (.int .i64 0) := by simp [World.cell?, bga_wc]
  have fga_wc_0 : wc.frozen? ⟨ga, 0, none⟩ = false := by simp [World.frozen?, bga_wc]
  have cga_wc_1 : wc.cell? ⟨ga, 1, none⟩ = some (.int .i64 0) := by simp [World.cell?, bga_wc]
  have fga_wc_1 : wc.frozen? ⟨ga, 1, none⟩ = false := by simp [World.frozen?, bga_wc]
  obtain ⟨wd, Hwd⟩ : ∃ x, Hid ((World.setCell (World.setCell wc ⟨ga, 0, none⟩ (.int .i64 r)) ⟨ga, 1, none⟩ (.int .i64 n)) = x) := ⟨_, Lib.hid rfl⟩
  have bga_wd : wd.heap[ga]? = some (.cells #[.int .i64 r, .int .i64 n] 64) := by rw [← Hwd.out]; exact (blk_set (blk_set bga_wc 0 _) 1 _)
  have kwd : Chg [ga] wc wd := by rw [← Hwd.out]; exact (Chg.set (Chg.set (Chg.refl [ga] wc) ga 0 _ (by simp)) ga 1 _ (by simp))
  have xwd : Ext w wd := by rw [← Hwd.out]; exact ((Ext.setCell (Ext.setCell xwc (p := ⟨ga, 0, none⟩) lga _) (p := ⟨ga, 1, none⟩) lga _))
  have bgb_wd : wd.heap[gb]? = some (.cells #[.int .i64 r, .int .i64 n] 64) := (kwd.block _ (Array.getElem?_eq_some_iff.1 bgb_wc).1 (by simpa using (Ne.symm ngagb))).trans bgb_wc
  have cga_wd_0 : wd.cell? ⟨ga, 0, none⟩ = some (.int .i64 r) := by simp [World.cell?, bga_wd]
  have cga_wd_1 : wd.cell? ⟨ga, 1, none⟩ = some (.int .i64 n) := by simp [World.cell?, bga_wd]
  have eq_Gga := Gga.out
  have eq_Hwa := Hwa.out
  have eq_Ggb := Ggb.out
  have eq_Hwb := Hwb.out
  have eq_Hwc := Hwc.out
  have eq_Hwd := Hwd.out
  have y0a := xwa.cell h0
  have y1a := xwa.cell h1
  have y0 := xwb.cell h0
  have y1 := xwb.cell h1
  unfold dotv
  go_enter Tryz.func129, Tryz.ntmps129
  go_wp2_with fail
  refine wp_loop_rounds 1 ?_
  rw [rounds_succ]
  go_wp2
  refine bodyPost_ret (results_cell1 rfl _ _ ga 64 #[.int .i64 r, .int .i64 n] (0, 0) _ rfl bga_wd Tryz.underlying64 rfl (by kernel_rfl)) rfl ⟨rfl, xwd⟩
/-- The closure of bids, at no one gone. -/
theorem bids1_any (w : World) (gp gm : Nat) (d : Dt) (hc : w.cell? ⟨gp, 0, none⟩ = some (.map (some gm))) (hm : MapD w gm [] 0) :
    Calls Tryz.prog 169 #[dotv d.rep d.n, .pointer (some ⟨gp, 0, none⟩)] w fun e w' => e = .returned (.bool false) ∧ Ext w w' := by
  obtain ⟨r, n⟩ := d
  have x0 := Ext.refl w
  obtain ⟨ga, Gga⟩ : ∃ x, Hid ((World.heap w).size = x) := ⟨_, Lib.hid rfl⟩
  obtain ⟨wa, Hwa⟩ : ∃ x, Hid ((World.alloc w (.cells #[.int .i64 r, .int .i64 n] 64)) = x) := ⟨_, Lib.hid rfl⟩
  have bga_wa : wa.heap[ga]? = some (.cells #[.int .i64 r, .int .i64 n] 64) := by rw [← Hwa.out, ← Gga.out]; exact Array.getElem?_push_size
  have ewa : Ext w wa := by rw [← Hwa.out]; exact ((Ext.refl _).alloc _)
  have xwa : Ext w wa := Ext.trans (x0) ewa
  have lga : (World.heap w).size ≤ ga := Nat.le_trans (Ext.size (x0)) (Nat.le_of_eq Gga.out)
  have cga_wa_0 : wa.cell? ⟨ga, 0, none⟩ = some (.int .i64 r) := by simp [World.cell?, bga_wa]
  have cga_wa_1 : wa.cell? ⟨ga, 1, none⟩ = some (.int .i64 n) := by simp [World.cell?, bga_wa]
  have eq_Gga := Gga.out
  have eq_Hwa := Hwa.out
  have cp := xwa.cell hc
  have lk : (Instr.lookup 210 (.map (some gm)) (.agg #[.int .i64 r, .int .i64 n]) false).run Tryz.prog wa = .ok (.bool false) wa := by
    have := (look_dot Tryz.underlying210 (MapD.ext hm xwa) ⟨r, n⟩ (.bool false) (by kernel_rfl)).1
    exact this
  clear hm hc bga_wa
  unfold dotv
  go_enter Tryz.func169, Tryz.ntmps169
  go_wp2
  go_ret
  exact ⟨rfl, xwa⟩
/-- best of one. -/
theorem best_one (w : World) (hb : Nat) (d : Dt) (g c : Nat) (hc : 1 ≤ c) (h0 : w.cell? ⟨g, 0, none⟩ = some (.int .i64 d.rep)) (h1 : w.cell? ⟨g, 1, none⟩ = some (.int .i64 d.n)) :
    Calls Tryz.prog 78 #[.pointer (some ⟨hb, 0, none⟩), .slice (some ⟨g, 0, none⟩) 1 c] w fun e w' => e = .returned (.tuple #[dotv d.rep d.n, .bool true]) ∧ Ext w w' := by
  obtain ⟨r, n⟩ := d
  have x0 := Ext.refl w
  obtain ⟨ga, Gga⟩ : ∃ x, Hid ((World.heap w).size = x) := ⟨_, Lib.hid rfl⟩
  obtain ⟨wa, Hwa⟩ : ∃ x, Hid ((World.alloc w (.cells #[.pointer (some ⟨hb, 0, none⟩)] 34)) = x) := ⟨_, Lib.hid rfl⟩
  have bga_wa : wa.heap[ga]? = some (.cells #[.pointer (some ⟨hb, 0, none⟩)] 34) := by rw [← Hwa.out, ← Gga.out]; exact Array.getElem?_push_size
  have ewa : Ext w wa := by rw [← Hwa.out]; exact ((Ext.refl _).alloc _)
  have xwa : Ext w wa := Ext.trans (x0) ewa
  have lga : (World.heap w).size ≤ ga := Nat.le_trans (Ext.size (x0)) (Nat.le_of_eq Gga.out)
  obtain ⟨gb, Ggb⟩ : ∃ x, Hid ((World.heap wa).size = x) := ⟨_, Lib.hid rfl⟩
  obtain ⟨wb, Hwb⟩ : ∃ x, Hid ((World.alloc wa (.cells #[.int .i64 0, .int .i64 0] 64)) = x) := ⟨_, Lib.hid rfl⟩
  have bgb_wb : wb.heap[gb]? = some (.cells #[.int .i64 0, .int .i64 0] 64) := by rw [← Hwb.out, ← Ggb.out]; exact Array.getElem?_push_size
  have ewb : Ext wa wb := by rw [← Hwb.out]; exact ((Ext.refl _).alloc _)
  have xwb : Ext w wb := Ext.trans (xwa) ewb
  have lgb : (World.heap w).size ≤ gb := Nat.le_trans (Ext.size (xwa)) (Nat.le_of_eq Ggb.out)
  have ngagb : ga ≠ gb := Nat.ne_of_lt (Nat.lt_of_lt_of_eq (Array.getElem?_eq_some_iff.1 bga_wa).1 Ggb.out)
  have bga_wb : wb.heap[ga]? = some (.cells #[.pointer (some ⟨hb, 0, none⟩)] 34) := (ewb.out.block _ (Array.getElem?_eq_some_iff.1 bga_wa).1).trans bga_wa
  have eq_Gga := Gga.out
  have eq_Hwa := Hwa.out
  have eq_Ggb := Ggb.out
  have eq_Hwb := Hwb.out
  have hk := fun f => maxf_one f ⟨r, n⟩ g c hc wb (xwb.cell h0) (xwb.cell h1)
  unfold dotv at hk ⊢
  have Hk := Lib.hid hk
  clear hk h0 h1
  go_enter Tryz.func78, Tryz.ntmps78
  go_wp2_with fail
  refine (Hk.out _).mono ?_
  rintro e wc ⟨rfl, ec⟩
  have xwc : Ext w wc := Ext.trans (xwb) ec
  have bga_wc : wc.heap[ga]? = some (.cells #[.pointer (some ⟨hb, 0, none⟩)] 34) := (ec.out.block _ (Array.getElem?_eq_some_iff.1 bga_wb).1).trans bga_wb
  have bgb_wc : wc.heap[gb]? = some (.cells #[.int .i64 0, .int .i64 0] 64) := (ec.out.block _ (Array.getElem?_eq_some_iff.1 bgb_wb).1).trans bgb_wb
  have cgb_wc_0 : wc.cell? ⟨gb, 0, none⟩ = some (.int .i64 0) := by simp [World.cell?, bgb_wc]
  have fgb_wc_0 : wc.frozen? ⟨gb, 0, none⟩ = false := by simp [World.frozen?, bgb_wc]
  have cgb_wc_1 : wc.cell? ⟨gb, 1, none⟩ = some (.int .i64 0) := by simp [World.cell?, bgb_wc]
  have fgb_wc_1 : wc.frozen? ⟨gb, 1, none⟩ = false := by simp [World.frozen?, bgb_wc]
  obtain ⟨wd, Hwd⟩ : ∃ x, Hid ((World.setCell (World.setCell wc ⟨gb, 0, none⟩ (.int .i64 r)) ⟨gb, 1, none⟩ (.int .i64 n)) = x) := ⟨_, Lib.hid rfl⟩
  have bgb_wd : wd.heap[gb]? = some (.cells #[.int .i64 r, .int .i64 n] 64) := by rw [← Hwd.out]; exact (blk_set (blk_set bgb_wc 0 _) 1 _)
  have kwd : Chg [gb] wc wd := by rw [← Hwd.out]; exact (Chg.set (Chg.set (Chg.refl [gb] wc) gb 0 _ (by simp)) gb 1 _ (by simp))
  have xwd : Ext w wd := by rw [← Hwd.out]; exact ((Ext.setCell (Ext.setCell xwc (p := ⟨gb, 0, none⟩) lgb _) (p := ⟨gb, 1, none⟩) lgb _))
  have bga_wd : wd.heap[ga]? = some (.cells #[.pointer (some ⟨hb, 0, none⟩)] 34) := (kwd.block _ (Array.getElem?_eq_some_iff.1 bga_wc).1 (by simpa using ngagb)).trans bga_wc
  clear eq_Gga eq_Hwa eq_Ggb eq_Hwb
  have eq_Hwd := Hwd.out
  go_wp2
  refine bodyPost_ret (results_cell_tmp rfl _ _ gb 64 #[.int .i64 r, .int .i64 n] (0, 0) _ rfl bgb_wd Tryz.underlying64 rfl (by kernel_rfl)) rfl ⟨rfl, xwd⟩
theorem field_user (s : Stp) (w : World) : (Instr.field 86 (.agg s.L.toArray) 5).run Tryz.prog w = .ok (.string s.user) w := by
  unfold Instr.field
  simp only [Sem.run_bind, run_underlying Tryz.underlying86, Result.andThen_ok]
  exact part_plain Tryz.underlying9 rfl rfl
theorem field_amount (s : Stp) (w : World) : (Instr.field 86 (.agg s.L.toArray) 8).run Tryz.prog w = .ok (.int .i64 s.amount) w := by
  unfold Instr.field
  simp only [Sem.run_bind, run_underlying Tryz.underlying86, Result.andThen_ok]
  exact part_plain Tryz.underlying2 rfl rfl
end Go.Proofs.YtbemkefcaceekaaGreatDoor
