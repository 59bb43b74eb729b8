/- Top16: gen.Make at a step that is not refused. -/
import Derived.Test.YtbemkefcaceekaaGreatDoorTop15
set_option linter.unusedVariables false
set_option linter.unusedSimpArgs false
set_option maxRecDepth 100000
namespace Go.Proofs.YtbemkefcaceekaaGreatDoor
open Go.RowKit Go.Lib Go.Shelf Go.Proofs.YtbemkefcaceekaaGreatDoorW.PrintWords Go.Proofs.YtbemkefcaceekaaGreatDoorW.PrintLast

theorem results_cell_tmp {P : Program} {fn : Func} {p q : Tmp} {ty : TypeId} (h : fn.results = #[.cell p ty, .tmp q]) (tmps : Array Value) (w : World) (g : Nat) (t : TypeId) (cs : Array Value) (fr : Nat × Nat) (d : TypeDesc)
    (hp : tmps.getD p undef = .pointer (some ⟨g, 0, none⟩)) (hg : w.heap[g]? = some (.cells cs t fr))
    (hu : P.underlying ty = some d) (hd : (match d with | .struct _ | .array _ _ => true | _ => false) = true) (hi : (P.info? ty).map (·.size) = some cs.size) :
    (results fn tmps).run P w = .ok (.tuple #[.agg cs, tmps.getD q undef]) w := by
  have hp' : tmps[p]?.getD undef = .pointer (some ⟨g, 0, none⟩) := by simpa using hp
  simp [results, h, hp', asAddr, run_loadVar_row w g t ty cs fr d hg hu hd hi]
theorem mk_fold (hb : Nat) (s : Stp) : List.foldl (fun (cs : Array Value) (x : Value × Nat) => cs.setIfInBounds (1 + x.snd) x.fst) #[Value.pointer (some ⟨hb, 0, none⟩), .int .i64 0, .int .i64 0, .int .i64 0, .int .i64 0, .int .i64 0, .int .i64 0, .int .i64 0, .int .i64 0, .int .i64 0, .int .i64 0, .int .i64 0, .string ⟨#[]⟩, .string ⟨#[]⟩, .int .i64 0, .int .i64 0, .int .i64 0, .int .i64 0, .int .i64 0, .int .i64 0] s.L.zipIdx = (mkL hb s).toArray := by kernel_rfl
theorem oneCell_L (s : Stp) : ∀ v ∈ s.L, v.oneCell' = true := by
  intro v hv
  simp only [Stp.L, List.mem_cons, List.not_mem_nil, or_false] at hv
  rcases hv with rfl | rfl | rfl | rfl | rfl | rfl | rfl | rfl | rfl | rfl | rfl | rfl | rfl | rfl | rfl | rfl | rfl | rfl | rfl <;> rfl
/-- A whole step is stored over another. -/
theorem store_step {w : World} {g : Nat} {cur : Array Value} (hb : w.heap[g]? = some (.cells cur 86)) (hc : cur.size = 19) (s : Stp) :
    ∃ w6, (storeCells ⟨g, 0, none⟩ s.L).run Tryz.prog w = .ok () w6 ∧ w6.heap[g]? = some (.cells s.L.toArray 86) ∧ Chg [g] w w6 := by
  have hst := run_storeCells_from (P := Tryz.prog) g 86 s.L 0 cur w hb (by rw [hc]; rfl) (oneCell_L s)
  rw [List.take_zero, List.nil_append] at hst
  exact ⟨_, hst, setRow_heap w g cur s.L.toArray 86 (0, 0) hb, ⟨rfl, rfl, rfl, by simp, fun k _ hn => setRow_other _ _ _ _ (by simpa using hn)⟩⟩
theorem StAt.of_block {w : World} {g : Nat} {s : Stp} (h : w.heap[g]? = some (.cells s.L.toArray 86)) : StAt w g s := ⟨fun j v hv => by simp only [World.cell?, h, Nat.zero_add]; simpa using hv⟩
def mkS (H : Hse) (c : Cl) (d : Dt) : Stp := ⟨c.kind, d, H.have', H.nred, c.name, c.user, c.auc, c.bid, c.amount, 0⟩
set_option maxHeartbeats 8000000 in
theorem make_ok (w : World) (base bm um dm cm hb : Nat) (H : Hse) (c : Cl) (d : Dt) (h : HAt w base bm um dm cm hb H) (ht : Tabs w) (hg : Okay (mkS H c d)) (hr : Unref w hb (mkS H c d)) (hk : c.kind ≠ 6) :
    Calls Tryz.prog 42 #[.pointer (some ⟨hb, 0, none⟩), .agg c.L.toArray, dotv d.rep d.n] w fun e w' => e = .returned (.tuple #[(mkS H c d).V, .int .i64 0]) ∧ Ext w w' := by
  obtain ⟨g1, G1⟩ : ∃ h, Hid (w.heap.size = h) := ⟨_, Lib.hid rfl⟩
  obtain ⟨w1, W1⟩ : ∃ x, Hid (w.alloc (.cells c.L.toArray 66) = x) := ⟨_, Lib.hid rfl⟩
  have x1 : Ext w w1 := by rw [← W1.out]; exact (Ext.refl w).alloc _
  have b1 : w1.heap[g1]? = some (.cells c.L.toArray 66) := by rw [← W1.out, ← G1.out]; exact Array.getElem?_push_size
  obtain ⟨g2, G2⟩ : ∃ h, Hid (w1.heap.size = h) := ⟨_, Lib.hid rfl⟩
  obtain ⟨w2, W2, -, x2, ⟨z0, z1⟩, -, -⟩ := alloc2 w1 d.rep d.n 64 g2 G2.out
  obtain ⟨g3, G3⟩ : ∃ h, Hid (w2.heap.size = h) := ⟨_, Lib.hid rfl⟩
  obtain ⟨w3, W3⟩ : ∃ x, Hid (w2.alloc (.cells zs19 86) = x) := ⟨_, Lib.hid rfl⟩
  have x3 : Ext w2 w3 := by rw [← W3.out]; exact (Ext.refl _).alloc _
  have b3 : w3.heap[g3]? = some (.cells zs19 86) := by rw [← W3.out, ← G3.out]; exact Array.getElem?_push_size
  have X3 := x1.trans (x2.trans x3)
  have h3 := h.ext X3
  have y1 : ∀ W, Ext w3 W → W.heap[g1]? = some (.cells c.L.toArray 66) := fun W x => ((x2.trans (x3.trans x)).out.block _ (Array.getElem?_eq_some_iff.1 b1).1).trans b1
  have r0 : ∀ W, Ext w3 W → W.cell? ⟨g1, 0, none⟩ = some (.int .i64 c.kind) := fun W x => by simp [World.cell?, y1 W x, Cl.L]
  have r1 : ∀ W, Ext w3 W → W.cell? ⟨g1, 1, none⟩ = some (.string c.name) := fun W x => by simp [World.cell?, y1 W x, Cl.L]
  have r2 : ∀ W, Ext w3 W → W.cell? ⟨g1, 2, none⟩ = some (.string c.user) := fun W x => by simp [World.cell?, y1 W x, Cl.L]
  have r3 : ∀ W, Ext w3 W → W.cell? ⟨g1, 3, none⟩ = some (.int .i64 c.auc.rep) := fun W x => by simp [World.cell?, y1 W x, Cl.L]
  have r4 : ∀ W, Ext w3 W → W.cell? ⟨g1, 4, none⟩ = some (.int .i64 c.auc.n) := fun W x => by simp [World.cell?, y1 W x, Cl.L]
  have r5 : ∀ W, Ext w3 W → W.cell? ⟨g1, 5, none⟩ = some (.int .i64 c.bid.rep) := fun W x => by simp [World.cell?, y1 W x, Cl.L]
  have r6 : ∀ W, Ext w3 W → W.cell? ⟨g1, 6, none⟩ = some (.int .i64 c.bid.n) := fun W x => by simp [World.cell?, y1 W x, Cl.L]
  have r7 : ∀ W, Ext w3 W → W.cell? ⟨g1, 7, none⟩ = some (.int .i64 c.amount) := fun W x => by simp [World.cell?, y1 W x, Cl.L]
  have t0 : ∀ W, Ext w3 W → W.cell? ⟨g2, 0, none⟩ = some (.int .i64 d.rep) := fun W x => (x3.trans x).cell z0
  have t1 : ∀ W, Ext w3 W → W.cell? ⟨g2, 1, none⟩ = some (.int .i64 d.n) := fun W x => (x3.trans x).cell z1
  have kh := fun W x => have_any W base bm um dm cm hb H (h3.ext x)
  have kr := fun W x => reds_any W base bm um dm cm hb H (h3.ext x)
  unfold vf at kh
  have Y1 := Lib.hid y1
  have B3 := Lib.hid b3
  have q1 := G1.out
  have q2 := W1.out
  have q3 := G2.out
  have q4 := W2.out
  have q5 := G3.out
  have q6 := W3.out
  simp only [zs19] at q6
  have xT := Ext.refl w3
  clear y1 b1 b3 z0 z1
  unfold dotv
  go_enter Tryz.func42, Tryz.ntmps42
  go_wp2_with fail
  clear q1 q2 q3 q4 q5 q6
  refine start_ (n := 20) (S := (fun W => Ext w3 W)) (ds := []) #[false, false, false, false, false, false, false, false, false, false, false, false, false, false, false, false, false, false, false, false] (by kernel_rfl) (by kernel_rfl) (by kernel_rfl) (xT.drew) (fun hHeld => ?_)
  refine take_ (i := 0) (N := (some 10)) (v := ?_) (a' := ?_) #[true, false, false, false, false, false, false, false, false, false, false, false, false, false, false, false, false, false, false, false] rfl rfl (by kernel_rfl) (fun _ _ _ h => h) (Or.inl ⟨by rfl, ?_⟩) (by assumption) ?_ ?_
  rotate_left
  · intro w' hSw; (try dsimp only at hSw)
    go_simp
    try with_reducible rfl
  rotate_left
  · simp only [Act.put, List.setIfInBounds_toArray, List.set_cons_zero, List.set_cons_succ]
    rfl
  refine take_ (i := 1) (N := (some 11)) (v := ?_) (a' := ?_) #[true, true, false, false, false, false, false, false, false, false, false, false, false, false, false, false, false, false, false, false] rfl rfl (by kernel_rfl) (fun _ _ _ h => h) (Or.inl ⟨by rfl, ?_⟩) (by assumption) ?_ ?_
  rotate_left
  · intro w' hSw; (try dsimp only at hSw)
    go_simp
    try with_reducible rfl
  rotate_left
  · simp only [Act.put, List.setIfInBounds_toArray, List.set_cons_zero, List.set_cons_succ]
    rfl
  refine take_ (i := 2) (N := (some 12)) (v := ?_) (a' := ?_) #[true, true, true, false, false, false, false, false, false, false, false, false, false, false, false, false, false, false, false, false] rfl rfl (by kernel_rfl) (fun _ _ _ h => h) (Or.inl ⟨by rfl, ?_⟩) (by assumption) ?_ ?_
  rotate_left
  · intro w' hSw; (try dsimp only at hSw)
    go_simp
    try with_reducible rfl
  rotate_left
  · simp only [Act.put, List.setIfInBounds_toArray, List.set_cons_zero, List.set_cons_succ]
    rfl
  refine take_ (i := 3) (N := (some 13)) (v := ?_) (a' := ?_) #[true, true, true, true, false, false, false, false, false, false, false, false, false, false, false, false, false, false, false, false] rfl rfl (by kernel_rfl) (fun _ _ _ h => h) (Or.inl ⟨by rfl, ?_⟩) (by assumption) ?_ ?_
  rotate_left
  · intro w' hSw; (try dsimp only at hSw)
    go_simp
    try with_reducible rfl
  rotate_left
  · simp only [Act.put, List.setIfInBounds_toArray, List.set_cons_zero, List.set_cons_succ]
    rfl
  refine take_ (i := 5) (N := (some 15)) (v := ?_) (a' := ?_) #[true, true, true, true, false, true, false, false, false, false, false, false, false, false, false, false, false, false, false, false] rfl rfl (by kernel_rfl) (fun _ _ _ h => h) (Or.inl ⟨by rfl, ?_⟩) (by assumption) ?_ ?_
  rotate_left
  · intro w' hSw; (try dsimp only at hSw)
    go_simp
    try with_reducible rfl
  rotate_left
  · simp only [Act.put, List.setIfInBounds_toArray, List.set_cons_zero, List.set_cons_succ]
    rfl
  refine take_ (i := 7) (N := (some 17)) (v := ?_) (a' := ?_) #[true, true, true, true, false, true, false, true, false, false, false, false, false, false, false, false, false, false, false, false] rfl rfl (by kernel_rfl) (fun _ _ _ h => h) (Or.inl ⟨by rfl, ?_⟩) (by assumption) ?_ ?_
  rotate_left
  · intro w' hSw; (try dsimp only at hSw)
    go_simp
    try with_reducible rfl
  rotate_left
  · simp only [Act.put, List.setIfInBounds_toArray, List.set_cons_zero, List.set_cons_succ]
    rfl
  refine take_ (i := 8) (N := (some 18)) (v := ?_) (a' := ?_) #[true, true, true, true, false, true, false, true, true, false, false, false, false, false, false, false, false, false, false, false] rfl rfl (by kernel_rfl) (fun _ _ _ h => h) (Or.inl ⟨by rfl, ?_⟩) (by assumption) ?_ ?_
  rotate_left
  · intro w' hSw; (try dsimp only at hSw)
    go_simp
    try with_reducible rfl
  rotate_left
  · simp only [Act.put, List.setIfInBounds_toArray, List.set_cons_zero, List.set_cons_succ]
    rfl
  refine take_ (i := 9) (N := (some 19)) (v := ?_) (a' := ?_) #[true, true, true, true, false, true, false, true, true, true, false, false, false, false, false, false, false, false, false, false] rfl rfl (by kernel_rfl) (fun _ _ _ h => h) (Or.inl ⟨by rfl, ?_⟩) (by assumption) ?_ ?_
  rotate_left
  · intro w' hSw; (try dsimp only at hSw)
    go_simp
    try with_reducible rfl
  rotate_left
  · simp only [Act.put, List.setIfInBounds_toArray, List.set_cons_zero, List.set_cons_succ]
    rfl
  refine take_ (i := 10) (N := (some 20)) (v := ?_) (a' := ?_) #[true, true, true, true, false, true, false, true, true, true, true, false, false, false, false, false, false, false, false, false] rfl rfl (by kernel_rfl) (fun _ _ _ h => h) (Or.inl ⟨by rfl, ?_⟩) (by assumption) ?_ ?_
  rotate_left
  · intro w' hSw; (try dsimp only at hSw)
    go_simp
    try with_reducible rfl
  rotate_left
  · simp only [Act.put, List.setIfInBounds_toArray, List.set_cons_zero, List.set_cons_succ]
    rfl
  refine take_ (i := 11) (N := (some 21)) (v := ?_) (a' := ?_) #[true, true, true, true, false, true, false, true, true, true, true, true, false, false, false, false, false, false, false, false] rfl rfl (by kernel_rfl) (fun _ _ _ h => h) (Or.inl ⟨by rfl, ?_⟩) (by assumption) ?_ ?_
  rotate_left
  · intro w' hSw; (try dsimp only at hSw)
    go_simp
    try with_reducible rfl
  rotate_left
  · simp only [Act.put, List.setIfInBounds_toArray, List.set_cons_zero, List.set_cons_succ]
    rfl
  refine take_ (i := 12) (N := (some 22)) (v := ?_) (a' := ?_) #[true, true, true, true, false, true, false, true, true, true, true, true, true, false, false, false, false, false, false, false] rfl rfl (by kernel_rfl) (fun _ _ _ h => h) (Or.inl ⟨by rfl, ?_⟩) (by assumption) ?_ ?_
  rotate_left
  · intro w' hSw; (try dsimp only at hSw)
    go_simp
    try with_reducible rfl
  rotate_left
  · simp only [Act.put, List.setIfInBounds_toArray, List.set_cons_zero, List.set_cons_succ]
    rfl
  refine take_ (i := 13) (N := (some 23)) (v := ?_) (a' := ?_) #[true, true, true, true, false, true, false, true, true, true, true, true, true, true, false, false, false, false, false, false] rfl rfl (by kernel_rfl) (fun _ _ _ h => h) (Or.inl ⟨by rfl, ?_⟩) (by assumption) ?_ ?_
  rotate_left
  · intro w' hSw; (try dsimp only at hSw)
    go_simp
    try with_reducible rfl
  rotate_left
  · simp only [Act.put, List.setIfInBounds_toArray, List.set_cons_zero, List.set_cons_succ]
    rfl
  refine take_ (i := 14) (N := (some 24)) (v := ?_) (a' := ?_) #[true, true, true, true, false, true, false, true, true, true, true, true, true, true, true, false, false, false, false, false] rfl rfl (by kernel_rfl) (fun _ _ _ h => h) (Or.inl ⟨by rfl, ?_⟩) (by assumption) ?_ ?_
  rotate_left
  · intro w' hSw; (try dsimp only at hSw)
    go_simp
    try with_reducible rfl
  rotate_left
  · simp only [Act.put, List.setIfInBounds_toArray, List.set_cons_zero, List.set_cons_succ]
    rfl
  refine take_ (i := 15) (N := (some 25)) (v := ?_) (a' := ?_) #[true, true, true, true, false, true, false, true, true, true, true, true, true, true, true, true, false, false, false, false] rfl rfl (by kernel_rfl) (fun _ _ _ h => h) (Or.inl ⟨by rfl, ?_⟩) (by assumption) ?_ ?_
  rotate_left
  · intro w' hSw; (try dsimp only at hSw)
    go_simp
    try with_reducible rfl
  rotate_left
  · simp only [Act.put, List.setIfInBounds_toArray, List.set_cons_zero, List.set_cons_succ]
    rfl
  refine take_ (i := 16) (N := (some 26)) (v := ?_) (a' := ?_) #[true, true, true, true, false, true, false, true, true, true, true, true, true, true, true, true, true, false, false, false] rfl rfl (by kernel_rfl) (fun _ _ _ h => h) (Or.inl ⟨by rfl, ?_⟩) (by assumption) ?_ ?_
  rotate_left
  · intro w' hSw; (try dsimp only at hSw)
    go_simp
    try with_reducible rfl
  rotate_left
  · simp only [Act.put, List.setIfInBounds_toArray, List.set_cons_zero, List.set_cons_succ]
    rfl
  refine join_ (σ := Nat) 0 #[true, true, true, true, true, true, true, true, true, true, true, true, true, true, true, true, true, true, true, true] (fun s => [(14, .agg #[.int .i64 (H.have' 0), .int .i64 (H.have' 1), .int .i64 (H.have' 2), .int .i64 (H.have' 3), .int .i64 (H.have' 4), .int .i64 (H.have' 5), .int .i64 (H.have' 6)]), (16, .int .i64 H.nred), (27, .agg (mkS H c d).L.toArray), (8, .pointer (some ⟨s, 0, none⟩))]) (fun s W => Ext w3 W ∧ W.heap[s]? = some (.cells (mkS H c d).L.toArray 86)) ?_ ?_
  · intro s wj hF
    simp only [putAll, Act.put, List.setIfInBounds_toArray, List.set_cons_zero, List.set_cons_succ]
    refine done_ (by kernel_rfl) ?_
    obtain ⟨xj, bj⟩ := hF
    have c0 := r0 wj xj
    have hk6 : (c.kind == 6) = false := by simpa using hk
    clear r0 r1 r2 r3 r4 r5 r6 r7 t0 t1 kh kr hk
    have Sj := StAt.of_block bj
    go_wp2_with ((with_reducible refine gate_dst (N := 36) rfl ?_); refine halt ?_)
    refine unhalt (wpList_load_mid rfl 86 _ rfl s 0 rfl (mkS H c d).L _ Sj.all Tryz.underlying86 rfl (by kernel_rfl) ?_)
    go_wp2_with fail
    refine (agood_any (mkS H c d) _ (ht.ext (X3.trans xj)) hg).mono ?_
    rintro e w6 ⟨rfl, x6⟩
    go_wp2_with ((with_reducible refine gate_dst (N := 41) rfl ?_); refine halt ?_)
    refine unhalt (wpList_load_mid rfl 86 _ rfl s 0 rfl (mkS H c d).L _ (Sj.ext x6).all Tryz.underlying86 rfl (by kernel_rfl) ?_)
    have hl : (mkS H c d).L.length = 19 := rfl
    go_wp2_with fail
    clear hl
    rw [mk_fold]
    have hr7 := hr _ (X3.trans (xj.trans x6))
    refine (hr7).mono ?_
    rintro e w7 ⟨rfl, x7⟩
    go_wp2_with ((with_reducible refine gate_dst (N := 48) rfl ?_); refine halt ?_)
    refine unhalt (wpList_load_mid rfl 86 _ rfl s 0 rfl (mkS H c d).L _ (Sj.ext (x6.trans x7)).all Tryz.underlying86 rfl (by kernel_rfl) ?_)
    have b7 : w7.heap[g3]? = some (.cells zs19 86) := ((xj.trans (x6.trans x7)).out.block _ (Array.getElem?_eq_some_iff.1 B3.out).1).trans B3.out
    obtain ⟨w8, hst, b8, k8⟩ := store_step b7 rfl (mkS H c d)
    have hl : (mkS H c d).L.length = 19 := rfl
    have X8 : Ext w w8 := k8.toExt (X3.trans (xj.trans (x6.trans x7))) (fun k hk => by have e1 : k = g3 := (by simpa using hk); have := G3.out; have := (x1.trans x2).size; omega)
    clear b7 k8
    go_wp2
    refine bodyPost_ret (results_cell_tmp rfl _ _ g3 86 (mkS H c d).L.toArray (0, 0) _ rfl b8 Tryz.underlying86 rfl (by kernel_rfl)) rfl ⟨rfl, X8⟩
  · intro hJ
    refine two_ (i := 4) (Ni := (some 14)) (j := 18) (Nj := (some 8)) #[true, true, true, true, true, true, false, true, true, true, true, true, true, true, true, true, true, false, false, false] #[true, true, true, true, false, true, false, true, true, true, true, true, true, true, true, true, true, false, true, false] rfl rfl rfl rfl (by kernel_rfl) (by simp) (by simp) (fun K hK => ?_) (fun K hK => ?_)
    · go_simp
      refine (kh _ (xT.drew)).mono ?_
      rintro e u1 ⟨rfl, hu1⟩
      refine hK.out _ _ ?_ (fun hHeld => ?_)
      · exact (xT.drew).trans hu1
      clear hK K
      (try simp only [Act.put, List.setIfInBounds_toArray, List.set_cons_zero, List.set_cons_succ])
      refine two_ (i := 6) (Ni := (some 16)) (j := 18) (Nj := (some 8)) #[true, true, true, true, true, true, true, true, true, true, true, true, true, true, true, true, true, false, false, false] #[true, true, true, true, true, true, false, true, true, true, true, true, true, true, true, true, true, false, true, false] rfl rfl rfl rfl (by kernel_rfl) (by simp) (by simp) (fun K hK => ?_) (fun K hK => ?_)
      · go_simp
        refine (kr _ (((xT.drew).trans hu1))).mono ?_
        rintro e u2 ⟨rfl, hu2⟩
        refine hK.out _ _ ?_ (fun hHeld => ?_)
        · exact (((xT.drew).trans hu1)).trans hu2
        clear hK K
        (try simp only [Act.put, List.setIfInBounds_toArray, List.set_cons_zero, List.set_cons_succ])
        refine take_ (i := 17) (N := (some 27)) (v := .agg (mkS H c d).L.toArray) (a' := ?_) #[true, true, true, true, true, true, true, true, true, true, true, true, true, true, true, true, true, true, false, false] rfl rfl (by kernel_rfl) (fun _ _ _ h => h) (Or.inl ⟨by rfl, ?_⟩) (by assumption) ?_ ?_
        · intro w' hSw; (try dsimp only at hSw)
          go_simp
          rfl
        rotate_left
        · simp only [Act.put, List.setIfInBounds_toArray, List.set_cons_zero, List.set_cons_succ]
          rfl
        refine one_ (i := 18) (N := (some 8)) #[true, true, true, true, true, true, true, true, true, true, true, true, true, true, true, true, true, true, true, false] rfl rfl (by kernel_rfl) (by simp) (fun K hK => ?_)
        obtain ⟨g3, G3⟩ : ∃ x, Hid ((World.heap u2).size = x) := ⟨_, Lib.hid rfl⟩
        obtain ⟨u3, U3⟩ : ∃ x, Hid ((World.alloc u2 (.cells zs19 86)) = x) := ⟨_, Lib.hid rfl⟩
        have bu3 : u3.heap[g3]? = some (.cells zs19 86) := by rw [← U3.out, ← G3.out]; exact Array.getElem?_push_size
        have xu3 : Ext u2 u3 := by rw [← U3.out]; exact ((Ext.refl _).alloc _)
        have hge3 : w3.heap.size ≤ g3 := Nat.le_trans (Ext.size (((((xT.drew).trans hu1)).trans hu2))) (Nat.le_of_eq G3.out)
        have ru3 := U3.out
        simp only [zs19] at ru3
        have rg3 := G3.out
        go_simp
        clear ru3 rg3
        refine hK.out _ _ ?_ (fun hHeld => ?_)
        · exact (((((xT.drew).trans hu1)).trans hu2)).trans xu3
        clear hK K
        (try simp only [Act.put, List.setIfInBounds_toArray, List.set_cons_zero, List.set_cons_succ])
        refine one_ (i := 19) (N := none) #[true, true, true, true, true, true, true, true, true, true, true, true, true, true, true, true, true, true, true, true] rfl rfl (by kernel_rfl) (by simp) (fun K hK => ?_)
        obtain ⟨w49, hst, b49, k49⟩ := store_step (bu3) rfl (mkS H c d)
        have hl : (mkS H c d).L.length = 19 := rfl
        have x49 : Ext w3 w49 := k49.toExt (((((((xT.drew).trans hu1)).trans hu2)).trans xu3)) (fun k hk => by have e1 : k = g3 := (by simpa using hk); omega)
        go_simp
        clear hst hl
        refine hK.out _ _ ?_ (fun hHeld => ?_)
        · exact x49
        clear hK K
        (try simp only [Act.put, List.setIfInBounds_toArray, List.set_cons_zero, List.set_cons_succ])
        have hj := hJ g3 w49 ⟨x49, b49⟩
        simp only [putAll, Act.put, List.setIfInBounds_toArray, List.set_cons_zero, List.set_cons_succ] at hj
        exact hj
      · obtain ⟨g5, G5⟩ : ∃ x, Hid ((World.heap u1).size = x) := ⟨_, Lib.hid rfl⟩
        obtain ⟨u5, U5⟩ : ∃ x, Hid ((World.alloc u1 (.cells zs19 86)) = x) := ⟨_, Lib.hid rfl⟩
        have bu5 : u5.heap[g5]? = some (.cells zs19 86) := by rw [← U5.out, ← G5.out]; exact Array.getElem?_push_size
        have xu5 : Ext u1 u5 := by rw [← U5.out]; exact ((Ext.refl _).alloc _)
        have hge5 : w3.heap.size ≤ g5 := Nat.le_trans (Ext.size (((xT.drew).trans hu1))) (Nat.le_of_eq G5.out)
        have ru5 := U5.out
        simp only [zs19] at ru5
        have rg5 := G5.out
        go_simp
        clear ru5 rg5
        refine hK.out _ _ ?_ (fun hHeld => ?_)
        · exact (((xT.drew).trans hu1)).trans xu5
        clear hK K
        (try simp only [Act.put, List.setIfInBounds_toArray, List.set_cons_zero, List.set_cons_succ])
        refine one_ (i := 6) (N := (some 16)) #[true, true, true, true, true, true, true, true, true, true, true, true, true, true, true, true, true, false, true, false] rfl rfl (by kernel_rfl) (by simp) (fun K hK => ?_)
        go_simp
        refine (kr _ (((((xT.drew).trans hu1)).trans xu5))).mono ?_
        rintro e u6 ⟨rfl, hu6⟩
        refine hK.out _ _ ?_ (fun hHeld => ?_)
        · exact (((((xT.drew).trans hu1)).trans xu5)).trans hu6
        clear hK K
        (try simp only [Act.put, List.setIfInBounds_toArray, List.set_cons_zero, List.set_cons_succ])
        refine take_ (i := 17) (N := (some 27)) (v := .agg (mkS H c d).L.toArray) (a' := ?_) #[true, true, true, true, true, true, true, true, true, true, true, true, true, true, true, true, true, true, true, false] rfl rfl (by kernel_rfl) (fun _ _ _ h => h) (Or.inl ⟨by rfl, ?_⟩) (by assumption) ?_ ?_
        · intro w' hSw; (try dsimp only at hSw)
          go_simp
          rfl
        rotate_left
        · simp only [Act.put, List.setIfInBounds_toArray, List.set_cons_zero, List.set_cons_succ]
          rfl
        refine one_ (i := 19) (N := none) #[true, true, true, true, true, true, true, true, true, true, true, true, true, true, true, true, true, true, true, true] rfl rfl (by kernel_rfl) (by simp) (fun K hK => ?_)
        obtain ⟨w79, hst, b79, k79⟩ := store_step (((hu6.out.block _ (Array.getElem?_eq_some_iff.1 bu5).1).trans bu5)) rfl (mkS H c d)
        have hl : (mkS H c d).L.length = 19 := rfl
        have x79 : Ext w3 w79 := k79.toExt (((((((xT.drew).trans hu1)).trans xu5)).trans hu6)) (fun k hk => by have e1 : k = g5 := (by simpa using hk); omega)
        go_simp
        clear hst hl
        refine hK.out _ _ ?_ (fun hHeld => ?_)
        · exact x79
        clear hK K
        (try simp only [Act.put, List.setIfInBounds_toArray, List.set_cons_zero, List.set_cons_succ])
        have hj := hJ g5 w79 ⟨x79, b79⟩
        simp only [putAll, Act.put, List.setIfInBounds_toArray, List.set_cons_zero, List.set_cons_succ] at hj
        exact hj
    · obtain ⟨g8, G8⟩ : ∃ x, Hid ((World.heap w3).size = x) := ⟨_, Lib.hid rfl⟩
      obtain ⟨u8, U8⟩ : ∃ x, Hid ((World.alloc w3 (.cells zs19 86)).drew = x) := ⟨_, Lib.hid rfl⟩
      have bu8 : u8.heap[g8]? = some (.cells zs19 86) := by rw [← U8.out, ← G8.out]; exact Array.getElem?_push_size
      have xu8 : Ext w3 u8 := by rw [← U8.out]; exact ((Ext.refl _).alloc _).drew
      have hge8 : w3.heap.size ≤ g8 := Nat.le_trans (Ext.size (xT.drew)) (Nat.le_of_eq G8.out)
      have ru8 := U8.out
      simp only [zs19] at ru8
      have rg8 := G8.out
      go_simp
      clear ru8 rg8
      refine hK.out _ _ ?_ (fun hHeld => ?_)
      · exact xu8
      clear hK K
      (try simp only [Act.put, List.setIfInBounds_toArray, List.set_cons_zero, List.set_cons_succ])
      refine one_ (i := 4) (N := (some 14)) #[true, true, true, true, true, true, false, true, true, true, true, true, true, true, true, true, true, false, true, false] rfl rfl (by kernel_rfl) (by simp) (fun K hK => ?_)
      go_simp
      refine (kh _ (xu8)).mono ?_
      rintro e u9 ⟨rfl, hu9⟩
      refine hK.out _ _ ?_ (fun hHeld => ?_)
      · exact (xu8).trans hu9
      clear hK K
      (try simp only [Act.put, List.setIfInBounds_toArray, List.set_cons_zero, List.set_cons_succ])
      refine one_ (i := 6) (N := (some 16)) #[true, true, true, true, true, true, true, true, true, true, true, true, true, true, true, true, true, false, true, false] rfl rfl (by kernel_rfl) (by simp) (fun K hK => ?_)
      go_simp
      refine (kr _ (((xu8).trans hu9))).mono ?_
      rintro e u10 ⟨rfl, hu10⟩
      refine hK.out _ _ ?_ (fun hHeld => ?_)
      · exact (((xu8).trans hu9)).trans hu10
      clear hK K
      (try simp only [Act.put, List.setIfInBounds_toArray, List.set_cons_zero, List.set_cons_succ])
      refine take_ (i := 17) (N := (some 27)) (v := .agg (mkS H c d).L.toArray) (a' := ?_) #[true, true, true, true, true, true, true, true, true, true, true, true, true, true, true, true, true, true, true, false] rfl rfl (by kernel_rfl) (fun _ _ _ h => h) (Or.inl ⟨by rfl, ?_⟩) (by assumption) ?_ ?_
      · intro w' hSw; (try dsimp only at hSw)
        go_simp
        rfl
      rotate_left
      · simp only [Act.put, List.setIfInBounds_toArray, List.set_cons_zero, List.set_cons_succ]
        rfl
      refine one_ (i := 19) (N := none) #[true, true, true, true, true, true, true, true, true, true, true, true, true, true, true, true, true, true, true, true] rfl rfl (by kernel_rfl) (by simp) (fun K hK => ?_)
      obtain ⟨w119, hst, b119, k119⟩ := store_step (((hu10.out.block _ (Array.getElem?_eq_some_iff.1 ((hu9.out.block _ (Array.getElem?_eq_some_iff.1 bu8).1).trans bu8)).1).trans ((hu9.out.block _ (Array.getElem?_eq_some_iff.1 bu8).1).trans bu8))) rfl (mkS H c d)
      have hl : (mkS H c d).L.length = 19 := rfl
      have x119 : Ext w3 w119 := k119.toExt (((((xu8).trans hu9)).trans hu10)) (fun k hk => by have e1 : k = g8 := (by simpa using hk); omega)
      go_simp
      clear hst hl
      refine hK.out _ _ ?_ (fun hHeld => ?_)
      · exact x119
      clear hK K
      (try simp only [Act.put, List.setIfInBounds_toArray, List.set_cons_zero, List.set_cons_succ])
      have hj := hJ g8 w119 ⟨x119, b119⟩
      simp only [putAll, Act.put, List.setIfInBounds_toArray, List.set_cons_zero, List.set_cons_succ] at hj
      exact hj
end Go.Proofs.YtbemkefcaceekaaGreatDoor
