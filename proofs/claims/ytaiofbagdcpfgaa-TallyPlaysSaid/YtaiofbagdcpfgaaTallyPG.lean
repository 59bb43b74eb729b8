/- TallyPG: the walks of tally.Put, Get, Same. -/
import Derived.Test.YtaiofbagdcpfgaaTallyAp
import Derived.Test.YtaiofbagdcpfgaaVecPG
import Derived.Test.YtaiofbagdcpfgaaRegion
set_option linter.unusedVariables false
set_option linter.unusedSimpArgs false
set_option maxRecDepth 100000
namespace Go.Proofs.Ytaiofbagdcpfgaa
open Go.RowKit Go.Proofs.YtaiofbagdcpfgaaW.PrintWords Go.Proofs.YtaiofbagdcpfgaaW.PrintLast PackPure

theorem Bnd.in64 {u : V7} (h : Bnd u) : In64 u := fun i hi => by have := h i hi; omega

set_option maxHeartbeats 2000000 in
theorem tput_any (g : Nat) (u d : V7) (A : Option Addr) (n c : Nat) (l : List UInt8) (w : World) (hT : TT w g u d) (hu : Bnd u) (hd : Bnd d) (h : Bs w A l) (hn : n = l.length) (hc : n ≤ c) (hm : n ≤ 140737488353000) :
    Calls Try.prog 67 #[.pointer (some ⟨g, 0, none⟩), .slice A n c] w fun e w' => ∃ A' c', e = .returned (.slice A' (l ++ putV u 7 ++ putV d 7).length c') ∧ (l ++ putV u 7 ++ putV d 7).length ≤ c' ∧ Bs w' A' (l ++ putV u 7 ++ putV d 7) ∧ Ext w w' := by
  obtain ⟨a0, a1, a2, a3, a4, a5, a6⟩ := hT.up.rules
  obtain ⟨b0, b1, b2, b3, b4, b5, b6⟩ := hT.down.rules7
  have hl := putV_le hu.in64 7 (by omega)
  obtain ⟨p, Hp⟩ : ∃ p, Hid (l ++ putV u 7 = p) := ⟨_, Lib.hid rfl⟩
  have hpl : p.length ≤ n + 70 := by rw [← Hp.out, List.length_append, ← hn]; omega
  have c1 := fun W hW => vput_any A n c l u W hW hn hc (by omega) hu.in64
  have c2 := fun A' c' W hW hc' => vput_any A' p.length c' p d W hW rfl hc' (by omega) hd.in64
  rw [Hp.out] at c1
  rw [Hp.out]
  obtain ⟨q, Hq⟩ : ∃ q, Hid (p ++ putV d 7 = q) := ⟨_, Lib.hid rfl⟩
  rw [Hq.out] at c2 ⊢
  unfold vf at c1 c2
  have Hn := Lib.hid hn
  clear hn hl
  go_enter Try.func67, Try.ntmps67
  go_wp2
  refine start_ (n := 12) (S := (fun W => Ext w W)) (ds := []) #[false, false, false, false, false, false, false, false, false, false, false, false] (by kernel_rfl) (by kernel_rfl) (by kernel_rfl) ((Ext.refl w).drew) (fun hHeld => ?_)
  refine take_ (i := 0) (N := (some 5)) (v := ?_) (a' := ?_) #[true, false, false, false, false, false, false, false, false, false, false, false] rfl rfl (by kernel_rfl) (fun _ _ _ h => h) (Or.inl ⟨by rfl, ?_⟩) (by assumption) ?_ ?_
  rotate_left
  · intro w' hSw; (try dsimp only at hSw)
    go_simp
    try with_reducible rfl
  rotate_left
  · simp only [Act.put, List.setIfInBounds_toArray, List.set_cons_zero, List.set_cons_succ]
    rfl
  refine take_ (i := 1) (N := (some 6)) (v := ?_) (a' := ?_) #[true, true, false, false, false, false, false, false, false, false, false, false] rfl rfl (by kernel_rfl) (fun _ _ _ h => h) (Or.inl ⟨by rfl, ?_⟩) (by assumption) ?_ ?_
  rotate_left
  · intro w' hSw; (try dsimp only at hSw)
    go_simp
    try with_reducible rfl
  rotate_left
  · simp only [Act.put, List.setIfInBounds_toArray, List.set_cons_zero, List.set_cons_succ]
    rfl
  refine take_ (i := 2) (N := (some 7)) (v := ?_) (a' := ?_) #[true, true, true, false, false, false, false, false, false, false, false, false] rfl rfl (by kernel_rfl) (fun _ _ _ h => h) (Or.inl ⟨by rfl, ?_⟩) (by assumption) ?_ ?_
  rotate_left
  · intro w' hSw; (try dsimp only at hSw)
    go_simp
    try with_reducible rfl
  rotate_left
  · simp only [Act.put, List.setIfInBounds_toArray, List.set_cons_zero, List.set_cons_succ]
    rfl
  refine take_ (i := 3) (N := (some 8)) (v := ?_) (a' := ?_) #[true, true, true, true, false, false, false, false, false, false, false, false] rfl rfl (by kernel_rfl) (fun _ _ _ h => h) (Or.inl ⟨by rfl, ?_⟩) (by assumption) ?_ ?_
  rotate_left
  · intro w' hSw; (try dsimp only at hSw)
    go_simp
    try with_reducible rfl
  rotate_left
  · simp only [Act.put, List.setIfInBounds_toArray, List.set_cons_zero, List.set_cons_succ]
    rfl
  refine take_ (i := 4) (N := (some 9)) (v := ?_) (a' := ?_) #[true, true, true, true, true, false, false, false, false, false, false, false] rfl rfl (by kernel_rfl) (fun _ _ _ h => h) (Or.inl ⟨by rfl, ?_⟩) (by assumption) ?_ ?_
  rotate_left
  · intro w' hSw; (try dsimp only at hSw)
    go_simp
    try with_reducible rfl
  rotate_left
  · simp only [Act.put, List.setIfInBounds_toArray, List.set_cons_zero, List.set_cons_succ]
    rfl
  refine take_ (i := 6) (N := (some 11)) (v := ?_) (a' := ?_) #[true, true, true, true, true, false, true, false, false, false, false, false] rfl rfl (by kernel_rfl) (fun _ _ _ h => h) (Or.inl ⟨by rfl, ?_⟩) (by assumption) ?_ ?_
  rotate_left
  · intro w' hSw; (try dsimp only at hSw)
    go_simp
    try with_reducible rfl
  rotate_left
  · simp only [Act.put, List.setIfInBounds_toArray, List.set_cons_zero, List.set_cons_succ]
    rfl
  refine take_ (i := 7) (N := (some 12)) (v := ?_) (a' := ?_) #[true, true, true, true, true, false, true, true, false, false, false, false] rfl rfl (by kernel_rfl) (fun _ _ _ h => h) (Or.inl ⟨by rfl, ?_⟩) (by assumption) ?_ ?_
  rotate_left
  · intro w' hSw; (try dsimp only at hSw)
    go_simp
    try with_reducible rfl
  rotate_left
  · simp only [Act.put, List.setIfInBounds_toArray, List.set_cons_zero, List.set_cons_succ]
    rfl
  refine take_ (i := 8) (N := (some 13)) (v := ?_) (a' := ?_) #[true, true, true, true, true, false, true, true, true, false, false, false] rfl rfl (by kernel_rfl) (fun _ _ _ h => h) (Or.inl ⟨by rfl, ?_⟩) (by assumption) ?_ ?_
  rotate_left
  · intro w' hSw; (try dsimp only at hSw)
    go_simp
    try with_reducible rfl
  rotate_left
  · simp only [Act.put, List.setIfInBounds_toArray, List.set_cons_zero, List.set_cons_succ]
    rfl
  refine take_ (i := 9) (N := (some 14)) (v := ?_) (a' := ?_) #[true, true, true, true, true, false, true, true, true, true, false, false] rfl rfl (by kernel_rfl) (fun _ _ _ h => h) (Or.inl ⟨by rfl, ?_⟩) (by assumption) ?_ ?_
  rotate_left
  · intro w' hSw; (try dsimp only at hSw)
    go_simp
    try with_reducible rfl
  rotate_left
  · simp only [Act.put, List.setIfInBounds_toArray, List.set_cons_zero, List.set_cons_succ]
    rfl
  refine one_ (i := 5) (N := (some 10)) #[true, true, true, true, true, true, true, true, true, true, false, false] rfl rfl (by kernel_rfl) (by simp) (fun K hK => ?_)
  go_simp
  refine (c1 _ (h.ext hHeld)).mono ?_
  rintro e w1 ⟨A1, c1', rfl, hl1, hB1, hx1⟩
  refine hK.out _ _ ?_ (fun hHeld => ?_)
  · first | assumption | exact hHeld.trans (by assumption)
  clear hK K
  (try simp only [Act.put, List.setIfInBounds_toArray, List.set_cons_zero, List.set_cons_succ])
  refine one_ (i := 10) (N := (some 15)) #[true, true, true, true, true, true, true, true, true, true, true, false] rfl rfl (by kernel_rfl) (by simp) (fun K hK => ?_)
  go_simp
  refine (c2 _ _ _ (hB1.ext (Ext.refl _)) hl1).mono ?_
  rintro e w2 ⟨A2, c2', rfl, hl2, hB2, hx2⟩
  refine hK.out _ _ ?_ (fun hHeld => ?_)
  · first | assumption | exact hHeld.trans (by assumption)
  clear hK K
  (try simp only [Act.put, List.setIfInBounds_toArray, List.set_cons_zero, List.set_cons_succ])
  refine take_ (i := 11) (N := (some 4)) (v := ?_) (a' := ?_) #[true, true, true, true, true, true, true, true, true, true, true, true] rfl rfl (by kernel_rfl) (fun _ _ _ h => h) (Or.inl ⟨by rfl, ?_⟩) (by assumption) ?_ ?_
  rotate_left
  · intro w' hSw; (try dsimp only at hSw)
    go_simp
    try with_reducible rfl
  rotate_left
  · simp only [Act.put, List.setIfInBounds_toArray, List.set_cons_zero, List.set_cons_succ]
    rfl
  refine done_ (by kernel_rfl) ?_
  go_wp2
  go_ret
  exact ⟨A2, c2', rfl, hl2, hB2, hHeld⟩

theorem run_eqItems64d (dd : Nat) (f g : V7) (w : World) : ∀ (is : List Nat), (∀ i ∈ is, i < 7) → (Op.eqItems (dd + 1) 2 1 #[.int .i64 (f 0), .int .i64 (f 1), .int .i64 (f 2), .int .i64 (f 3), .int .i64 (f 4), .int .i64 (f 5), .int .i64 (f 6)] #[.int .i64 (g 0), .int .i64 (g 1), .int .i64 (g 2), .int .i64 (g 3), .int .i64 (g 4), .int .i64 (g 5), .int .i64 (g 6)] is).run Try.prog w = .ok (is.all fun i => decide (f i = g i)) w
  | [], _ => by simp [Op.eqItems]
  | i :: is, h => by
    have hi := h i (by simp)
    have ih := run_eqItems64d dd f g w is (fun j hj => h j (by simp [hj]))
    have e := run_equalIn_int (P := Try.prog) w dd 2 .i64 .i64 (f i) (g i) Try.underlying2
    simp only [Op.eqItems, Sem.run_bind, Nat.mul_one, run_part64 _ i _ (vf_get f i hi), run_part64 _ i _ (vf_get g i hi), Result.andThen_ok, e]
    rw [List.all_cons]
    by_cases q : f i = g i
    · have qb : (f i == g i) = true := by simp [q]
      rw [qb, decide_eq_true q, Bool.true_and]
      exact ih
    · have qb : (f i == g i) = false := by simp [q]
      rw [qb, decide_eq_false q, Bool.false_and]
      rfl
theorem run_eq7d (dd : Nat) {T : TypeId} (hu : Try.prog.underlying T = some (.array 7 2)) (f g : V7) (w : World) : (Op.equalIn (dd + 1 + 1) T (.agg #[.int .i64 (f 0), .int .i64 (f 1), .int .i64 (f 2), .int .i64 (f 3), .int .i64 (f 4), .int .i64 (f 5), .int .i64 (f 6)]) (.agg #[.int .i64 (g 0), .int .i64 (g 1), .int .i64 (g 2), .int .i64 (g 3), .int .i64 (g 4), .int .i64 (g 5), .int .i64 (g 6)])).run Try.prog w = .ok (eq7 f g) w := by
  obtain ⟨i, hi⟩ : ∃ i, Try.prog.info? 2 = some i := Option.isSome_iff_exists.1 (by kernel_rfl)
  rw [run_equalIn_array w (dd + 1) _ _ hu hi, show Try.prog.cellsOf 2 = 1 from by kernel_rfl, run_eqItems64d dd f g w _ (fun i hi => List.mem_range.1 hi), all7_range]
  rfl
theorem run_part7 (xs ys : Array Value) (o : Nat) (h : xs.extract o (o + 7) = ys) (w : World) : (part 50 xs o).run Try.prog w = .ok (.agg ys) w := by
  have hagg : (isAgg 50).run Try.prog w = .ok true w := by
    unfold isAgg
    rw [Sem.run_bind, run_underlying Try.underlying50 w]
    rfl
  obtain ⟨i, hi⟩ : ∃ i, Try.prog.info? 50 = some i := Option.isSome_iff_exists.1 (by kernel_rfl)
  have hs := run_sizeOf w hi
  rw [show Try.prog.cellsOf 50 = 7 from by kernel_rfl] at hs
  unfold part
  simp [Sem.run_bind, hagg, hs, h]
theorem run_tally_eq (u d u2 d2 : V7) (w : World) : (Op.equalIn 10000 107 (.agg #[.int .i64 (u 0), .int .i64 (u 1), .int .i64 (u 2), .int .i64 (u 3), .int .i64 (u 4), .int .i64 (u 5), .int .i64 (u 6), .int .i64 (d 0), .int .i64 (d 1), .int .i64 (d 2), .int .i64 (d 3), .int .i64 (d 4), .int .i64 (d 5), .int .i64 (d 6)]) (.agg #[.int .i64 (u2 0), .int .i64 (u2 1), .int .i64 (u2 2), .int .i64 (u2 3), .int .i64 (u2 4), .int .i64 (u2 5), .int .i64 (u2 6), .int .i64 (d2 0), .int .i64 (d2 1), .int .i64 (d2 2), .int .i64 (d2 3), .int .i64 (d2 4), .int .i64 (d2 5), .int .i64 (d2 6)])).run Try.prog w = .ok (eq7 u u2 && eq7 d d2) w := by
  have hf : (Try.prog.fieldsOf 107).toList.map (fun f => (f.name, f.type, f.offset)) = [("up", 50, 0), ("down", 50, 7)] := by kernel_rfl
  rw [show (10000 : Nat) = 9999 + 1 from rfl, run_equalIn_struct w 9999 107 _ _ (by kernel_rfl) (by kernel_rfl)]
  generalize (Try.prog.fieldsOf 107).toList = fs at hf
  have hlen : fs.length = 2 := by have := congrArg List.length hf; simpa using this
  match fs, hlen, hf with
  | [f1, f2], _, hf =>
  simp only [List.map_cons, List.map_nil, List.cons.injEq, Prod.mk.injEq, and_true] at hf
  obtain ⟨⟨n1, t1, o1⟩, n2, t2, o2⟩ := hf
  simp only [Op.eqFields, n1, n2, t1, t2, o1, o2, Sem.run_bind]
  rw [if_pos (by decide), if_pos (by decide)]
  have p1 := run_part7 #[.int .i64 (u 0), .int .i64 (u 1), .int .i64 (u 2), .int .i64 (u 3), .int .i64 (u 4), .int .i64 (u 5), .int .i64 (u 6), .int .i64 (d 0), .int .i64 (d 1), .int .i64 (d 2), .int .i64 (d 3), .int .i64 (d 4), .int .i64 (d 5), .int .i64 (d 6)] #[.int .i64 (u 0), .int .i64 (u 1), .int .i64 (u 2), .int .i64 (u 3), .int .i64 (u 4), .int .i64 (u 5), .int .i64 (u 6)] 0 rfl w
  have p2 := run_part7 #[.int .i64 (u 0), .int .i64 (u 1), .int .i64 (u 2), .int .i64 (u 3), .int .i64 (u 4), .int .i64 (u 5), .int .i64 (u 6), .int .i64 (d 0), .int .i64 (d 1), .int .i64 (d 2), .int .i64 (d 3), .int .i64 (d 4), .int .i64 (d 5), .int .i64 (d 6)] #[.int .i64 (d 0), .int .i64 (d 1), .int .i64 (d 2), .int .i64 (d 3), .int .i64 (d 4), .int .i64 (d 5), .int .i64 (d 6)] 7 rfl w
  have p3 := run_part7 #[.int .i64 (u2 0), .int .i64 (u2 1), .int .i64 (u2 2), .int .i64 (u2 3), .int .i64 (u2 4), .int .i64 (u2 5), .int .i64 (u2 6), .int .i64 (d2 0), .int .i64 (d2 1), .int .i64 (d2 2), .int .i64 (d2 3), .int .i64 (d2 4), .int .i64 (d2 5), .int .i64 (d2 6)] #[.int .i64 (u2 0), .int .i64 (u2 1), .int .i64 (u2 2), .int .i64 (u2 3), .int .i64 (u2 4), .int .i64 (u2 5), .int .i64 (u2 6)] 0 rfl w
  have p4 := run_part7 #[.int .i64 (u2 0), .int .i64 (u2 1), .int .i64 (u2 2), .int .i64 (u2 3), .int .i64 (u2 4), .int .i64 (u2 5), .int .i64 (u2 6), .int .i64 (d2 0), .int .i64 (d2 1), .int .i64 (d2 2), .int .i64 (d2 3), .int .i64 (d2 4), .int .i64 (d2 5), .int .i64 (d2 6)] #[.int .i64 (d2 0), .int .i64 (d2 1), .int .i64 (d2 2), .int .i64 (d2 3), .int .i64 (d2 4), .int .i64 (d2 5), .int .i64 (d2 6)] 7 rfl w
  have e1 : (Op.equalIn 9999 50 (vf u) (vf u2)).run Try.prog w = .ok (eq7 u u2) w := run_eq7d 9997 Try.underlying50 u u2 w
  have e2 : (Op.equalIn 9999 50 (vf d) (vf d2)).run Try.prog w = .ok (eq7 d d2) w := run_eq7d 9997 Try.underlying50 d d2 w
  unfold vf at e1 e2
  simp only [Sem.run_bind, p1, p3, Result.andThen_ok, e1]
  cases q1 : eq7 u u2 with
  | false => rfl
  | true =>
    simp only [Bool.not_true, Bool.false_eq_true, if_false, Sem.run_bind, p2, p4, Result.andThen_ok, e2]
    cases q2 : eq7 d d2 with
    | false => rfl
    | true => rfl

theorem tsame_any (g g2 : Nat) (u d u2 d2 : V7) (w : World) (h : TT w g u d) (h2 : TT w g2 u2 d2) :
    Calls Try.prog 69 #[.pointer (some ⟨g, 0, none⟩), .pointer (some ⟨g2, 0, none⟩)] w fun e w' => e = .returned (.bool (eq7 u u2 && eq7 d d2)) ∧ Ext w w' := by
  obtain ⟨a0, a1, a2, a3, a4, a5, a6⟩ := h.up.cells0
  obtain ⟨b0, b1, b2, b3, b4, b5, b6⟩ := h.down.cells7
  obtain ⟨x0, x1, x2, x3, x4, x5, x6⟩ := h2.up.cells0
  obtain ⟨y0, y1, y2, y3, y4, y5, y6⟩ := h2.down.cells7
  have heq := fun W => run_tally_eq u d u2 d2 W
  obtain ⟨b, Hb⟩ : ∃ b, Hid ((eq7 u u2 && eq7 d d2) = b) := ⟨_, Lib.hid rfl⟩
  rw [Hb.out] at heq ⊢
  go_enter Try.func69, Try.ntmps69
  go_wp2
  go_region
  go_wp2
  go_ret
  exact ⟨rfl, (Ext.refl w).drew⟩

end Go.Proofs.Ytaiofbagdcpfgaa
