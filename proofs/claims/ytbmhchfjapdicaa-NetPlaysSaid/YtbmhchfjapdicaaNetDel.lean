/- NetDel: the walk of slices.Delete, one element, on a row of the net's own. -/
import Derived.Test.YtbmhchfjapdicaaNetSend2
set_option linter.unusedVariables false
set_option linter.unusedSimpArgs false
set_option maxRecDepth 100000
namespace Go.Proofs.Ytbmhchfjapdicaa
open Go.RowKit Go.Proofs.YtbmhchfjapdicaaW.PrintWords Go.Proofs.YtbmhchfjapdicaaW.PrintLast

/-- l[:j]. -/
theorem rows_head (A : Option Addr) (n c : Nat) (J : Int) (j : Nat) (hJ : J = j) (hc : n ≤ c) (h1 : j ≤ n) :
    (∀ W : World, (Instr.slice 22 (.slice A n c) none (some (.int .i64 J)) none).run Try.prog W = .ok (.slice A j c) W) := by
  subst hJ
  obtain ⟨ti, hi, hs, _, _⟩ := info_parts info_bs
  have hel : Try.prog.elem 22 = 30 := by simp [Program.elem, Try.underlying22]
  have hu : Try.prog.underlying 22 = some (.slice (Try.prog.elem 22)) := by rw [hel]; exact Try.underlying22
  intro W
  rw [run_slice_h W 22 A n c hu .i64 (j : Int) (by omega) (by omega), hel]
  cases A <;> simp [sizeOf, typeInfo, hi, sliced, Result.andThen, Addr.add]
/-- l[j:]. -/
theorem rows_tail (r o n c : Nat) (J : Int) (j : Nat) (hJ : J = j) (hc : n ≤ c) (h1 : j ≤ n) :
    ∃ ad : Addr, (∀ W : World, (Instr.slice 22 (.slice (some ⟨r, o, none⟩) n c) (some (.int .i64 J)) none none).run Try.prog W = .ok (.slice (some ad) (n - j) (c - j)) W) ∧ (j < n → ad = ⟨r, o + j, none⟩) := by
  subst hJ
  obtain ⟨ti, hi, _, hs, _⟩ := info_parts info_bs
  have hel : Try.prog.elem 22 = 30 := by simp [Program.elem, Try.underlying22]
  have hu : Try.prog.underlying 22 = some (.slice (Try.prog.elem 22)) := by rw [hel]; exact Try.underlying22
  by_cases e : c = j
  · refine ⟨⟨r, o, none⟩, fun W => ?_, fun h => by omega⟩
    rw [run_slice_l W 22 _ n c hu .i64 (j : Int) (by omega) (by omega), hel]
    simp [sizeOf, typeInfo, hi, hs, sliced, Result.andThen, e]
  · refine ⟨⟨r, o + j, none⟩, fun W => ?_, fun h => rfl⟩
    rw [run_slice_l W 22 _ n c hu .i64 (j : Int) (by omega) (by omega), hel]
    simp [sizeOf, typeInfo, hi, hs, sliced, Result.andThen, e, Addr.add]
theorem zero_bs : ∀ w : World, (zeroValue 30).run Try.prog w = .ok (.slice none 0 0) w := by
  obtain ⟨ti, hi, hz, _, _⟩ := info_parts info_bs
  intro w
  simp [zeroValue, typeInfo, hi, hz]

set_option maxRecDepth 100000 in
/-- append in place, alone in a region of open order. -/
theorem at_room {ops : Array Oper} {o : Oper} {a : Act} {Q : Exit → Act → World → Prop} {W : World} {K : Act → World → Prop} {p : Prop} (N : Option Nat) (hd : o.dst = N)
    (hw : Region.wanted o (yielded ops a.tmps) = true) (s x : Operand)
    (ho : o.op = .call { callee := .builtin .append, args := #[s, x], argTypes := #[22, 22] })
    (r k cap : Nat) (cur : Array Value) (hr : W.heap[r]? = some (.cells cur 30 (0, 0))) (hs : a.eval s = .slice (some ⟨r, 0, none⟩) k cap) (ad : Addr) (n c : Nat) (hx : a.eval x = .slice (some ad) n c) (news : List Value) (hn : news.length = n)
    (hnews : ∀ j u, news[j]? = some u → W.cell? (ad.add j) = some u) (h1 : ∀ u ∈ news, u.oneCell' = true) (hroom : k + n ≤ cap) (hfit : k + n ≤ cur.size)
    (h : K (a.put N (.slice (some ⟨r, 0, none⟩) (k + n) cap)) (W.setRow r (cur.toList.take k ++ news ++ cur.toList.drop (k + n)).toArray)) :
    if Region.wanted o (yielded ops a.tmps) = true then o.wp Try.prog a W K Q else p := by
  subst hd
  obtain ⟨ti, hi, hz0, hz1, hz2⟩ := info_parts info_bs
  have hr := run_append_room (P := Try.prog) W 22 o.type 30 ti Try.underlying22 hi r k cap cur hr ad n c news (by rw [hz1, Nat.mul_one]; exact hn) hnews h1 hroom (by rw [hz1, Nat.mul_one, hn]; exact hfit)
  rw [hz1, Nat.mul_one, hn] at hr
  rw [if_pos hw]
  unfold Oper.wp execOp
  simp only [ho, resolve, invoke, builtin, Sem.run_bind, Sem.run_pure, Result.andThen_ok, List.map_toArray, List.map_cons, List.map_nil, hs, hx, hr]
  exact h

set_option maxHeartbeats 1600000 in
theorem del_any (r m c a : Nat) (l : List Ent) (w : World) (cur : Array Value) (hr : w.heap[r]? = some (.cells cur 30 (0, 0))) (hsz : cur.size = c) (htk : cur.toList.take m = l.map entV) (hm : m = l.length) (hmc : m ≤ c) (hmx : c ≤ 9223372036854775807) (ha : a < m) :
    Calls Try.prog 24 #[.slice (some ⟨r, 0, none⟩) m c, .int .i64 (a : Int), .int .i64 ((a : Int) + 1)] w fun e w' => e = .returned (.slice (some ⟨r, 0, none⟩) (m - 1) c) ∧ Keep (fun x => x = r) w w' ∧ ∃ cur', w'.heap[r]? = some (.cells cur' 30 (0, 0)) ∧ cur'.size = c ∧ cur'.toList.take (m - 1) = (l.eraseIdx a).map entV := by
  have hh1 := rows_head (some ⟨r, 0, none⟩) m c (a : Int) a rfl hmc (by omega)
  obtain ⟨ad, hh2, had⟩ := rows_tail r 0 m c ((a : Int) + 1) (a + 1) (by omega) hmc (by omega)
  obtain ⟨q, Hq⟩ : ∃ q, Hid (m - (a + 1) = q) := ⟨_, Lib.hid rfl⟩
  rw [Hq.out] at hh2
  obtain ⟨news, hnw⟩ : ∃ news, news = (l.drop (a + 1)).map entV := ⟨_, rfl⟩
  have hnl : news.length = q := by rw [hnw, List.length_map, List.length_drop, ← hm, Hq.out]
  have hcl : cur.toList.length = c := by rw [Array.length_toList, hsz]
  have hget : ∀ i, i < m → cur[i]? = (l.map entV)[i]? := fun i hi => by rw [← htk, List.getElem?_take_of_lt hi, Array.getElem?_toList]
  have hsrc : ∀ j u, news[j]? = some u → w.drew.cell? (ad.add j) = some u := by
    intro j u hu
    have hj : j < q := by rw [← hnl]; exact (List.getElem?_eq_some_iff.1 hu).1
    have had := had (by have := Hq.out; omega)
    subst had
    have e : (⟨r, 0 + (a + 1), none⟩ : Addr).add j = ⟨r, a + 1 + j, none⟩ := by rw [Addr.add_lit]; congr 1; omega
    rw [e]
    show w.cell? _ = _
    have h4 := hget (a + 1 + j) (by have := Hq.out; omega)
    simp only [World.cell?, hr]
    rw [hnw, List.map_drop, List.getElem?_drop] at hu
    rw [if_neg (by simp), h4]
    exact hu
  have hone : ∀ u ∈ news, u.oneCell' = true := by
    intro u hu
    rw [hnw] at hu
    obtain ⟨x, _, rfl⟩ := List.mem_map.1 hu
    rfl
  obtain ⟨cs, Hcs⟩ : ∃ cs, Hid ((cur.toList.take a ++ news ++ cur.toList.drop (a + q)).toArray = cs) := ⟨_, Lib.hid rfl⟩
  have hcsz : cs.size = c := by
    rw [← Hcs.out]
    simp only [List.size_toArray, List.length_append, List.length_take, List.length_drop, hcl, hnl]
    have := Hq.out
    omega
  have hcst : cs.toList.take (m - 1) = (l.eraseIdx a).map entV := by
    rw [← Hcs.out]
    have e1 : cur.toList.take a = (l.take a).map entV := by rw [List.map_take, ← htk, List.take_take, Nat.min_eq_left (by omega)]
    have e2 : (cur.toList.take a ++ news).length = m - 1 := by rw [List.length_append, List.length_take, hcl, hnl]; have := Hq.out; omega
    rw [List.take_left' e2, e1, hnw, List.eraseIdx_eq_take_drop_succ, List.map_append]
  obtain ⟨w1, Hw1⟩ : ∃ w1, Hid (w.drew.setRow r cs = w1) := ⟨_, Lib.hid rfl⟩
  have hr1 : w1.heap[r]? = some (.cells cs 30 (0, 0)) := by rw [← Hw1.out]; exact setRow_heap w.drew r cur cs _ _ hr
  have hk1 : Keep (fun x => x = r) w w1 := by rw [← Hw1.out]; exact (Keep.of_ext (Ext.refl w).drew).trans (Keep.setRow w.drew r cs) (fun x hx => Or.inl hx)
  obtain ⟨z, Hz⟩ : ∃ z, Hid (m - 1 = z) := ⟨_, Lib.hid rfl⟩
  have hz1 : z + 1 = m ∧ a + q = z := by have := Hq.out; have := Hz.out; omega
  rw [Hz.out] at hcst ⊢
  have hclr : ∀ ty, (Builtin.clear_ #[22] ty #[.slice (some ⟨r, z, none⟩) 1 (c - z)]).run Try.prog w1 = .ok (.tuple #[]) (w1.setCell ⟨r, z, none⟩ (.slice none 0 0)) := fun ty =>
    Lib.run_clear_slice w1 _ _ ty _ Try.underlying22 zero_bs rfl rfl r z 1 _ (by omega) (fun j hj => by
      obtain rfl : j = 0 := by omega
      rw [Nat.add_zero]
      simp only [World.cell?, hr1]
      have : z < cs.size := by omega
      simp [this]) (fun j hj => by simp [World.frozen?, hr1])
  have hend := Joins.block_setCell hr1 (i := z) (.slice none 0 0)
  have hkend : Keep (fun x => x = r) w (w1.setCell ⟨r, z, none⟩ (.slice none 0 0)) := hk1.trans (Keep.setCell w1 r z _) (fun x hx => Or.inl hx)
  have Hsrc := Lib.hid hsrc
  have Hend := Lib.hid hend
  have Hcst := Lib.hid hcst
  have Hr := Lib.hid hr
  have hmm : m = z + 1 := hz1.1.symm
  have haq := Lib.hid hz1.2
  clear hsrc hend hcst hr htk hget hz1 had
  subst hmm
  have Hnl := Lib.hid hnl
  have Hcl := Lib.hid hcl
  have Hone := Lib.hid hone
  clear hnl hcl hone hnw hm
  go_enter Try.func24, Try.ntmps24
  go_wp2_with fail
  refine start_ (n := 8) (S := (fun W => True)) (ds := []) #[false, false, false, false, false, false, false, false] (by kernel_rfl) (by kernel_rfl) (by kernel_rfl) (trivial) (fun hHeld => ?_)
  refine take_ (i := 0) (N := (some 20)) (v := ?_) (a' := ?_) #[true, false, false, false, false, false, false, false] rfl rfl (by kernel_rfl) (fun _ _ _ h => h) (Or.inl ⟨by rfl, ?_⟩) (by assumption) ?_ ?_
  rotate_left
  · intro w' hSw; (try dsimp only at hSw)
    go_simp
    try with_reducible rfl
  rotate_left
  · simp only [Act.put, List.setIfInBounds_toArray, List.set_cons_zero, List.set_cons_succ]
    rfl
  refine take_ (i := 1) (N := (some 21)) (v := ?_) (a' := ?_) #[true, true, false, false, false, false, false, false] rfl rfl (by kernel_rfl) (fun _ _ _ h => h) (Or.inl ⟨by rfl, ?_⟩) (by assumption) ?_ ?_
  rotate_left
  · intro w' hSw; (try dsimp only at hSw)
    go_simp
    try with_reducible rfl
  rotate_left
  · simp only [Act.put, List.setIfInBounds_toArray, List.set_cons_zero, List.set_cons_succ]
    rfl
  refine take_ (i := 2) (N := (some 22)) (v := ?_) (a' := ?_) #[true, true, true, false, false, false, false, false] rfl rfl (by kernel_rfl) (fun _ _ _ h => h) (Or.inl ⟨by rfl, ?_⟩) (by assumption) ?_ ?_
  rotate_left
  · intro w' hSw; (try dsimp only at hSw)
    go_simp
    try with_reducible rfl
  rotate_left
  · simp only [Act.put, List.setIfInBounds_toArray, List.set_cons_zero, List.set_cons_succ]
    rfl
  refine take_ (i := 3) (N := (some 23)) (v := ?_) (a' := ?_) #[true, true, true, true, false, false, false, false] rfl rfl (by kernel_rfl) (fun _ _ _ h => h) (Or.inl ⟨by rfl, ?_⟩) (by assumption) ?_ ?_
  rotate_left
  · intro w' hSw; (try dsimp only at hSw)
    go_simp
    try with_reducible rfl
  rotate_left
  · simp only [Act.put, List.setIfInBounds_toArray, List.set_cons_zero, List.set_cons_succ]
    rfl
  refine take_ (i := 4) (N := (some 24)) (v := ?_) (a' := ?_) #[true, true, true, true, true, false, false, false] rfl rfl (by kernel_rfl) (fun _ _ _ h => h) (Or.inl ⟨by rfl, ?_⟩) (by assumption) ?_ ?_
  rotate_left
  · intro w' hSw; (try dsimp only at hSw)
    go_simp
    try with_reducible rfl
  rotate_left
  · simp only [Act.put, List.setIfInBounds_toArray, List.set_cons_zero, List.set_cons_succ]
    rfl
  refine take_ (i := 5) (N := (some 25)) (v := ?_) (a' := ?_) #[true, true, true, true, true, true, false, false] rfl rfl (by kernel_rfl) (fun _ _ _ h => h) (Or.inl ⟨by rfl, ?_⟩) (by assumption) ?_ ?_
  rotate_left
  · intro w' hSw; (try dsimp only at hSw)
    go_simp
    try with_reducible rfl
  rotate_left
  · simp only [Act.put, List.setIfInBounds_toArray, List.set_cons_zero, List.set_cons_succ]
    rfl
  refine one_ (i := 6) (N := (some 26)) #[true, true, true, true, true, true, true, false] rfl rfl (by kernel_rfl) (by simp) (fun K hK => ?_)
  refine at_room (some 26) rfl rfl _ _ rfl r a c cur Hr.out rfl ad q (c - (a + 1)) rfl news Hnl.out Hsrc.out Hone.out (by have := haq.out; omega) (by have := haq.out; omega) ?_
  rw [Hcs.out, haq.out]
  have hw1 := Hw1.out
  rw [Hw1.out]
  refine hK.out _ _ ?_ (fun hHeld => ?_)
  · trivial
  clear hK K
  (try simp only [Act.put, List.setIfInBounds_toArray, List.set_cons_zero, List.set_cons_succ])
  refine take_ (i := 7) (N := (some 0)) (v := ?_) (a' := ?_) #[true, true, true, true, true, true, true, true] rfl rfl (by kernel_rfl) (fun _ _ _ h => h) (Or.inl ⟨by rfl, ?_⟩) (by assumption) ?_ ?_
  rotate_left
  · intro w' hSw; (try dsimp only at hSw)
    go_simp
    try with_reducible rfl
  rotate_left
  · simp only [Act.put, List.setIfInBounds_toArray, List.set_cons_zero, List.set_cons_succ]
    rfl
  refine done_ (by kernel_rfl) ?_
  go_wp2
  go_ret
  exact ⟨rfl, hkend, _, Hend.out, by simp [hcsz], by
    rw [Array.toList_setIfInBounds, List.take_set_of_le (Nat.le_refl _)]
    exact Hcst.out⟩

end Go.Proofs.Ytbmhchfjapdicaa
