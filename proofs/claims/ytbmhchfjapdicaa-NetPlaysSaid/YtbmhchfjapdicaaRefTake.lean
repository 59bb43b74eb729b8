/- RefTake: the walks of the reference's Take, Double. -/
import Derived.Test.YtbmhchfjapdicaaRefSend
set_option linter.unusedVariables false
set_option linter.unusedSimpArgs false
set_option maxRecDepth 100000
namespace Go.Proofs.Ytbmhchfjapdicaa
open Go.RowKit Go.Proofs.YtbmhchfjapdicaaW.PrintWords Go.Proofs.YtbmhchfjapdicaaW.PrintLast

set_option maxHeartbeats 1600000 in
theorem rtake_any (g n : Nat) (V : Nat → Value) (L : Nat → List Ent) (S : Nat → List (List UInt8)) (f t a : Int) (w : World) (h : Net w 45 g n V L) (hS : Holds L S) (hn : n ≤ 7) (hb64 : ∀ k, k < 49 → (S k).length ≤ 64) :
    Calls Try.prog 16 #[.pointer (some ⟨g, 0, none⟩), .int .i64 f, .int .i64 t, .int .i64 a] w fun e w' => ∃ A c, e = .returned (.tuple #[.slice A (tk n S f t a).2.1.length c, .bool (tk n S f t a).2.2]) ∧ (tk n S f t a).2.1.length ≤ c ∧ Bs w' A (tk n S f t a).2.1 ∧ InB w' (A, c, (tk n S f t a).2.1) ∧ After w w' 45 g n V (tk n S f t a).1 := by
  go_enter Try.func16, Try.ntmps16
  go_wp2_with fail
  refine (rmay_any g n V f t w h.blk).mono ?_
  rintro e w' ⟨rfl, hw⟩
  obtain rfl := hw
  cases hk : way n f t with
  | none =>
    have hres : tk n S f t a = (S, [], false) := by rw [tk, hk]
    have Hres := Lib.hid hres
    clear hres
    dsimp only [Option.isSome]
    go_wp2
    go_ret2
    exact ⟨none, 0, by rw [Hres.out]; rfl, by rw [Hres.out]; exact Nat.le_refl _, by rw [Hres.out]; exact Bs.nil _, by rw [Hres.out]; exact fun h => absurd rfl h, by rw [Hres.out]; exact After.same h hS⟩
  | some k =>
    have hk49 := way_lt hk hn
    have hSm : (S k).length = (L k).length := by rw [← hS k hk49, List.length_map]
    dsimp only [Option.isSome]
    have hc := h.blk.cell k hk49
    have hbag := h.bag k hk49
    obtain ⟨A0, c0, hV, hlc, hmx, hsh⟩ := hbag.shape
    obtain ⟨m, Hm⟩ : ∃ m, Hid ((L k).length = m) := ⟨_, Lib.hid rfl⟩
    rw [hV, Hm.out] at hc hbag
    rw [Hm.out] at hmx hSm hlc
    have hfz := h.blk.free (1 + k)
    obtain ⟨fa, fb, rfl, rfl, hkab, han, hbn⟩ := way_some hk
    rw [hkab, ← Nat.add_assoc] at hc hfz
    have ha7 : (fa : Int) < 7 := by omega
    have hb7 : (fb : Int) < 7 := by omega
    have HV := Lib.hid hV
    have Hkab := Lib.hid hkab
    clear hV hkab
    by_cases c1 : 0 ≤ a ∧ a < m
    case neg =>
      have hres : tk n S fa fb a = (S, [], false) := by simp only [tk, hk]; rw [if_neg (by rw [hSm]; exact c1)]
      have Hres := Lib.hid hres
      by_cases c2 : a < 0
      · clear hres c1 hSm hk hsh
        go_wp2
        go_ret2
        exact ⟨none, 0, by rw [Hres.out]; rfl, by rw [Hres.out]; exact Nat.le_refl _, by rw [Hres.out]; exact Bs.nil _, by rw [Hres.out]; exact fun h => absurd rfl h, by rw [Hres.out]; exact After.same h hS⟩
      · have c3 : (m : Int) ≤ a := by omega
        clear hres c1 hSm hk hsh
        go_wp2
        go_ret2
        exact ⟨none, 0, by rw [Hres.out]; rfl, by rw [Hres.out]; exact Nat.le_refl _, by rw [Hres.out]; exact Bs.nil _, by rw [Hres.out]; exact fun h => absurd rfl h, by rw [Hres.out]; exact After.same h hS⟩
    obtain ⟨i, rfl⟩ := Int.eq_ofNat_of_zero_le c1.1
    have hi : i < m := by omega
    have hix : (L k)[i]? = some ((L k)[i]'(by rw [Hm.out]; exact hi)) := List.getElem?_eq_getElem _
    obtain ⟨x, Hx⟩ : ∃ x, Hid ((L k)[i]'(by rw [Hm.out]; exact hi) = x) := ⟨_, Lib.hid rfl⟩
    rw [Hx.out] at hix
    have hel := hbag.el x (List.mem_of_getElem? hix)
    have hgx : (S k).getD i [] = x.2.2 := by
      rw [← hS k hk49]
      simp [hix]
    obtain ⟨r, rfl, hcx⟩ := hbag.at i x hix
    unfold entV at hcx
    have Hhel := Lib.hid hel
    have hres : tk n S fa fb (i : Int) = (updV S k ((S k).eraseIdx i), x.2.2, true) := by
      simp only [tk, hk]
      rw [if_pos (by rw [hSm]; exact c1), Int.toNat_natCast, hgx]
    have Hres := Lib.hid hres
    have hlm : (L k).length ≤ 64 := by rw [Hm.out, ← hSm]; exact hb64 k hk49
    have hh1 := rows_head (some ⟨r, 0, none⟩) m c0 (i : Int) i rfl hlc (by omega)
    obtain ⟨ad, hh2, had⟩ := rows_tail r 0 m c0 ((i : Int) + 1) (i + 1) (by omega) hlc (by omega)
    obtain ⟨q, Hq⟩ : ∃ q, Hid (m - (i + 1) = q) := ⟨_, Lib.hid rfl⟩
    rw [Hq.out] at hh2
    have Had := Lib.hid had
    have htkl : ((L k).take i).length = i := by rw [List.length_take, Hm.out]; omega
    have hdrl : q = ((L k).drop (i + 1)).length := by rw [List.length_drop, Hm.out, Hq.out]
    have hcells : ∀ j y, (L k)[j]? = some y → w.cell? ⟨r, j, none⟩ = some (entV y) := fun j y hy => by
      obtain ⟨r', he, hc'⟩ := hbag.at j y hy
      injection he with he
      injection he with he
      subst he
      exact hc'
    have hwr : IntKind.i64.wrap ((i : Int) + 1) = (i : Int) + 1 := by rw [IntKind.wrap_i64]; omega
    have Hcells := Lib.hid hcells
    have Htkl := Lib.hid htkl
    have Hdrl := Lib.hid hdrl
    clear hres c1 hSm hgx hsh hel hix hk had htkl hdrl hcells
    go_wp2_with fail
    refine start_ (n := 18) (S := (fun W => Ext w W)) (ds := [17]) #[false, false, false, false, false, false, false, false, false, false, false, false, false, false, false, false, false, false] (by kernel_rfl) (by kernel_rfl) (by kernel_rfl) ((Ext.refl w).drew) (fun hHeld => ?_)
    refine take_ (i := 0) (N := (some 46)) (v := ?_) (a' := ?_) #[true, false, false, false, false, false, false, false, false, false, false, false, false, false, false, false, false, false] rfl rfl (by kernel_rfl) (fun _ _ _ h => h) (Or.inl ⟨by rfl, ?_⟩) (by assumption) ?_ ?_
    rotate_left
    · intro w' hSw; (try dsimp only at hSw)
      go_simp
      try with_reducible rfl
    rotate_left
    · simp only [Act.put, List.setIfInBounds_toArray, List.set_cons_zero, List.set_cons_succ]
      rfl
    refine take_ (i := 1) (N := (some 47)) (v := ?_) (a' := ?_) #[true, true, false, false, false, false, false, false, false, false, false, false, false, false, false, false, false, false] rfl rfl (by kernel_rfl) (fun _ _ _ h => h) (Or.inl ⟨by rfl, ?_⟩) (by assumption) ?_ ?_
    rotate_left
    · intro w' hSw; (try dsimp only at hSw)
      go_simp
      try with_reducible rfl
    rotate_left
    · simp only [Act.put, List.setIfInBounds_toArray, List.set_cons_zero, List.set_cons_succ]
      rfl
    refine take_ (i := 2) (N := (some 48)) (v := ?_) (a' := ?_) #[true, true, true, false, false, false, false, false, false, false, false, false, false, false, false, false, false, false] rfl rfl (by kernel_rfl) (fun _ _ _ h => h) (Or.inl ⟨by rfl, ?_⟩) (by assumption) ?_ ?_
    rotate_left
    · intro w' hSw; (try dsimp only at hSw)
      go_simp
      try with_reducible rfl
    rotate_left
    · simp only [Act.put, List.setIfInBounds_toArray, List.set_cons_zero, List.set_cons_succ]
      rfl
    refine take_ (i := 4) (N := (some 50)) (v := ?_) (a' := ?_) #[true, true, true, false, true, false, false, false, false, false, false, false, false, false, false, false, false, false] rfl rfl (by kernel_rfl) (fun _ _ _ h => h) (Or.inl ⟨by rfl, ?_⟩) (by assumption) ?_ ?_
    rotate_left
    · intro w' hSw; (try dsimp only at hSw)
      go_simp
      try with_reducible rfl
    rotate_left
    · simp only [Act.put, List.setIfInBounds_toArray, List.set_cons_zero, List.set_cons_succ]
      rfl
    refine take_ (i := 5) (N := (some 51)) (v := ?_) (a' := ?_) #[true, true, true, false, true, true, false, false, false, false, false, false, false, false, false, false, false, false] rfl rfl (by kernel_rfl) (fun _ _ _ h => h) (Or.inl ⟨by rfl, ?_⟩) (by assumption) ?_ ?_
    rotate_left
    · intro w' hSw; (try dsimp only at hSw)
      go_simp
      try with_reducible rfl
    rotate_left
    · simp only [Act.put, List.setIfInBounds_toArray, List.set_cons_zero, List.set_cons_succ]
      rfl
    refine take_ (i := 6) (N := (some 52)) (v := ?_) (a' := ?_) #[true, true, true, false, true, true, true, false, false, false, false, false, false, false, false, false, false, false] rfl rfl (by kernel_rfl) (fun _ _ _ h => h) (Or.inl ⟨by rfl, ?_⟩) (by assumption) ?_ ?_
    rotate_left
    · intro w' hSw; (try dsimp only at hSw)
      go_simp
      try with_reducible rfl
    rotate_left
    · simp only [Act.put, List.setIfInBounds_toArray, List.set_cons_zero, List.set_cons_succ]
      rfl
    refine take_ (i := 8) (N := (some 54)) (v := ?_) (a' := ?_) #[true, true, true, false, true, true, true, false, true, false, false, false, false, false, false, false, false, false] rfl rfl (by kernel_rfl) (fun _ _ _ h => h) (Or.inl ⟨by rfl, ?_⟩) (by assumption) ?_ ?_
    rotate_left
    · intro w' hSw; (try dsimp only at hSw)
      go_simp
      try with_reducible rfl
    rotate_left
    · simp only [Act.put, List.setIfInBounds_toArray, List.set_cons_zero, List.set_cons_succ]
      rfl
    refine take_ (i := 9) (N := (some 55)) (v := ?_) (a' := ?_) #[true, true, true, false, true, true, true, false, true, true, false, false, false, false, false, false, false, false] rfl rfl (by kernel_rfl) (fun _ _ _ h => h) (Or.inl ⟨by rfl, ?_⟩) (by assumption) ?_ ?_
    rotate_left
    · intro w' hSw; (try dsimp only at hSw)
      go_simp
      try with_reducible rfl
    rotate_left
    · simp only [Act.put, List.setIfInBounds_toArray, List.set_cons_zero, List.set_cons_succ]
      rfl
    refine take_ (i := 10) (N := (some 56)) (v := ?_) (a' := ?_) #[true, true, true, false, true, true, true, false, true, true, true, false, false, false, false, false, false, false] rfl rfl (by kernel_rfl) (fun _ _ _ h => h) (Or.inl ⟨by rfl, ?_⟩) (by assumption) ?_ ?_
    rotate_left
    · intro w' hSw; (try dsimp only at hSw)
      go_simp
      try with_reducible rfl
    rotate_left
    · simp only [Act.put, List.setIfInBounds_toArray, List.set_cons_zero, List.set_cons_succ]
      rfl
    refine take_ (i := 11) (N := (some 57)) (v := ?_) (a' := ?_) #[true, true, true, false, true, true, true, false, true, true, true, true, false, false, false, false, false, false] rfl rfl (by kernel_rfl) (fun _ _ _ h => h) (Or.inl ⟨by rfl, ?_⟩) (by assumption) ?_ ?_
    rotate_left
    · intro w' hSw; (try dsimp only at hSw)
      go_simp
      try with_reducible rfl
    rotate_left
    · simp only [Act.put, List.setIfInBounds_toArray, List.set_cons_zero, List.set_cons_succ]
      rfl
    refine take_ (i := 13) (N := (some 59)) (v := ?_) (a' := ?_) #[true, true, true, false, true, true, true, false, true, true, true, true, false, true, false, false, false, false] rfl rfl (by kernel_rfl) (fun _ _ _ h => h) (Or.inl ⟨by rfl, ?_⟩) (by assumption) ?_ ?_
    rotate_left
    · intro w' hSw; (try dsimp only at hSw)
      go_simp
      try with_reducible rfl
    rotate_left
    · simp only [Act.put, List.setIfInBounds_toArray, List.set_cons_zero, List.set_cons_succ]
      rfl
    refine take_ (i := 14) (N := (some 60)) (v := ?_) (a' := ?_) #[true, true, true, false, true, true, true, false, true, true, true, true, false, true, true, false, false, false] rfl rfl (by kernel_rfl) (fun _ _ _ h => h) (Or.inl ⟨by rfl, ?_⟩) (by assumption) ?_ ?_
    rotate_left
    · intro w' hSw; (try dsimp only at hSw)
      go_simp
      try with_reducible rfl
    rotate_left
    · simp only [Act.put, List.setIfInBounds_toArray, List.set_cons_zero, List.set_cons_succ]
      rfl
    refine take_ (i := 15) (N := (some 61)) (v := ?_) (a' := ?_) #[true, true, true, false, true, true, true, false, true, true, true, true, false, true, true, true, false, false] rfl rfl (by kernel_rfl) (fun _ _ _ h => h) (Or.inl ⟨by rfl, ?_⟩) (by assumption) ?_ ?_
    rotate_left
    · intro w' hSw; (try dsimp only at hSw)
      go_simp
      try with_reducible rfl
    rotate_left
    · simp only [Act.put, List.setIfInBounds_toArray, List.set_cons_zero, List.set_cons_succ]
      rfl
    refine one_ (i := 3) (N := (some 49)) #[true, true, true, true, true, true, true, false, true, true, true, true, false, true, true, true, false, false] rfl rfl (by kernel_rfl) (by simp) (fun K hK => ?_)
    go_simp
    have hO3 : ((w.drew).alloc (.cells #[] 30)).ownsRow 0 30 1 (.slice (some ⟨w.heap.size, 0, none⟩) 0 0) 0 [] := row_none w.drew 30
    have hO3b : ((w.drew).alloc (.cells #[] 30)).ownsRow w.heap.size 30 1 (.slice (some ⟨w.heap.size, 0, none⟩) 0 0) 0 [] := World.ownsRow_made w.drew #[] 0 (Nat.le_refl _) (by decide) rfl
    have hE3 : Ext w ((w.drew).alloc (.cells #[] 30)) := (Ext.refl w).drew.alloc _
    refine hK.out _ _ ?_ (fun hHeld => ?_)
    · exact hE3
    clear hK K
    (try simp only [Act.put, List.setIfInBounds_toArray, List.set_cons_zero, List.set_cons_succ])
    refine one_ (i := 7) (N := (some 53)) #[true, true, true, true, true, true, true, true, true, true, true, true, false, true, true, true, false, false] rfl rfl (by kernel_rfl) (by simp) (fun K hK => ?_)
    refine at_rows (some 53) rfl rfl _ _ rfl (.slice (some ⟨w.heap.size, 0, none⟩) 0 0) [] rfl hO3 (some ⟨r, 0, none⟩) ((L k).take i) i c0 rfl Htkl.out.symm (fun _ => ⟨_, rfl, fun j u hu => hE3.cell ?_⟩) (by have := Htkl.out; simp; omega) ?_
    · rw [List.getElem?_map, Option.map_eq_some_iff] at hu
      obtain ⟨y, hy, rfl⟩ := hu
      rw [Addr.add_lit, Nat.zero_add]
      refine Hcells.out j y ?_
      rw [List.getElem?_take] at hy
      split at hy
      · exact hy
      · cases hy
    intro v7 w7 hown7 hg7 hat7
    rw [List.nil_append] at hown7
    have hE7 : Ext w w7 := ext_row hE3 hO3b (Nat.le_refl _) hg7
    have hb7' : ∀ x, v7.ownBlock = some x → w.heap.size ≤ x := by
      intro x hx
      rcases hat7 with h1 | h1
      · rw [h1] at hx
        simp only [Value.ownBlock, Option.some.injEq] at hx
        omega
      · rw [h1] at hx
        injection hx with hx
        exact Nat.le_trans hE3.size (Nat.le_of_eq hx)
    have hown7b : w7.ownsRow w.heap.size 30 1 v7 ((L k).take i).length (((L k).take i).map entV) := by
      rcases hown7.2 with ⟨h1, h2⟩ | ⟨g1, cap1, cur1, h1, _, h2⟩
      · exact ⟨hown7.1, Or.inl ⟨h1, h2⟩⟩
      · exact ⟨hown7.1, Or.inr ⟨g1, cap1, cur1, h1, hb7' g1 (by rw [h1]; rfl), h2⟩⟩
    refine hK.out _ _ ?_ (fun hHeld => ?_)
    · exact hE7
    clear hK K
    (try simp only [Act.put, List.setIfInBounds_toArray, List.set_cons_zero, List.set_cons_succ])
    refine one_ (i := 12) (N := (some 58)) #[true, true, true, true, true, true, true, true, true, true, true, true, true, true, true, true, false, false] rfl rfl (by kernel_rfl) (by simp) (fun K hK => ?_)
    refine at_rows (some 58) rfl rfl _ _ rfl v7 ((L k).take i) rfl hown7 (some ad) ((L k).drop (i + 1)) q (c0 - (i + 1)) rfl Hdrl.out (fun hne => ⟨_, rfl, fun j u hu => hE7.cell ?_⟩) (by have := Htkl.out; have := Hdrl.out; have := Hq.out; have := Hm.out; omega) ?_
    · rw [List.getElem?_map, Option.map_eq_some_iff] at hu
      obtain ⟨y, hy, rfl⟩ := hu
      have hpos : i + 1 < m := by
        have := List.length_pos_iff.2 hne
        rw [← Hdrl.out] at this
        have := Hq.out
        omega
      rw [Had.out hpos, Addr.add_lit]
      rw [List.getElem?_drop] at hy
      have e : 0 + (i + 1) + j = i + 1 + j := by omega
      rw [e]
      exact Hcells.out _ y hy
    intro v12 w12 hown12 hg12 hat12
    rw [← List.eraseIdx_eq_take_drop_succ] at hown12
    have hE12 : Ext w w12 := ext_row hE7 hown7b (Nat.le_refl _) hg12
    obtain ⟨A12, c12, rfl, hc12⟩ := own_shape hown12
    have hln : ((L k).eraseIdx i).length = m - 1 := by rw [List.length_eraseIdx_of_lt (by rw [Hm.out]; exact hi), Hm.out]
    have hbag12 : Bag w12 (.slice A12 (m - 1) c12) ((L k).eraseIdx i) := by
      refine ⟨by rw [← hln]; exact hown12, fun y hy => ?_⟩
      have hy' := hbag.el y (List.mem_of_mem_eraseIdx hy)
      exact ⟨hy'.1, ent_keep (F := fun _ => False) hy'.2.1 hy'.2.2 (Keep.of_ext hE12) (fun _ h => h.elim)⟩
    have ha12 : (Value.slice A12 (m - 1) c12).ownBlock = (V k).ownBlock ∨ ∀ x, (Value.slice A12 (m - 1) c12).ownBlock = some x → w.heap.size ≤ x := by
      right
      intro x hx
      rw [← hln] at hx
      rcases hat12 with h1 | h1
      · exact hb7' x (by rw [← h1]; exact hx)
      · rw [h1] at hx
        injection hx with hx
        exact Nat.le_trans hE7.size (Nat.le_of_eq hx)
    obtain ⟨s1, s2, s3⟩ := h.store k hk49 (Keep.of_ext hE12) _ _ hbag12 ha12
    have hx12 := ent_keep Hhel.out.2.1 Hhel.out.2.2 s2 h.noB
    have hc12' := hE12.cell hc
    have hf12 := (h.blk.keep (hE12.out.block g h.blk.lt)).free (1 + fa * 7 + fb)
    rw [hln] at hown12 ⊢
    rw [Hkab.out, ← Nat.add_assoc] at s1 s2 hx12
    clear hown12 hbag12
    refine hK.out _ _ ?_ (fun hHeld => ?_)
    · exact hE12
    clear hK K
    (try simp only [Act.put, List.setIfInBounds_toArray, List.set_cons_zero, List.set_cons_succ])
    refine take_ (i := 16) (N := (some 62)) (v := ?_) (a' := ?_) #[true, true, true, true, true, true, true, true, true, true, true, true, true, true, true, true, true, false] rfl rfl (by kernel_rfl) (fun _ _ _ h => h) (Or.inl ⟨by rfl, ?_⟩) (by assumption) ?_ ?_
    rotate_left
    · intro w' hSw; (try dsimp only at hSw)
      go_simp
      try with_reducible rfl
    rotate_left
    · simp only [Act.put, List.setIfInBounds_toArray, List.set_cons_zero, List.set_cons_succ]
      rfl
    refine last_ (i := 17) (N := none) #[true, true, true, true, true, true, true, true, true, true, true, true, true, true, true, true, true, true] rfl rfl (by kernel_rfl) (by simp) (fun K hK => ?_)
    go_simp
    refine hK.out _ _ ?_
    clear hK K
    (try simp only [Act.put, List.setIfInBounds_toArray, List.set_cons_zero, List.set_cons_succ])
    refine done_ (by kernel_rfl) ?_
    go_wp2
    go_ret2
    refine ⟨x.1, x.2.1, by rw [Hres.out]; rfl, by rw [Hres.out]; exact Hhel.out.1, by rw [Hres.out]; exact hx12.1, by rw [Hres.out]; exact hx12.2, _, _, s1, ?_, s2, ?_⟩
    · rw [Hres.out, ← Hkab.out]
      refine hS.upd k _ _ ?_
      rw [← hS k hk49]
      simp [List.eraseIdx_eq_take_drop_succ]
    · rw [← Hkab.out]; exact s3

set_option maxHeartbeats 1600000 in
theorem rdouble_any (g n : Nat) (V : Nat → Value) (L : Nat → List Ent) (S : Nat → List (List UInt8)) (f t a : Int) (w : World) (h : Net w 45 g n V L) (hS : Holds L S) (hn : n ≤ 7) :
    Calls Try.prog 17 #[.pointer (some ⟨g, 0, none⟩), .int .i64 f, .int .i64 t, .int .i64 a] w fun e w' => e = .returned (.int .i64 (dbl n S f t a).2) ∧ After w w' 45 g n V (dbl n S f t a).1 := by
  go_enter Try.func17, Try.ntmps17
  go_wp2_with fail
  refine (rmay_any g n V f t w h.blk).mono ?_
  rintro e w' ⟨rfl, hw⟩
  obtain rfl := hw
  cases hk : way n f t with
  | none =>
    have hres : dbl n S f t a = (S, 4) := by rw [dbl, hk]
    have Hres := Lib.hid hres
    clear hres
    dsimp only [Option.isSome]
    go_wp2
    go_ret
    exact ⟨by rw [Hres.out]; rfl, by rw [Hres.out]; exact After.same h hS⟩
  | some k =>
    have hk49 := way_lt hk hn
    have hSm : (S k).length = (L k).length := by rw [← hS k hk49, List.length_map]
    dsimp only [Option.isSome]
    have hc := h.blk.cell k hk49
    have hbag := h.bag k hk49
    obtain ⟨A0, c0, hV, hlc, hmx, hsh⟩ := hbag.shape
    obtain ⟨m, Hm⟩ : ∃ m, Hid ((L k).length = m) := ⟨_, Lib.hid rfl⟩
    rw [hV, Hm.out] at hc hbag
    rw [Hm.out] at hmx hSm hlc
    have hfz := h.blk.free (1 + k)
    obtain ⟨fa, fb, rfl, rfl, hkab, han, hbn⟩ := way_some hk
    rw [hkab, ← Nat.add_assoc] at hc hfz
    have ha7 : (fa : Int) < 7 := by omega
    have hb7 : (fb : Int) < 7 := by omega
    have HV := Lib.hid hV
    have Hkab := Lib.hid hkab
    clear hV hkab
    by_cases c1 : 0 ≤ a ∧ a < m
    case neg =>
      have hres : dbl n S fa fb a = (S, 4) := by simp only [dbl, hk]; rw [if_neg (by rw [hSm]; exact c1)]
      have Hres := Lib.hid hres
      by_cases c2 : a < 0
      · clear hres c1 hSm hk hsh
        go_wp2
        go_ret
        exact ⟨by rw [Hres.out]; rfl, by rw [Hres.out]; exact After.same h hS⟩
      · have c3 : (m : Int) ≤ a := by omega
        clear hres c1 hSm hk hsh
        go_wp2
        go_ret
        exact ⟨by rw [Hres.out]; rfl, by rw [Hres.out]; exact After.same h hS⟩
    obtain ⟨i, rfl⟩ := Int.eq_ofNat_of_zero_le c1.1
    have hi : i < m := by omega
    have hix : (L k)[i]? = some ((L k)[i]'(by rw [Hm.out]; exact hi)) := List.getElem?_eq_getElem _
    obtain ⟨x, Hx⟩ : ∃ x, Hid ((L k)[i]'(by rw [Hm.out]; exact hi) = x) := ⟨_, Lib.hid rfl⟩
    rw [Hx.out] at hix
    have hel := hbag.el x (List.mem_of_getElem? hix)
    have hgx : (S k).getD i [] = x.2.2 := by
      rw [← hS k hk49]
      simp [hix]
    obtain ⟨r, rfl, hcx⟩ := hbag.at i x hix
    unfold entV at hcx
    have Hhel := Lib.hid hel
    have hres : dbl n S fa fb (i : Int) = snd n S fa fb x.2.2 := by
      simp only [dbl, hk]
      rw [if_pos (by rw [hSm]; exact c1), Int.toNat_natCast, hgx]
    have Hres := Lib.hid hres
    have hsnd := rsend_any g n V L S fa fb x.1 x.2.2.length x.2.1 x.2.2 w h hS hn hel.2.1 rfl
    clear hres c1 hSm hgx hsh hel hix hk
    go_wp2_with fail
    refine hsnd.mono ?_
    rintro e w2 ⟨rfl, ha⟩
    go_wp2
    go_ret
    exact ⟨by rw [Hres.out]; rfl, by rw [Hres.out]; exact ha⟩

end Go.Proofs.Ytbmhchfjapdicaa
