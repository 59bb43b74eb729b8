/- RefSend: the walk of the reference's Send. -/
import Derived.Test.YtbmhchfjapdicaaRefNet
import Derived.Test.YtbmhchfjapdicaaCut
set_option linter.unusedVariables false
set_option linter.unusedSimpArgs false
set_option maxRecDepth 100000
namespace Go.Proofs.Ytbmhchfjapdicaa
open Go.RowKit Go.Proofs.YtbmhchfjapdicaaW.PrintWords Go.Proofs.YtbmhchfjapdicaaW.PrintLast

theorem row_none (W : World) (T : TypeId) : (W.alloc (.cells #[] T)).ownsRow 0 T 1 (.slice (some ⟨W.heap.size, 0, none⟩) 0 0) 0 [] :=
  World.ownsRow_made W #[] 0 (Nat.zero_le _) (by decide) rfl
/-- A bag's entries as they are read. -/
theorem Bag.cells {w : World} {A : Option Addr} {n c : Nat} {l : List Ent} (h : Bag w (.slice A n c) l) (hne : l ≠ []) : ∃ g, A = some ⟨g, 0, none⟩ ∧ ∀ j u, (l.map entV)[j]? = some u → w.cell? ((⟨g, 0, none⟩ : Addr).add j) = some u := by
  obtain ⟨x, hx⟩ : ∃ x, l[0]? = some x := by
    cases l with
    | nil => exact absurd rfl hne
    | cons x l => exact ⟨x, rfl⟩
  obtain ⟨g, rfl, _⟩ := h.at 0 x hx
  refine ⟨g, rfl, fun j u hu => ?_⟩
  rw [List.getElem?_map, Option.map_eq_some_iff] at hu
  obtain ⟨y, hy, rfl⟩ := hu
  obtain ⟨g', he, hc⟩ := h.at j y hy
  injection he with he
  injection he with he
  subst he
  rw [Addr.add_lit, Nat.zero_add]
  exact hc

set_option maxHeartbeats 1600000 in
theorem rsend_any (g n : Nat) (V : Nat → Value) (L : Nat → List Ent) (S : Nat → List (List UInt8)) (f t : Int) (A : Option Addr) (bl c : Nat) (b : List UInt8) (w : World) (h : Net w 45 g n V L) (hS : Holds L S) (hn : n ≤ 7) (hB : Bs w A b) (hbl : bl = b.length) :
    Calls Try.prog 15 #[.pointer (some ⟨g, 0, none⟩), .int .i64 f, .int .i64 t, .slice A bl c] w fun e w' => e = .returned (.int .i64 (snd n S f t b).2) ∧ After w w' 45 g n V (snd n S f t b).1 := by
  have Hbl := Lib.hid hbl
  clear hbl
  go_enter Try.func15, Try.ntmps15
  go_wp2_with fail
  refine (rmay_any g n V f t w h.blk).mono ?_
  rintro e w' ⟨rfl, hw⟩
  obtain rfl := hw
  cases hk : way n f t with
  | none =>
    have hres : snd n S f t b = (S, 1) := by rw [snd, hk]
    have Hres := Lib.hid hres
    clear hres
    dsimp only [Option.isSome]
    go_wp2
    go_ret
    exact ⟨by rw [Hres.out]; rfl, by rw [Hres.out]; exact After.same h hS⟩
  | some k =>
    have hk49 := way_lt hk hn
    dsimp only [Option.isSome]
    by_cases q1 : 65536 < bl
    · have hres : snd n S f t b = (S, 1) := by simp only [snd, hk]; rw [if_pos (by rw [← Hbl.out]; exact q1)]
      have Hres := Lib.hid hres
      clear hres
      go_wp2
      go_ret
      exact ⟨by rw [Hres.out]; rfl, by rw [Hres.out]; exact After.same h hS⟩
    have hc := h.blk.cell k hk49
    have hbag := h.bag k hk49
    obtain ⟨A0, c0, hV, hlc, hmx, _⟩ := hbag.shape
    obtain ⟨m, Hm⟩ : ∃ m, Hid ((L k).length = m) := ⟨_, Lib.hid rfl⟩
    have hSm : (S k).length = m := by rw [← hS k hk49, List.length_map, Hm.out]
    rw [hV, Hm.out] at hc hbag
    rw [Hm.out] at hmx
    have hfz := h.blk.free (1 + k)
    obtain ⟨fa, fb, rfl, rfl, hkab, han, hbn⟩ := way_some hk
    rw [hkab, ← Nat.add_assoc] at hc hfz
    have ha7 : (fa : Int) < 7 := by omega
    have hb7 : (fb : Int) < 7 := by omega
    by_cases q2 : 64 ≤ m
    · have hres : snd n S fa fb b = (S, 6) := by simp only [snd, hk]; rw [if_neg (by rw [← Hbl.out]; exact q1), if_pos (by rw [hSm]; exact q2)]
      have Hres := Lib.hid hres
      clear hres hSm hk
      go_wp2
      go_ret
      exact ⟨by rw [Hres.out]; rfl, by rw [Hres.out]; exact After.same h hS⟩
    have hres : snd n S fa fb b = (updV S k (S k ++ [b]), 0) := by simp only [snd, hk]; rw [if_neg (by rw [← Hbl.out]; exact q1), if_neg (by rw [hSm]; exact q2)]
    have Hres := Lib.hid hres
    have HV := Lib.hid hV
    have Hkab := Lib.hid hkab
    clear hres hSm hV hk hkab
    have hlm : (L k).length ≤ 64 := by rw [Hm.out]; omega
    have hc' : ∀ W, Ext w W → W.cell? ⟨g, 1 + fa * 7 + fb, none⟩ = some (.slice A0 m c0) := fun W hW => hW.cell hc
    go_wp2
    refine start_ (n := 23) (S := (fun W => Ext w W)) (ds := [22]) #[false, false, false, false, false, false, false, false, false, false, false, false, false, false, false, false, false, false, false, false, false, false, false] (by kernel_rfl) (by kernel_rfl) (by kernel_rfl) ((Ext.refl w).drew) (fun hHeld => ?_)
    refine take_ (i := 0) (N := (some 29)) (v := ?_) (a' := ?_) #[true, false, false, false, false, false, false, false, false, false, false, false, false, false, false, false, false, false, false, false, false, false, false] rfl rfl (by kernel_rfl) (fun _ _ _ h => h) (Or.inl ⟨by rfl, ?_⟩) (by assumption) ?_ ?_
    rotate_left
    · intro w' hSw; (try dsimp only at hSw)
      go_simp
      try with_reducible rfl
    rotate_left
    · simp only [Act.put, List.setIfInBounds_toArray, List.set_cons_zero, List.set_cons_succ]
      rfl
    refine take_ (i := 1) (N := (some 30)) (v := ?_) (a' := ?_) #[true, true, false, false, false, false, false, false, false, false, false, false, false, false, false, false, false, false, false, false, false, false, false] rfl rfl (by kernel_rfl) (fun _ _ _ h => h) (Or.inl ⟨by rfl, ?_⟩) (by assumption) ?_ ?_
    rotate_left
    · intro w' hSw; (try dsimp only at hSw)
      go_simp
      try with_reducible rfl
    rotate_left
    · simp only [Act.put, List.setIfInBounds_toArray, List.set_cons_zero, List.set_cons_succ]
      rfl
    refine take_ (i := 2) (N := (some 31)) (v := ?_) (a' := ?_) #[true, true, true, false, false, false, false, false, false, false, false, false, false, false, false, false, false, false, false, false, false, false, false] rfl rfl (by kernel_rfl) (fun _ _ _ h => h) (Or.inl ⟨by rfl, ?_⟩) (by assumption) ?_ ?_
    rotate_left
    · intro w' hSw; (try dsimp only at hSw)
      go_simp
      try with_reducible rfl
    rotate_left
    · simp only [Act.put, List.setIfInBounds_toArray, List.set_cons_zero, List.set_cons_succ]
      rfl
    refine take_ (i := 4) (N := (some 33)) (v := ?_) (a' := ?_) #[true, true, true, false, true, false, false, false, false, false, false, false, false, false, false, false, false, false, false, false, false, false, false] rfl rfl (by kernel_rfl) (fun _ _ _ h => h) (Or.inl ⟨by rfl, ?_⟩) (by assumption) ?_ ?_
    rotate_left
    · intro w' hSw; (try dsimp only at hSw)
      go_simp
      try with_reducible rfl
    rotate_left
    · simp only [Act.put, List.setIfInBounds_toArray, List.set_cons_zero, List.set_cons_succ]
      rfl
    refine take_ (i := 5) (N := (some 34)) (v := ?_) (a' := ?_) #[true, true, true, false, true, true, false, false, false, false, false, false, false, false, false, false, false, false, false, false, false, false, false] rfl rfl (by kernel_rfl) (fun _ _ _ h => h) (Or.inl ⟨by rfl, ?_⟩) (by assumption) ?_ ?_
    rotate_left
    · intro w' hSw; (try dsimp only at hSw)
      go_simp
      try with_reducible rfl
    rotate_left
    · simp only [Act.put, List.setIfInBounds_toArray, List.set_cons_zero, List.set_cons_succ]
      rfl
    refine take_ (i := 6) (N := (some 35)) (v := ?_) (a' := ?_) #[true, true, true, false, true, true, true, false, false, false, false, false, false, false, false, false, false, false, false, false, false, false, false] rfl rfl (by kernel_rfl) (fun _ _ _ h => h) (Or.inl ⟨by rfl, ?_⟩) (by assumption) ?_ ?_
    rotate_left
    · intro w' hSw; (try dsimp only at hSw)
      go_simp
      try with_reducible rfl
    rotate_left
    · simp only [Act.put, List.setIfInBounds_toArray, List.set_cons_zero, List.set_cons_succ]
      rfl
    refine take_ (i := 7) (N := (some 36)) (v := ?_) (a' := ?_) #[true, true, true, false, true, true, true, true, false, false, false, false, false, false, false, false, false, false, false, false, false, false, false] rfl rfl (by kernel_rfl) (fun _ _ _ h => h) (Or.inl ⟨by rfl, ?_⟩) (by assumption) ?_ ?_
    rotate_left
    · intro w' hSw; (try dsimp only at hSw)
      go_simp
      try with_reducible rfl
    rotate_left
    · simp only [Act.put, List.setIfInBounds_toArray, List.set_cons_zero, List.set_cons_succ]
      rfl
    refine take_ (i := 8) (N := (some 37)) (v := ?_) (a' := ?_) #[true, true, true, false, true, true, true, true, true, false, false, false, false, false, false, false, false, false, false, false, false, false, false] rfl rfl (by kernel_rfl) (fun _ _ _ h => h) (Or.inl ⟨by rfl, ?_⟩) (by assumption) ?_ ?_
    rotate_left
    · intro w' hSw; (try dsimp only at hSw)
      go_simp
      try with_reducible rfl
    rotate_left
    · simp only [Act.put, List.setIfInBounds_toArray, List.set_cons_zero, List.set_cons_succ]
      rfl
    refine take_ (i := 9) (N := (some 38)) (v := ?_) (a' := ?_) #[true, true, true, false, true, true, true, true, true, true, false, false, false, false, false, false, false, false, false, false, false, false, false] rfl rfl (by kernel_rfl) (fun _ _ _ h => h) (Or.inl ⟨by rfl, ?_⟩) (by assumption) ?_ ?_
    rotate_left
    · intro w' hSw; (try dsimp only at hSw)
      go_simp
      try with_reducible rfl
    rotate_left
    · simp only [Act.put, List.setIfInBounds_toArray, List.set_cons_zero, List.set_cons_succ]
      rfl
    refine take_ (i := 10) (N := (some 39)) (v := ?_) (a' := ?_) #[true, true, true, false, true, true, true, true, true, true, true, false, false, false, false, false, false, false, false, false, false, false, false] rfl rfl (by kernel_rfl) (fun _ _ _ h => h) (Or.inl ⟨by rfl, ?_⟩) (by assumption) ?_ ?_
    rotate_left
    · intro w' hSw; (try dsimp only at hSw)
      go_simp
      try with_reducible rfl
    rotate_left
    · simp only [Act.put, List.setIfInBounds_toArray, List.set_cons_zero, List.set_cons_succ]
      rfl
    refine take_ (i := 11) (N := (some 40)) (v := ?_) (a' := ?_) #[true, true, true, false, true, true, true, true, true, true, true, true, false, false, false, false, false, false, false, false, false, false, false] rfl rfl (by kernel_rfl) (fun _ _ _ h => h) (Or.inl ⟨by rfl, ?_⟩) (by assumption) ?_ ?_
    rotate_left
    · intro w' hSw; (try dsimp only at hSw)
      go_simp
      try with_reducible rfl
    rotate_left
    · simp only [Act.put, List.setIfInBounds_toArray, List.set_cons_zero, List.set_cons_succ]
      rfl
    refine take_ (i := 14) (N := (some 43)) (v := ?_) (a' := ?_) #[true, true, true, false, true, true, true, true, true, true, true, true, false, false, true, false, false, false, false, false, false, false, false] rfl rfl (by kernel_rfl) (fun _ _ _ h => h) (Or.inl ⟨by rfl, ?_⟩) (by assumption) ?_ ?_
    rotate_left
    · intro w' hSw; (try dsimp only at hSw)
      go_simp
      try with_reducible rfl
    rotate_left
    · simp only [Act.put, List.setIfInBounds_toArray, List.set_cons_zero, List.set_cons_succ]
      rfl
    refine take_ (i := 18) (N := (some 47)) (v := ?_) (a' := ?_) #[true, true, true, false, true, true, true, true, true, true, true, true, false, false, true, false, false, false, true, false, false, false, false] rfl rfl (by kernel_rfl) (fun _ _ _ h => h) (Or.inl ⟨by rfl, ?_⟩) (by assumption) ?_ ?_
    rotate_left
    · intro w' hSw; (try dsimp only at hSw)
      go_simp
      try with_reducible rfl
    rotate_left
    · simp only [Act.put, List.setIfInBounds_toArray, List.set_cons_zero, List.set_cons_succ]
      rfl
    refine take_ (i := 19) (N := (some 48)) (v := ?_) (a' := ?_) #[true, true, true, false, true, true, true, true, true, true, true, true, false, false, true, false, false, false, true, true, false, false, false] rfl rfl (by kernel_rfl) (fun _ _ _ h => h) (Or.inl ⟨by rfl, ?_⟩) (by assumption) ?_ ?_
    rotate_left
    · intro w' hSw; (try dsimp only at hSw)
      go_simp
      try with_reducible rfl
    rotate_left
    · simp only [Act.put, List.setIfInBounds_toArray, List.set_cons_zero, List.set_cons_succ]
      rfl
    refine take_ (i := 20) (N := (some 49)) (v := ?_) (a' := ?_) #[true, true, true, false, true, true, true, true, true, true, true, true, false, false, true, false, false, false, true, true, true, false, false] rfl rfl (by kernel_rfl) (fun _ _ _ h => h) (Or.inl ⟨by rfl, ?_⟩) (by assumption) ?_ ?_
    rotate_left
    · intro w' hSw; (try dsimp only at hSw)
      go_simp
      try with_reducible rfl
    rotate_left
    · simp only [Act.put, List.setIfInBounds_toArray, List.set_cons_zero, List.set_cons_succ]
      rfl
    refine join_ (σ := Nat × Nat × Value) 5 #[true, true, true, true, true, true, true, true, true, true, true, true, true, true, true, false, false, false, true, true, true, false, false] (fun s => [(32, .slice (some ⟨s.1, 0, none⟩) 0 0), (41, s.2.2), (42, .slice (some ⟨s.2.1, 0, none⟩) 0 0)]) (fun s W => Ext w W ∧ W.ownsRow 0 30 1 s.2.2 (L k).length ((L k).map entV) ∧ (∀ x, s.2.2.ownBlock = some x → w.heap.size ≤ x) ∧ Ob W w.heap.size (.slice (some ⟨s.2.1, 0, none⟩) 0 0) []) ?_ ?_
    · rintro ⟨s3, s13, v12⟩ wj ⟨hHeld, hj12, hjb, hj13⟩
      dsimp only at hj12 hjb hj13
      simp only [putAll, Act.put, List.setIfInBounds_toArray, List.set_cons_zero, List.set_cons_succ]
      obtain ⟨A12, c12, rfl, hl12⟩ := own_shape hj12
      rw [Hm.out] at hl12
      refine one_ (i := 15) (N := (some 44)) #[true, true, true, true, true, true, true, true, true, true, true, true, true, true, true, true, false, false, true, true, true, false, false] rfl rfl (by kernel_rfl) (by simp) (fun K hK => ?_)
      refine at_append (some 44) rfl rfl _ _ rfl (.slice (some ⟨s13, 0, none⟩) 0 0) [] rfl A b bl c rfl Hbl.out w.heap.size hj13 (hB.ext hHeld) hHeld.size (by have := Hbl.out; simp; omega) ?_
      intro v15 w15 ho15 hg15 _
      rw [List.nil_append] at ho15
      have hE15 : Ext w w15 := hHeld.grown hj13 (Nat.le_refl _) hg15
      obtain ⟨A15, c15, rfl, hl15, hB15⟩ := ho15.reads
      have hI15 := ob_in ho15
      rw [← Hbl.out] at hl15 ⊢
      have hown15 : w15.ownsRow 0 30 1 (.slice A12 (L k).length c12) (L k).length ((L k).map entV) := own_block hj12 (fun x hx => hg15.block x (World.ownsRow.lt hj12 x hx).2 (fun he => ?_))
      rotate_left
      · obtain ⟨_, _, cur13, hh13⟩ : ∃ a b : Nat, ∃ cur, wj.heap[s13]? = some (.cells cur 5 (0, 0)) := by
          rcases hj13.2 with ⟨h1, _⟩ | ⟨g', cap', cur', h1, _, h2, _⟩
          · cases h1
          · injection h1 with h1
            injection h1 with h1
            injection h1 with h1
            subst h1
            exact ⟨0, 0, cur', h2⟩
        simp only [Value.ownBlock, Option.some.injEq] at he
        subst he
        rcases hj12.2 with ⟨h1, _⟩ | ⟨g', cap', cur', h1, _, h2, _⟩
        · rw [h1] at hx; cases hx
        · rw [h1] at hx
          simp only [Value.ownBlock, Option.some.injEq] at hx
          subst hx
          rw [hh13] at h2
          simp only [Option.some.injEq, Obj.cells.injEq] at h2
          exact absurd h2.2.1 (by decide)
      refine hK.out _ _ ?_ (fun hHeld => ?_)
      · exact hE15
      clear hK K
      (try simp only [Act.put, List.setIfInBounds_toArray, List.set_cons_zero, List.set_cons_succ])
      refine one_ (i := 16) (N := (some 45)) #[true, true, true, true, true, true, true, true, true, true, true, true, true, true, true, true, true, false, true, true, true, false, false] rfl rfl (by kernel_rfl) (by simp) (fun K hK => ?_)
      go_simp
      have hE16 : Ext w (w15.alloc (.cells #[.slice A15 bl c15] 30)) := hE15.alloc _
      have hE : (Value.slice A15 bl c15) = entV (A15, c15, b) := by rw [entV, ← Hbl.out]
      have hcell16 := cell_one w15 (A15, c15, b) 30
      rw [← hE] at hcell16
      have hown16 := own_block hown15 (w' := w15.alloc (.cells #[.slice A15 bl c15] 30)) (fun x hx => ((Ext.refl w15).alloc (.cells #[.slice A15 bl c15] 30)).out.block x (World.ownsRow.lt hown15 x hx).2)
      refine hK.out _ _ ?_ (fun hHeld => ?_)
      · exact hE16
      clear hK K
      (try simp only [Act.put, List.setIfInBounds_toArray, List.set_cons_zero, List.set_cons_succ])
      refine one_ (i := 17) (N := (some 46)) #[true, true, true, true, true, true, true, true, true, true, true, true, true, true, true, true, true, true, true, true, true, false, false] rfl rfl (by kernel_rfl) (by simp) (fun K hK => ?_)
      refine at_rows (some 46) rfl rfl _ _ rfl (.slice A12 (L k).length c12) (L k) (by rw [Hm.out]; rfl) hown16 (some ⟨w15.heap.size, 0, none⟩) [(A15, c15, b)] 1 1 rfl rfl (fun _ => ⟨_, rfl, hcell16⟩) (by have := Hm.out; simp; omega) ?_
      intro v17 w17 hown17 hg17 hat17
      obtain ⟨A17, c17, rfl, hc17⟩ := own_shape hown17
      have hln : (L k ++ [((A15, c15, b) : Ent)]).length = m + 1 := by rw [List.length_append, Hm.out]; rfl
      have hE17 : Ext w w17 := hE16.keep (Keep.grown hg17) (fun x hx => hjb x hx)
      have hno17 : ∀ x, (Value.slice A12 (L k).length c12).ownBlock = some x → NoB (w15.alloc (.cells #[.slice A15 bl c15] 30)) x := by
        intro x hx cur fr hh
        rcases hown16.2 with ⟨h1, _⟩ | ⟨g', cap', cur', h1, _, h2, _⟩
        · rw [h1] at hx; cases hx
        · rw [h1] at hx
          simp only [Value.ownBlock, Option.some.injEq] at hx
          subst hx
          rw [hh] at h2
          simp only [Option.some.injEq, Obj.cells.injEq] at h2
          exact absurd h2.2.1 (by decide)
      have hx15 := (Ext.refl w15).alloc (.cells #[.slice A15 bl c15] 30)
      have hbag17 : Bag w17 (.slice A17 (m + 1) c17) (L k ++ [(A15, c15, b)]) := by
        refine ⟨by rw [← hln]; exact hown17, fun y hy => ?_⟩
        rcases List.mem_append.1 hy with hy | hy
        · have hy' := hbag.el y hy
          exact ⟨hy'.1, ent_keep hy'.2.1 hy'.2.2 (Keep.of_ext hE17) (fun _ h => h.elim) (F := fun _ => False)⟩
        · obtain rfl := List.mem_singleton.1 hy
          have h6 := ent_keep (F := fun _ => False) (x := (A15, c15, b)) hB15 hI15 (Keep.of_ext hx15) (fun _ h => h.elim)
          exact ⟨by rw [← Hbl.out]; exact hl15, ent_keep h6.1 h6.2 (Keep.grown hg17) hno17⟩
      have ha17 : (Value.slice A17 (m + 1) c17).ownBlock = (V k).ownBlock ∨ ∀ x, (Value.slice A17 (m + 1) c17).ownBlock = some x → w.heap.size ≤ x := by
        right
        intro x hx
        rw [← hln] at hx
        rcases hat17 with h1 | h1
        · exact hjb x (by rw [← h1]; exact hx)
        · rw [h1] at hx
          injection hx with hx
          have := hE16.size
          omega
      obtain ⟨s1, s2, s3⟩ := h.store k hk49 (Keep.of_ext hE17) _ _ hbag17 ha17
      have hc17' := hE17.cell hc
      have hf17 := (h.blk.keep (hE17.out.block g h.blk.lt)).free (1 + fa * 7 + fb)
      rw [hln] at hown17 ⊢
      rw [Hkab.out, ← Nat.add_assoc] at s1 s2
      clear hown17 hcell16 hE hbag17
      refine hK.out _ _ ?_ (fun hHeld => ?_)
      · exact hE17
      clear hK K
      (try simp only [Act.put, List.setIfInBounds_toArray, List.set_cons_zero, List.set_cons_succ])
      refine take_ (i := 21) (N := (some 50)) (v := ?_) (a' := ?_) #[true, true, true, true, true, true, true, true, true, true, true, true, true, true, true, true, true, true, true, true, true, true, false] rfl rfl (by kernel_rfl) (fun _ _ _ h => h) (Or.inl ⟨by rfl, ?_⟩) (by assumption) ?_ ?_
      rotate_left
      · intro w' hSw; (try dsimp only at hSw)
        go_simp
        try with_reducible rfl
      rotate_left
      · simp only [Act.put, List.setIfInBounds_toArray, List.set_cons_zero, List.set_cons_succ]
        rfl
      refine last_ (i := 22) (N := none) #[true, true, true, true, true, true, true, true, true, true, true, true, true, true, true, true, true, true, true, true, true, true, true] rfl rfl (by kernel_rfl) (by simp) (fun K hK => ?_)
      go_simp
      refine hK.out _ _ ?_
      clear hK K
      (try simp only [Act.put, List.setIfInBounds_toArray, List.set_cons_zero, List.set_cons_succ])
      refine done_ (by kernel_rfl) ?_
      go_wp2
      go_ret
      refine ⟨by rw [Hres.out]; rfl, _, _, s1, ?_, s2, ?_⟩
      · rw [Hres.out, ← Hkab.out]
        exact hS.upd k _ _ (by rw [List.map_append, hS k hk49]; rfl)
      · rw [← Hkab.out]; exact s3
    · intro hJ
      refine two_ (i := 3) (Ni := (some 32)) (j := 13) (Nj := (some 42)) #[true, true, true, true, true, true, true, true, true, true, true, true, false, false, true, false, false, false, true, true, true, false, false] #[true, true, true, false, true, true, true, true, true, true, true, true, false, true, true, false, false, false, true, true, true, false, false] rfl rfl rfl rfl (by kernel_rfl) (by simp) (by simp) (fun K hK => ?_) (fun K hK => ?_)
      · skip
        go_simp
        have hO3 : ((w.drew).alloc (.cells #[] 30)).ownsRow 0 30 1 (.slice (some ⟨w.heap.size, 0, none⟩) 0 0) 0 [] := row_none w.drew 30
        have hO3b : ((w.drew).alloc (.cells #[] 30)).ownsRow w.heap.size 30 1 (.slice (some ⟨w.heap.size, 0, none⟩) 0 0) 0 [] := World.ownsRow_made w.drew #[] 0 (Nat.le_refl _) (by decide) rfl
        have hE3 : Ext w ((w.drew).alloc (.cells #[] 30)) := (Ext.refl w).drew.alloc _
        refine hK.out _ _ ?_ (fun hHeld => ?_)
        · exact hE3
        clear hK K
        (try simp only [Act.put, List.setIfInBounds_toArray, List.set_cons_zero, List.set_cons_succ])
        refine two_ (i := 12) (Ni := (some 41)) (j := 13) (Nj := (some 42)) #[true, true, true, true, true, true, true, true, true, true, true, true, true, false, true, false, false, false, true, true, true, false, false] #[true, true, true, true, true, true, true, true, true, true, true, true, false, true, true, false, false, false, true, true, true, false, false] rfl rfl rfl rfl (by kernel_rfl) (by simp) (by simp) (fun K hK => ?_) (fun K hK => ?_)
        · skip
          refine at_rows (some 41) rfl rfl _ _ rfl (.slice (some ⟨w.heap.size, 0, none⟩) 0 0) [] rfl (hO3) A0 (L k) m c0 rfl Hm.out.symm (fun hne => ?_) (by simp; omega) ?_
          · obtain ⟨gr, rfl, hcr⟩ := hbag.cells hne
            exact ⟨_, rfl, fun j u hu => (hE3).cell (hcr j u hu)⟩
          intro v12 w12 hown12 hg12 hat12
          rw [List.nil_append] at hown12
          have hE12 : Ext w w12 := ext_row (hE3) (hO3b) (Nat.le_refl _) hg12
          have hb12 : ∀ x, v12.ownBlock = some x → w.heap.size ≤ x := by
            intro x hx
            rcases hat12 with h1 | h1
            · rw [h1] at hx
              simp only [Value.ownBlock, Option.some.injEq] at hx
              omega
            · rw [h1] at hx
              injection hx with hx
              exact Nat.le_trans (hE3).size (Nat.le_of_eq hx)
          refine hK.out _ _ ?_ (fun hHeld => ?_)
          · exact hE12
          clear hK K
          (try simp only [Act.put, List.setIfInBounds_toArray, List.set_cons_zero, List.set_cons_succ])
          refine one_ (i := 13) (N := (some 42)) #[true, true, true, true, true, true, true, true, true, true, true, true, true, true, true, false, false, false, true, true, true, false, false] rfl rfl (by kernel_rfl) (by simp) (fun K hK => ?_)
          go_simp
          have hO13 : Ob (w12.alloc (.cells #[] 5)) w.heap.size (.slice (some ⟨w12.heap.size, 0, none⟩) 0 0) [] := Ob.alloc_at _ _ [] hE12.size (by decide) _ rfl _ rfl _ rfl
          refine hK.out _ _ ?_ (fun hHeld => ?_)
          · exact hE12.alloc _
          clear hK K
          (try simp only [Act.put, List.setIfInBounds_toArray, List.set_cons_zero, List.set_cons_succ])
          have hj := hJ (w.heap.size, w12.heap.size, v12) _ ⟨hHeld, pw_own_below hown12 ((Ext.refl w12).alloc _), hb12, hO13⟩
          simp only [putAll, Act.put, List.setIfInBounds_toArray, List.set_cons_zero, List.set_cons_succ] at hj
          exact hj
        · skip
          go_simp
          have hO13 : Ob (((w.drew).alloc (.cells #[] 30)).alloc (.cells #[] 5)) w.heap.size (.slice (some ⟨w.heap.size + 1, 0, none⟩) 0 0) [] := Ob.alloc_at _ _ [] hE3.size (by decide) _ rfl _ rfl _ (by simp)
          have hE13 : Ext w (((w.drew).alloc (.cells #[] 30)).alloc (.cells #[] 5)) := hE3.alloc _
          have hO3' := pw_own_below hO3 ((Ext.refl ((w.drew).alloc (.cells #[] 30))).alloc (.cells #[] 5))
          have hO3b' := pw_own_below hO3b ((Ext.refl ((w.drew).alloc (.cells #[] 30))).alloc (.cells #[] 5))
          refine hK.out _ _ ?_ (fun hHeld => ?_)
          · exact hE13
          clear hK K
          (try simp only [Act.put, List.setIfInBounds_toArray, List.set_cons_zero, List.set_cons_succ])
          refine one_ (i := 12) (N := (some 41)) #[true, true, true, true, true, true, true, true, true, true, true, true, true, true, true, false, false, false, true, true, true, false, false] rfl rfl (by kernel_rfl) (by simp) (fun K hK => ?_)
          refine at_rows (some 41) rfl rfl _ _ rfl (.slice (some ⟨w.heap.size, 0, none⟩) 0 0) [] rfl (hO3') A0 (L k) m c0 rfl Hm.out.symm (fun hne => ?_) (by simp; omega) ?_
          · obtain ⟨gr, rfl, hcr⟩ := hbag.cells hne
            exact ⟨_, rfl, fun j u hu => (hE13).cell (hcr j u hu)⟩
          intro v12 w12 hown12 hg12 hat12
          rw [List.nil_append] at hown12
          have hE12 : Ext w w12 := ext_row (hE13) (hO3b') (Nat.le_refl _) hg12
          have hb12 : ∀ x, v12.ownBlock = some x → w.heap.size ≤ x := by
            intro x hx
            rcases hat12 with h1 | h1
            · rw [h1] at hx
              simp only [Value.ownBlock, Option.some.injEq] at hx
              omega
            · rw [h1] at hx
              injection hx with hx
              exact Nat.le_trans (hE13).size (Nat.le_of_eq hx)
          refine hK.out _ _ ?_ (fun hHeld => ?_)
          · exact hE12
          clear hK K
          (try simp only [Act.put, List.setIfInBounds_toArray, List.set_cons_zero, List.set_cons_succ])
          have hj := hJ (w.heap.size, w.heap.size + 1, v12) _ ⟨hHeld, hown12, hb12, hO13.grown hg12 (Or.inr (by simp [Value.ownBlock]))⟩
          simp only [putAll, Act.put, List.setIfInBounds_toArray, List.set_cons_zero, List.set_cons_succ] at hj
          exact hj
      · skip
        go_simp
        have hO13 : Ob ((w.drew).alloc (.cells #[] 5)) w.heap.size (.slice (some ⟨w.heap.size, 0, none⟩) 0 0) [] := Ob.alloc_at _ _ [] (Nat.le_refl _) (by decide) _ rfl _ rfl _ rfl
        have hE13 : Ext w ((w.drew).alloc (.cells #[] 5)) := (Ext.refl w).drew.alloc _
        refine hK.out _ _ ?_ (fun hHeld => ?_)
        · exact hE13
        clear hK K
        (try simp only [Act.put, List.setIfInBounds_toArray, List.set_cons_zero, List.set_cons_succ])
        refine one_ (i := 3) (N := (some 32)) #[true, true, true, true, true, true, true, true, true, true, true, true, false, true, true, false, false, false, true, true, true, false, false] rfl rfl (by kernel_rfl) (by simp) (fun K hK => ?_)
        go_simp
        have hO3 : (((w.drew).alloc (.cells #[] 5)).alloc (.cells #[] 30)).ownsRow 0 30 1 (.slice (some ⟨w.heap.size + 1, 0, none⟩) 0 0) 0 [] := by
          have := row_none ((w.drew).alloc (.cells #[] 5)) 30
          simpa using this
        have hO3b : (((w.drew).alloc (.cells #[] 5)).alloc (.cells #[] 30)).ownsRow w.heap.size 30 1 (.slice (some ⟨w.heap.size + 1, 0, none⟩) 0 0) 0 [] := by
          have := World.ownsRow_made (base := w.heap.size) (e := 30) (size := 1) ((w.drew).alloc (.cells #[] 5)) #[] 0 (by simp) (by decide) rfl
          simpa using this
        have hE3 : Ext w (((w.drew).alloc (.cells #[] 5)).alloc (.cells #[] 30)) := hE13.alloc _
        have hO13' := hO13.ext ((Ext.refl ((w.drew).alloc (.cells #[] 5))).alloc (.cells #[] 30))
        refine hK.out _ _ ?_ (fun hHeld => ?_)
        · exact hE3
        clear hK K
        (try simp only [Act.put, List.setIfInBounds_toArray, List.set_cons_zero, List.set_cons_succ])
        refine one_ (i := 12) (N := (some 41)) #[true, true, true, true, true, true, true, true, true, true, true, true, true, true, true, false, false, false, true, true, true, false, false] rfl rfl (by kernel_rfl) (by simp) (fun K hK => ?_)
        refine at_rows (some 41) rfl rfl _ _ rfl (.slice (some ⟨w.heap.size + 1, 0, none⟩) 0 0) [] rfl (hO3) A0 (L k) m c0 rfl Hm.out.symm (fun hne => ?_) (by simp; omega) ?_
        · obtain ⟨gr, rfl, hcr⟩ := hbag.cells hne
          exact ⟨_, rfl, fun j u hu => (hE3).cell (hcr j u hu)⟩
        intro v12 w12 hown12 hg12 hat12
        rw [List.nil_append] at hown12
        have hE12 : Ext w w12 := ext_row (hE3) (hO3b) (Nat.le_refl _) hg12
        have hb12 : ∀ x, v12.ownBlock = some x → w.heap.size ≤ x := by
          intro x hx
          rcases hat12 with h1 | h1
          · rw [h1] at hx
            simp only [Value.ownBlock, Option.some.injEq] at hx
            omega
          · rw [h1] at hx
            injection hx with hx
            exact Nat.le_trans (hE3).size (Nat.le_of_eq hx)
        refine hK.out _ _ ?_ (fun hHeld => ?_)
        · exact hE12
        clear hK K
        (try simp only [Act.put, List.setIfInBounds_toArray, List.set_cons_zero, List.set_cons_succ])
        have hj := hJ (w.heap.size + 1, w.heap.size, v12) _ ⟨hHeld, hown12, hb12, hO13'.grown hg12 (Or.inr (by simp [Value.ownBlock]))⟩
        simp only [putAll, Act.put, List.setIfInBounds_toArray, List.set_cons_zero, List.set_cons_succ] at hj
        exact hj

end Go.Proofs.Ytbmhchfjapdicaa
