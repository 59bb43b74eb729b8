/- NetSend2: the walks of Send, Double. -/
import Derived.Test.YtbmhchfjapdicaaNetSend
set_option linter.unusedVariables false
set_option linter.unusedSimpArgs false
set_option maxRecDepth 100000
namespace Go.Proofs.Ytbmhchfjapdicaa
open Go.RowKit Go.Proofs.YtbmhchfjapdicaaW.PrintWords Go.Proofs.YtbmhchfjapdicaaW.PrintLast

set_option maxHeartbeats 1600000 in
theorem send_any (g n : Nat) (V : Nat → Value) (L : Nat → List Ent) (S : Nat → List (List UInt8)) (f t : Int) (A : Option Addr) (bl c : Nat) (b : List UInt8) (w : World) (h : Net w 50 g n V L) (hS : Holds L S) (hn : n ≤ 7) (hB : Bs w A b) (hbl : bl = b.length) :
    Calls Try.prog 8 #[.pointer (some ⟨g, 0, none⟩), .int .i64 f, .int .i64 t, .slice A bl c] w fun e w' => e = .returned (.int .i64 (snd n S f t b).2) ∧ After w w' 50 g n V (snd n S f t b).1 := by
  have Hbl := Lib.hid hbl
  clear hbl
  go_enter Try.func8, Try.ntmps8
  go_wp2_with fail
  refine (bag_any g n V f t w h.blk hn).mono ?_
  rintro e w' ⟨rfl, hw⟩
  obtain rfl := hw
  cases hk : way n f t with
  | none =>
    have hres : snd n S f t b = (S, 1) := by rw [snd, hk]
    rw [bagp_none hk]
    have Hres := Lib.hid hres
    clear hres
    go_wp2
    go_ret
    exact ⟨by rw [Hres.out]; rfl, by rw [Hres.out]; exact After.same h hS⟩
  | some k =>
    have hk49 := way_lt hk hn
    rw [bagp_some hk]
    by_cases q1 : 65536 < bl
    · have hres : snd n S f t b = (S, 1) := by simp only [snd, hk]; rw [if_pos (by rw [← Hbl.out]; exact q1)]
      have Hres := Lib.hid hres
      clear hres
      go_wp2
      go_ret
      exact ⟨by rw [Hres.out]; rfl, by rw [Hres.out]; exact After.same h hS⟩
    have hc := h.blk.cell k hk49
    obtain ⟨A0, c0, hV, hlc, hmx, _⟩ := (h.bag k hk49).shape
    obtain ⟨m, Hm⟩ : ∃ m, Hid ((L k).length = m) := ⟨_, Lib.hid rfl⟩
    have hSm : (S k).length = m := by rw [← hS k hk49, List.length_map, Hm.out]
    have hrow := (h.bag k hk49).row
    rw [hV, Hm.out] at hc hrow
    rw [Hm.out] at hmx
    by_cases q2 : 64 ≤ m
    · have hres : snd n S f t b = (S, 6) := by simp only [snd, hk]; rw [if_neg (by rw [← Hbl.out]; exact q1), if_pos (by rw [hSm]; exact q2)]
      have Hres := Lib.hid hres
      clear hres hSm
      go_wp2
      go_ret
      exact ⟨by rw [Hres.out]; rfl, by rw [Hres.out]; exact After.same h hS⟩
    have hres : snd n S f t b = (updV S k (S k ++ [b]), 0) := by simp only [snd, hk]; rw [if_neg (by rw [← Hbl.out]; exact q1), if_neg (by rw [hSm]; exact q2)]
    have Hres := Lib.hid hres
    have HV := Lib.hid hV
    have hfz := h.blk.free (1 + k)
    clear hres hSm hV
    go_wp2_with fail
    refine start_ (n := 10) (S := (fun W => W.cell? ⟨g, 1 + k, none⟩ = some (.slice A0 m c0))) (ds := [9]) #[false, false, false, false, false, false, false, false, false, false] (by kernel_rfl) (by kernel_rfl) (by kernel_rfl) (hc) (fun hHeld => ?_)
    refine take_ (i := 0) (N := (some 28)) (v := ?_) (a' := ?_) #[true, false, false, false, false, false, false, false, false, false] rfl rfl (by kernel_rfl) (fun _ _ _ h => h) (Or.inl ⟨by rfl, ?_⟩) (by assumption) ?_ ?_
    rotate_left
    · intro w' hSw; (try dsimp only at hSw)
      go_simp
      try with_reducible rfl
    rotate_left
    · simp only [Act.put, List.setIfInBounds_toArray, List.set_cons_zero, List.set_cons_succ]
      rfl
    refine take_ (i := 1) (N := (some 29)) (v := ?_) (a' := ?_) #[true, true, false, false, false, false, false, false, false, false] rfl rfl (by kernel_rfl) (fun _ _ _ h => h) (Or.inl ⟨by rfl, ?_⟩) (by assumption) ?_ ?_
    rotate_left
    · intro w' hSw; (try dsimp only at hSw)
      go_simp
      try with_reducible rfl
    rotate_left
    · simp only [Act.put, List.setIfInBounds_toArray, List.set_cons_zero, List.set_cons_succ]
      rfl
    refine take_ (i := 2) (N := (some 30)) (v := ?_) (a' := ?_) #[true, true, true, false, false, false, false, false, false, false] rfl rfl (by kernel_rfl) (fun _ _ _ h => h) (Or.inl ⟨by rfl, ?_⟩) (by assumption) ?_ ?_
    rotate_left
    · intro w' hSw; (try dsimp only at hSw)
      go_simp
      try with_reducible rfl
    rotate_left
    · simp only [Act.put, List.setIfInBounds_toArray, List.set_cons_zero, List.set_cons_succ]
      rfl
    refine take_ (i := 3) (N := (some 31)) (v := ?_) (a' := ?_) #[true, true, true, true, false, false, false, false, false, false] rfl rfl (by kernel_rfl) (fun _ _ _ h => h) (Or.inl ⟨by rfl, ?_⟩) (by assumption) ?_ ?_
    rotate_left
    · intro w' hSw; (try dsimp only at hSw)
      go_simp
      try with_reducible rfl
    rotate_left
    · simp only [Act.put, List.setIfInBounds_toArray, List.set_cons_zero, List.set_cons_succ]
      rfl
    refine take_ (i := 4) (N := (some 32)) (v := ?_) (a' := ?_) #[true, true, true, true, true, false, false, false, false, false] rfl rfl (by kernel_rfl) (fun _ _ _ h => h) (Or.inl ⟨by rfl, ?_⟩) (by assumption) ?_ ?_
    rotate_left
    · intro w' hSw; (try dsimp only at hSw)
      go_simp
      try with_reducible rfl
    rotate_left
    · simp only [Act.put, List.setIfInBounds_toArray, List.set_cons_zero, List.set_cons_succ]
      rfl
    refine one_ (i := 5) (N := (some 33)) #[true, true, true, true, true, true, false, false, false, false] rfl rfl (by kernel_rfl) (by simp) (fun K hK => ?_)
    go_simp
    refine (clone_any A bl c b _ (hB.ext (Ext.refl w).drew) Hbl.out (by omega)).mono ?_
    rintro e w2 ⟨v2, rfl, ho2, hx2⟩
    obtain ⟨A2, c2, rfl, hl2, hB2⟩ := ho2.reads
    have hI2 := ob_in ho2
    rw [← Hbl.out] at hl2 ⊢
    have hx2' := (Ext.refl w).drew.trans hx2
    clear ho2
    refine hK.out _ _ ?_ (fun hHeld => ?_)
    · exact hx2.cell hHeld
    clear hK K
    (try simp only [Act.put, List.setIfInBounds_toArray, List.set_cons_zero, List.set_cons_succ])
    refine one_ (i := 6) (N := (some 34)) #[true, true, true, true, true, true, true, false, false, false] rfl rfl (by kernel_rfl) (by simp) (fun K hK => ?_)
    go_simp
    have hx6 := hx2'.alloc (.cells #[.slice A2 bl c2] 30)
    have hB6 := hB2.ext ((Ext.refl w2).alloc (.cells #[.slice A2 bl c2] 30))
    have hE : (Value.slice A2 bl c2) = entV (A2, c2, b) := by rw [entV, ← Hbl.out]
    have hcell6 := cell_one w2 (A2, c2, b) 30
    rw [← hE] at hcell6
    refine hK.out _ _ ?_ (fun hHeld => ?_)
    · exact (Ext.refl w2 |>.alloc _).cell hHeld
    clear hK K
    (try simp only [Act.put, List.setIfInBounds_toArray, List.set_cons_zero, List.set_cons_succ])
    refine one_ (i := 7) (N := (some 35)) #[true, true, true, true, true, true, true, true, false, false] rfl rfl (by kernel_rfl) (by simp) (fun K hK => ?_)
    refine at_rows (some 35) rfl rfl _ _ rfl (.slice A0 m c0) (L k) rfl (own_block (by rw [Hm.out]; exact hrow) (fun b' hb' => hx6.out.block b' (World.ownsRow.lt hrow b' hb').2)) (some ⟨w2.heap.size, 0, none⟩) [(A2, c2, b)] 1 1 rfl rfl (fun _ => ⟨_, rfl, hcell6⟩) (by have := Hm.out; simp; omega) ?_
    intro v7 w7 hown7 hg7 hat7
    obtain ⟨A7, c7, rfl, hc7⟩ := own_shape hown7
    have hln : (L k ++ [((A2, c2, b) : Ent)]).length = m + 1 := by rw [List.length_append, Hm.out]; rfl
    have hbag7 := (h.bag k hk49).snoc (x := (A2, c2, b)) hx6 (by rw [← Hbl.out]; exact hl2) hB6 (fun hne a ha => by obtain ⟨cur, fr, hh⟩ := hI2 hne a ha; exact ⟨cur, fr, ((Ext.refl w2).alloc (.cells #[.slice A2 bl c2] 30)).out.block _ (Array.getElem?_eq_some_iff.1 hh).1 |>.trans hh⟩) hown7 (by rw [HV.out, Hm.out]; exact hg7)
    have hgne : some g ≠ (Value.slice A0 m c0).ownBlock := fun he => h.ne k hk49 (by rw [HV.out, Hm.out]; exact he.symm)
    have hg67 : w7.heap[g]? = w.heap[g]? := (hg7.block g (Nat.lt_of_lt_of_le h.blk.lt hx6.size) hgne).trans (hx6.out.block g h.blk.lt)
    have hK7 : Keep (fun x => (V k).ownBlock = some x) w w7 := (Keep.of_ext hx6).trans (Keep.grown hg7) (fun x hx => Or.inl (by rw [HV.out, Hm.out]; exact hx))
    have hN7 := h.blk.keep hg67
    have hc7 := hN7.cell k hk49
    rw [HV.out, Hm.out] at hc7
    have hf7 := hN7.free (1 + k)
    rw [hln] at hown7 hat7 hbag7 ⊢
    clear hown7 hcell6 hE
    refine hK.out _ _ ?_ (fun hHeld => ?_)
    · exact hc7
    clear hK K
    (try simp only [Act.put, List.setIfInBounds_toArray, List.set_cons_zero, List.set_cons_succ])
    refine take_ (i := 8) (N := (some 36)) (v := ?_) (a' := ?_) #[true, true, true, true, true, true, true, true, true, false] rfl rfl (by kernel_rfl) (fun _ _ _ h => h) (Or.inl ⟨by rfl, ?_⟩) (by assumption) ?_ ?_
    rotate_left
    · intro w' hSw; (try dsimp only at hSw)
      go_simp
      try with_reducible rfl
    rotate_left
    · simp only [Act.put, List.setIfInBounds_toArray, List.set_cons_zero, List.set_cons_succ]
      rfl
    refine last_ (i := 9) (N := none) #[true, true, true, true, true, true, true, true, true, true] rfl rfl (by kernel_rfl) (by simp) (fun K hK => ?_)
    go_simp
    skip
    refine hK.out _ _ ?_
    clear hK K
    (try simp only [Act.put, List.setIfInBounds_toArray, List.set_cons_zero, List.set_cons_succ])
    refine done_ (by kernel_rfl) ?_
    have ha7 : (Value.slice A7 (m + 1) c7).ownBlock = (V k).ownBlock ∨ ∀ b, (Value.slice A7 (m + 1) c7).ownBlock = some b → w.heap.size ≤ b := by
      rcases hat7 with h1 | h1
      · left; rw [h1, HV.out, Hm.out]
      · right
        intro b' hb'
        rw [h1] at hb'
        injection hb' with hb'
        have := hx6.size
        omega
    obtain ⟨s1, s2, s3⟩ := h.store k hk49 hK7 _ _ hbag7 ha7
    go_wp2
    go_ret
    refine ⟨by rw [Hres.out]; rfl, _, _, s1, ?_, s2, s3⟩
    rw [Hres.out]
    exact hS.upd k _ _ (by rw [List.map_append, hS k hk49]; rfl)

end Go.Proofs.Ytbmhchfjapdicaa
