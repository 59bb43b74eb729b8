/- RefGetT: the walk of the reference's GetTally. -/
import Derived.Test.YtaiofbagdcpfgaaTallyGet
import Derived.Test.YtaiofbagdcpfgaaRefGetV
import Derived.Test.YtaiofbagdcpfgaaRegion
set_option linter.unusedVariables false
set_option linter.unusedSimpArgs false
set_option maxRecDepth 100000
namespace Go.Proofs.Ytaiofbagdcpfgaa
open Go.RowKit Go.Proofs.YtaiofbagdcpfgaaW.PrintWords Go.Proofs.YtaiofbagdcpfgaaW.PrintLast PackPure

/-- A tally's whole block. -/
def RB (w : World) (g : Nat) (u d : V7) : Prop := w.heap[g]? = some (.cells #[.int .i64 (u 0), .int .i64 (u 1), .int .i64 (u 2), .int .i64 (u 3), .int .i64 (u 4), .int .i64 (u 5), .int .i64 (u 6), .int .i64 (d 0), .int .i64 (d 1), .int .i64 (d 2), .int .i64 (d 3), .int .i64 (d 4), .int .i64 (d 5), .int .i64 (d 6)] 83 (0, 0))
theorem rb_get (u d : V7) (k : Nat) (hk : k < 7) : ((#[.int .i64 (u 0), .int .i64 (u 1), .int .i64 (u 2), .int .i64 (u 3), .int .i64 (u 4), .int .i64 (u 5), .int .i64 (u 6), .int .i64 (d 0), .int .i64 (d 1), .int .i64 (d 2), .int .i64 (d 3), .int .i64 (d 4), .int .i64 (d 5), .int .i64 (d 6)] : Array Value)[k]? = some (.int .i64 (u k))) ∧ ((#[.int .i64 (u 0), .int .i64 (u 1), .int .i64 (u 2), .int .i64 (u 3), .int .i64 (u 4), .int .i64 (u 5), .int .i64 (u 6), .int .i64 (d 0), .int .i64 (d 1), .int .i64 (d 2), .int .i64 (d 3), .int .i64 (d 4), .int .i64 (d 5), .int .i64 (d 6)] : Array Value)[7 + k]? = some (.int .i64 (d k))) := by
  match k, hk with
  | 0, _ => exact ⟨rfl, rfl⟩
  | 1, _ => exact ⟨rfl, rfl⟩
  | 2, _ => exact ⟨rfl, rfl⟩
  | 3, _ => exact ⟨rfl, rfl⟩
  | 4, _ => exact ⟨rfl, rfl⟩
  | 5, _ => exact ⟨rfl, rfl⟩
  | 6, _ => exact ⟨rfl, rfl⟩
theorem RB.tt {w : World} {g : Nat} {u d : V7} (h : RB w g u d) : TT w g u d := by
  have h' : w.heap[g]? = _ := h
  refine ⟨fun i hi => ?_, fun i hi => ?_, fun i hi => by simp [World.frozen?, h'], fun i hi => by simp [World.frozen?, h']⟩
  · simp only [World.cell?, h', Nat.zero_add]
    exact (rb_get u d i hi).1
  · simp only [World.cell?, h']
    exact (rb_get u d i hi).2
theorem RB.no {w : World} {g : Nat} {u d : V7} (h : RB w g u d) : ∀ ad v, w.cell? ad = some v → ad.block = g → ∀ n, v ≠ .int .u8 n := by
  intro ad v hc hb n hv
  subst hb hv
  have h' : w.heap[ad.block]? = _ := h
  obtain ⟨b, o, s⟩ := ad
  simp only [World.cell?, h'] at hc
  split at hc
  · cases hc
  · rw [Array.getElem?_eq_some_iff] at hc
    obtain ⟨hl, hc⟩ := hc
    simp at hl
    match o, hl with
    | 0, _ => simp at hc
    | 1, _ => simp at hc
    | 2, _ => simp at hc
    | 3, _ => simp at hc
    | 4, _ => simp at hc
    | 5, _ => simp at hc
    | 6, _ => simp at hc
    | 7, _ => simp at hc
    | 8, _ => simp at hc
    | 9, _ => simp at hc
    | 10, _ => simp at hc
    | 11, _ => simp at hc
    | 12, _ => simp at hc
    | 13, _ => simp at hc
theorem RB.ext {w w' : World} {g : Nat} {u d : V7} (h : RB w g u d) (e : Ext w w') : RB w' g u d := by
  unfold RB
  rw [e.out.block g h.tt.lt]
  exact h
theorem RB.but {w w' : World} {g k : Nat} {u d : V7} (h : RB w g u d) (e : But k w w') (hne : g ≠ k) : RB w' g u d := by
  unfold RB
  rw [e.block g h.tt.lt hne]
  exact h
theorem RB.set {w : World} {g : Nat} {u d : V7} (h : RB w g u d) {k : Nat} (hk : k < 7) (x : Int) : RB (w.setCell ⟨g, k, none⟩ (.int .i64 x)) g (upd u k x) d ∧ RB (w.setCell ⟨g, 7 + k, none⟩ (.int .i64 x)) g u (upd d k x) := by
  have h1 := Joins.block_setCell h (i := k) (.int .i64 x)
  have h2 := Joins.block_setCell h (i := 7 + k) (.int .i64 x)
  unfold RB
  rw [h1, h2]
  match k, hk with
  | 0, _ => exact ⟨rfl, rfl⟩
  | 1, _ => exact ⟨rfl, rfl⟩
  | 2, _ => exact ⟨rfl, rfl⟩
  | 3, _ => exact ⟨rfl, rfl⟩
  | 4, _ => exact ⟨rfl, rfl⟩
  | 5, _ => exact ⟨rfl, rfl⟩
  | 6, _ => exact ⟨rfl, rfl⟩

set_option maxHeartbeats 4000000 in
theorem rtget_any (g : Nat) (b0 l : List UInt8) (bad : Bool) (w : World) (h : RQ w g b0 l bad) (hm0 : b0.length ≤ 140737488355000) (u d : V7) (l' : List UInt8) (bad' : Bool) (HGT : getT l bad = (u, d, l', bad')) :
    Calls Try.prog 66 #[.pointer (some ⟨g, 0, none⟩)] w fun e w' => RQ w' g b0 l' bad' ∧ But g w w' ∧ ∃ q, w.heap.size ≤ q ∧ TT w' q u d ∧ e = .returned (.pointer (if bad' = true then none else some ⟨q, 0, none⟩)) := by
  obtain ⟨u1, l1, b1, G1⟩ : ∃ a b c, Hid (getV l bad 1125899906842624 7 = (a, b, c)) := ⟨_, _, _, Lib.hid rfl⟩
  obtain ⟨d1, l2, b2, G2⟩ : ∃ a b c, Hid (getV l1 b1 1125899906842624 7 = (a, b, c)) := ⟨_, _, _, Lib.hid rfl⟩
  have hgt := HGT
  simp only [getT, G1.out, G2.out, Prod.mk.injEq] at hgt
  obtain ⟨rfl, rfl, rfl, rfl⟩ := hgt
  clear HGT
  obtain ⟨q, Hq⟩ : ∃ h, Hid (w.heap.size = h) := ⟨_, Lib.hid rfl⟩
  obtain ⟨w1, H1⟩ : ∃ x, Hid (w.alloc (.cells #[.int .i64 0, .int .i64 0, .int .i64 0, .int .i64 0, .int .i64 0, .int .i64 0, .int .i64 0, .int .i64 0, .int .i64 0, .int .i64 0, .int .i64 0, .int .i64 0, .int .i64 0, .int .i64 0] 83) = x) := ⟨_, Lib.hid rfl⟩
  have hx1 : Ext w w1 := by rw [← H1.out]; exact (Ext.refl _).alloc _
  have hT1 : RB w1 q (fun _ => 0) (fun _ => 0) := by rw [← H1.out, ← Hq.out]; exact heap_alloc_new _ _
  have hR1 := h.ext hx1
  have hgq : g < q := by rw [← Hq.out]; exact h.lt
  have hB1 : But g w w1 := But.of_ext hx1
  have hq := Hq.out
  have h1 := H1.out
  go_enter Try.func66, Try.ntmps66
  go_wp2_with fail
  clear h1 hq
  go_loopw [4] (fun i wr => ∃ (k : Nat) (f : V7) (b' : List UInt8) (bd' : Bool), k ≤ 7 ∧ i = .int .i64 k ∧ Hid (getV l bad 1125899906842624 k = (f, b', bd')) ∧ RQ wr g b0 b' bd' ∧ RB wr q f (fun _ => 0) ∧ But g w wr) (fun i _ => 7 - (intOf i).toNat)
  case atStart => exact ⟨0, _, l, bad, by omega, rfl, Lib.hid rfl, hR1, hT1, hB1⟩
  case round =>
    obtain ⟨k, f, b', bd', hk, rfl, HG, hr, hT, hB⟩ := hrel
    by_cases hkl : k < 7
    · have HG1 : getV l bad 1125899906842624 (k + 1) = (upd f k (rdNum b' bd' 0 1125899906842624).1, (rdNum b' bd' 0 1125899906842624).2.1, (rdNum b' bd' 0 1125899906842624).2.2) := by simp only [getV, HG.out]
      obtain ⟨x, b2', bd2', Hr⟩ : ∃ x y z, Hid (rdNum b' bd' 0 1125899906842624 = (x, y, z)) := ⟨_, _, _, Lib.hid rfl⟩
      rw [Hr.out] at HG1
      have HG2 := Lib.hid HG1
      clear HG1
      have cn := fun W hW => refnum_rel g b0 b' bd' 0 1125899906842624 W hW hm0
      rw [Hr.out] at cn
      go_wp2_with fail
      refine start_ (n := 8) (S := (fun _ => True)) (ds := [7]) #[false, false, false, false, false, false, false, false] (by kernel_rfl) (by kernel_rfl) (by kernel_rfl) (trivial) (fun hHeld => ?_)
      refine take_ (i := 0) (N := (some 12)) (v := ?_) (a' := ?_) #[true, false, false, false, false, false, false, false] rfl rfl (by kernel_rfl) (fun _ _ _ h => h) (Or.inl ⟨by rfl, ?_⟩) (by assumption) ?_ ?_
      rotate_left
      · intro w' hSw; (try dsimp only at hSw)
        go_simp
        try with_reducible rfl
      rotate_left
      · simp only [Act.put, List.setIfInBounds_toArray, List.set_cons_zero, List.set_cons_succ]
        rfl
      refine take_ (i := 1) (N := (some 13)) (v := ?_) (a' := ?_) #[true, true, false, false, false, false, false, false] rfl rfl (by kernel_rfl) (fun _ _ _ h => h) (Or.inl ⟨by rfl, ?_⟩) (by assumption) ?_ ?_
      rotate_left
      · intro w' hSw; (try dsimp only at hSw)
        go_simp
        try with_reducible rfl
      rotate_left
      · simp only [Act.put, List.setIfInBounds_toArray, List.set_cons_zero, List.set_cons_succ]
        rfl
      refine take_ (i := 2) (N := (some 14)) (v := ?_) (a' := ?_) #[true, true, true, false, false, false, false, false] rfl rfl (by kernel_rfl) (fun _ _ _ h => h) (Or.inl ⟨by rfl, ?_⟩) (by assumption) ?_ ?_
      rotate_left
      · intro w' hSw; (try dsimp only at hSw)
        go_simp
        try with_reducible rfl
      rotate_left
      · simp only [Act.put, List.setIfInBounds_toArray, List.set_cons_zero, List.set_cons_succ]
        rfl
      refine take_ (i := 4) (N := (some 16)) (v := ?_) (a' := ?_) #[true, true, true, false, true, false, false, false] rfl rfl (by kernel_rfl) (fun _ _ _ h => h) (Or.inl ⟨by rfl, ?_⟩) (by assumption) ?_ ?_
      rotate_left
      · intro w' hSw; (try dsimp only at hSw)
        go_simp
        try with_reducible rfl
      rotate_left
      · simp only [Act.put, List.setIfInBounds_toArray, List.set_cons_zero, List.set_cons_succ]
        rfl
      refine take_ (i := 5) (N := (some 17)) (v := ?_) (a' := ?_) #[true, true, true, false, true, true, false, false] rfl rfl (by kernel_rfl) (fun _ _ _ h => h) (Or.inl ⟨by rfl, ?_⟩) (by assumption) ?_ ?_
      rotate_left
      · intro w' hSw; (try dsimp only at hSw)
        go_simp
        try with_reducible rfl
      rotate_left
      · simp only [Act.put, List.setIfInBounds_toArray, List.set_cons_zero, List.set_cons_succ]
        rfl
      refine one_ (i := 3) (N := (some 15)) #[true, true, true, true, true, true, false, false] rfl rfl (by kernel_rfl) (by simp) (fun K hK => ?_)
      go_simp
      refine (cn _ (hr.ext (Ext.refl _).drew)).mono ?_
      rintro e w3 ⟨rfl, hr3, hB3⟩
      refine hK.out _ _ ?_ (fun hHeld => ?_)
      · trivial
      clear hK K
      (try simp only [Act.put, List.setIfInBounds_toArray, List.set_cons_zero, List.set_cons_succ])
      refine take_ (i := 6) (N := (some 18)) (v := ?_) (a' := ?_) #[true, true, true, true, true, true, true, false] rfl rfl (by kernel_rfl) (fun _ _ _ h => h) (Or.inl ⟨by rfl, ?_⟩) (by assumption) ?_ ?_
      rotate_left
      · intro w' hSw; (try dsimp only at hSw)
        go_simp
        try with_reducible rfl
      rotate_left
      · simp only [Act.put, List.setIfInBounds_toArray, List.set_cons_zero, List.set_cons_succ]
        rfl
      have hBd := (But.of_ext (g := g) (Ext.refl wr).drew).trans hB3
      have hT3 := hT.but hBd (by omega)
      have c0 := hT3.tt.up.zero k hkl
      have f0 := hT3.tt.fu.zero k hkl
      have hset := (hT3.set hkl x).1
      refine last_ (i := 7) (N := none) #[true, true, true, true, true, true, true, true] rfl rfl (by kernel_rfl) (by simp) (fun K hK => ?_)
      go_simp
      refine hK.out _ _ ?_
      clear hK K
      (try simp only [Act.put, List.setIfInBounds_toArray, List.set_cons_zero, List.set_cons_succ])
      refine done_ (by kernel_rfl) ?_
      go_wp2
      go_roundw
      case rel =>
        have hBB : But q w3 (w3.setCell ⟨q, k, none⟩ (.int .i64 x)) := (But.refl _ _).setCell _ _
        exact ⟨k + 1, _, b2', bd2', by omega, by go_num, HG2, hr3.but hBB (by omega) hT3.no, hset, (hB.trans hBd).new hBB (by rw [Hq.out]; exact Nat.le_refl _)⟩
      case measure => simp [intOf]; omega
    · have hk7 : k = 7 := by omega
      have hge := HG.out
      rw [hk7, G1.out] at hge
      simp only [Prod.mk.injEq] at hge
      obtain ⟨rfl, rfl, rfl⟩ := hge
      clear hk7
      go_wp2_with fail
      go_loopw [5] (fun i wr => ∃ (k : Nat) (f : V7) (b' : List UInt8) (bd' : Bool), k ≤ 7 ∧ i = .int .i64 k ∧ Hid (getV l1 b1 1125899906842624 k = (f, b', bd')) ∧ RQ wr g b0 b' bd' ∧ RB wr q u1 f ∧ But g w wr) (fun i _ => 7 - (intOf i).toNat)
      case atStart => exact ⟨0, _, l1, b1, by omega, rfl, Lib.hid rfl, hr, hT, hB⟩
      case round =>
        obtain ⟨k, f, b', bd', hk, rfl, HG, hr, hT, hB⟩ := hrel
        by_cases hkl : k < 7
        · have HG1 : getV l1 b1 1125899906842624 (k + 1) = (upd f k (rdNum b' bd' 0 1125899906842624).1, (rdNum b' bd' 0 1125899906842624).2.1, (rdNum b' bd' 0 1125899906842624).2.2) := by simp only [getV, HG.out]
          obtain ⟨x, b2', bd2', Hr⟩ : ∃ x y z, Hid (rdNum b' bd' 0 1125899906842624 = (x, y, z)) := ⟨_, _, _, Lib.hid rfl⟩
          rw [Hr.out] at HG1
          have HG2 := Lib.hid HG1
          clear HG1
          have cn := fun W hW => refnum_rel g b0 b' bd' 0 1125899906842624 W hW hm0
          rw [Hr.out] at cn
          go_wp2_with fail
          refine start_ (n := 8) (S := (fun _ => True)) (ds := [7]) #[false, false, false, false, false, false, false, false] (by kernel_rfl) (by kernel_rfl) (by kernel_rfl) (trivial) (fun hHeld => ?_)
          refine take_ (i := 0) (N := (some 23)) (v := ?_) (a' := ?_) #[true, false, false, false, false, false, false, false] rfl rfl (by kernel_rfl) (fun _ _ _ h => h) (Or.inl ⟨by rfl, ?_⟩) (by assumption) ?_ ?_
          rotate_left
          · intro w' hSw; (try dsimp only at hSw)
            go_simp
            try with_reducible rfl
          rotate_left
          · simp only [Act.put, List.setIfInBounds_toArray, List.set_cons_zero, List.set_cons_succ]
            rfl
          refine take_ (i := 1) (N := (some 24)) (v := ?_) (a' := ?_) #[true, true, false, false, false, false, false, false] rfl rfl (by kernel_rfl) (fun _ _ _ h => h) (Or.inl ⟨by rfl, ?_⟩) (by assumption) ?_ ?_
          rotate_left
          · intro w' hSw; (try dsimp only at hSw)
            go_simp
            try with_reducible rfl
          rotate_left
          · simp only [Act.put, List.setIfInBounds_toArray, List.set_cons_zero, List.set_cons_succ]
            rfl
          refine take_ (i := 2) (N := (some 25)) (v := ?_) (a' := ?_) #[true, true, true, false, false, false, false, false] rfl rfl (by kernel_rfl) (fun _ _ _ h => h) (Or.inl ⟨by rfl, ?_⟩) (by assumption) ?_ ?_
          rotate_left
          · intro w' hSw; (try dsimp only at hSw)
            go_simp
            try with_reducible rfl
          rotate_left
          · simp only [Act.put, List.setIfInBounds_toArray, List.set_cons_zero, List.set_cons_succ]
            rfl
          refine take_ (i := 4) (N := (some 27)) (v := ?_) (a' := ?_) #[true, true, true, false, true, false, false, false] rfl rfl (by kernel_rfl) (fun _ _ _ h => h) (Or.inl ⟨by rfl, ?_⟩) (by assumption) ?_ ?_
          rotate_left
          · intro w' hSw; (try dsimp only at hSw)
            go_simp
            try with_reducible rfl
          rotate_left
          · simp only [Act.put, List.setIfInBounds_toArray, List.set_cons_zero, List.set_cons_succ]
            rfl
          refine take_ (i := 5) (N := (some 28)) (v := ?_) (a' := ?_) #[true, true, true, false, true, true, false, false] rfl rfl (by kernel_rfl) (fun _ _ _ h => h) (Or.inl ⟨by rfl, ?_⟩) (by assumption) ?_ ?_
          rotate_left
          · intro w' hSw; (try dsimp only at hSw)
            go_simp
            try with_reducible rfl
          rotate_left
          · simp only [Act.put, List.setIfInBounds_toArray, List.set_cons_zero, List.set_cons_succ]
            rfl
          refine one_ (i := 3) (N := (some 26)) #[true, true, true, true, true, true, false, false] rfl rfl (by kernel_rfl) (by simp) (fun K hK => ?_)
          go_simp
          refine (cn _ (hr.ext (Ext.refl _).drew)).mono ?_
          rintro e w3 ⟨rfl, hr3, hB3⟩
          refine hK.out _ _ ?_ (fun hHeld => ?_)
          · trivial
          clear hK K
          (try simp only [Act.put, List.setIfInBounds_toArray, List.set_cons_zero, List.set_cons_succ])
          refine take_ (i := 6) (N := (some 29)) (v := ?_) (a' := ?_) #[true, true, true, true, true, true, true, false] rfl rfl (by kernel_rfl) (fun _ _ _ h => h) (Or.inl ⟨by rfl, ?_⟩) (by assumption) ?_ ?_
          rotate_left
          · intro w' hSw; (try dsimp only at hSw)
            go_simp
            try with_reducible rfl
          rotate_left
          · simp only [Act.put, List.setIfInBounds_toArray, List.set_cons_zero, List.set_cons_succ]
            rfl
          have hBd := (But.of_ext (g := g) (Ext.refl wr).drew).trans hB3
          have hT3 := hT.but hBd (by omega)
          have c0 := hT3.tt.down.at7 k hkl
          have f0 := hT3.tt.fd k hkl
          have hset := (hT3.set hkl x).2
          refine last_ (i := 7) (N := none) #[true, true, true, true, true, true, true, true] rfl rfl (by kernel_rfl) (by simp) (fun K hK => ?_)
          go_simp
          refine hK.out _ _ ?_
          clear hK K
          (try simp only [Act.put, List.setIfInBounds_toArray, List.set_cons_zero, List.set_cons_succ])
          refine done_ (by kernel_rfl) ?_
          go_wp2
          go_roundw
          case rel =>
            have hBB : But q w3 (w3.setCell ⟨q, 7 + k, none⟩ (.int .i64 x)) := (But.refl _ _).setCell _ _
            exact ⟨k + 1, _, b2', bd2', by omega, by go_num, HG2, hr3.but hBB (by omega) hT3.no, hset, (hB.trans hBd).new hBB (by rw [Hq.out]; exact Nat.le_refl _)⟩
          case measure => simp [intOf]; omega
        · have hk7 : k = 7 := by omega
          have hge := HG.out
          rw [hk7, G2.out] at hge
          simp only [Prod.mk.injEq] at hge
          obtain ⟨rfl, rfl, rfl⟩ := hge
          clear hk7
          have hbad := hr.bad2
          cases b2 with
          | true =>
            go_wp2
            go_ret
            exact ⟨hr, hB, q, by rw [Hq.out]; exact Nat.le_refl _, hT.tt, rfl⟩
          | false =>
            go_wp2
            go_ret
            exact ⟨hr, hB, q, by rw [Hq.out]; exact Nat.le_refl _, hT.tt, rfl⟩

end Go.Proofs.Ytaiofbagdcpfgaa
