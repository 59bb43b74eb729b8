/- TallyGet: the walk of tally.Get. -/
import Derived.Test.YtaiofbagdcpfgaaTallyPG
set_option linter.unusedVariables false
set_option linter.unusedSimpArgs false
set_option maxRecDepth 100000
namespace Go.Proofs.Ytaiofbagdcpfgaa
open Go.RowKit Go.Proofs.YtaiofbagdcpfgaaW.PrintWords Go.Proofs.YtaiofbagdcpfgaaW.PrintLast PackPure

/-- A tally's whole block. -/
def TB (w : World) (g : Nat) (u d : V7) : Prop := w.heap[g]? = some (.cells #[.int .i64 (u 0), .int .i64 (u 1), .int .i64 (u 2), .int .i64 (u 3), .int .i64 (u 4), .int .i64 (u 5), .int .i64 (u 6), .int .i64 (d 0), .int .i64 (d 1), .int .i64 (d 2), .int .i64 (d 3), .int .i64 (d 4), .int .i64 (d 5), .int .i64 (d 6)] 107 (0, 0))
theorem tb_get (u d : V7) (k : Nat) (hk : k < 7) : ((#[.int .i64 (u 0), .int .i64 (u 1), .int .i64 (u 2), .int .i64 (u 3), .int .i64 (u 4), .int .i64 (u 5), .int .i64 (u 6), .int .i64 (d 0), .int .i64 (d 1), .int .i64 (d 2), .int .i64 (d 3), .int .i64 (d 4), .int .i64 (d 5), .int .i64 (d 6)] : Array Value)[k]? = some (.int .i64 (u k))) ∧ ((#[.int .i64 (u 0), .int .i64 (u 1), .int .i64 (u 2), .int .i64 (u 3), .int .i64 (u 4), .int .i64 (u 5), .int .i64 (u 6), .int .i64 (d 0), .int .i64 (d 1), .int .i64 (d 2), .int .i64 (d 3), .int .i64 (d 4), .int .i64 (d 5), .int .i64 (d 6)] : Array Value)[7 + k]? = some (.int .i64 (d k))) := by
  match k, hk with
  | 0, _ => exact ⟨rfl, rfl⟩
  | 1, _ => exact ⟨rfl, rfl⟩
  | 2, _ => exact ⟨rfl, rfl⟩
  | 3, _ => exact ⟨rfl, rfl⟩
  | 4, _ => exact ⟨rfl, rfl⟩
  | 5, _ => exact ⟨rfl, rfl⟩
  | 6, _ => exact ⟨rfl, rfl⟩
theorem TB.tt {w : World} {g : Nat} {u d : V7} (h : TB w g u d) : TT w g u d := by
  have h' : w.heap[g]? = _ := h
  refine ⟨fun i hi => ?_, fun i hi => ?_, fun i hi => by simp [World.frozen?, h'], fun i hi => by simp [World.frozen?, h']⟩
  · simp only [World.cell?, h', Nat.zero_add]
    exact (tb_get u d i hi).1
  · simp only [World.cell?, h']
    exact (tb_get u d i hi).2
theorem TB.no {w : World} {g : Nat} {u d : V7} (h : TB w g u d) : ∀ ad v, w.cell? ad = some v → ad.block = g → ∀ n, v ≠ .int .u8 n := by
  intro ad v hc hb n hv
  subst hb hv
  have h' : w.heap[ad.block]? = _ := h
  obtain ⟨b, o, s⟩ := ad
  simp only [World.cell?, h'] at hc
  split at hc
  · cases hc
  · rw [Array.getElem?_eq_some_iff] at hc
    obtain ⟨hl, hc⟩ := hc
    simp at hl
    match o, hl with
    | 0, _ => simp at hc
    | 1, _ => simp at hc
    | 2, _ => simp at hc
    | 3, _ => simp at hc
    | 4, _ => simp at hc
    | 5, _ => simp at hc
    | 6, _ => simp at hc
    | 7, _ => simp at hc
    | 8, _ => simp at hc
    | 9, _ => simp at hc
    | 10, _ => simp at hc
    | 11, _ => simp at hc
    | 12, _ => simp at hc
    | 13, _ => simp at hc
theorem TB.ext {w w' : World} {g : Nat} {u d : V7} (h : TB w g u d) (e : Ext w w') : TB w' g u d := by
  unfold TB
  rw [e.out.block g h.tt.lt]
  exact h
theorem TB.but {w w' : World} {g k : Nat} {u d : V7} (h : TB w g u d) (e : But k w w') (hne : g ≠ k) : TB w' g u d := by
  unfold TB
  rw [e.block g h.tt.lt hne]
  exact h
theorem TB.set {w : World} {g : Nat} {u d : V7} (h : TB w g u d) {k : Nat} (hk : k < 7) (x : Int) : TB (w.setCell ⟨g, k, none⟩ (.int .i64 x)) g (upd u k x) d ∧ TB (w.setCell ⟨g, 7 + k, none⟩ (.int .i64 x)) g u (upd d k x) := by
  have h1 := Joins.block_setCell h (i := k) (.int .i64 x)
  have h2 := Joins.block_setCell h (i := 7 + k) (.int .i64 x)
  unfold TB
  rw [h1, h2]
  match k, hk with
  | 0, _ => exact ⟨rfl, rfl⟩
  | 1, _ => exact ⟨rfl, rfl⟩
  | 2, _ => exact ⟨rfl, rfl⟩
  | 3, _ => exact ⟨rfl, rfl⟩
  | 4, _ => exact ⟨rfl, rfl⟩
  | 5, _ => exact ⟨rfl, rfl⟩
  | 6, _ => exact ⟨rfl, rfl⟩
theorem tnewb_any (w : World) :
    Calls Try.prog 22 #[] w fun e w' => e = .returned (.pointer (some ⟨w.heap.size, 0, none⟩)) ∧ TB w' w.heap.size (fun _ => 0) (fun _ => 0) ∧ Ext w w' := by
  go_enter Try.func22, Try.ntmps22
  go_wp2
  go_ret
  exact ⟨rfl, heap_alloc_new _ _, (Ext.refl _).alloc _⟩

theorem act_cell' (w : World) (cs : Array Value) (T : TypeId) (j : Nat) {v : Value} (h : cs[j]? = some v) : (w.alloc (.cells cs T)).cell? ⟨w.heap.size, j, none⟩ = some v := by
  simp only [World.cell?, heap_alloc_new]
  simpa using h

/-- What Get reads: both rows, what is left. -/
def getT (l : List UInt8) (bad : Bool) : V7 × V7 × List UInt8 × Bool :=
  ((getV l bad 1125899906842624 7).1, getV (getV l bad 1125899906842624 7).2.1 (getV l bad 1125899906842624 7).2.2 1125899906842624 7)

set_option maxHeartbeats 4000000 in
theorem tget_any (g : Nat) (l : List UInt8) (bad : Bool) (w : World) (h : Rd w g l bad) (u d : V7) (l' : List UInt8) (bad' : Bool) (HGT : getT l bad = (u, d, l', bad')) :
    Calls Try.prog 60 #[.pointer (some ⟨g, 0, none⟩)] w fun e w' => Rd w' g l' bad' ∧ But g w w' ∧ ∃ q, w.heap.size ≤ q ∧ TT w' q u d ∧ e = .returned (.pointer (if bad' = true then none else some ⟨q, 0, none⟩)) := by
  obtain ⟨u1, l1, b1, G1⟩ : ∃ a b c, Hid (getV l bad 1125899906842624 7 = (a, b, c)) := ⟨_, _, _, Lib.hid rfl⟩
  obtain ⟨d1, l2, b2, G2⟩ : ∃ a b c, Hid (getV l1 b1 1125899906842624 7 = (a, b, c)) := ⟨_, _, _, Lib.hid rfl⟩
  have hgt := HGT
  simp only [getT, G1.out, G2.out, Prod.mk.injEq] at hgt
  obtain ⟨rfl, rfl, rfl, rfl⟩ := hgt
  clear HGT
  go_enter Try.func60, Try.ntmps60
  go_wp2_with fail
  refine (tnewb_any _).mono ?_
  rintro e w1 ⟨rfl, hT1, hx1⟩
  obtain ⟨q, Hq⟩ : ∃ h, Hid (w.heap.size = h) := ⟨_, Lib.hid rfl⟩
  have hq := Hq.out
  rw [hq] at hT1
  have hR1 := h.ext hx1
  have hgq : g < q := by rw [← Hq.out]; exact h.lt
  go_wp2_with fail
  obtain ⟨s, Hs⟩ : ∃ h, Hid (w1.heap.size = h) := ⟨_, Lib.hid rfl⟩
  obtain ⟨w2, H2⟩ : ∃ x, Hid (w1.drew.alloc (.cells #[.pointer (some ⟨q, 0, none⟩), .pointer (some ⟨q, 7, none⟩)] 108) = x) := ⟨_, Lib.hid rfl⟩
  have hx2 : Ext w1 w2 := by rw [← H2.out]; exact ((Ext.refl _).drew).alloc _
  have k0 : w2.cell? ⟨s, 0, none⟩ = some (.pointer (some ⟨q, 0, none⟩)) := by rw [← H2.out, ← Hs.out]; exact act_cell' _ _ _ _ rfl
  have k1 : w2.cell? ⟨s, 1, none⟩ = some (.pointer (some ⟨q, 7, none⟩)) := by rw [← H2.out, ← Hs.out]; exact act_cell' _ _ _ _ rfl
  have hsq : q < s := by rw [← Hs.out]; exact hT1.tt.lt
  have hr2 := H2.out
  have hs := Hs.out
  have hR2 := hR1.ext hx2
  have hT2 := hT1.ext hx2
  refine start_ (n := 9) (S := (fun W => Ext w1 W)) (ds := []) #[false, false, false, false, false, false, false, false, false] (by kernel_rfl) (by kernel_rfl) (by kernel_rfl) ((Ext.refl w1).drew) (fun hHeld => ?_)
  refine take_ (i := 0) (N := (some 8)) (v := ?_) (a' := ?_) #[true, false, false, false, false, false, false, false, false] rfl rfl (by kernel_rfl) (fun _ _ _ h => h) (Or.inl ⟨by rfl, ?_⟩) (by assumption) ?_ ?_
  rotate_left
  · intro w' hSw; (try dsimp only at hSw)
    go_simp
    try with_reducible rfl
  rotate_left
  · simp only [Act.put, List.setIfInBounds_toArray, List.set_cons_zero, List.set_cons_succ]
    rfl
  refine take_ (i := 1) (N := (some 9)) (v := ?_) (a' := ?_) #[true, true, false, false, false, false, false, false, false] rfl rfl (by kernel_rfl) (fun _ _ _ h => h) (Or.inl ⟨by rfl, ?_⟩) (by assumption) ?_ ?_
  rotate_left
  · intro w' hSw; (try dsimp only at hSw)
    go_simp
    try with_reducible rfl
  rotate_left
  · simp only [Act.put, List.setIfInBounds_toArray, List.set_cons_zero, List.set_cons_succ]
    rfl
  refine take_ (i := 2) (N := (some 10)) (v := ?_) (a' := ?_) #[true, true, true, false, false, false, false, false, false] rfl rfl (by kernel_rfl) (fun _ _ _ h => h) (Or.inl ⟨by rfl, ?_⟩) (by assumption) ?_ ?_
  rotate_left
  · intro w' hSw; (try dsimp only at hSw)
    go_simp
    try with_reducible rfl
  rotate_left
  · simp only [Act.put, List.setIfInBounds_toArray, List.set_cons_zero, List.set_cons_succ]
    rfl
  refine take_ (i := 3) (N := (some 11)) (v := ?_) (a' := ?_) #[true, true, true, true, false, false, false, false, false] rfl rfl (by kernel_rfl) (fun _ _ _ h => h) (Or.inl ⟨by rfl, ?_⟩) (by assumption) ?_ ?_
  rotate_left
  · intro w' hSw; (try dsimp only at hSw)
    go_simp
    try with_reducible rfl
  rotate_left
  · simp only [Act.put, List.setIfInBounds_toArray, List.set_cons_zero, List.set_cons_succ]
    rfl
  refine take_ (i := 4) (N := (some 12)) (v := ?_) (a' := ?_) #[true, true, true, true, true, false, false, false, false] rfl rfl (by kernel_rfl) (fun _ _ _ h => h) (Or.inl ⟨by rfl, ?_⟩) (by assumption) ?_ ?_
  rotate_left
  · intro w' hSw; (try dsimp only at hSw)
    go_simp
    try with_reducible rfl
  rotate_left
  · simp only [Act.put, List.setIfInBounds_toArray, List.set_cons_zero, List.set_cons_succ]
    rfl
  refine take_ (i := 5) (N := (some 13)) (v := ?_) (a' := ?_) #[true, true, true, true, true, true, false, false, false] rfl rfl (by kernel_rfl) (fun _ _ _ h => h) (Or.inl ⟨by rfl, ?_⟩) (by assumption) ?_ ?_
  rotate_left
  · intro w' hSw; (try dsimp only at hSw)
    go_simp
    try with_reducible rfl
  rotate_left
  · simp only [Act.put, List.setIfInBounds_toArray, List.set_cons_zero, List.set_cons_succ]
    rfl
  refine take_ (i := 8) (N := (some 16)) (v := ?_) (a' := ?_) #[true, true, true, true, true, true, false, false, true] rfl rfl (by kernel_rfl) (fun _ _ _ h => h) (Or.inl ⟨by rfl, ?_⟩) (by assumption) ?_ ?_
  rotate_left
  · intro w' hSw; (try dsimp only at hSw)
    go_simp
    try with_reducible rfl
  rotate_left
  · simp only [Act.put, List.setIfInBounds_toArray, List.set_cons_zero, List.set_cons_succ]
    rfl
  refine one_ (i := 6) (N := (some 14)) #[true, true, true, true, true, true, true, false, true] rfl rfl (by kernel_rfl) (by simp) (fun K hK => ?_)
  go_simp
  refine hK.out _ _ ?_ (fun hHeld => ?_)
  · exact hx2
  clear hK K
  (try simp only [Act.put, List.setIfInBounds_toArray, List.set_cons_zero, List.set_cons_succ])
  refine take_ (i := 7) (N := (some 15)) (v := ?_) (a' := ?_) #[true, true, true, true, true, true, true, true, true] rfl rfl (by kernel_rfl) (fun _ _ _ h => h) (Or.inl ⟨by rfl, ?_⟩) (by assumption) ?_ ?_
  rotate_left
  · intro w' hSw; (try dsimp only at hSw)
    go_simp
    try with_reducible rfl
  rotate_left
  · simp only [Act.put, List.setIfInBounds_toArray, List.set_cons_zero, List.set_cons_succ]
    rfl
  refine done_ (by kernel_rfl) ?_
  clear hr2 hs hq
  have hB2 : But g w w2 := But.of_ext (hx1.trans hx2)
  go_wp2_with fail
  go_loopw [16] (fun i wr => ∃ (j : Int) (uu dd : V7) (b : List UInt8) (bd : Bool), i = .int .i64 j ∧ ((j = 0 ∧ uu = (fun _ => 0) ∧ dd = (fun _ => 0) ∧ b = l ∧ bd = bad) ∨ (j = 1 ∧ uu = u1 ∧ dd = (fun _ => 0) ∧ b = l1 ∧ bd = b1) ∨ (j = 2 ∧ uu = u1 ∧ dd = d1 ∧ b = l2 ∧ bd = b2)) ∧ Rd wr g b bd ∧ TB wr q uu dd ∧ wr.cell? ⟨s, 0, none⟩ = some (.pointer (some ⟨q, 0, none⟩)) ∧ wr.cell? ⟨s, 1, none⟩ = some (.pointer (some ⟨q, 7, none⟩)) ∧ But g w wr) (fun i _ => 2 - (intOf i).toNat)
  case atStart => exact ⟨0, _, _, l, bad, rfl, Or.inl ⟨rfl, rfl, rfl, rfl, rfl⟩, hR2, hT2, k0, k1, hB2⟩
  case round =>
    obtain ⟨j, uu, dd, b, bd, rfl, hcase, hr, hT, k0, k1, hB⟩ := hrel
    rcases hcase with ⟨rfl, rfl, rfl, rfl, rfl⟩ | ⟨rfl, rfl, rfl, rfl, rfl⟩ | ⟨rfl, rfl, rfl, rfl, rfl⟩
    · go_wp2_with fail
      go_loopw [20] (fun i wr => ∃ (k : Nat) (f : V7) (b' : List UInt8) (bd' : Bool), k ≤ 7 ∧ i = .int .i64 k ∧ Hid (getV b bd 1125899906842624 k = (f, b', bd')) ∧ Rd wr g b' bd' ∧ TB wr q f (fun _ => 0) ∧ wr.cell? ⟨s, 0, none⟩ = some (.pointer (some ⟨q, 0, none⟩)) ∧ wr.cell? ⟨s, 1, none⟩ = some (.pointer (some ⟨q, 7, none⟩)) ∧ But g w wr) (fun i _ => 7 - (intOf i).toNat)
      case atStart => exact ⟨0, _, b, bd, by omega, rfl, Lib.hid rfl, hr, hT, k0, k1, hB⟩
      case round =>
        obtain ⟨k, f, b', bd', hk, rfl, HG, hr, hT, k0, k1, hB⟩ := hrel
        by_cases hkl : k < 7
        · have HG1 : getV b bd 1125899906842624 (k + 1) = (upd f k (rdNum b' bd' 0 1125899906842624).1, (rdNum b' bd' 0 1125899906842624).2.1, (rdNum b' bd' 0 1125899906842624).2.2) := by simp only [getV, HG.out]
          obtain ⟨x, b2', bd2', Hr⟩ : ∃ x y z, Hid (rdNum b' bd' 0 1125899906842624 = (x, y, z)) := ⟨_, _, _, Lib.hid rfl⟩
          rw [Hr.out] at HG1
          have HG2 := Lib.hid HG1
          clear HG1
          have cn := fun W hW => rnum_any g b' bd' 0 1125899906842624 W hW
          rw [Hr.out] at cn
          go_wp2_with fail
          refine start_ (n := 7) (S := (fun _ => True)) (ds := [6]) #[false, false, false, false, false, false, false] (by kernel_rfl) (by kernel_rfl) (by kernel_rfl) (trivial) (fun hHeld => ?_)
          refine take_ (i := 0) (N := (some 23)) (v := ?_) (a' := ?_) #[true, false, false, false, false, false, false] rfl rfl (by kernel_rfl) (fun _ _ _ h => h) (Or.inl ⟨by rfl, ?_⟩) (by assumption) ?_ ?_
          rotate_left
          · intro w' hSw; (try dsimp only at hSw)
            go_simp
            try with_reducible rfl
          rotate_left
          · simp only [Act.put, List.setIfInBounds_toArray, List.set_cons_zero, List.set_cons_succ]
            rfl
          refine take_ (i := 1) (N := (some 24)) (v := ?_) (a' := ?_) #[true, true, false, false, false, false, false] rfl rfl (by kernel_rfl) (fun _ _ _ h => h) (Or.inl ⟨by rfl, ?_⟩) (by assumption) ?_ ?_
          rotate_left
          · intro w' hSw; (try dsimp only at hSw)
            go_simp
            try with_reducible rfl
          rotate_left
          · simp only [Act.put, List.setIfInBounds_toArray, List.set_cons_zero, List.set_cons_succ]
            rfl
          refine take_ (i := 2) (N := (some 25)) (v := ?_) (a' := ?_) #[true, true, true, false, false, false, false] rfl rfl (by kernel_rfl) (fun _ _ _ h => h) (Or.inl ⟨by rfl, ?_⟩) (by assumption) ?_ ?_
          rotate_left
          · intro w' hSw; (try dsimp only at hSw)
            go_simp
            try with_reducible rfl
          rotate_left
          · simp only [Act.put, List.setIfInBounds_toArray, List.set_cons_zero, List.set_cons_succ]
            rfl
          refine take_ (i := 4) (N := (some 27)) (v := ?_) (a' := ?_) #[true, true, true, false, true, false, false] rfl rfl (by kernel_rfl) (fun _ _ _ h => h) (Or.inl ⟨by rfl, ?_⟩) (by assumption) ?_ ?_
          rotate_left
          · intro w' hSw; (try dsimp only at hSw)
            go_simp
            try with_reducible rfl
          rotate_left
          · simp only [Act.put, List.setIfInBounds_toArray, List.set_cons_zero, List.set_cons_succ]
            rfl
          refine one_ (i := 3) (N := (some 26)) #[true, true, true, true, true, false, false] rfl rfl (by kernel_rfl) (by simp) (fun K hK => ?_)
          go_simp
          refine (cn _ (hr.ext (Ext.refl _).drew)).mono ?_
          rintro e w3 ⟨rfl, hr3, hB3⟩
          refine hK.out _ _ ?_ (fun hHeld => ?_)
          · trivial
          clear hK K
          (try simp only [Act.put, List.setIfInBounds_toArray, List.set_cons_zero, List.set_cons_succ])
          refine take_ (i := 5) (N := (some 28)) (v := ?_) (a' := ?_) #[true, true, true, true, true, true, false] rfl rfl (by kernel_rfl) (fun _ _ _ h => h) (Or.inl ⟨by rfl, ?_⟩) (by assumption) ?_ ?_
          rotate_left
          · intro w' hSw; (try dsimp only at hSw)
            go_simp
            try with_reducible rfl
          rotate_left
          · simp only [Act.put, List.setIfInBounds_toArray, List.set_cons_zero, List.set_cons_succ]
            rfl
          have hBd := (But.of_ext (g := g) (Ext.refl wr).drew).trans hB3
          have hT3 := hT.but hBd (by omega)
          have k03 : w3.cell? ⟨s, 0, none⟩ = some (.pointer (some ⟨q, 0, none⟩)) := by rw [World.cell?_of_block (w := wr) (hBd.block s (World.block_lt_of_cell? _ _ k0) (by omega))]; exact k0
          have k13 : w3.cell? ⟨s, 1, none⟩ = some (.pointer (some ⟨q, 7, none⟩)) := by rw [World.cell?_of_block (w := wr) (hBd.block s (World.block_lt_of_cell? _ _ k1) (by omega))]; exact k1
          have c0 := hT3.tt.up.zero k hkl
          have f0 := hT3.tt.fu.zero k hkl
          have hset := (hT3.set hkl x).1
          refine last_ (i := 6) (N := none) #[true, true, true, true, true, true, true] rfl rfl (by kernel_rfl) (by simp) (fun K hK => ?_)
          go_simp
          refine hK.out _ _ ?_
          clear hK K
          (try simp only [Act.put, List.setIfInBounds_toArray, List.set_cons_zero, List.set_cons_succ])
          refine done_ (by kernel_rfl) ?_
          go_wp2
          go_roundw
          case rel =>
            have hBB : But q w3 (w3.setCell ⟨q, k, none⟩ (.int .i64 x)) := (But.refl _ _).setCell _ _
            exact ⟨k + 1, _, b2', bd2', by omega, by go_num, HG2, hr3.but hBB (by omega) hT3.no, hset, by rw [World.cell?_setCell_other _ _ _ _ (fun he => by injection he; omega)]; exact k03, by rw [World.cell?_setCell_other _ _ _ _ (fun he => by injection he; omega)]; exact k13, (hB.trans hBd).new hBB (by rw [Hq.out]; exact Nat.le_refl _)⟩
          case measure => simp [intOf]; omega
        · have hk7 : k = 7 := by omega
          subst hk7
          have hge := HG.out
          rw [G1.out] at hge
          simp only [Prod.mk.injEq] at hge
          obtain ⟨rfl, rfl, rfl⟩ := hge
          go_wp2
          go_roundw
          case rel => exact ⟨1, _, _, _, _, rfl, Or.inr (Or.inl ⟨rfl, rfl, rfl, rfl, rfl⟩), hr, hT, k0, k1, hB⟩
          case measure => simp [intOf]
    · go_wp2_with fail
      go_loopw [20] (fun i wr => ∃ (k : Nat) (f : V7) (b' : List UInt8) (bd' : Bool), k ≤ 7 ∧ i = .int .i64 k ∧ Hid (getV b bd 1125899906842624 k = (f, b', bd')) ∧ Rd wr g b' bd' ∧ TB wr q uu f ∧ wr.cell? ⟨s, 0, none⟩ = some (.pointer (some ⟨q, 0, none⟩)) ∧ wr.cell? ⟨s, 1, none⟩ = some (.pointer (some ⟨q, 7, none⟩)) ∧ But g w wr) (fun i _ => 7 - (intOf i).toNat)
      case atStart => exact ⟨0, _, b, bd, by omega, rfl, Lib.hid rfl, hr, hT, k0, k1, hB⟩
      case round =>
        obtain ⟨k, f, b', bd', hk, rfl, HG, hr, hT, k0, k1, hB⟩ := hrel
        by_cases hkl : k < 7
        · have HG1 : getV b bd 1125899906842624 (k + 1) = (upd f k (rdNum b' bd' 0 1125899906842624).1, (rdNum b' bd' 0 1125899906842624).2.1, (rdNum b' bd' 0 1125899906842624).2.2) := by simp only [getV, HG.out]
          obtain ⟨x, b2', bd2', Hr⟩ : ∃ x y z, Hid (rdNum b' bd' 0 1125899906842624 = (x, y, z)) := ⟨_, _, _, Lib.hid rfl⟩
          rw [Hr.out] at HG1
          have HG2 := Lib.hid HG1
          clear HG1
          have cn := fun W hW => rnum_any g b' bd' 0 1125899906842624 W hW
          rw [Hr.out] at cn
          go_wp2_with fail
          refine start_ (n := 7) (S := (fun _ => True)) (ds := [6]) #[false, false, false, false, false, false, false] (by kernel_rfl) (by kernel_rfl) (by kernel_rfl) (trivial) (fun hHeld => ?_)
          refine take_ (i := 0) (N := (some 23)) (v := ?_) (a' := ?_) #[true, false, false, false, false, false, false] rfl rfl (by kernel_rfl) (fun _ _ _ h => h) (Or.inl ⟨by rfl, ?_⟩) (by assumption) ?_ ?_
          rotate_left
          · intro w' hSw; (try dsimp only at hSw)
            go_simp
            try with_reducible rfl
          rotate_left
          · simp only [Act.put, List.setIfInBounds_toArray, List.set_cons_zero, List.set_cons_succ]
            rfl
          refine take_ (i := 1) (N := (some 24)) (v := ?_) (a' := ?_) #[true, true, false, false, false, false, false] rfl rfl (by kernel_rfl) (fun _ _ _ h => h) (Or.inl ⟨by rfl, ?_⟩) (by assumption) ?_ ?_
          rotate_left
          · intro w' hSw; (try dsimp only at hSw)
            go_simp
            try with_reducible rfl
          rotate_left
          · simp only [Act.put, List.setIfInBounds_toArray, List.set_cons_zero, List.set_cons_succ]
            rfl
          refine take_ (i := 2) (N := (some 25)) (v := ?_) (a' := ?_) #[true, true, true, false, false, false, false] rfl rfl (by kernel_rfl) (fun _ _ _ h => h) (Or.inl ⟨by rfl, ?_⟩) (by assumption) ?_ ?_
          rotate_left
          · intro w' hSw; (try dsimp only at hSw)
            go_simp
            try with_reducible rfl
          rotate_left
          · simp only [Act.put, List.setIfInBounds_toArray, List.set_cons_zero, List.set_cons_succ]
            rfl
          refine take_ (i := 4) (N := (some 27)) (v := ?_) (a' := ?_) #[true, true, true, false, true, false, false] rfl rfl (by kernel_rfl) (fun _ _ _ h => h) (Or.inl ⟨by rfl, ?_⟩) (by assumption) ?_ ?_
          rotate_left
          · intro w' hSw; (try dsimp only at hSw)
            go_simp
            try with_reducible rfl
          rotate_left
          · simp only [Act.put, List.setIfInBounds_toArray, List.set_cons_zero, List.set_cons_succ]
            rfl
          refine one_ (i := 3) (N := (some 26)) #[true, true, true, true, true, false, false] rfl rfl (by kernel_rfl) (by simp) (fun K hK => ?_)
          go_simp
          refine (cn _ (hr.ext (Ext.refl _).drew)).mono ?_
          rintro e w3 ⟨rfl, hr3, hB3⟩
          refine hK.out _ _ ?_ (fun hHeld => ?_)
          · trivial
          clear hK K
          (try simp only [Act.put, List.setIfInBounds_toArray, List.set_cons_zero, List.set_cons_succ])
          refine take_ (i := 5) (N := (some 28)) (v := ?_) (a' := ?_) #[true, true, true, true, true, true, false] rfl rfl (by kernel_rfl) (fun _ _ _ h => h) (Or.inl ⟨by rfl, ?_⟩) (by assumption) ?_ ?_
          rotate_left
          · intro w' hSw; (try dsimp only at hSw)
            go_simp
            try with_reducible rfl
          rotate_left
          · simp only [Act.put, List.setIfInBounds_toArray, List.set_cons_zero, List.set_cons_succ]
            rfl
          have hBd := (But.of_ext (g := g) (Ext.refl wr).drew).trans hB3
          have hT3 := hT.but hBd (by omega)
          have k03 : w3.cell? ⟨s, 0, none⟩ = some (.pointer (some ⟨q, 0, none⟩)) := by rw [World.cell?_of_block (w := wr) (hBd.block s (World.block_lt_of_cell? _ _ k0) (by omega))]; exact k0
          have k13 : w3.cell? ⟨s, 1, none⟩ = some (.pointer (some ⟨q, 7, none⟩)) := by rw [World.cell?_of_block (w := wr) (hBd.block s (World.block_lt_of_cell? _ _ k1) (by omega))]; exact k1
          have c0 := hT3.tt.down.at7 k hkl
          have f0 := hT3.tt.fd k hkl
          have hset := (hT3.set hkl x).2
          refine last_ (i := 6) (N := none) #[true, true, true, true, true, true, true] rfl rfl (by kernel_rfl) (by simp) (fun K hK => ?_)
          go_simp
          refine hK.out _ _ ?_
          clear hK K
          (try simp only [Act.put, List.setIfInBounds_toArray, List.set_cons_zero, List.set_cons_succ])
          refine done_ (by kernel_rfl) ?_
          go_wp2
          go_roundw
          case rel =>
            have hBB : But q w3 (w3.setCell ⟨q, 7 + k, none⟩ (.int .i64 x)) := (But.refl _ _).setCell _ _
            exact ⟨k + 1, _, b2', bd2', by omega, by go_num, HG2, hr3.but hBB (by omega) hT3.no, hset, by rw [World.cell?_setCell_other _ _ _ _ (fun he => by injection he; omega)]; exact k03, by rw [World.cell?_setCell_other _ _ _ _ (fun he => by injection he; omega)]; exact k13, (hB.trans hBd).new hBB (by rw [Hq.out]; exact Nat.le_refl _)⟩
          case measure => simp [intOf]; omega
        · have hk7 : k = 7 := by omega
          subst hk7
          have hge := HG.out
          rw [G2.out] at hge
          simp only [Prod.mk.injEq] at hge
          obtain ⟨rfl, rfl, rfl⟩ := hge
          go_wp2
          go_roundw
          case rel => exact ⟨2, _, _, _, _, rfl, Or.inr (Or.inr ⟨rfl, rfl, rfl, rfl, rfl⟩), hr, hT, k0, k1, hB⟩
          case measure => simp [intOf]
    · have cb := fun W hW => bad_any g b bd W hW
      go_wp2_with fail
      refine (cb _ hr).mono ?_
      rintro e w3 ⟨rfl, hw3⟩
      obtain rfl := hw3
      cases bd with
      | true =>
        go_wp2
        go_ret
        exact ⟨hr, hB, q, by rw [Hq.out]; exact Nat.le_refl _, hT.tt, rfl⟩
      | false =>
        go_wp2
        go_ret
        exact ⟨hr, hB, q, by rw [Hq.out]; exact Nat.le_refl _, hT.tt, rfl⟩

end Go.Proofs.Ytaiofbagdcpfgaa
