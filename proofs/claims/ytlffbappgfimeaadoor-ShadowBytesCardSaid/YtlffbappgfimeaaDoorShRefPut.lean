/- ShRefPut: the walk of the reference's Put. -/
import Derived.Test.YtlffbappgfimeaaDoorShPutPure
import Derived.Test.YtlffbappgfimeaaDoorShRefGood
import Derived.Test.YtlffbappgfimeaaDoorPackRefPut
set_option linter.unusedVariables false
set_option linter.unusedSimpArgs false
set_option maxRecDepth 100000
namespace Go.Proofs.YtlffbappgfimeaaDoor
open Go.RowKit Go.Proofs.YtlffbappgfimeaaDoorW.PrintWords Go.Proofs.YtlffbappgfimeaaDoorW.PrintLast PackPure

set_option maxHeartbeats 1000000 in
theorem rvput_any (A : Option Addr) (n c : Nat) (l : List UInt8) (v : V7) (w : World) (h : Bs w A l) (hn : n = l.length) (hc : n ≤ c) (hm : n ≤ 140737488354000) (hv6 : In64 v) :
    Calls Tryd.prog 39 #[.slice A n c, vf v] w fun e w' => ∃ A' c', e = .returned (.slice A' (l ++ putV v 7).length c') ∧ (l ++ putV v 7).length ≤ c' ∧ Bs w' A' (l ++ putV v 7) ∧ Ext w w' := by
  have Hn := Lib.hid hn
  clear hn
  obtain ⟨h0, Hh⟩ : ∃ h, Hid (w.heap.size = h) := ⟨_, Lib.hid rfl⟩
  obtain ⟨w1, H1, S1, hx1, hv1, -, -⟩ := alloc7 w v 36 h0 Hh.out
  have hh := Hh.out
  have h1 := H1.out
  unfold vf
  go_enter Tryd.func39, Tryd.ntmps39
  go_wp2
  clear h1 hh
  go_loopw [0, 5] (fun x i wr => ∃ (k : Nat) (A' : Option Addr) (c' m : Nat), k ≤ 7 ∧ i = .int .i64 k ∧ x = .slice A' m c' ∧ Hid (m = (l ++ putV v k).length) ∧ m ≤ c' ∧ m ≤ n + 10 * k ∧ Bs wr A' (l ++ putV v k) ∧ Ext w1 wr) (fun _ i _ => 7 - (intOf i).toNat)
  case atStart => exact ⟨0, A, c, n, by omega, rfl, rfl, Lib.hid (by rw [Hn.out]; simp [putV]), hc, by omega, by simpa [putV] using h.ext hx1, Ext.refl _⟩
  case round =>
    obtain ⟨k, A', c', m, hk, rfl, rfl, Hm, hmc, hmn, hB, hX⟩ := hrel
    by_cases hkl : k < 7
    · have p0 := (hv1.ext hX).zero k hkl
      obtain ⟨x, Hx⟩ : ∃ x, Hid (v k = x) := ⟨_, Lib.hid rfl⟩
      have hvk := hv6 k hkl
      rw [Hx.out] at p0 hvk
      have hle := num_le x hvk.1 hvk.2
      obtain ⟨b, Hb⟩ : ∃ b, Hid (l ++ putV v k = b) := ⟨_, Lib.hid rfl⟩
      rw [Hb.out] at Hm hB
      have e1 : l ++ putV v (k + 1) = b ++ num x := by rw [← Hb.out, ← Hx.out]; simp [putV]
      have E1 := Lib.hid e1
      clear e1
      go_wp2_with fail
      refine (refnum_any A' m c' b x wr hB Hm.out (by omega) hvk.1 hvk.2).mono ?_
      rintro e w2 ⟨y, rfl, ho, hx2⟩
      obtain ⟨A2, c2, rfl, hl2, hB2⟩ := ho.reads
      have hlen : (b ++ num x).length ≤ n + 10 * (k + 1) := by rw [List.length_append, ← Hm.out]; omega
      obtain ⟨m2, Hm2⟩ : ∃ m, Hid ((b ++ num x).length = m) := ⟨_, Lib.hid rfl⟩
      rw [Hm2.out] at hl2 hlen
      have hm2 := Hm2.out
      go_wp2
      clear hm2
      go_roundw
      case rel => exact ⟨k + 1, A2, c2, m2, by omega, by go_num, rfl, Lib.hid (by rw [E1.out, Hm2.out]), hl2, by omega, by rw [E1.out]; exact hB2, hX.trans hx2⟩
      case measure => simp [intOf]; omega
    · have hk7 : k = 7 := by omega
      subst hk7
      go_wp2
      go_ret
      exact ⟨A', c', by first | rfl | (rw [Hm.out]; rfl), by rw [← Hm.out]; exact hmc, hB, hx1.trans hX⟩

theorem Ou.ext_ {w w' : World} {A : Option Addr} {m c : Nat} {L l : List UInt8} (h : Ou w A m c L l) (hx : Ext w w') : Ou w' A m c L l := ⟨h.eq, h.len, h.cap, h.bs.ext hx⟩

theorem rkN (A : Option Addr) (m c : Nat) (L : List UInt8) (z : Int) (w : World) (h : Bs w A L) (hn : m = L.length) (hm : m ≤ 140737488354000) (h0 : -9223372036854775808 ≤ z) (h1 : z ≤ 9223372036854775807) :
    Calls Tryd.prog 38 #[.slice A m c, .int .i64 z] w fun e w' => ∃ A' m' c' L', e = .returned (.slice A' m' c') ∧ Ou w' A' m' c' L' (L ++ num z) ∧ Ext w w' := by
  refine (refnum_any A m c L z w h hn (by omega) h0 h1).mono ?_
  rintro e w' ⟨x, rfl, ho, hx⟩
  obtain ⟨A', m', c', L', rfl, hu⟩ := ou_of ho
  exact ⟨A', m', c', L', rfl, hu, hx⟩
theorem rkV (A : Option Addr) (m c : Nat) (L : List UInt8) (v : V7) (w : World) (h : Bs w A L) (hn : m = L.length) (hc : m ≤ c) (hm : m ≤ 140737488354000) (hv : In64 v) :
    Calls Tryd.prog 39 #[.slice A m c, vf v] w fun e w' => ∃ A' m' c' L', e = .returned (.slice A' m' c') ∧ Ou w' A' m' c' L' (L ++ putV v 7) ∧ Ext w w' := by
  refine (rvput_any A m c L v w h hn hc hm hv).mono ?_
  rintro e w' ⟨A', c', rfl, h1, h2, hx⟩
  exact ⟨A', _, c', _, rfl, ⟨rfl, rfl, h1, h2⟩, hx⟩

theorem rkB (A : Option Addr) (m c : Nat) (L : List UInt8) (A2 : Option Addr) (c2 : Nat) (s : ByteArray) (w : World) (h : Bs w A L) (hn : m = L.length) (h2 : Bs w A2 (Chars s)) (hm : m + s.size ≤ 140737488354000) :
    Calls Tryd.prog 40 #[.slice A m c, .slice A2 s.size c2] w fun e w' => ∃ A' m' c' L', e = .returned (.slice A' m' c') ∧ Ou w' A' m' c' L' (L ++ putB (Chars s)) ∧ Ext w w' := by
  refine (refputb_any A A2 m c s.size c2 L (Chars s) w h h2 hn (Chars_length s).symm (by omega)).mono ?_
  rintro e w' ⟨x, rfl, ho, hx⟩
  obtain ⟨A', m', c', L', rfl, hu⟩ := ou_of ho
  exact ⟨A', m', c', L', rfl, hu, hx⟩

set_option maxHeartbeats 4000000 in
theorem srefput_any (r n : Int) (v : V7) (k : Int) (key text : ByteArray) (b t : Int) (w : World) (hks : key.size ≤ 1048576) (hk : -9223372036854775808 ≤ k ∧ k ≤ 9223372036854775807) (ht : Tabs w) :
    Calls Tryd.prog 16 #[shv r n v k key text b t] w fun e w' => ∃ x, e = .returned x ∧ Ob w' w.heap.size x (putS_ r n v k key text b t) ∧ Ext w w' := by
  obtain ⟨h, Hh⟩ : ∃ h, Hid (w.heap.size = h) := ⟨_, Lib.hid rfl⟩
  obtain ⟨w1, H1, S1, hx1, hb⟩ := allocS w r n v k key text b t 38 h Hh.out
  have ht1 := ht.ext hx1
  have kg := fun W hW => srefgood_any r n v k key text b t W (by omega) hk hW
  have hh := Hh.out
  have h1 := H1.out
  obtain ⟨c0, c1, c2, c3, c4, c5, c6, c7, c8, c9, c10, c11, c12, c13⟩ := hb.cells
  unfold shv at *
  go_enter Tryd.func16, Tryd.ntmps16
  go_wp2_with fail
  refine (kg _ ht1).mono ?_
  clear h1 hh
  rintro e w2 ⟨rfl, x2⟩
  have hX2 := hx1.trans x2
  have hb2 := hb.ext x2
  cases q : goodS r n v k key text b t with
  | false =>
    have hres : putS_ r n v k key text b t = [] := by rw [putS_, q]; rfl
    go_wp2
    go_ret
    exact ⟨_, rfl, by rw [hres]; exact Ob.nil _ _, hX2⟩
  | true =>
    have hres : putS_ r n v k key text b t = bytesS r n v k key text b t := by rw [putS_, q]; rfl
    have F := facts q
    have f1 := F.r0
    have f2 := F.r7
    have f3 := F.n1
    have f4 := F.nM
    have f5 := F.b0
    have f6 := F.bM
    have f7 := F.t0
    have f8 := F.tM
    have f9 := F.k1
    have f10 := F.k4
    have f11 := F.ks
    have f12 := F.htext
    have gv := good7_64 F.gv
    have nr := num_le r (by omega) (by omega)
    have nn := num_le n (by omega) (by omega)
    have nk := num_le k (by omega) (by omega)
    have nb := num_le b (by omega) (by omega)
    have nv := putV_le gv 7 (by omega)
    have pk := putB_le (Chars key) (by rw [Chars_length]; omega)
    have pt := putB_le (Chars text) (by rw [Chars_length]; omega)
    rw [Chars_length] at pk pt
    have kv := fun A m c L W (h : Bs W A L) hn hc hm => rkV A m c L v W h hn hc hm gv
    unfold vf at kv
    obtain ⟨c0, c1, c2, c3, c4, c5, c6, c7, c8, c9, c10, c11, c12, c13⟩ := hb2.rules
    have z2 := Ext.refl w2
    have kb1 := fun W => print_bytes (P := Tryd.prog) 9 29 5 Tryd.underlying9 Tryd.underlying29 Tryd.underlying5 key W
    have kb2 := fun W => print_bytes (P := Tryd.prog) 9 29 5 Tryd.underlying9 Tryd.underlying29 Tryd.underlying5 text W
    go_wp2


    refine start_ (n := 9) (S := (fun W => Ext w2 W)) (ds := []) #[false, false, false, false, false, false, false, false, false] (by kernel_rfl) (by kernel_rfl) (by kernel_rfl) (z2.drew) (fun hHeld => ?_)
    refine take_ (i := 0) (N := (some 7)) (v := ?_) (a' := ?_) #[true, false, false, false, false, false, false, false, false] rfl rfl (by kernel_rfl) (fun _ _ _ h => h) (Or.inl ⟨by rfl, ?_⟩) (by assumption) ?_ ?_
    rotate_left
    · intro w' hSw; (try dsimp only at hSw)
      go_simp
      try with_reducible rfl
    rotate_left
    · simp only [Act.put, List.setIfInBounds_toArray, List.set_cons_zero, List.set_cons_succ]
      rfl
    refine take_ (i := 1) (N := (some 8)) (v := ?_) (a' := ?_) #[true, true, false, false, false, false, false, false, false] rfl rfl (by kernel_rfl) (fun _ _ _ h => h) (Or.inl ⟨by rfl, ?_⟩) (by assumption) ?_ ?_
    rotate_left
    · intro w' hSw; (try dsimp only at hSw)
      go_simp
      try with_reducible rfl
    rotate_left
    · simp only [Act.put, List.setIfInBounds_toArray, List.set_cons_zero, List.set_cons_succ]
      rfl
    refine take_ (i := 2) (N := (some 9)) (v := ?_) (a' := ?_) #[true, true, true, false, false, false, false, false, false] rfl rfl (by kernel_rfl) (fun _ _ _ h => h) (Or.inl ⟨by rfl, ?_⟩) (by assumption) ?_ ?_
    rotate_left
    · intro w' hSw; (try dsimp only at hSw)
      go_simp
      try with_reducible rfl
    rotate_left
    · simp only [Act.put, List.setIfInBounds_toArray, List.set_cons_zero, List.set_cons_succ]
      rfl
    refine take_ (i := 4) (N := (some 11)) (v := ?_) (a' := ?_) #[true, true, true, false, true, false, false, false, false] rfl rfl (by kernel_rfl) (fun _ _ _ h => h) (Or.inl ⟨by rfl, ?_⟩) (by assumption) ?_ ?_
    rotate_left
    · intro w' hSw; (try dsimp only at hSw)
      go_simp
      try with_reducible rfl
    rotate_left
    · simp only [Act.put, List.setIfInBounds_toArray, List.set_cons_zero, List.set_cons_succ]
      rfl
    refine take_ (i := 5) (N := (some 12)) (v := ?_) (a' := ?_) #[true, true, true, false, true, true, false, false, false] rfl rfl (by kernel_rfl) (fun _ _ _ h => h) (Or.inl ⟨by rfl, ?_⟩) (by assumption) ?_ ?_
    rotate_left
    · intro w' hSw; (try dsimp only at hSw)
      go_simp
      try with_reducible rfl
    rotate_left
    · simp only [Act.put, List.setIfInBounds_toArray, List.set_cons_zero, List.set_cons_succ]
      rfl
    refine take_ (i := 6) (N := (some 13)) (v := ?_) (a' := ?_) #[true, true, true, false, true, true, true, false, false] rfl rfl (by kernel_rfl) (fun _ _ _ h => h) (Or.inl ⟨by rfl, ?_⟩) (by assumption) ?_ ?_
    rotate_left
    · intro w' hSw; (try dsimp only at hSw)
      go_simp
      try with_reducible rfl
    rotate_left
    · simp only [Act.put, List.setIfInBounds_toArray, List.set_cons_zero, List.set_cons_succ]
      rfl
    refine one_ (i := 3) (N := (some 10)) #[true, true, true, true, true, true, true, false, false] rfl rfl (by kernel_rfl) (by simp) (fun K hK => ?_)
    go_simp
    refine (rkN none 0 0 [] r _ (Bs.nil _) rfl (by decide) (by omega) (by omega)).mono ?_
    rintro e u1 ⟨A1, m1, k1, L1, rfl, U1, y1⟩
    have hb1 := U1.bs
    have hc1 := U1.cap
    have hle1 : m1 ≤ (num r).length + 0 := by have := congrArg List.length U1.eq; simp only [List.length_append, List.length_nil] at this; have := U1.len; omega
    refine hK.out _ _ ?_ (fun hHeld => ?_)
    · first | assumption | exact hHeld.trans (by assumption)
    clear hK K
    (try simp only [Act.put, List.setIfInBounds_toArray, List.set_cons_zero, List.set_cons_succ])
    refine one_ (i := 7) (N := (some 14)) #[true, true, true, true, true, true, true, true, false] rfl rfl (by kernel_rfl) (by simp) (fun K hK => ?_)
    go_simp
    refine (rkN A1 m1 k1 L1 n _ hb1 U1.len (by omega) (by omega) (by omega)).mono ?_
    rintro e u2 ⟨A2, m2, k2, L2, rfl, U2, y2⟩
    have hb2 := U2.bs
    have hc2 := U2.cap
    have hle2 : m2 ≤ m1 + (num n).length := by have := U1.len; have := congrArg List.length U2.eq; simp only [List.length_append, List.length_nil] at this; have := U2.len; omega
    refine hK.out _ _ ?_ (fun hHeld => ?_)
    · first | assumption | exact hHeld.trans (by assumption)
    clear hK K
    (try simp only [Act.put, List.setIfInBounds_toArray, List.set_cons_zero, List.set_cons_succ])
    refine take_ (i := 8) (N := (some 3)) (v := ?_) (a' := ?_) #[true, true, true, true, true, true, true, true, true] rfl rfl (by kernel_rfl) (fun _ _ _ h => h) (Or.inl ⟨by rfl, ?_⟩) (by assumption) ?_ ?_
    rotate_left
    · intro w' hSw; (try dsimp only at hSw)
      go_simp
      try with_reducible rfl
    rotate_left
    · simp only [Act.put, List.setIfInBounds_toArray, List.set_cons_zero, List.set_cons_succ]
      rfl
    refine done_ (by kernel_rfl) ?_
    go_wp2
    refine start_ (n := 8) (S := (fun W => Ext w2 W)) (ds := []) #[false, false, false, false, false, false, false, false] (by kernel_rfl) (by kernel_rfl) (by kernel_rfl) (hHeld.drew) (fun hHeld => ?_)
    refine take_ (i := 0) (N := (some 15)) (v := ?_) (a' := ?_) #[true, false, false, false, false, false, false, false] rfl rfl (by kernel_rfl) (fun _ _ _ h => h) (Or.inl ⟨by rfl, ?_⟩) (by assumption) ?_ ?_
    rotate_left
    · intro w' hSw; (try dsimp only at hSw)
      go_simp
      try with_reducible rfl
    rotate_left
    · simp only [Act.put, List.setIfInBounds_toArray, List.set_cons_zero, List.set_cons_succ]
      rfl
    refine take_ (i := 1) (N := (some 16)) (v := ?_) (a' := ?_) #[true, true, false, false, false, false, false, false] rfl rfl (by kernel_rfl) (fun _ _ _ h => h) (Or.inl ⟨by rfl, ?_⟩) (by assumption) ?_ ?_
    rotate_left
    · intro w' hSw; (try dsimp only at hSw)
      go_simp
      try with_reducible rfl
    rotate_left
    · simp only [Act.put, List.setIfInBounds_toArray, List.set_cons_zero, List.set_cons_succ]
      rfl
    refine take_ (i := 2) (N := (some 17)) (v := ?_) (a' := ?_) #[true, true, true, false, false, false, false, false] rfl rfl (by kernel_rfl) (fun _ _ _ h => h) (Or.inl ⟨by rfl, ?_⟩) (by assumption) ?_ ?_
    rotate_left
    · intro w' hSw; (try dsimp only at hSw)
      go_simp
      try with_reducible rfl
    rotate_left
    · simp only [Act.put, List.setIfInBounds_toArray, List.set_cons_zero, List.set_cons_succ]
      rfl
    refine take_ (i := 4) (N := (some 19)) (v := ?_) (a' := ?_) #[true, true, true, false, true, false, false, false] rfl rfl (by kernel_rfl) (fun _ _ _ h => h) (Or.inl ⟨by rfl, ?_⟩) (by assumption) ?_ ?_
    rotate_left
    · intro w' hSw; (try dsimp only at hSw)
      go_simp
      try with_reducible rfl
    rotate_left
    · simp only [Act.put, List.setIfInBounds_toArray, List.set_cons_zero, List.set_cons_succ]
      rfl
    refine take_ (i := 5) (N := (some 20)) (v := ?_) (a' := ?_) #[true, true, true, false, true, true, false, false] rfl rfl (by kernel_rfl) (fun _ _ _ h => h) (Or.inl ⟨by rfl, ?_⟩) (by assumption) ?_ ?_
    rotate_left
    · intro w' hSw; (try dsimp only at hSw)
      go_simp
      try with_reducible rfl
    rotate_left
    · simp only [Act.put, List.setIfInBounds_toArray, List.set_cons_zero, List.set_cons_succ]
      rfl
    refine one_ (i := 3) (N := (some 18)) #[true, true, true, true, true, true, false, false] rfl rfl (by kernel_rfl) (by simp) (fun K hK => ?_)
    go_simp
    refine (kv A2 m2 k2 L2 _ (hb2.ext (Ext.refl u2).drew) U2.len hc2 (by omega)).mono ?_
    rintro e u3 ⟨A3, m3, k3, L3, rfl, U3, y3⟩
    have hb3 := U3.bs
    have hc3 := U3.cap
    have hle3 : m3 ≤ m2 + (putV v 7).length := by have := U2.len; have := congrArg List.length U3.eq; simp only [List.length_append, List.length_nil] at this; have := U3.len; omega
    refine hK.out _ _ ?_ (fun hHeld => ?_)
    · first | assumption | exact hHeld.trans (by assumption)
    clear hK K
    (try simp only [Act.put, List.setIfInBounds_toArray, List.set_cons_zero, List.set_cons_succ])
    refine one_ (i := 6) (N := (some 21)) #[true, true, true, true, true, true, true, false] rfl rfl (by kernel_rfl) (by simp) (fun K hK => ?_)
    go_simp
    refine (rkN A3 m3 k3 L3 k _ hb3 U3.len (by omega) (by omega) (by omega)).mono ?_
    rintro e u4 ⟨A4, m4, k4, L4, rfl, U4, y4⟩
    have hb4 := U4.bs
    have hc4 := U4.cap
    have hle4 : m4 ≤ m3 + (num k).length := by have := U3.len; have := congrArg List.length U4.eq; simp only [List.length_append, List.length_nil] at this; have := U4.len; omega
    refine hK.out _ _ ?_ (fun hHeld => ?_)
    · first | assumption | exact hHeld.trans (by assumption)
    clear hK K
    (try simp only [Act.put, List.setIfInBounds_toArray, List.set_cons_zero, List.set_cons_succ])
    refine take_ (i := 7) (N := (some 3)) (v := ?_) (a' := ?_) #[true, true, true, true, true, true, true, true] rfl rfl (by kernel_rfl) (fun _ _ _ h => h) (Or.inl ⟨by rfl, ?_⟩) (by assumption) ?_ ?_
    rotate_left
    · intro w' hSw; (try dsimp only at hSw)
      go_simp
      try with_reducible rfl
    rotate_left
    · simp only [Act.put, List.setIfInBounds_toArray, List.set_cons_zero, List.set_cons_succ]
      rfl
    refine done_ (by kernel_rfl) ?_
    go_wp2
    refine start_ (n := 10) (S := (fun W => Ext w2 W)) (ds := []) #[false, false, false, false, false, false, false, false, false, false] (by kernel_rfl) (by kernel_rfl) (by kernel_rfl) (hHeld.drew) (fun hHeld => ?_)
    refine take_ (i := 0) (N := (some 22)) (v := ?_) (a' := ?_) #[true, false, false, false, false, false, false, false, false, false] rfl rfl (by kernel_rfl) (fun _ _ _ h => h) (Or.inl ⟨by rfl, ?_⟩) (by assumption) ?_ ?_
    rotate_left
    · intro w' hSw; (try dsimp only at hSw)
      go_simp
      try with_reducible rfl
    rotate_left
    · simp only [Act.put, List.setIfInBounds_toArray, List.set_cons_zero, List.set_cons_succ]
      rfl
    refine take_ (i := 1) (N := (some 23)) (v := ?_) (a' := ?_) #[true, true, false, false, false, false, false, false, false, false] rfl rfl (by kernel_rfl) (fun _ _ _ h => h) (Or.inl ⟨by rfl, ?_⟩) (by assumption) ?_ ?_
    rotate_left
    · intro w' hSw; (try dsimp only at hSw)
      go_simp
      try with_reducible rfl
    rotate_left
    · simp only [Act.put, List.setIfInBounds_toArray, List.set_cons_zero, List.set_cons_succ]
      rfl
    refine take_ (i := 2) (N := (some 24)) (v := ?_) (a' := ?_) #[true, true, true, false, false, false, false, false, false, false] rfl rfl (by kernel_rfl) (fun _ _ _ h => h) (Or.inl ⟨by rfl, ?_⟩) (by assumption) ?_ ?_
    rotate_left
    · intro w' hSw; (try dsimp only at hSw)
      go_simp
      try with_reducible rfl
    rotate_left
    · simp only [Act.put, List.setIfInBounds_toArray, List.set_cons_zero, List.set_cons_succ]
      rfl
    refine take_ (i := 5) (N := (some 27)) (v := ?_) (a' := ?_) #[true, true, true, false, false, true, false, false, false, false] rfl rfl (by kernel_rfl) (fun _ _ _ h => h) (Or.inl ⟨by rfl, ?_⟩) (by assumption) ?_ ?_
    rotate_left
    · intro w' hSw; (try dsimp only at hSw)
      go_simp
      try with_reducible rfl
    rotate_left
    · simp only [Act.put, List.setIfInBounds_toArray, List.set_cons_zero, List.set_cons_succ]
      rfl
    refine take_ (i := 6) (N := (some 28)) (v := ?_) (a' := ?_) #[true, true, true, false, false, true, true, false, false, false] rfl rfl (by kernel_rfl) (fun _ _ _ h => h) (Or.inl ⟨by rfl, ?_⟩) (by assumption) ?_ ?_
    rotate_left
    · intro w' hSw; (try dsimp only at hSw)
      go_simp
      try with_reducible rfl
    rotate_left
    · simp only [Act.put, List.setIfInBounds_toArray, List.set_cons_zero, List.set_cons_succ]
      rfl
    have hb4' : Bs u4.drew A4 L4 := hb4.ext (Ext.refl u4).drew
    refine join_ (σ := (Nat × Nat) × (Option Addr × Nat × Nat × List UInt8) × (Nat × Nat)) 2 #[true, true, true, true, true, true, true, true, false, false] (fun s => [(25, .slice (some ⟨s.1.1, 0, none⟩) key.size s.1.2), (26, .slice s.2.1.1 s.2.1.2.1 s.2.1.2.2.1), (29, .slice (some ⟨s.2.2.1, 0, none⟩) text.size s.2.2.2)]) (fun s W => Ext w2 W ∧ Ou W s.2.1.1 s.2.1.2.1 s.2.1.2.2.1 s.2.1.2.2.2 (L4 ++ putB (Chars key)) ∧ Bs W (some ⟨s.2.2.1, 0, none⟩) (Chars text)) ?_ ?_
    · rintro ⟨⟨g25, c25⟩, ⟨A5, m5, k5, L5⟩, ⟨g29, c29⟩⟩ wj ⟨hHeld, U5, hb29⟩
      dsimp only at U5 hb29
      simp only [putAll, Act.put, List.setIfInBounds_toArray, List.set_cons_zero, List.set_cons_succ]
      have hb5 := U5.bs
      have hc5 := U5.cap
      have hle5 : m5 ≤ m4 + (putB (Chars key)).length := by have := U4.len; have := congrArg List.length U5.eq; simp only [List.length_append, List.length_nil] at this; have := U5.len; omega
      refine one_ (i := 8) (N := (some 30)) #[true, true, true, true, true, true, true, true, true, false] rfl rfl (by kernel_rfl) (by simp) (fun K hK => ?_)
      go_simp
      refine (rkB A5 m5 k5 L5 _ c29 text _ hb5 U5.len hb29 (by omega)).mono ?_
      rintro e u6 ⟨A6, m6, k6, L6, rfl, U6, y6⟩
      have hb6 := U6.bs
      have hc6 := U6.cap
      have hle6 : m6 ≤ m5 + (putB (Chars text)).length := by have := U5.len; have := congrArg List.length U6.eq; simp only [List.length_append, List.length_nil] at this; have := U6.len; omega
      refine hK.out _ _ ?_ (fun hHeld => ?_)
      · exact hHeld.trans y6
      clear hK K
      (try simp only [Act.put, List.setIfInBounds_toArray, List.set_cons_zero, List.set_cons_succ])
      refine take_ (i := 9) (N := (some 3)) (v := ?_) (a' := ?_) #[true, true, true, true, true, true, true, true, true, true] rfl rfl (by kernel_rfl) (fun _ _ _ h => h) (Or.inl ⟨by rfl, ?_⟩) (by assumption) ?_ ?_
      rotate_left
      · intro w' hSw; (try dsimp only at hSw)
        go_simp
        try with_reducible rfl
      rotate_left
      · simp only [Act.put, List.setIfInBounds_toArray, List.set_cons_zero, List.set_cons_succ]
        rfl
      refine done_ (by kernel_rfl) ?_
      go_wp2
      refine start_ (n := 8) (S := (fun W => Ext w2 W)) (ds := []) #[false, false, false, false, false, false, false, false] (by kernel_rfl) (by kernel_rfl) (by kernel_rfl) (hHeld.drew) (fun hHeld => ?_)
      refine take_ (i := 0) (N := (some 31)) (v := ?_) (a' := ?_) #[true, false, false, false, false, false, false, false] rfl rfl (by kernel_rfl) (fun _ _ _ h => h) (Or.inl ⟨by rfl, ?_⟩) (by assumption) ?_ ?_
      rotate_left
      · intro w' hSw; (try dsimp only at hSw)
        go_simp
        try with_reducible rfl
      rotate_left
      · simp only [Act.put, List.setIfInBounds_toArray, List.set_cons_zero, List.set_cons_succ]
        rfl
      refine take_ (i := 1) (N := (some 32)) (v := ?_) (a' := ?_) #[true, true, false, false, false, false, false, false] rfl rfl (by kernel_rfl) (fun _ _ _ h => h) (Or.inl ⟨by rfl, ?_⟩) (by assumption) ?_ ?_
      rotate_left
      · intro w' hSw; (try dsimp only at hSw)
        go_simp
        try with_reducible rfl
      rotate_left
      · simp only [Act.put, List.setIfInBounds_toArray, List.set_cons_zero, List.set_cons_succ]
        rfl
      refine take_ (i := 2) (N := (some 33)) (v := ?_) (a' := ?_) #[true, true, true, false, false, false, false, false] rfl rfl (by kernel_rfl) (fun _ _ _ h => h) (Or.inl ⟨by rfl, ?_⟩) (by assumption) ?_ ?_
      rotate_left
      · intro w' hSw; (try dsimp only at hSw)
        go_simp
        try with_reducible rfl
      rotate_left
      · simp only [Act.put, List.setIfInBounds_toArray, List.set_cons_zero, List.set_cons_succ]
        rfl
      refine take_ (i := 4) (N := (some 35)) (v := ?_) (a' := ?_) #[true, true, true, false, true, false, false, false] rfl rfl (by kernel_rfl) (fun _ _ _ h => h) (Or.inl ⟨by rfl, ?_⟩) (by assumption) ?_ ?_
      rotate_left
      · intro w' hSw; (try dsimp only at hSw)
        go_simp
        try with_reducible rfl
      rotate_left
      · simp only [Act.put, List.setIfInBounds_toArray, List.set_cons_zero, List.set_cons_succ]
        rfl
      refine take_ (i := 5) (N := (some 36)) (v := ?_) (a' := ?_) #[true, true, true, false, true, true, false, false] rfl rfl (by kernel_rfl) (fun _ _ _ h => h) (Or.inl ⟨by rfl, ?_⟩) (by assumption) ?_ ?_
      rotate_left
      · intro w' hSw; (try dsimp only at hSw)
        go_simp
        try with_reducible rfl
      rotate_left
      · simp only [Act.put, List.setIfInBounds_toArray, List.set_cons_zero, List.set_cons_succ]
        rfl
      refine one_ (i := 3) (N := (some 34)) #[true, true, true, true, true, true, false, false] rfl rfl (by kernel_rfl) (by simp) (fun K hK => ?_)
      go_simp
      refine (rkN A6 m6 k6 L6 b _ (hb6.ext (Ext.refl u6).drew) U6.len (by omega) (by omega) (by omega)).mono ?_
      rintro e u7 ⟨A7, m7, k7, L7, rfl, U7, y7⟩
      have hb7 := U7.bs
      have hc7 := U7.cap
      have hle7 : m7 ≤ m6 + (num b).length := by have := U6.len; have := congrArg List.length U7.eq; simp only [List.length_append, List.length_nil] at this; have := U7.len; omega
      refine hK.out _ _ ?_ (fun hHeld => ?_)
      · first | assumption | exact hHeld.trans (by assumption)
      clear hK K
      (try simp only [Act.put, List.setIfInBounds_toArray, List.set_cons_zero, List.set_cons_succ])
      refine one_ (i := 6) (N := (some 37)) #[true, true, true, true, true, true, true, false] rfl rfl (by kernel_rfl) (by simp) (fun K hK => ?_)
      go_simp
      have hs7 := Ext.size hHeld
      refine (refnum_any A7 m7 k7 L7 t _ hb7 U7.len (by omega) (by omega) (by omega)).mono ?_
      rintro e u8 ⟨x8, rfl, ho8, y8⟩
      refine hK.out _ _ ?_ (fun hHeld => ?_)
      · first | assumption | exact hHeld.trans (by assumption)
      clear hK K
      (try simp only [Act.put, List.setIfInBounds_toArray, List.set_cons_zero, List.set_cons_succ])
      refine take_ (i := 7) (N := (some 2)) (v := ?_) (a' := ?_) #[true, true, true, true, true, true, true, true] rfl rfl (by kernel_rfl) (fun _ _ _ h => h) (Or.inl ⟨by rfl, ?_⟩) (by assumption) ?_ ?_
      rotate_left
      · intro w' hSw; (try dsimp only at hSw)
        go_simp
        try with_reducible rfl
      rotate_left
      · simp only [Act.put, List.setIfInBounds_toArray, List.set_cons_zero, List.set_cons_succ]
        rfl
      refine done_ (by kernel_rfl) ?_
      go_wp2
      go_ret
      refine ⟨_, rfl, ?_, hX2.trans hHeld⟩
      have e : L7 ++ num t = bytesS r n v k key text b t := by rw [bytesS, ← U7.eq, ← U6.eq, ← U5.eq, ← U4.eq, ← U3.eq, ← U2.eq, ← U1.eq, List.nil_append]
      rw [hres, ← e]
      exact ho8.lower (Nat.le_trans hX2.size hs7)
    · intro hJ
      refine two_ (i := 3) (Ni := (some 25)) (j := 7) (Nj := (some 29)) #[true, true, true, true, false, true, true, false, false, false] #[true, true, true, false, false, true, true, true, false, false] rfl rfl rfl rfl (by kernel_rfl) (by simp) (by simp) (fun K hK => ?_) (fun K hK => ?_)
      · obtain ⟨g1, G1⟩ : ∃ g, Hid ((World.heap (u4.drew)).size = g) := ⟨_, Lib.hid rfl⟩
        obtain ⟨cc1, C1⟩ : ∃ c, Hid (grownCap (u4.drew) key.size 0 5 = c) := ⟨_, Lib.hid rfl⟩
        obtain ⟨v1, V1⟩ : ∃ x, Hid (Lib.bytesWorld (u4.drew) 5 key = x) := ⟨_, Lib.hid rfl⟩
        have x1 : Ext (u4.drew) v1 := by rw [← V1.out]; exact (Ext.refl _).bytes _ _
        have bb1 : Bs v1 (some ⟨g1, 0, none⟩) (Chars key) := by rw [← V1.out, ← G1.out]; exact Bs.text _ _ (by omega)
        have rg1 := G1.out
        have rc1 := C1.out
        have rv1 := V1.out
        go_simp
        clear rg1 rc1 rv1
        have X1 : Ext w2 v1 := Ext.trans (hHeld) x1
        refine hK.out _ _ ?_ (fun hHeld => ?_)
        · exact X1
        clear hK K
        (try simp only [Act.put, List.setIfInBounds_toArray, List.set_cons_zero, List.set_cons_succ])
        refine two_ (i := 4) (Ni := (some 26)) (j := 7) (Nj := (some 29)) #[true, true, true, true, true, true, true, false, false, false] #[true, true, true, true, false, true, true, true, false, false] rfl rfl rfl rfl (by kernel_rfl) (by simp) (by simp) (fun K hK => ?_) (fun K hK => ?_)
        · go_simp
          refine (rkB A4 m4 k4 L4 _ cc1 key _ (hb4'.ext x1) U4.len bb1 (by omega)).mono ?_
          rintro e v2 ⟨A_2, m_2, k_2, L_2, rfl, U_2, x2⟩
          have X2 : Ext w2 v2 := Ext.trans (X1) x2
          refine hK.out _ _ ?_ (fun hHeld => ?_)
          · exact X2
          clear hK K
          (try simp only [Act.put, List.setIfInBounds_toArray, List.set_cons_zero, List.set_cons_succ])
          refine one_ (i := 7) (N := (some 29)) #[true, true, true, true, true, true, true, true, false, false] rfl rfl (by kernel_rfl) (by simp) (fun K hK => ?_)
          obtain ⟨g3, G3⟩ : ∃ g, Hid ((World.heap (v2)).size = g) := ⟨_, Lib.hid rfl⟩
          obtain ⟨cc3, C3⟩ : ∃ c, Hid (grownCap (v2) text.size 0 5 = c) := ⟨_, Lib.hid rfl⟩
          obtain ⟨v3, V3⟩ : ∃ x, Hid (Lib.bytesWorld (v2) 5 text = x) := ⟨_, Lib.hid rfl⟩
          have x3 : Ext (v2) v3 := by rw [← V3.out]; exact (Ext.refl _).bytes _ _
          have bb3 : Bs v3 (some ⟨g3, 0, none⟩) (Chars text) := by rw [← V3.out, ← G3.out]; exact Bs.text _ _ (by omega)
          have rg3 := G3.out
          have rc3 := C3.out
          have rv3 := V3.out
          go_simp
          clear rg3 rc3 rv3
          have X3 : Ext w2 v3 := Ext.trans (X2) x3
          refine hK.out _ _ ?_ (fun hHeld => ?_)
          · exact X3
          clear hK K
          (try simp only [Act.put, List.setIfInBounds_toArray, List.set_cons_zero, List.set_cons_succ])
          have hj := hJ ((g1, cc1), (A_2, m_2, k_2, L_2), (g3, cc3)) _ ⟨X3, (U_2.ext_ x3), bb3⟩
          simp only [putAll, Act.put, List.setIfInBounds_toArray, List.set_cons_zero, List.set_cons_succ] at hj
          exact hj
        · obtain ⟨g4, G4⟩ : ∃ g, Hid ((World.heap (v1)).size = g) := ⟨_, Lib.hid rfl⟩
          obtain ⟨cc4, C4⟩ : ∃ c, Hid (grownCap (v1) text.size 0 5 = c) := ⟨_, Lib.hid rfl⟩
          obtain ⟨v4, V4⟩ : ∃ x, Hid (Lib.bytesWorld (v1) 5 text = x) := ⟨_, Lib.hid rfl⟩
          have x4 : Ext (v1) v4 := by rw [← V4.out]; exact (Ext.refl _).bytes _ _
          have bb4 : Bs v4 (some ⟨g4, 0, none⟩) (Chars text) := by rw [← V4.out, ← G4.out]; exact Bs.text _ _ (by omega)
          have rg4 := G4.out
          have rc4 := C4.out
          have rv4 := V4.out
          go_simp
          clear rg4 rc4 rv4
          have X4 : Ext w2 v4 := Ext.trans (X1) x4
          refine hK.out _ _ ?_ (fun hHeld => ?_)
          · exact X4
          clear hK K
          (try simp only [Act.put, List.setIfInBounds_toArray, List.set_cons_zero, List.set_cons_succ])
          refine one_ (i := 4) (N := (some 26)) #[true, true, true, true, true, true, true, true, false, false] rfl rfl (by kernel_rfl) (by simp) (fun K hK => ?_)
          go_simp
          refine (rkB A4 m4 k4 L4 _ cc1 key _ ((hb4'.ext x1).ext x4) U4.len (bb1.ext x4) (by omega)).mono ?_
          rintro e v5 ⟨A_5, m_5, k_5, L_5, rfl, U_5, x5⟩
          have X5 : Ext w2 v5 := Ext.trans (X4) x5
          refine hK.out _ _ ?_ (fun hHeld => ?_)
          · exact X5
          clear hK K
          (try simp only [Act.put, List.setIfInBounds_toArray, List.set_cons_zero, List.set_cons_succ])
          have hj := hJ ((g1, cc1), (A_5, m_5, k_5, L_5), (g4, cc4)) _ ⟨X5, U_5, (bb4.ext x5)⟩
          simp only [putAll, Act.put, List.setIfInBounds_toArray, List.set_cons_zero, List.set_cons_succ] at hj
          exact hj
      · obtain ⟨g6, G6⟩ : ∃ g, Hid ((World.heap (u4.drew)).size = g) := ⟨_, Lib.hid rfl⟩
        obtain ⟨cc6, C6⟩ : ∃ c, Hid (grownCap (u4.drew) text.size 0 5 = c) := ⟨_, Lib.hid rfl⟩
        obtain ⟨v6, V6⟩ : ∃ x, Hid (Lib.bytesWorld (u4.drew) 5 text = x) := ⟨_, Lib.hid rfl⟩
        have x6 : Ext (u4.drew) v6 := by rw [← V6.out]; exact (Ext.refl _).bytes _ _
        have bb6 : Bs v6 (some ⟨g6, 0, none⟩) (Chars text) := by rw [← V6.out, ← G6.out]; exact Bs.text _ _ (by omega)
        have rg6 := G6.out
        have rc6 := C6.out
        have rv6 := V6.out
        go_simp
        clear rg6 rc6 rv6
        have X6 : Ext w2 v6 := Ext.trans (hHeld) x6
        refine hK.out _ _ ?_ (fun hHeld => ?_)
        · exact X6
        clear hK K
        (try simp only [Act.put, List.setIfInBounds_toArray, List.set_cons_zero, List.set_cons_succ])
        refine one_ (i := 3) (N := (some 25)) #[true, true, true, true, false, true, true, true, false, false] rfl rfl (by kernel_rfl) (by simp) (fun K hK => ?_)
        obtain ⟨g7, G7⟩ : ∃ g, Hid ((World.heap (v6)).size = g) := ⟨_, Lib.hid rfl⟩
        obtain ⟨cc7, C7⟩ : ∃ c, Hid (grownCap (v6) key.size 0 5 = c) := ⟨_, Lib.hid rfl⟩
        obtain ⟨v7, V7⟩ : ∃ x, Hid (Lib.bytesWorld (v6) 5 key = x) := ⟨_, Lib.hid rfl⟩
        have x7 : Ext (v6) v7 := by rw [← V7.out]; exact (Ext.refl _).bytes _ _
        have bb7 : Bs v7 (some ⟨g7, 0, none⟩) (Chars key) := by rw [← V7.out, ← G7.out]; exact Bs.text _ _ (by omega)
        have rg7 := G7.out
        have rc7 := C7.out
        have rv7 := V7.out
        go_simp
        clear rg7 rc7 rv7
        have X7 : Ext w2 v7 := Ext.trans (X6) x7
        refine hK.out _ _ ?_ (fun hHeld => ?_)
        · exact X7
        clear hK K
        (try simp only [Act.put, List.setIfInBounds_toArray, List.set_cons_zero, List.set_cons_succ])
        refine one_ (i := 4) (N := (some 26)) #[true, true, true, true, true, true, true, true, false, false] rfl rfl (by kernel_rfl) (by simp) (fun K hK => ?_)
        go_simp
        refine (rkB A4 m4 k4 L4 _ cc7 key _ ((hb4'.ext x6).ext x7) U4.len bb7 (by omega)).mono ?_
        rintro e v8 ⟨A_8, m_8, k_8, L_8, rfl, U_8, x8⟩
        have X8 : Ext w2 v8 := Ext.trans (X7) x8
        refine hK.out _ _ ?_ (fun hHeld => ?_)
        · exact X8
        clear hK K
        (try simp only [Act.put, List.setIfInBounds_toArray, List.set_cons_zero, List.set_cons_succ])
        have hj := hJ ((g7, cc7), (A_8, m_8, k_8, L_8), (g6, cc6)) _ ⟨X8, U_8, ((bb6.ext x7).ext x8)⟩
        simp only [putAll, Act.put, List.setIfInBounds_toArray, List.set_cons_zero, List.set_cons_succ] at hj
        exact hj
end Go.Proofs.YtlffbappgfimeaaDoor
