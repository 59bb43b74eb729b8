/- ShPut: the walk of shadow.Put. -/
import Derived.Test.YtlffbappgfimeaaDoorShPutPure
set_option linter.unusedVariables false
set_option linter.unusedSimpArgs false
set_option maxRecDepth 100000
namespace Go.Proofs.YtlffbappgfimeaaDoor
open Go.RowKit Go.Proofs.YtlffbappgfimeaaDoorW.PrintWords Go.Proofs.YtlffbappgfimeaaDoorW.PrintLast PackPure

theorem pkN (A : Option Addr) (m c : Nat) (L : List UInt8) (z : Int) (w : World) (h : Bs w A L) (hn : m = L.length) (hm : m ≤ 140737488354000) (h0 : -9223372036854775808 ≤ z) (h1 : z ≤ 9223372036854775807) :
    Calls Tryd.prog 25 #[.slice A m c, .int .i64 z] w fun e w' => ∃ A' m' c' L', e = .returned (.slice A' m' c') ∧ Ou w' A' m' c' L' (L ++ num z) ∧ Ext w w' := by
  refine (num_any A m c L z w h hn (by omega) h0 h1).mono ?_
  rintro e w' ⟨x, rfl, ho, hx⟩
  obtain ⟨A', m', c', L', rfl, hu⟩ := ou_of ho
  exact ⟨A', m', c', L', rfl, hu, hx⟩
theorem pkV (A : Option Addr) (m c : Nat) (L : List UInt8) (v : V7) (w : World) (h : Bs w A L) (hn : m = L.length) (hc : m ≤ c) (hm : m ≤ 140737488354000) (hv : In64 v) :
    Calls Tryd.prog 26 #[.slice A m c, vf v] w fun e w' => ∃ A' m' c' L', e = .returned (.slice A' m' c') ∧ Ou w' A' m' c' L' (L ++ putV v 7) ∧ Ext w w' := by
  refine (vput_any A m c L v w h hn hc hm hv).mono ?_
  rintro e w' ⟨A', c', rfl, h1, h2, hx⟩
  exact ⟨A', _, c', _, rfl, ⟨rfl, rfl, h1, h2⟩, hx⟩

theorem pkT (A : Option Addr) (m c : Nat) (L : List UInt8) (s : ByteArray) (w : World) (h : Bs w A L) (hn : m = L.length) (hm : m + s.size ≤ 140737488354000) :
    Calls Tryd.prog 27 #[.slice A m c, .string s] w fun e w' => ∃ A' m' c' L', e = .returned (.slice A' m' c') ∧ Ou w' A' m' c' L' (L ++ putB (Chars s)) ∧ Ext w w' := by
  refine (putt_any A m c L s w h hn (by omega)).mono ?_
  rintro e w' ⟨x, rfl, ho, hx⟩
  obtain ⟨A', m', c', L', rfl, hu⟩ := ou_of ho
  exact ⟨A', m', c', L', rfl, hu, hx⟩

set_option maxHeartbeats 4000000 in
theorem sput_any (r n : Int) (v : V7) (k : Int) (key text : ByteArray) (b t : Int) (w : World) (hks : key.size ≤ 1048576) (hk : -9223372036854775808 ≤ k ∧ k ≤ 9223372036854775807) (ht : Tabs w) :
    Calls Tryd.prog 9 #[shv r n v k key text b t] w fun e w' => ∃ x, e = .returned x ∧ Ob w' w.heap.size x (putS_ r n v k key text b t) ∧ Ext w w' := by
  obtain ⟨h, Hh⟩ : ∃ h, Hid (w.heap.size = h) := ⟨_, Lib.hid rfl⟩
  obtain ⟨w1, H1, S1, hx1, hb⟩ := allocS w r n v k key text b t 28 h Hh.out
  have ht1 := ht.ext hx1
  have kg := fun W hW => sgood_any r n v k key text b t W (by omega) hk hW
  have hh := Hh.out
  have h1 := H1.out
  obtain ⟨c0, c1, c2, c3, c4, c5, c6, c7, c8, c9, c10, c11, c12, c13⟩ := hb.cells
  unfold shv at *
  go_enter Tryd.func9, Tryd.ntmps9
  go_wp2_with fail
  refine (kg _ ht1).mono ?_
  clear h1 hh
  rintro e w2 ⟨rfl, x2⟩
  have hX2 := hx1.trans x2
  have hb2 := hb.ext x2
  cases q : goodS r n v k key text b t with
  | false =>
    have hres : putS_ r n v k key text b t = [] := by rw [putS_, q]; rfl
    go_wp2
    go_ret
    exact ⟨_, rfl, by rw [hres]; exact Ob.nil _ _, hX2⟩
  | true =>
    have hres : putS_ r n v k key text b t = bytesS r n v k key text b t := by rw [putS_, q]; rfl
    have F := facts q
    have f1 := F.r0
    have f2 := F.r7
    have f3 := F.n1
    have f4 := F.nM
    have f5 := F.b0
    have f6 := F.bM
    have f7 := F.t0
    have f8 := F.tM
    have f9 := F.k1
    have f10 := F.k4
    have f11 := F.ks
    have f12 := F.htext
    have gv := good7_64 F.gv
    have nr := num_le r (by omega) (by omega)
    have nn := num_le n (by omega) (by omega)
    have nk := num_le k (by omega) (by omega)
    have nb := num_le b (by omega) (by omega)
    have nv := putV_le gv 7 (by omega)
    have pk := putB_le (Chars key) (by rw [Chars_length]; omega)
    have pt := putB_le (Chars text) (by rw [Chars_length]; omega)
    rw [Chars_length] at pk pt
    have kv := fun A m c L W (h : Bs W A L) hn hc hm => pkV A m c L v W h hn hc hm gv
    unfold vf at kv
    obtain ⟨c0, c1, c2, c3, c4, c5, c6, c7, c8, c9, c10, c11, c12, c13⟩ := hb2.rules
    have z2 := Ext.refl w2
    go_wp2


    refine start_ (n := 9) (S := (fun W => Ext w2 W)) (ds := []) #[false, false, false, false, false, false, false, false, false] (by kernel_rfl) (by kernel_rfl) (by kernel_rfl) (z2.drew) (fun hHeld => ?_)
    refine take_ (i := 0) (N := (some 7)) (v := ?_) (a' := ?_) #[true, false, false, false, false, false, false, false, false] rfl rfl (by kernel_rfl) (fun _ _ _ h => h) (Or.inl ⟨by rfl, ?_⟩) (by assumption) ?_ ?_
    rotate_left
    · intro w' hSw; (try dsimp only at hSw)
      go_simp
      try with_reducible rfl
    rotate_left
    · simp only [Act.put, List.setIfInBounds_toArray, List.set_cons_zero, List.set_cons_succ]
      rfl
    refine take_ (i := 1) (N := (some 8)) (v := ?_) (a' := ?_) #[true, true, false, false, false, false, false, false, false] rfl rfl (by kernel_rfl) (fun _ _ _ h => h) (Or.inl ⟨by rfl, ?_⟩) (by assumption) ?_ ?_
    rotate_left
    · intro w' hSw; (try dsimp only at hSw)
      go_simp
      try with_reducible rfl
    rotate_left
    · simp only [Act.put, List.setIfInBounds_toArray, List.set_cons_zero, List.set_cons_succ]
      rfl
    refine take_ (i := 2) (N := (some 9)) (v := ?_) (a' := ?_) #[true, true, true, false, false, false, false, false, false] rfl rfl (by kernel_rfl) (fun _ _ _ h => h) (Or.inl ⟨by rfl, ?_⟩) (by assumption) ?_ ?_
    rotate_left
    · intro w' hSw; (try dsimp only at hSw)
      go_simp
      try with_reducible rfl
    rotate_left
    · simp only [Act.put, List.setIfInBounds_toArray, List.set_cons_zero, List.set_cons_succ]
      rfl
    refine take_ (i := 4) (N := (some 11)) (v := ?_) (a' := ?_) #[true, true, true, false, true, false, false, false, false] rfl rfl (by kernel_rfl) (fun _ _ _ h => h) (Or.inl ⟨by rfl, ?_⟩) (by assumption) ?_ ?_
    rotate_left
    · intro w' hSw; (try dsimp only at hSw)
      go_simp
      try with_reducible rfl
    rotate_left
    · simp only [Act.put, List.setIfInBounds_toArray, List.set_cons_zero, List.set_cons_succ]
      rfl
    refine take_ (i := 5) (N := (some 12)) (v := ?_) (a' := ?_) #[true, true, true, false, true, true, false, false, false] rfl rfl (by kernel_rfl) (fun _ _ _ h => h) (Or.inl ⟨by rfl, ?_⟩) (by assumption) ?_ ?_
    rotate_left
    · intro w' hSw; (try dsimp only at hSw)
      go_simp
      try with_reducible rfl
    rotate_left
    · simp only [Act.put, List.setIfInBounds_toArray, List.set_cons_zero, List.set_cons_succ]
      rfl
    refine take_ (i := 6) (N := (some 13)) (v := ?_) (a' := ?_) #[true, true, true, false, true, true, true, false, false] rfl rfl (by kernel_rfl) (fun _ _ _ h => h) (Or.inl ⟨by rfl, ?_⟩) (by assumption) ?_ ?_
    rotate_left
    · intro w' hSw; (try dsimp only at hSw)
      go_simp
      try with_reducible rfl
    rotate_left
    · simp only [Act.put, List.setIfInBounds_toArray, List.set_cons_zero, List.set_cons_succ]
      rfl
    refine one_ (i := 3) (N := (some 10)) #[true, true, true, true, true, true, true, false, false] rfl rfl (by kernel_rfl) (by simp) (fun K hK => ?_)
    go_simp
    refine (pkN none 0 0 [] r _ (Bs.nil _) rfl (by decide) (by omega) (by omega)).mono ?_
    rintro e u1 ⟨A1, m1, k1, L1, rfl, U1, y1⟩
    have hb1 := U1.bs
    have hc1 := U1.cap
    have hle1 : m1 ≤ (num r).length + 0 := by have := congrArg List.length U1.eq; simp only [List.length_append, List.length_nil] at this; have := U1.len; omega
    refine hK.out _ _ ?_ (fun hHeld => ?_)
    · first | assumption | exact hHeld.trans (by assumption)
    clear hK K
    (try simp only [Act.put, List.setIfInBounds_toArray, List.set_cons_zero, List.set_cons_succ])
    refine one_ (i := 7) (N := (some 14)) #[true, true, true, true, true, true, true, true, false] rfl rfl (by kernel_rfl) (by simp) (fun K hK => ?_)
    go_simp
    refine (pkN A1 m1 k1 L1 n _ hb1 U1.len (by omega) (by omega) (by omega)).mono ?_
    rintro e u2 ⟨A2, m2, k2, L2, rfl, U2, y2⟩
    have hb2 := U2.bs
    have hc2 := U2.cap
    have hle2 : m2 ≤ m1 + (num n).length := by have := U1.len; have := congrArg List.length U2.eq; simp only [List.length_append, List.length_nil] at this; have := U2.len; omega
    refine hK.out _ _ ?_ (fun hHeld => ?_)
    · first | assumption | exact hHeld.trans (by assumption)
    clear hK K
    (try simp only [Act.put, List.setIfInBounds_toArray, List.set_cons_zero, List.set_cons_succ])
    refine take_ (i := 8) (N := (some 3)) (v := ?_) (a' := ?_) #[true, true, true, true, true, true, true, true, true] rfl rfl (by kernel_rfl) (fun _ _ _ h => h) (Or.inl ⟨by rfl, ?_⟩) (by assumption) ?_ ?_
    rotate_left
    · intro w' hSw; (try dsimp only at hSw)
      go_simp
      try with_reducible rfl
    rotate_left
    · simp only [Act.put, List.setIfInBounds_toArray, List.set_cons_zero, List.set_cons_succ]
      rfl
    refine done_ (by kernel_rfl) ?_
    go_wp2
    refine start_ (n := 8) (S := (fun W => Ext w2 W)) (ds := []) #[false, false, false, false, false, false, false, false] (by kernel_rfl) (by kernel_rfl) (by kernel_rfl) (hHeld.drew) (fun hHeld => ?_)
    refine take_ (i := 0) (N := (some 15)) (v := ?_) (a' := ?_) #[true, false, false, false, false, false, false, false] rfl rfl (by kernel_rfl) (fun _ _ _ h => h) (Or.inl ⟨by rfl, ?_⟩) (by assumption) ?_ ?_
    rotate_left
    · intro w' hSw; (try dsimp only at hSw)
      go_simp
      try with_reducible rfl
    rotate_left
    · simp only [Act.put, List.setIfInBounds_toArray, List.set_cons_zero, List.set_cons_succ]
      rfl
    refine take_ (i := 1) (N := (some 16)) (v := ?_) (a' := ?_) #[true, true, false, false, false, false, false, false] rfl rfl (by kernel_rfl) (fun _ _ _ h => h) (Or.inl ⟨by rfl, ?_⟩) (by assumption) ?_ ?_
    rotate_left
    · intro w' hSw; (try dsimp only at hSw)
      go_simp
      try with_reducible rfl
    rotate_left
    · simp only [Act.put, List.setIfInBounds_toArray, List.set_cons_zero, List.set_cons_succ]
      rfl
    refine take_ (i := 2) (N := (some 17)) (v := ?_) (a' := ?_) #[true, true, true, false, false, false, false, false] rfl rfl (by kernel_rfl) (fun _ _ _ h => h) (Or.inl ⟨by rfl, ?_⟩) (by assumption) ?_ ?_
    rotate_left
    · intro w' hSw; (try dsimp only at hSw)
      go_simp
      try with_reducible rfl
    rotate_left
    · simp only [Act.put, List.setIfInBounds_toArray, List.set_cons_zero, List.set_cons_succ]
      rfl
    refine take_ (i := 4) (N := (some 19)) (v := ?_) (a' := ?_) #[true, true, true, false, true, false, false, false] rfl rfl (by kernel_rfl) (fun _ _ _ h => h) (Or.inl ⟨by rfl, ?_⟩) (by assumption) ?_ ?_
    rotate_left
    · intro w' hSw; (try dsimp only at hSw)
      go_simp
      try with_reducible rfl
    rotate_left
    · simp only [Act.put, List.setIfInBounds_toArray, List.set_cons_zero, List.set_cons_succ]
      rfl
    refine take_ (i := 5) (N := (some 20)) (v := ?_) (a' := ?_) #[true, true, true, false, true, true, false, false] rfl rfl (by kernel_rfl) (fun _ _ _ h => h) (Or.inl ⟨by rfl, ?_⟩) (by assumption) ?_ ?_
    rotate_left
    · intro w' hSw; (try dsimp only at hSw)
      go_simp
      try with_reducible rfl
    rotate_left
    · simp only [Act.put, List.setIfInBounds_toArray, List.set_cons_zero, List.set_cons_succ]
      rfl
    refine one_ (i := 3) (N := (some 18)) #[true, true, true, true, true, true, false, false] rfl rfl (by kernel_rfl) (by simp) (fun K hK => ?_)
    go_simp
    refine (kv A2 m2 k2 L2 _ (hb2.ext (Ext.refl u2).drew) U2.len hc2 (by omega)).mono ?_
    rintro e u3 ⟨A3, m3, k3, L3, rfl, U3, y3⟩
    have hb3 := U3.bs
    have hc3 := U3.cap
    have hle3 : m3 ≤ m2 + (putV v 7).length := by have := U2.len; have := congrArg List.length U3.eq; simp only [List.length_append, List.length_nil] at this; have := U3.len; omega
    refine hK.out _ _ ?_ (fun hHeld => ?_)
    · first | assumption | exact hHeld.trans (by assumption)
    clear hK K
    (try simp only [Act.put, List.setIfInBounds_toArray, List.set_cons_zero, List.set_cons_succ])
    refine one_ (i := 6) (N := (some 21)) #[true, true, true, true, true, true, true, false] rfl rfl (by kernel_rfl) (by simp) (fun K hK => ?_)
    go_simp
    refine (pkN A3 m3 k3 L3 k _ hb3 U3.len (by omega) (by omega) (by omega)).mono ?_
    rintro e u4 ⟨A4, m4, k4, L4, rfl, U4, y4⟩
    have hb4 := U4.bs
    have hc4 := U4.cap
    have hle4 : m4 ≤ m3 + (num k).length := by have := U3.len; have := congrArg List.length U4.eq; simp only [List.length_append, List.length_nil] at this; have := U4.len; omega
    refine hK.out _ _ ?_ (fun hHeld => ?_)
    · first | assumption | exact hHeld.trans (by assumption)
    clear hK K
    (try simp only [Act.put, List.setIfInBounds_toArray, List.set_cons_zero, List.set_cons_succ])
    refine take_ (i := 7) (N := (some 3)) (v := ?_) (a' := ?_) #[true, true, true, true, true, true, true, true] rfl rfl (by kernel_rfl) (fun _ _ _ h => h) (Or.inl ⟨by rfl, ?_⟩) (by assumption) ?_ ?_
    rotate_left
    · intro w' hSw; (try dsimp only at hSw)
      go_simp
      try with_reducible rfl
    rotate_left
    · simp only [Act.put, List.setIfInBounds_toArray, List.set_cons_zero, List.set_cons_succ]
      rfl
    refine done_ (by kernel_rfl) ?_
    go_wp2
    refine start_ (n := 8) (S := (fun W => Ext w2 W)) (ds := []) #[false, false, false, false, false, false, false, false] (by kernel_rfl) (by kernel_rfl) (by kernel_rfl) (hHeld.drew) (fun hHeld => ?_)
    refine take_ (i := 0) (N := (some 22)) (v := ?_) (a' := ?_) #[true, false, false, false, false, false, false, false] rfl rfl (by kernel_rfl) (fun _ _ _ h => h) (Or.inl ⟨by rfl, ?_⟩) (by assumption) ?_ ?_
    rotate_left
    · intro w' hSw; (try dsimp only at hSw)
      go_simp
      try with_reducible rfl
    rotate_left
    · simp only [Act.put, List.setIfInBounds_toArray, List.set_cons_zero, List.set_cons_succ]
      rfl
    refine take_ (i := 1) (N := (some 23)) (v := ?_) (a' := ?_) #[true, true, false, false, false, false, false, false] rfl rfl (by kernel_rfl) (fun _ _ _ h => h) (Or.inl ⟨by rfl, ?_⟩) (by assumption) ?_ ?_
    rotate_left
    · intro w' hSw; (try dsimp only at hSw)
      go_simp
      try with_reducible rfl
    rotate_left
    · simp only [Act.put, List.setIfInBounds_toArray, List.set_cons_zero, List.set_cons_succ]
      rfl
    refine take_ (i := 2) (N := (some 24)) (v := ?_) (a' := ?_) #[true, true, true, false, false, false, false, false] rfl rfl (by kernel_rfl) (fun _ _ _ h => h) (Or.inl ⟨by rfl, ?_⟩) (by assumption) ?_ ?_
    rotate_left
    · intro w' hSw; (try dsimp only at hSw)
      go_simp
      try with_reducible rfl
    rotate_left
    · simp only [Act.put, List.setIfInBounds_toArray, List.set_cons_zero, List.set_cons_succ]
      rfl
    refine take_ (i := 4) (N := (some 26)) (v := ?_) (a' := ?_) #[true, true, true, false, true, false, false, false] rfl rfl (by kernel_rfl) (fun _ _ _ h => h) (Or.inl ⟨by rfl, ?_⟩) (by assumption) ?_ ?_
    rotate_left
    · intro w' hSw; (try dsimp only at hSw)
      go_simp
      try with_reducible rfl
    rotate_left
    · simp only [Act.put, List.setIfInBounds_toArray, List.set_cons_zero, List.set_cons_succ]
      rfl
    refine take_ (i := 5) (N := (some 27)) (v := ?_) (a' := ?_) #[true, true, true, false, true, true, false, false] rfl rfl (by kernel_rfl) (fun _ _ _ h => h) (Or.inl ⟨by rfl, ?_⟩) (by assumption) ?_ ?_
    rotate_left
    · intro w' hSw; (try dsimp only at hSw)
      go_simp
      try with_reducible rfl
    rotate_left
    · simp only [Act.put, List.setIfInBounds_toArray, List.set_cons_zero, List.set_cons_succ]
      rfl
    refine one_ (i := 3) (N := (some 25)) #[true, true, true, true, true, true, false, false] rfl rfl (by kernel_rfl) (by simp) (fun K hK => ?_)
    go_simp
    refine (pkT A4 m4 k4 L4 key _ (hb4.ext (Ext.refl u4).drew) U4.len (by omega)).mono ?_
    rintro e u5 ⟨A5, m5, k5, L5, rfl, U5, y5⟩
    have hb5 := U5.bs
    have hc5 := U5.cap
    have hle5 : m5 ≤ m4 + (putB (Chars key)).length := by have := U4.len; have := congrArg List.length U5.eq; simp only [List.length_append, List.length_nil] at this; have := U5.len; omega
    refine hK.out _ _ ?_ (fun hHeld => ?_)
    · first | assumption | exact hHeld.trans (by assumption)
    clear hK K
    (try simp only [Act.put, List.setIfInBounds_toArray, List.set_cons_zero, List.set_cons_succ])
    refine one_ (i := 6) (N := (some 28)) #[true, true, true, true, true, true, true, false] rfl rfl (by kernel_rfl) (by simp) (fun K hK => ?_)
    go_simp
    refine (pkT A5 m5 k5 L5 text _ hb5 U5.len (by omega)).mono ?_
    rintro e u6 ⟨A6, m6, k6, L6, rfl, U6, y6⟩
    have hb6 := U6.bs
    have hc6 := U6.cap
    have hle6 : m6 ≤ m5 + (putB (Chars text)).length := by have := U5.len; have := congrArg List.length U6.eq; simp only [List.length_append, List.length_nil] at this; have := U6.len; omega
    refine hK.out _ _ ?_ (fun hHeld => ?_)
    · first | assumption | exact hHeld.trans (by assumption)
    clear hK K
    (try simp only [Act.put, List.setIfInBounds_toArray, List.set_cons_zero, List.set_cons_succ])
    refine take_ (i := 7) (N := (some 3)) (v := ?_) (a' := ?_) #[true, true, true, true, true, true, true, true] rfl rfl (by kernel_rfl) (fun _ _ _ h => h) (Or.inl ⟨by rfl, ?_⟩) (by assumption) ?_ ?_
    rotate_left
    · intro w' hSw; (try dsimp only at hSw)
      go_simp
      try with_reducible rfl
    rotate_left
    · simp only [Act.put, List.setIfInBounds_toArray, List.set_cons_zero, List.set_cons_succ]
      rfl
    refine done_ (by kernel_rfl) ?_
    go_wp2
    refine start_ (n := 8) (S := (fun W => Ext w2 W)) (ds := []) #[false, false, false, false, false, false, false, false] (by kernel_rfl) (by kernel_rfl) (by kernel_rfl) (hHeld.drew) (fun hHeld => ?_)
    refine take_ (i := 0) (N := (some 29)) (v := ?_) (a' := ?_) #[true, false, false, false, false, false, false, false] rfl rfl (by kernel_rfl) (fun _ _ _ h => h) (Or.inl ⟨by rfl, ?_⟩) (by assumption) ?_ ?_
    rotate_left
    · intro w' hSw; (try dsimp only at hSw)
      go_simp
      try with_reducible rfl
    rotate_left
    · simp only [Act.put, List.setIfInBounds_toArray, List.set_cons_zero, List.set_cons_succ]
      rfl
    refine take_ (i := 1) (N := (some 30)) (v := ?_) (a' := ?_) #[true, true, false, false, false, false, false, false] rfl rfl (by kernel_rfl) (fun _ _ _ h => h) (Or.inl ⟨by rfl, ?_⟩) (by assumption) ?_ ?_
    rotate_left
    · intro w' hSw; (try dsimp only at hSw)
      go_simp
      try with_reducible rfl
    rotate_left
    · simp only [Act.put, List.setIfInBounds_toArray, List.set_cons_zero, List.set_cons_succ]
      rfl
    refine take_ (i := 2) (N := (some 31)) (v := ?_) (a' := ?_) #[true, true, true, false, false, false, false, false] rfl rfl (by kernel_rfl) (fun _ _ _ h => h) (Or.inl ⟨by rfl, ?_⟩) (by assumption) ?_ ?_
    rotate_left
    · intro w' hSw; (try dsimp only at hSw)
      go_simp
      try with_reducible rfl
    rotate_left
    · simp only [Act.put, List.setIfInBounds_toArray, List.set_cons_zero, List.set_cons_succ]
      rfl
    refine take_ (i := 4) (N := (some 33)) (v := ?_) (a' := ?_) #[true, true, true, false, true, false, false, false] rfl rfl (by kernel_rfl) (fun _ _ _ h => h) (Or.inl ⟨by rfl, ?_⟩) (by assumption) ?_ ?_
    rotate_left
    · intro w' hSw; (try dsimp only at hSw)
      go_simp
      try with_reducible rfl
    rotate_left
    · simp only [Act.put, List.setIfInBounds_toArray, List.set_cons_zero, List.set_cons_succ]
      rfl
    refine take_ (i := 5) (N := (some 34)) (v := ?_) (a' := ?_) #[true, true, true, false, true, true, false, false] rfl rfl (by kernel_rfl) (fun _ _ _ h => h) (Or.inl ⟨by rfl, ?_⟩) (by assumption) ?_ ?_
    rotate_left
    · intro w' hSw; (try dsimp only at hSw)
      go_simp
      try with_reducible rfl
    rotate_left
    · simp only [Act.put, List.setIfInBounds_toArray, List.set_cons_zero, List.set_cons_succ]
      rfl
    refine one_ (i := 3) (N := (some 32)) #[true, true, true, true, true, true, false, false] rfl rfl (by kernel_rfl) (by simp) (fun K hK => ?_)
    go_simp
    refine (pkN A6 m6 k6 L6 b _ (hb6.ext (Ext.refl u6).drew) U6.len (by omega) (by omega) (by omega)).mono ?_
    rintro e u7 ⟨A7, m7, k7, L7, rfl, U7, y7⟩
    have hb7 := U7.bs
    have hc7 := U7.cap
    have hle7 : m7 ≤ m6 + (num b).length := by have := U6.len; have := congrArg List.length U7.eq; simp only [List.length_append, List.length_nil] at this; have := U7.len; omega
    refine hK.out _ _ ?_ (fun hHeld => ?_)
    · first | assumption | exact hHeld.trans (by assumption)
    clear hK K
    (try simp only [Act.put, List.setIfInBounds_toArray, List.set_cons_zero, List.set_cons_succ])
    refine one_ (i := 6) (N := (some 35)) #[true, true, true, true, true, true, true, false] rfl rfl (by kernel_rfl) (by simp) (fun K hK => ?_)
    go_simp
    have hs7 := Ext.size hHeld
    refine (num_any A7 m7 k7 L7 t _ hb7 U7.len (by omega) (by omega) (by omega)).mono ?_
    rintro e u8 ⟨x8, rfl, ho8, y8⟩
    refine hK.out _ _ ?_ (fun hHeld => ?_)
    · first | assumption | exact hHeld.trans (by assumption)
    clear hK K
    (try simp only [Act.put, List.setIfInBounds_toArray, List.set_cons_zero, List.set_cons_succ])
    refine take_ (i := 7) (N := (some 2)) (v := ?_) (a' := ?_) #[true, true, true, true, true, true, true, true] rfl rfl (by kernel_rfl) (fun _ _ _ h => h) (Or.inl ⟨by rfl, ?_⟩) (by assumption) ?_ ?_
    rotate_left
    · intro w' hSw; (try dsimp only at hSw)
      go_simp
      try with_reducible rfl
    rotate_left
    · simp only [Act.put, List.setIfInBounds_toArray, List.set_cons_zero, List.set_cons_succ]
      rfl
    refine done_ (by kernel_rfl) ?_
    go_wp2
    go_ret
    refine ⟨_, rfl, ?_, hX2.trans hHeld⟩
    have e : L7 ++ num t = bytesS r n v k key text b t := by rw [bytesS, ← U7.eq, ← U6.eq, ← U5.eq, ← U4.eq, ← U3.eq, ← U2.eq, ← U1.eq, List.nil_append]
    rw [hres, ← e]
    exact ho8.lower (Nat.le_trans hX2.size hs7)
end Go.Proofs.YtlffbappgfimeaaDoor
