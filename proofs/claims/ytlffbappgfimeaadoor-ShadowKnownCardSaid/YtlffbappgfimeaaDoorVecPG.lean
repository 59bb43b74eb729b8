/- VecPG: the walks of vec.Put and vec.Get. -/
import Derived.Test.YtlffbappgfimeaaDoorVecCmp
import Derived.Test.YtlffbappgfimeaaDoorPackRdNum
import Derived.Test.YtlffbappgfimeaaDoorPackRound
set_option linter.unusedVariables false
set_option linter.unusedSimpArgs false
set_option maxRecDepth 100000
namespace Go.Proofs.YtlffbappgfimeaaDoor
open Go.RowKit Go.Proofs.YtlffbappgfimeaaDoorW.PrintWords PackPure

/-- The first k in bytes. -/
def putV (v : V7) : Nat → List UInt8
  | 0 => []
  | k + 1 => putV v k ++ num (v k)
def In64 (v : V7) : Prop := ∀ i, i < 7 → -9223372036854775808 ≤ v i ∧ v i ≤ 9223372036854775807
theorem putV_le {v : V7} (h : In64 v) : ∀ k : Nat, k ≤ 7 → (putV v k).length ≤ 10 * k
  | 0, _ => by simp [putV]
  | k + 1, hk => by
    have h1 := putV_le h k (by omega)
    have h2 := h k (by omega)
    have h3 := num_le (v k) h2.1 h2.2
    simp only [putV, List.length_append]
    omega

set_option maxHeartbeats 1000000 in
theorem vput_any (A : Option Addr) (n c : Nat) (l : List UInt8) (v : V7) (w : World) (h : Bs w A l) (hn : n = l.length) (hc : n ≤ c) (hm : n ≤ 140737488354000) (hv : In64 v) :
    Calls Tryd.prog 26 #[.slice A n c, vf v] w fun e w' => ∃ A' c', e = .returned (.slice A' (l ++ putV v 7).length c') ∧ (l ++ putV v 7).length ≤ c' ∧ Bs w' A' (l ++ putV v 7) ∧ Ext w w' := by
  have Hn := Lib.hid hn
  clear hn
  obtain ⟨h0, Hh⟩ : ∃ h, Hid (w.heap.size = h) := ⟨_, Lib.hid rfl⟩
  obtain ⟨w1, H1, S1, hx1, hv1, -, -⟩ := alloc7 w v 26 h0 Hh.out
  obtain ⟨a0, a1, a2, a3, a4, a5, a6⟩ := hv1.cells0
  have hh := Hh.out
  have h1 := H1.out
  unfold vf
  go_enter Tryd.func26, Tryd.ntmps26
  go_wp2
  clear h1 hh a0 a1 a2 a3 a4 a5 a6
  go_loopw [0, 8] (fun x i wr => ∃ (k : Nat) (A' : Option Addr) (c' m : Nat), k ≤ 7 ∧ i = .int .i64 k ∧ x = .slice A' m c' ∧ Hid (m = (l ++ putV v k).length) ∧ m ≤ c' ∧ m ≤ n + 10 * k ∧ Bs wr A' (l ++ putV v k) ∧ Ext w wr) (fun _ i _ => 7 - (intOf i).toNat)
  case atStart => exact ⟨0, A, c, n, by omega, rfl, rfl, Lib.hid (by rw [Hn.out]; simp [putV]), hc, by omega, by simpa [putV] using h.ext hx1, hx1⟩
  case round =>
    obtain ⟨k, A', c', m, hk, rfl, rfl, Hm, hmc, hmn, hB, hX⟩ := hrel
    by_cases hkl : k < 7
    · have hidx := fun W => run_idx7 Tryd.underlying26 v k hkl W
      obtain ⟨x, Hx⟩ : ∃ x, Hid (v k = x) := ⟨_, Lib.hid rfl⟩
      have hvk := hv k hkl
      rw [Hx.out] at hidx hvk
      have hle := num_le x hvk.1 hvk.2
      obtain ⟨b, Hb⟩ : ∃ b, Hid (l ++ putV v k = b) := ⟨_, Lib.hid rfl⟩
      rw [Hb.out] at Hm hB
      have e1 : l ++ putV v (k + 1) = b ++ num x := by rw [← Hb.out, ← Hx.out]; simp [putV]
      have E1 := Lib.hid e1
      clear e1
      go_wp2_with fail
      refine (num_any A' m c' b x wr hB Hm.out (by omega) hvk.1 hvk.2).mono ?_
      rintro e w2 ⟨y, rfl, ho, hx2⟩
      obtain ⟨A2, c2, rfl, hl2, hB2⟩ := ho.reads
      have hlen : (b ++ num x).length ≤ n + 10 * (k + 1) := by rw [List.length_append, ← Hm.out]; omega
      obtain ⟨m2, Hm2⟩ : ∃ m, Hid ((b ++ num x).length = m) := ⟨_, Lib.hid rfl⟩
      rw [Hm2.out] at hl2 hlen
      have hm2 := Hm2.out
      go_wp2
      clear hm2
      go_roundw
      case rel => exact ⟨k + 1, A2, c2, m2, by omega, by go_num, rfl, Lib.hid (by rw [E1.out, Hm2.out]), hl2, by omega, by rw [E1.out]; exact hB2, hX.trans hx2⟩
      case measure => simp [intOf]; omega
    · have hk7 : k = 7 := by omega
      subst hk7
      go_wp2
      go_ret
      exact ⟨A', c', by first | rfl | (rw [Hm.out]; rfl), by rw [← Hm.out]; exact hmc, hB, hX⟩

/-- A whole block of seven. -/
def Blk7 (w : World) (g : Nat) (f : V7) : Prop := w.heap[g]? = some (.cells #[.int .i64 (f 0), .int .i64 (f 1), .int .i64 (f 2), .int .i64 (f 3), .int .i64 (f 4), .int .i64 (f 5), .int .i64 (f 6)] 26 (0, 0))
theorem Blk7.at7 {w : World} {g : Nat} {f : V7} (h : Blk7 w g f) : At7 w g 0 f := by
  intro i hi
  have h' : w.heap[g]? = _ := h
  simp only [World.cell?, h', Nat.zero_add]
  exact vf_get f i hi
theorem Blk7.fr7 {w : World} {g : Nat} {f : V7} (h : Blk7 w g f) : Fr7 w g 0 := by
  intro i hi
  have h' : w.heap[g]? = _ := h
  simp [World.frozen?, h']
theorem Blk7.no {w : World} {g : Nat} {f : V7} (h : Blk7 w g f) : ∀ ad v, w.cell? ad = some v → ad.block = g → ∀ n, v ≠ .int .u8 n := by
  intro ad v hc hb n hv
  subst hb hv
  have h' : w.heap[ad.block]? = _ := h
  obtain ⟨b, o, s⟩ := ad
  simp only [World.cell?, h'] at hc
  split at hc
  · cases hc
  · rw [Array.getElem?_eq_some_iff] at hc
    obtain ⟨hl, hc⟩ := hc
    simp at hl
    match o, hl with
    | 0, _ => simp at hc
    | 1, _ => simp at hc
    | 2, _ => simp at hc
    | 3, _ => simp at hc
    | 4, _ => simp at hc
    | 5, _ => simp at hc
    | 6, _ => simp at hc
theorem Blk7.ext {w w' : World} {g : Nat} {f : V7} (h : Blk7 w g f) (e : Ext w w') : Blk7 w' g f := by
  have hl : g < w.heap.size := h.at7.lt
  unfold Blk7
  rw [e.out.block g hl]
  exact h
theorem Blk7.but {w w' : World} {g k : Nat} {f : V7} (h : Blk7 w g f) (e : But k w w') (hne : g ≠ k) : Blk7 w' g f := by
  unfold Blk7
  rw [e.block g h.at7.lt hne]
  exact h
theorem Blk7.set {w : World} {g : Nat} {f : V7} (h : Blk7 w g f) {k : Nat} (hk : k < 7) (x : Int) : Blk7 (w.setCell ⟨g, k, none⟩ (.int .i64 x)) g (upd f k x) := by
  have h' := Joins.block_setCell h (i := k) (.int .i64 x)
  unfold Blk7
  rw [h']
  congr 2
  match k, hk with
  | 0, _ => rfl
  | 1, _ => rfl
  | 2, _ => rfl
  | 3, _ => rfl
  | 4, _ => rfl
  | 5, _ => rfl
  | 6, _ => rfl
theorem Blk7.new (w : World) (f : V7) (h : Nat) (hh : w.heap.size = h) {w1 : World} (H : Hid (w.alloc (.cells #[.int .i64 (f 0), .int .i64 (f 1), .int .i64 (f 2), .int .i64 (f 3), .int .i64 (f 4), .int .i64 (f 5), .int .i64 (f 6)] 26) = w1)) : Blk7 w1 h f := by
  subst hh
  rw [← H.out]
  exact heap_alloc_new _ _

theorem But.new {g j : Nat} {w W w' : World} (h : But g w W) (k : But j W w') (hj : w.heap.size ≤ j) : But g w w' :=
  ⟨k.os.trans h.os, k.tape.trans h.tape, k.output.trans h.output, Nat.le_trans h.size k.size, fun i hi hg => (k.block i (Nat.lt_of_lt_of_le hi h.size) (by omega)).trans (h.block i hi hg)⟩
theorem But.put7'' {w w0 w1 : World} {g : Nat} {f' : V7} (hb : But g w0 w) (H : Hid ((((((((w.setCell ⟨g, 0, none⟩ (.int .i64 (f' 0))).setCell ⟨g, 1, none⟩ (.int .i64 (f' 1))).setCell ⟨g, 2, none⟩ (.int .i64 (f' 2))).setCell ⟨g, 3, none⟩ (.int .i64 (f' 3))).setCell ⟨g, 4, none⟩ (.int .i64 (f' 4))).setCell ⟨g, 5, none⟩ (.int .i64 (f' 5))).setCell ⟨g, 6, none⟩ (.int .i64 (f' 6))) = w1)) : But g w0 w1 := by
  rw [← H.out]
  exact ((((((hb.setCell _ _).setCell _ _).setCell _ _).setCell _ _).setCell _ _).setCell _ _).setCell _ _

/-- What Get reads, number by number. -/
def getV (l : List UInt8) (bad : Bool) (most : Int) : Nat → V7 × List UInt8 × Bool
  | 0 => (fun _ => 0, l, bad)
  | k + 1 => (upd (getV l bad most k).1 k (rdNum (getV l bad most k).2.1 (getV l bad most k).2.2 0 most).1, (rdNum (getV l bad most k).2.1 (getV l bad most k).2.2 0 most).2.1, (rdNum (getV l bad most k).2.1 (getV l bad most k).2.2 0 most).2.2)

/-- What Get answers and leaves. -/
def getR (l : List UInt8) (bad : Bool) (most : Int) : V7 × List UInt8 × Bool :=
  ((if (getV l bad most 7).2.2 = true then fun _ => 0 else (getV l bad most 7).1), (getV l bad most 7).2.1, (getV l bad most 7).2.2)
theorem getR_bad {l b : List UInt8} {bad : Bool} {most : Int} {f : V7} (h : getV l bad most 7 = (f, b, true)) : getR l bad most = (fun _ => 0, b, true) := by simp [getR, h]
theorem getR_ok {l b : List UInt8} {bad : Bool} {most : Int} {f : V7} (h : getV l bad most 7 = (f, b, false)) : getR l bad most = (f, b, false) := by simp [getR, h]
set_option maxHeartbeats 1000000 in
theorem vget_any (g : Nat) (l : List UInt8) (bad : Bool) (w : World) (h : Rd w g l bad) :
    Calls Tryd.prog 22 #[.pointer (some ⟨g, 0, none⟩)] w fun e w' => e = .returned (vf (getR l bad 1099511627776).1) ∧ Rd w' g (getR l bad 1099511627776).2.1 (getR l bad 1099511627776).2.2 ∧ But g w w' := by
  obtain ⟨h0, Hh⟩ : ∃ h, Hid (w.heap.size = h) := ⟨_, Lib.hid rfl⟩
  obtain ⟨w1, H1, S1, hx1, -, -, -⟩ := alloc7 w (fun _ => 0) 26 h0 Hh.out
  obtain ⟨w2, H2, S2, hx2, -, -, -⟩ := alloc7 w1 (fun _ => 0) 26 (h0 + 1) S1.out
  have q1 : Blk7 w1 h0 (fun _ => 0) := Blk7.new w (fun _ => 0) h0 Hh.out H1
  have q2 : Blk7 w2 (h0 + 1) (fun _ => 0) := Blk7.new w1 (fun _ => 0) (h0 + 1) S1.out H2
  have q1' := q1.ext hx2
  have hR := h.ext (hx1.trans hx2)
  have hgl : g < h0 := by rw [← Hh.out]; exact h.lt
  have hB0 : But g w w2 := But.of_ext (hx1.trans hx2)
  have hh := Hh.out
  have s1 := S1.out
  have h1 := H1.out
  have h2 := H2.out
  go_enter Tryd.func22, Tryd.ntmps22
  go_wp2
  clear h1 h2 s1 hh q1
  go_loopw [5] (fun i wr => ∃ (k : Nat) (f : V7) (b : List UInt8) (bd : Bool), k ≤ 7 ∧ i = .int .i64 k ∧ Hid (getV l bad 1099511627776 k = (f, b, bd)) ∧ Rd wr g b bd ∧ Blk7 wr h0 (fun _ => 0) ∧ Blk7 wr (h0 + 1) f ∧ But g w wr) (fun i _ => 7 - (intOf i).toNat)
  case atStart => exact ⟨0, _, l, bad, by omega, rfl, Lib.hid rfl, hR, q1', q2, hB0⟩
  case round =>
    obtain ⟨k, f, b, bd, hk, rfl, HG, hr, p1, p2, hB⟩ := hrel
    by_cases hkl : k < 7
    · have HG1 : getV l bad 1099511627776 (k + 1) = (upd f k (rdNum b bd 0 1099511627776).1, (rdNum b bd 0 1099511627776).2.1, (rdNum b bd 0 1099511627776).2.2) := by simp only [getV, HG.out]
      obtain ⟨x, b', bd', Hr⟩ : ∃ x b' bd', Hid (rdNum b bd 0 1099511627776 = (x, b', bd')) := ⟨_, _, _, Lib.hid rfl⟩
      rw [Hr.out] at HG1
      have HG2 := Lib.hid HG1
      clear HG1
      have cn := fun W hW => rnum_any g b bd 0 1099511627776 W hW
      rw [Hr.out] at cn
      go_wp2_with fail
      refine (cn _ hr).mono ?_
      rintro e w3 ⟨rfl, hr3, hB3⟩
      have p1' := p1.but hB3 (by omega)
      have p2' := p2.but hB3 (by omega)
      have c0 := p2'.at7.zero k hkl
      have f0 := p2'.fr7.zero k hkl
      have hset := p2'.set hkl x
      clear cn
      go_wp2
      go_roundw
      case rel =>
        have hBB : But (h0 + 1) w3 (w3.setCell ⟨h0 + 1, k, none⟩ (.int .i64 x)) := (But.refl _ _).setCell _ _
        refine ⟨k + 1, _, b', bd', by omega, by go_num, HG2, hr3.but hBB (by omega) p2'.no, p1'.but hBB (by omega), hset, (hB.trans hB3).new hBB (by rw [Hh.out]; omega)⟩
      case measure => simp [intOf]; omega
    · have hk7 : k = 7 := by omega
      subst hk7
      have cb := fun W hW => bad_any g b bd W hW
      go_wp2_with fail
      refine (cb _ hr).mono ?_
      rintro e w3 ⟨rfl, rfl⟩
      clear cb
      cases bd with
      | true =>
        obtain ⟨w5, H5, hP, -, -, -, -⟩ := put7 wr h0 _ (fun _ => 0) p1.at7
        have hBB : But h0 wr w5 := But.put7'' (f' := (fun _ => 0)) (But.refl _ _) H5
        obtain ⟨a0, a1, a2, a3, a4, a5, a6⟩ := p2.at7.cells0
        obtain ⟨c0, c1, c2, c3, c4, c5, c6⟩ := p1.at7.cells0
        obtain ⟨d0, d1, d2, d3, d4, d5, d6⟩ := hP.cells0
        obtain ⟨f0, f1, f2, f3, f4, f5, f6⟩ := p1.fr7.cells0
        have h5 := H5.out
        clear hP
        go_wp2
        refine bodyPost_ret (v := vf (fun _ => 0)) (by simp [results, Tryd.results22, go_sem, vf, d0, d1, d2, d3, d4, d5, d6]) rfl ?_
        rw [getR_bad HG.out]
        exact ⟨rfl, hr.but hBB (by omega) p1.no, hB.new hBB (by rw [Hh.out]; exact Nat.le_refl _)⟩
      | false =>
        obtain ⟨w5, H5, hP, -, -, -, -⟩ := put7 wr h0 _ f p1.at7
        have hBB : But h0 wr w5 := But.put7'' (f' := f) (But.refl _ _) H5
        obtain ⟨a0, a1, a2, a3, a4, a5, a6⟩ := p2.at7.cells0
        obtain ⟨c0, c1, c2, c3, c4, c5, c6⟩ := p1.at7.cells0
        obtain ⟨d0, d1, d2, d3, d4, d5, d6⟩ := hP.cells0
        obtain ⟨f0, f1, f2, f3, f4, f5, f6⟩ := p1.fr7.cells0
        have h5 := H5.out
        clear hP
        go_wp2
        refine bodyPost_ret (v := vf f) (by simp [results, Tryd.results22, go_sem, vf, d0, d1, d2, d3, d4, d5, d6]) rfl ?_
        rw [getR_ok HG.out]
        exact ⟨rfl, hr.but hBB (by omega) p1.no, hB.new hBB (by rw [Hh.out]; exact Nat.le_refl _)⟩

end Go.Proofs.YtlffbappgfimeaaDoor
