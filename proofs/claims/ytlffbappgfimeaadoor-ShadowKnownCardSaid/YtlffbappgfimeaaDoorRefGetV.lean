/- RefGetV: the walk of the reference's GetVec. -/
import Derived.Test.YtlffbappgfimeaaDoorVecPG
import Derived.Test.YtlffbappgfimeaaDoorPackRel
set_option linter.unusedVariables false
set_option linter.unusedSimpArgs false
set_option maxRecDepth 100000
namespace Go.Proofs.YtlffbappgfimeaaDoor
open Go.RowKit Go.Proofs.YtlffbappgfimeaaDoorW.PrintWords PackPure

/-- A whole block of seven. -/
def Bk7 (w : World) (g : Nat) (f : V7) : Prop := w.heap[g]? = some (.cells #[.int .i64 (f 0), .int .i64 (f 1), .int .i64 (f 2), .int .i64 (f 3), .int .i64 (f 4), .int .i64 (f 5), .int .i64 (f 6)] 36 (0, 0))
theorem Bk7.at7 {w : World} {g : Nat} {f : V7} (h : Bk7 w g f) : At7 w g 0 f := by
  intro i hi
  have h' : w.heap[g]? = _ := h
  simp only [World.cell?, h', Nat.zero_add]
  exact vf_get f i hi
theorem Bk7.fr7 {w : World} {g : Nat} {f : V7} (h : Bk7 w g f) : Fr7 w g 0 := by
  intro i hi
  have h' : w.heap[g]? = _ := h
  simp [World.frozen?, h']
theorem Bk7.no {w : World} {g : Nat} {f : V7} (h : Bk7 w g f) : ∀ ad v, w.cell? ad = some v → ad.block = g → ∀ n, v ≠ .int .u8 n := by
  intro ad v hc hb n hv
  subst hb hv
  have h' : w.heap[ad.block]? = _ := h
  obtain ⟨b, o, s⟩ := ad
  simp only [World.cell?, h'] at hc
  split at hc
  · cases hc
  · rw [Array.getElem?_eq_some_iff] at hc
    obtain ⟨hl, hc⟩ := hc
    simp at hl
    match o, hl with
    | 0, _ => simp at hc
    | 1, _ => simp at hc
    | 2, _ => simp at hc
    | 3, _ => simp at hc
    | 4, _ => simp at hc
    | 5, _ => simp at hc
    | 6, _ => simp at hc
theorem Bk7.ext {w w' : World} {g : Nat} {f : V7} (h : Bk7 w g f) (e : Ext w w') : Bk7 w' g f := by
  have hl : g < w.heap.size := h.at7.lt
  unfold Bk7
  rw [e.out.block g hl]
  exact h
theorem Bk7.but {w w' : World} {g k : Nat} {f : V7} (h : Bk7 w g f) (e : But k w w') (hne : g ≠ k) : Bk7 w' g f := by
  unfold Bk7
  rw [e.block g h.at7.lt hne]
  exact h
theorem Bk7.set {w : World} {g : Nat} {f : V7} (h : Bk7 w g f) {k : Nat} (hk : k < 7) (x : Int) : Bk7 (w.setCell ⟨g, k, none⟩ (.int .i64 x)) g (upd f k x) := by
  have h' := Joins.block_setCell h (i := k) (.int .i64 x)
  unfold Bk7
  rw [h']
  congr 2
  match k, hk with
  | 0, _ => rfl
  | 1, _ => rfl
  | 2, _ => rfl
  | 3, _ => rfl
  | 4, _ => rfl
  | 5, _ => rfl
  | 6, _ => rfl
theorem Bk7.new (w : World) (f : V7) (h : Nat) (hh : w.heap.size = h) {w1 : World} (H : Hid (w.alloc (.cells #[.int .i64 (f 0), .int .i64 (f 1), .int .i64 (f 2), .int .i64 (f 3), .int .i64 (f 4), .int .i64 (f 5), .int .i64 (f 6)] 36) = w1)) : Bk7 w1 h f := by
  subst hh
  rw [← H.out]
  exact heap_alloc_new _ _


theorem RQ.bad2 {w : World} {g : Nat} {b l : List UInt8} {bad : Bool} (h : RQ w g b l bad) : w.cell? ⟨g, 2, none⟩ = some (.bool bad) := by
  obtain ⟨k, h1, h2⟩ := h
  obtain ⟨A, c, hh, h0, h1, h2, f0, f1, f2, hl, ha, hB⟩ := h1.cells
  exact h2
theorem Bk7.put {w w1 : World} {g : Nat} {f f' : V7} (h : Bk7 w g f) (H : Hid ((((((((w.setCell ⟨g, 0, none⟩ (.int .i64 (f' 0))).setCell ⟨g, 1, none⟩ (.int .i64 (f' 1))).setCell ⟨g, 2, none⟩ (.int .i64 (f' 2))).setCell ⟨g, 3, none⟩ (.int .i64 (f' 3))).setCell ⟨g, 4, none⟩ (.int .i64 (f' 4))).setCell ⟨g, 5, none⟩ (.int .i64 (f' 5))).setCell ⟨g, 6, none⟩ (.int .i64 (f' 6))) = w1)) : Bk7 w1 g f' := by
  have s := ((((((h.set (k := 0) (by omega) (f' 0)).set (k := 1) (by omega) (f' 1)).set (k := 2) (by omega) (f' 2)).set (k := 3) (by omega) (f' 3)).set (k := 4) (by omega) (f' 4)).set (k := 5) (by omega) (f' 5)).set (k := 6) (by omega) (f' 6)
  rw [← H.out]
  exact s

set_option maxHeartbeats 1000000 in
theorem rvget_any (g : Nat) (b0 l : List UInt8) (bad : Bool) (w : World) (h : RQ w g b0 l bad) (hm0 : b0.length ≤ 140737488355000) :
    Calls Tryd.prog 32 #[.pointer (some ⟨g, 0, none⟩)] w fun e w' => e = .returned (vf (getR l bad 1099511627776).1) ∧ RQ w' g b0 (getR l bad 1099511627776).2.1 (getR l bad 1099511627776).2.2 ∧ But g w w' := by
  obtain ⟨h0, Hh⟩ : ∃ h, Hid (w.heap.size = h) := ⟨_, Lib.hid rfl⟩
  obtain ⟨w1, H1, S1, hx1, -, -, -⟩ := alloc7 w (fun _ => 0) 36 h0 Hh.out
  obtain ⟨w2, H2, S2, hx2, hz2, fz2, -⟩ := alloc7 w1 (fun _ => 0) 36 (h0 + 1) S1.out
  have q1 : Bk7 w1 h0 (fun _ => 0) := Bk7.new w (fun _ => 0) h0 Hh.out H1
  have q2 : Bk7 w2 (h0 + 1) (fun _ => 0) := Bk7.new w1 (fun _ => 0) (h0 + 1) S1.out H2
  obtain ⟨w3, H3, -, kx3, -, -, -⟩ := put7 w2 (h0 + 1) _ (fun _ => 0) hz2
  have q3 : Bk7 w3 (h0 + 1) (fun _ => 0) := q2.put (f' := fun _ => 0) H3
  have hx13 : Ext w1 w3 := kx3 _ hx2 (by rw [S1.out]; exact Nat.le_refl _)
  have q1' := q1.ext hx13
  have hR := h.ext (hx1.trans hx13)
  have hgl : g < h0 := by rw [← Hh.out]; exact h.lt
  have hB0 : But g w w3 := But.of_ext (hx1.trans hx13)
  obtain ⟨y0, y1, y2, y3, y4, y5, y6⟩ := hz2.cells0
  obtain ⟨z0, z1, z2, z3, z4, z5, z6⟩ := fz2.cells0
  have hh := Hh.out
  have s1 := S1.out
  have h1 := H1.out
  have h2 := H2.out
  have h3 := H3.out
  go_enter Tryd.func32, Tryd.ntmps32
  go_wp2
  clear h1 h2 h3 s1 hh q1 y0 y1 y2 y3 y4 y5 y6 z0 z1 z2 z3 z4 z5 z6
  go_loopw [4] (fun i wr => ∃ (k : Nat) (f : V7) (b : List UInt8) (bd : Bool), k ≤ 7 ∧ i = .int .i64 k ∧ Hid (getV l bad 1099511627776 k = (f, b, bd)) ∧ RQ wr g b0 b bd ∧ Bk7 wr h0 (fun _ => 0) ∧ Bk7 wr (h0 + 1) f ∧ But g w wr) (fun i _ => 7 - (intOf i).toNat)
  case atStart => exact ⟨0, _, l, bad, by omega, rfl, Lib.hid rfl, hR, q1', q3, hB0⟩
  case round =>
    obtain ⟨k, f, b, bd, hk, rfl, HG, hr, p1, p2, hB⟩ := hrel
    by_cases hkl : k < 7
    · have HG1 : getV l bad 1099511627776 (k + 1) = (upd f k (rdNum b bd 0 1099511627776).1, (rdNum b bd 0 1099511627776).2.1, (rdNum b bd 0 1099511627776).2.2) := by simp only [getV, HG.out]
      obtain ⟨x, b', bd', Hr⟩ : ∃ x b' bd', Hid (rdNum b bd 0 1099511627776 = (x, b', bd')) := ⟨_, _, _, Lib.hid rfl⟩
      rw [Hr.out] at HG1
      have HG2 := Lib.hid HG1
      clear HG1
      have cn := fun W hW => refnum_rel g b0 b bd 0 1099511627776 W hW hm0
      rw [Hr.out] at cn
      go_wp2_with fail
      refine (cn _ hr).mono ?_
      rintro e w4 ⟨rfl, hr3, hB3⟩
      have p1' := p1.but hB3 (by omega)
      have p2' := p2.but hB3 (by omega)
      have c0 := p2'.at7.zero k hkl
      have f0 := p2'.fr7.zero k hkl
      have hset := p2'.set hkl x
      clear cn
      go_wp2
      go_roundw
      case rel =>
        have hBB : But (h0 + 1) w4 (w4.setCell ⟨h0 + 1, k, none⟩ (.int .i64 x)) := (But.refl _ _).setCell _ _
        exact ⟨k + 1, _, b', bd', by omega, by go_num, HG2, hr3.but hBB (by omega) p2'.no, p1'.but hBB (by omega), hset, (hB.trans hB3).new hBB (by rw [Hh.out]; omega)⟩
      case measure => simp [intOf]; omega
    · have hk7 : k = 7 := by omega
      subst hk7
      have hbad := hr.bad2
      cases bd with
      | true =>
        obtain ⟨w5, H5, hP, -, -, -, -⟩ := put7 wr h0 _ (fun _ => 0) p1.at7
        have hBB : But h0 wr w5 := But.put7'' (f' := (fun _ => 0)) (But.refl _ _) H5
        obtain ⟨a0, a1, a2, a3, a4, a5, a6⟩ := p2.at7.cells0
        obtain ⟨c0, c1, c2, c3, c4, c5, c6⟩ := p1.at7.cells0
        obtain ⟨d0, d1, d2, d3, d4, d5, d6⟩ := hP.cells0
        obtain ⟨f0, f1, f2, f3, f4, f5, f6⟩ := p1.fr7.cells0
        have h5 := H5.out
        clear hP
        go_wp2
        refine bodyPost_ret (v := vf (fun _ => 0)) (by simp [results, Tryd.results32, go_sem, vf, d0, d1, d2, d3, d4, d5, d6]) rfl ?_
        rw [getR_bad HG.out]
        exact ⟨rfl, hr.but hBB (by omega) p1.no, hB.new hBB (by rw [Hh.out]; exact Nat.le_refl _)⟩
      | false =>
        obtain ⟨w5, H5, hP, -, -, -, -⟩ := put7 wr h0 _ f p1.at7
        have hBB : But h0 wr w5 := But.put7'' (f' := f) (But.refl _ _) H5
        obtain ⟨a0, a1, a2, a3, a4, a5, a6⟩ := p2.at7.cells0
        obtain ⟨c0, c1, c2, c3, c4, c5, c6⟩ := p1.at7.cells0
        obtain ⟨d0, d1, d2, d3, d4, d5, d6⟩ := hP.cells0
        obtain ⟨f0, f1, f2, f3, f4, f5, f6⟩ := p1.fr7.cells0
        have h5 := H5.out
        clear hP
        go_wp2
        refine bodyPost_ret (v := vf f) (by simp [results, Tryd.results32, go_sem, vf, d0, d1, d2, d3, d4, d5, d6]) rfl ?_
        rw [getR_ok HG.out]
        exact ⟨rfl, hr.but hBB (by omega) p1.no, hB.new hBB (by rw [Hh.out]; exact Nat.le_refl _)⟩

end Go.Proofs.YtlffbappgfimeaaDoor
