/- ShDot: the walks of vec.Dot, the reference's May, long, sh, both Ready. -/
import Derived.Test.YtlffbappgfimeaaDoorShBase
set_option linter.unusedVariables false
set_option linter.unusedSimpArgs false
set_option maxRecDepth 100000
set_option maxHeartbeats 1000000
namespace Go.Proofs.YtlffbappgfimeaaDoor
open Go.RowKit Go.Proofs.YtlffbappgfimeaaDoorW.PrintWords Go.Proofs.YtlffbappgfimeaaDoorW.PrintLast

def dot7 (r n : Int) : Bool := rep7 r && decide (1 ≤ n) && decide (n ≤ 1099511627776)
theorem dot_any (r n : Int) (w : World) :
    Calls Tryd.prog 28 #[dotv r n] w fun e w' => e = .returned (.bool (dot7 r n)) ∧ Ext w w' := by
  obtain ⟨h, Hh⟩ : ∃ h, Hid (w.heap.size = h) := ⟨_, Lib.hid rfl⟩
  obtain ⟨w1, H1, S1, hx1, ⟨d0, d1⟩, -, -⟩ := alloc2 w r n 24 h Hh.out
  have hh := Hh.out
  have h1 := H1.out
  unfold dotv
  go_enter Tryd.func28, Tryd.ntmps28
  go_wp2_with fail
  refine (rep_any r _).mono ?_
  rintro e w' ⟨rfl, rfl⟩
  clear h1 hh
  cases q : rep7 r with
  | false =>
    go_wp2
    go_ret
    exact ⟨by simp [dot7, q] <;> (intros; omega), hx1⟩
  | true =>
    by_cases q1 : 1 ≤ n
    · go_wp2
      go_ret
      exact ⟨by simp [dot7, q, q1] <;> (intros; omega), hx1⟩
    · go_wp2
      go_ret
      exact ⟨by simp [dot7, q, q1] <;> (intros; omega), hx1⟩

theorem may_any (r n : Int) (w : World) :
    Calls Tryd.prog 35 #[dotv r n] w fun e w' => e = .returned (.bool (dot7 r n)) ∧ Ext w w' := by
  obtain ⟨h, Hh⟩ : ∃ h, Hid (w.heap.size = h) := ⟨_, Lib.hid rfl⟩
  obtain ⟨w1, H1, S1, hx1, ⟨d0, d1⟩, -, -⟩ := alloc2 w r n 24 h Hh.out
  have hh := Hh.out
  have h1 := H1.out
  unfold dotv
  go_enter Tryd.func35, Tryd.ntmps35
  by_cases q0 : 0 ≤ r
  · by_cases q7 : r < 7
    · by_cases q1 : 1 ≤ n
      · go_wp2
        go_ret
        exact ⟨by simp [dot7, rep7, q0, q7, q1] <;> (intros; omega), hx1⟩
      · go_wp2
        go_ret
        exact ⟨by simp [dot7, rep7, q0, q7, q1] <;> (intros; omega), hx1⟩
    · go_wp2
      go_ret
      exact ⟨by simp [dot7, rep7, q0, q7] <;> (intros; omega), hx1⟩
  · go_wp2
    go_ret
    exact ⟨by simp [dot7, rep7, q0] <;> (intros; omega), hx1⟩

def longS (key text : ByteArray) : Bool := decide (100 < (key.size : Int)) || decide (150 < (text.size : Int))
theorem long_any (r n : Int) (v : V7) (k : Int) (key text : ByteArray) (b t : Int) (w : World) :
    Calls Tryd.prog 12 #[shv r n v k key text b t] w fun e w' => e = .returned (.bool (longS key text)) ∧ Ext w w' := by
  obtain ⟨h, Hh⟩ : ∃ h, Hid (w.heap.size = h) := ⟨_, Lib.hid rfl⟩
  obtain ⟨w1, H1, S1, hx1, hb⟩ := allocS w r n v k key text b t 28 h Hh.out
  obtain ⟨c0, c1, c2, c3, c4, c5, c6, c7, c8, c9, c10, c11, c12, c13⟩ := hb.cells
  have hh := Hh.out
  have h1 := H1.out
  unfold shv
  go_enter Tryd.func12, Tryd.ntmps12
  by_cases q0 : 100 < key.size
  · go_wp2
    go_ret
    exact ⟨by rw [longS, decide_eq_true (by omega : 100 < (key.size : Int)), Bool.true_or]; rfl, hx1⟩
  · go_wp2
    go_ret
    exact ⟨by rw [longS, decide_eq_false (by omega : ¬ (100 < (key.size : Int))), Bool.false_or]; rfl, hx1⟩

theorem sh_any (r n : Int) (v : V7) (k : Int) (key text : ByteArray) (b t : Int) (w : World) :
    Calls Tryd.prog 15 #[shv r n v k key text b t] w fun e w' => e = .returned (shv r n v k key text b t) ∧ Ext w w' := by
  obtain ⟨h, Hh⟩ : ∃ h, Hid (w.heap.size = h) := ⟨_, Lib.hid rfl⟩
  obtain ⟨w1, H1, S1, hx1, hb⟩ := allocS w r n v k key text b t 28 h Hh.out
  obtain ⟨w2, H2, S2, hx2, hb2⟩ := allocS w1 0 0 (fun _ => 0) 0 ⟨#[]⟩ ⟨#[]⟩ 0 0 38 (h + 1) S1.out
  have hb1 := hb.ext hx2
  obtain ⟨c0, c1, c2, c3, c4, c5, c6, c7, c8, c9, c10, c11, c12, c13⟩ := hb1.cells
  obtain ⟨d0, d1, d2, d3, d4, d5, d6, d7, d8, d9, d10, d11, d12, d13⟩ := hb2.cells
  obtain ⟨f0, f1, f2, f3, f4, f5, f6, f7, f8, f9, f10, f11, f12, f13⟩ := hb2.frs
  obtain ⟨w3, H3, hb3, kx, kb, S3⟩ := putS (r' := r) (n' := n) (v' := v) (k' := k) (key' := key) (text' := text) (b' := b) (t' := t) (h := hb2)
  obtain ⟨e0, e1, e2, e3, e4, e5, e6, e7, e8, e9, e10, e11, e12, e13⟩ := hb3.cells
  have hX := kx w (hx1.trans hx2) (by have := Hh.out; omega)
  have hh := Hh.out
  have s1 := S1.out
  have h1 := H1.out
  have h2 := H2.out
  have h3 := H3.out
  unfold shv
  go_enter Tryd.func15, Tryd.ntmps15
  go_wp2
  refine bodyPost_ret (v := shv r n v k key text b t) (by simp [results, Tryd.results15, go_sem, shv, e0, e1, e2, e3, e4, e5, e6, e7, e8, e9, e10, e11, e12, e13]) rfl ⟨rfl, hX⟩

def readyS (r n : Int) (v have_ : V7) : Bool := !has7 have_ r n && le7 v have_
theorem ready_any (r n : Int) (v : V7) (k : Int) (key text : ByteArray) (b t : Int) (a : V7) (w : World) :
    Calls Tryd.prog 11 #[shv r n v k key text b t, vf a] w fun e w' => e = .returned (.bool (readyS r n v a)) ∧ Ext w w' := by
  obtain ⟨h, Hh⟩ : ∃ h, Hid (w.heap.size = h) := ⟨_, Lib.hid rfl⟩
  obtain ⟨w1, H1, S1, hx1, hb⟩ := allocS w r n v k key text b t 28 h Hh.out
  obtain ⟨w2, H2, S2, hx2, ha, -, -⟩ := alloc7 w1 a 26 (h + 1) S1.out
  have hX := hx1.trans hx2
  have hb1 := hb.ext hx2
  obtain ⟨c0, c1, c2, c3, c4, c5, c6, c7, c8, -, -, -, -, -⟩ := hb1.cells
  obtain ⟨a0, a1, a2, a3, a4, a5, a6⟩ := ha.cells0
  have hh := Hh.out
  have s1 := S1.out
  have h1 := H1.out
  have h2 := H2.out
  have k1 := fun W => has_any a r n W
  have k2 := fun W => le_any v a W
  unfold shv
  unfold vf dotv at *
  go_enter Tryd.func11, Tryd.ntmps11
  go_wp2_with fail
  clear h1 h2 hh s1
  refine (k1 _).mono ?_
  rintro e w3 ⟨rfl, x3⟩
  have hb3 := hb1.ext x3
  have ha3 := ha.ext x3
  have hX3 := hX.trans x3
  obtain ⟨d0, d1, d2, d3, d4, d5, d6, d7, d8, -, -, -, -, -⟩ := hb3.cells
  obtain ⟨b0, b1, b2, b3, b4, b5, b6⟩ := ha3.cells0
  cases q : has7 a r n with
  | true =>
    go_wp2
    go_ret
    exact ⟨by simp [readyS, q], hX3⟩
  | false =>
    go_wp2_with fail
    refine (k2 _).mono ?_
    rintro e w4 ⟨rfl, x4⟩
    go_wp2
    go_ret
    exact ⟨by simp [readyS, q], hX3.trans x4⟩
theorem refready_any (r n : Int) (v : V7) (k : Int) (key text : ByteArray) (b t : Int) (a : V7) (w : World) :
    Calls Tryd.prog 17 #[shv r n v k key text b t, vf a] w fun e w' => e = .returned (.bool (readyS r n v a)) ∧ Ext w w' := by
  obtain ⟨h, Hh⟩ : ∃ h, Hid (w.heap.size = h) := ⟨_, Lib.hid rfl⟩
  obtain ⟨w1, H1, S1, hx1, hb⟩ := allocS w r n v k key text b t 38 h Hh.out
  obtain ⟨w2, H2, S2, hx2, ha, -, -⟩ := alloc7 w1 a 36 (h + 1) S1.out
  have hX := hx1.trans hx2
  have hb1 := hb.ext hx2
  obtain ⟨c0, c1, c2, c3, c4, c5, c6, c7, c8, -, -, -, -, -⟩ := hb1.cells
  obtain ⟨a0, a1, a2, a3, a4, a5, a6⟩ := ha.cells0
  have hh := Hh.out
  have s1 := S1.out
  have h1 := H1.out
  have h2 := H2.out
  have k1 := fun W => refhas_any a r n W
  have k2 := fun W => refle_any v a W
  unfold shv
  unfold vf dotv at *
  go_enter Tryd.func17, Tryd.ntmps17
  go_wp2_with fail
  clear h1 h2 hh s1
  refine (k1 _).mono ?_
  rintro e w3 ⟨rfl, x3⟩
  have hb3 := hb1.ext x3
  have ha3 := ha.ext x3
  have hX3 := hX.trans x3
  obtain ⟨d0, d1, d2, d3, d4, d5, d6, d7, d8, -, -, -, -, -⟩ := hb3.cells
  obtain ⟨b0, b1, b2, b3, b4, b5, b6⟩ := ha3.cells0
  cases q : has7 a r n with
  | true =>
    go_wp2
    go_ret
    exact ⟨by simp [readyS, q], hX3⟩
  | false =>
    go_wp2_with fail
    refine (k2 _).mono ?_
    rintro e w4 ⟨rfl, x4⟩
    go_wp2
    go_ret
    exact ⟨by simp [readyS, q], hX3.trans x4⟩
end Go.Proofs.YtlffbappgfimeaaDoor
