/- TallyAp: the walks of tally.Up, Down, awake, and of the law TallyApart. -/
import Derived.Test.YtaiofbagdcpfgaaTallyMerge
set_option linter.unusedVariables false
set_option linter.unusedSimpArgs false
set_option maxRecDepth 100000
namespace Go.Proofs.Ytaiofbagdcpfgaa
open Go.RowKit Go.Proofs.YtaiofbagdcpfgaaW.PrintWords Go.Proofs.YtaiofbagdcpfgaaW.PrintLast

theorem tup_any (g : Nat) (u d : V7) (w : World) (h : TT w g u d) :
    Calls Try.prog 63 #[.pointer (some ⟨g, 0, none⟩)] w fun e w' => e = .returned (vf u) ∧ Ext w w' := by
  obtain ⟨h0, Hh⟩ : ∃ h, Hid (w.heap.size = h) := ⟨_, Lib.hid rfl⟩
  obtain ⟨w1, H1, S1, hx1, hz1, fz1, -⟩ := alloc7 w (fun _ => 0) 50 h0 Hh.out
  have hh := Hh.out
  have h1 := H1.out
  obtain ⟨a0, a1, a2, a3, a4, a5, a6⟩ := (h.up.ext hx1).cells0
  obtain ⟨w5, H5, hP, kx, -, -, -⟩ := put7 w1 h0 _ u hz1
  obtain ⟨c0, c1, c2, c3, c4, c5, c6⟩ := hz1.cells0
  obtain ⟨d0, d1, d2, d3, d4, d5, d6⟩ := hP.cells0
  obtain ⟨f0, f1, f2, f3, f4, f5, f6⟩ := fz1.cells0
  have h5 := H5.out
  clear hP
  go_enter Try.func63, Try.ntmps63
  go_wp2
  refine bodyPost_ret (v := vf u) (by simp [results, Try.results63, go_sem, vf, d0, d1, d2, d3, d4, d5, d6]) rfl ⟨rfl, kx _ hx1 (by rw [Hh.out]; exact Nat.le_refl _)⟩

theorem tdown_any (g : Nat) (u d : V7) (w : World) (h : TT w g u d) :
    Calls Try.prog 64 #[.pointer (some ⟨g, 0, none⟩)] w fun e w' => e = .returned (vf d) ∧ Ext w w' := by
  obtain ⟨h0, Hh⟩ : ∃ h, Hid (w.heap.size = h) := ⟨_, Lib.hid rfl⟩
  obtain ⟨w1, H1, S1, hx1, hz1, fz1, -⟩ := alloc7 w (fun _ => 0) 50 h0 Hh.out
  have hh := Hh.out
  have h1 := H1.out
  obtain ⟨a0, a1, a2, a3, a4, a5, a6⟩ := (h.down.ext hx1).cells7
  obtain ⟨w5, H5, hP, kx, -, -, -⟩ := put7 w1 h0 _ d hz1
  obtain ⟨c0, c1, c2, c3, c4, c5, c6⟩ := hz1.cells0
  obtain ⟨d0, d1, d2, d3, d4, d5, d6⟩ := hP.cells0
  obtain ⟨f0, f1, f2, f3, f4, f5, f6⟩ := fz1.cells0
  have h5 := H5.out
  clear hP
  go_enter Try.func64, Try.ntmps64
  go_wp2
  refine bodyPost_ret (v := vf d) (by simp [results, Try.results64, go_sem, vf, d0, d1, d2, d3, d4, d5, d6]) rfl ⟨rfl, kx _ hx1 (by rw [Hh.out]; exact Nat.le_refl _)⟩

theorem awake10_any (w : World) :
    Calls Try.prog 21 #[] w fun e w' => e = .returned (.bool true) ∧ Ext w w' := by
  go_enter Try.func21, Try.ntmps21
  go_wp2_with fail
  refine (tnew_any _).mono ?_
  rintro e w1 ⟨rfl, ht, hx1⟩
  obtain ⟨g, Hg⟩ : ∃ g, Hid (w.heap.size = g) := ⟨_, Lib.hid rfl⟩
  have hg := Hg.out
  rw [hg] at ht
  go_wp2_with fail
  have hb0 : Bnd (fun _ => 0) := fun i hi => by simp
  refine (tadd_any g _ _ 0 5 w1 ht hb0 hb0).mono ?_
  rw [show tadd (fun _ => 0) (fun _ => 0) 0 5 = (0, upd (fun _ => 0) 0 5, fun _ => 0) from rfl]
  rintro e w2 ⟨rfl, ht2, hb2⟩
  have hbu : Bnd (upd (fun _ => 0) 0 5) := fun i hi => by unfold upd; split <;> simp
  go_wp2_with fail
  refine (tadd_any g _ _ 1 (-2) w2 ht2 hbu hb0).mono ?_
  rw [show tadd (upd (fun _ => 0) 0 5) (fun _ => 0) 1 (-2) = (0, upd (fun _ => 0) 0 5, upd (fun _ => 0) 1 2) from rfl]
  rintro e w3 ⟨rfl, ht3, hb3⟩
  have hbd : Bnd (upd (fun _ => 0) 1 2) := fun i hi => by unfold upd; split <;> simp
  go_wp2_with fail
  refine (tval_any g _ _ w3 ht3 hbu hbd).mono ?_
  rw [show tsum (upd (fun _ => 0) 0 5) (upd (fun _ => 0) 1 2) 7 = 3 from rfl]
  rintro e w4 ⟨rfl, hx4⟩
  have hX4 : Ext w w4 := (((hx1.but hb2 (Nat.le_of_eq Hg.out)).but hb3 (Nat.le_of_eq Hg.out)).trans hx4)
  have ht4 := ht3.ext hx4
  have heq := run_eq7_same Try.underlying50
  go_wp2_with fail
  refine (tup_any g _ _ w4 ht4).mono ?_
  rw [show vf (upd (fun _ => 0) 0 5) = .agg #[.int .i64 5, .int .i64 0, .int .i64 0, .int .i64 0, .int .i64 0, .int .i64 0, .int .i64 0] from rfl]
  rintro e w5 ⟨rfl, hx5⟩
  go_wp2_with fail
  refine (tdown_any g _ _ w5 (ht4.ext hx5)).mono ?_
  rw [show vf (upd (fun _ => 0) 1 2) = .agg #[.int .i64 0, .int .i64 2, .int .i64 0, .int .i64 0, .int .i64 0, .int .i64 0, .int .i64 0] from rfl]
  rintro e w6 ⟨rfl, hx6⟩
  go_wp2
  go_ret
  exact ⟨rfl, (hX4.trans hx5).trans hx6⟩

/-- Numbers that came in. -/
def Is (w : World) (A : Option Addr) (l : List Int) : Prop := ∀ i x, l[i]? = some x → ∃ a, A = some a ∧ w.cell? (a.add i) = some (.int .i64 x)
theorem Is.ext {w w' : World} {A : Option Addr} {l : List Int} (h : Is w A l) (e : Ext w w') : Is w' A l := fun i x hi => by
  obtain ⟨a, ha, hc⟩ := h i x hi
  exact ⟨a, ha, e.cell hc⟩

theorem tadd_other {u d : V7} {r b : Int} {i : Nat} (h : i ≠ r.toNat) : (tadd u d r b).2.1 i = u i ∧ (tadd u d r b).2.2 i = d i := by
  unfold tadd
  split
  · exact ⟨rfl, rfl⟩
  · split
    · split
      · exact ⟨rfl, rfl⟩
      · exact ⟨rfl, by simp [upd, h]⟩
    · split
      · exact ⟨rfl, rfl⟩
      · exact ⟨by simp [upd, h], rfl⟩
theorem tadd_bnd {u d : V7} (r b : Int) (hu : Bnd u) (hd : Bnd d) : Bnd (tadd u d r b).2.1 ∧ Bnd (tadd u d r b).2.2 := by
  unfold tadd
  split
  · exact ⟨hu, hd⟩
  · rename_i h0
    have hr : rep7 r = true := by cases e : rep7 r with
      | true => rfl
      | false => exact absurd (Or.inl e) h0
    have hr' : 0 ≤ r ∧ r < 7 := by simpa [rep7] using hr
    split
    · split
      · exact ⟨hu, hd⟩
      · refine ⟨hu, fun i hi => ?_⟩
        simp only [upd]
        split
        · have := hd r.toNat (by omega)
          omega
        · exact hd i hi
    · split
      · exact ⟨hu, hd⟩
      · refine ⟨fun i hi => ?_, hd⟩
        simp only [upd]
        split
        · have := hu r.toNat (by omega)
          omega
        · exact hu i hi
theorem mrg_bnd {u d : V7} (hu : Bnd u) (hd : Bnd d) : Bnd (mrg u d) := fun i hi => by
  have h1 := hu i hi
  have h2 := hd i hi
  simp only [mrg]
  omega
theorem tsum_apart {u1 d1 u2 d2 : V7} (hu1 : Bnd u1) (hd1 : Bnd d1) (hu2 : Bnd u2) (hd2 : Bnd d2) (h1 : ∀ i, i < 7 → 3 ≤ i → u1 i = 0 ∧ d1 i = 0) (h2 : ∀ i, i < 3 → u2 i = 0 ∧ d2 i = 0) :
    ∀ k : Nat, k ≤ 7 → tsum (mrg u1 u2) (mrg d1 d2) k = tsum u1 d1 k + tsum u2 d2 k
  | 0, _ => rfl
  | k + 1, hk => by
    have ih := tsum_apart hu1 hd1 hu2 hd2 h1 h2 k (by omega)
    simp only [tsum, ih, mrg]
    have b1 := hu1 k (by omega)
    have b2 := hd1 k (by omega)
    have b3 := hu2 k (by omega)
    have b4 := hd2 k (by omega)
    by_cases h : k < 3
    · have := h2 k h
      omega
    · have := h1 k (by omega) (by omega)
      omega

set_option maxHeartbeats 2000000 in
theorem tapart_any (A1 A2 : Option Addr) (c1 c2 : Nat) (a b : List Int) (w : World) (ha : Is w A1 a) (hb : Is w A2 b) :
    Calls Try.prog 3 #[.slice A1 a.length c1, .slice A2 b.length c2] w fun e w' => e = .returned (.bool true) ∧ Ext w w' := by
  go_enter Try.func3, Try.ntmps3
  go_wp2_with fail
  refine (awake10_any _).mono ?_
  rintro e w1 ⟨rfl, hx1⟩
  by_cases h1 : 30 < a.length
  · go_wp2
    all_goals go_ret
    all_goals exact ⟨rfl, hx1⟩
  by_cases h2 : 30 < b.length
  · go_wp2
    all_goals go_ret
    all_goals exact ⟨rfl, hx1⟩
  go_wp2_with fail
  refine (tnew_any _).mono ?_
  rintro e w2 ⟨rfl, ht1, hx2⟩
  obtain ⟨g, Hg⟩ : ∃ g, Hid (w1.heap.size = g) := ⟨_, Lib.hid rfl⟩
  have hg := Hg.out
  rw [hg] at ht1
  go_wp2_with fail
  refine (tnew_any _).mono ?_
  rintro e w3 ⟨rfl, ht2, hx3⟩
  obtain ⟨g2, Hg2⟩ : ∃ g, Hid (w2.heap.size = g) := ⟨_, Lib.hid rfl⟩
  have hg2 := Hg2.out
  rw [hg2] at ht2
  have hb0 : Bnd (fun _ => 0) := fun i hi => by simp
  have hne : g2 ≠ g := by have := ht1.lt; have := Hg2.out; omega
  have hwg : w.heap.size ≤ g := by have := hx1.size; have := Hg.out; omega
  have hwg2 : w.heap.size ≤ g2 := by have := (hx1.trans hx2).size; have := Hg2.out; omega
  have ht1' := ht1.ext hx3
  have hX3 := hx1.trans (hx2.trans hx3)
  go_wp2_with fail
  clear hg hg2
  go_loopw [7] (fun i wr => ∃ (k : Nat) (u d : V7), k ≤ a.length ∧ i = .int .i64 k ∧ Ext w wr ∧ TT wr g u d ∧ TT wr g2 (fun _ => 0) (fun _ => 0) ∧ Bnd u ∧ Bnd d ∧ ∀ i, i < 7 → 3 ≤ i → u i = 0 ∧ d i = 0) (fun i _ => a.length - (intOf i).toNat)
  case atStart => exact ⟨0, _, _, Nat.zero_le _, rfl, hX3, ht1', ht2, hb0, hb0, fun _ _ _ => ⟨rfl, rfl⟩⟩
  case round =>
    obtain ⟨k, u, d, hk, rfl, hX, hT, hT2, hu, hd, hz⟩ := hrel
    by_cases hkl : k < a.length
    · obtain ⟨ad, rfl, hc⟩ := (ha.ext hX) k _ (List.getElem?_eq_getElem hkl)
      generalize a[k] = x at hc
      go_wp2_with fail
      refine (tadd_any g u d _ x wr hT hu hd).mono ?_
      rintro e w4 ⟨rfl, hT4, hB4⟩
      obtain ⟨n4, N4⟩ : ∃ n, Hid ((tadd u d ((k : Int) % 3) x).1 = n) := ⟨_, Lib.hid rfl⟩
      obtain ⟨b4, b4'⟩ := tadd_bnd ((k : Int) % 3) x hu hd
      have ho := fun i (hi : 3 ≤ i) => tadd_other (u := u) (d := d) (r := (k : Int) % 3) (b := x) (i := i) (by omega)
      generalize (tadd u d ((k : Int) % 3) x).2.1 = u' at *
      generalize (tadd u d ((k : Int) % 3) x).2.2 = d' at *
      rw [N4.out]
      have hoo := Lib.hid ho
      clear ho
      go_wp2
      go_roundw
      case rel => exact ⟨k + 1, u', d', by omega, by go_num, hX.but hB4 hwg, hT4, hT2.but hB4 hne, b4, b4', fun i hi h3 => ⟨(hoo.out i h3).1.trans (hz i hi h3).1, (hoo.out i h3).2.trans (hz i hi h3).2⟩⟩
      case measure => simp [intOf]; omega
    · go_wp2_with fail
      go_loopw [8] (fun i wr => ∃ (k : Nat) (u2 d2 : V7), k ≤ b.length ∧ i = .int .i64 k ∧ Ext w wr ∧ TT wr g u d ∧ TT wr g2 u2 d2 ∧ Bnd u2 ∧ Bnd d2 ∧ ∀ i, i < 3 → u2 i = 0 ∧ d2 i = 0) (fun i _ => b.length - (intOf i).toNat)
      case atStart => exact ⟨0, _, _, Nat.zero_le _, rfl, hX, hT, hT2, hb0, hb0, fun _ _ => ⟨rfl, rfl⟩⟩
      case round =>
        obtain ⟨k2, u2, d2, hk2, rfl, hX, hT, hT2, hu2, hd2, hz2⟩ := hrel
        by_cases hkl2 : k2 < b.length
        · obtain ⟨ad, rfl, hc⟩ := (hb.ext hX) k2 _ (List.getElem?_eq_getElem hkl2)
          generalize b[k2] = x at hc
          go_wp2_with fail
          refine (tadd_any g2 u2 d2 _ x _ hT2 hu2 hd2).mono ?_
          rintro e w4 ⟨rfl, hT4, hB4⟩
          obtain ⟨n4, N4⟩ : ∃ n, Hid ((tadd u2 d2 (3 + (k2 : Int) % 4) x).1 = n) := ⟨_, Lib.hid rfl⟩
          obtain ⟨b4, b4'⟩ := tadd_bnd (3 + (k2 : Int) % 4) x hu2 hd2
          have ho := fun i (hi : i < 3) => tadd_other (u := u2) (d := d2) (r := 3 + (k2 : Int) % 4) (b := x) (i := i) (by omega)
          generalize (tadd u2 d2 (3 + (k2 : Int) % 4) x).2.1 = u' at *
          generalize (tadd u2 d2 (3 + (k2 : Int) % 4) x).2.2 = d' at *
          rw [N4.out]
          have hoo := Lib.hid ho
          clear ho
          go_wp2
          go_roundw
          case rel => exact ⟨k2 + 1, u', d', by omega, by go_num, hX.but hB4 hwg2, hT.but hB4 (Ne.symm hne), hT4, b4, b4', fun i h3 => ⟨(hoo.out i h3).1.trans (hz2 i h3).1, (hoo.out i h3).2.trans (hz2 i h3).2⟩⟩
          case measure => simp [intOf]; omega
        · have s1 := tsum_bnd hu hd 7 (by omega)
          have s2 := tsum_bnd hu2 hd2 7 (by omega)
          have s3 := tsum_apart hu hd hu2 hd2 hz hz2 7 (by omega)
          have S3 := Lib.hid s3
          clear s3
          obtain ⟨x, Hx⟩ : ∃ x, Hid (tsum u d 7 = x) := ⟨_, Lib.hid rfl⟩
          obtain ⟨y, Hy⟩ : ∃ x, Hid (tsum u2 d2 7 = x) := ⟨_, Lib.hid rfl⟩
          rw [Hx.out] at s1
          rw [Hy.out] at s2
          go_wp2_with fail
          refine (tval_any g u d _ hT hu hd).mono ?_
          rw [Hx.out]
          rintro e w5 ⟨rfl, hx5⟩
          go_wp2_with fail
          refine (tval_any g2 u2 d2 w5 (hT2.ext hx5) hu2 hd2).mono ?_
          rw [Hy.out]
          rintro e w6 ⟨rfl, hx6⟩
          have hX6 := (hX.trans hx5).trans hx6
          have q1 := (hT.ext hx5).ext hx6
          have q2 := (hT2.ext hx5).ext hx6
          go_wp2_with fail
          refine (tmerge_any g g2 u d u2 d2 w6 q1 q2 hne).mono ?_
          rintro e w7 ⟨hT7, hB7, v7, rfl⟩
          have hX7 := hX6.but hB7 hwg
          go_wp2_with fail
          refine (tval_any g _ _ w7 hT7 (mrg_bnd hu hu2) (mrg_bnd hd hd2)).mono ?_
          rw [S3.out, Hx.out, Hy.out]
          rintro e w8 ⟨rfl, hx8⟩
          go_wp2_with fail
          refine (tval_any g2 u2 d2 w8 ((q2.but hB7 hne).ext hx8) hu2 hd2).mono ?_
          rw [Hy.out]
          rintro e w9 ⟨rfl, hx9⟩
          go_wp2
          go_ret
          exact ⟨rfl, (hX7.trans hx8).trans hx9⟩

end Go.Proofs.Ytaiofbagdcpfgaa
