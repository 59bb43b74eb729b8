/- TallyBack: the walk of the law TallyBack. -/
import Derived.Test.YtaiofbagdcpfgaaTallyGet
import Derived.Test.YtaiofbagdcpfgaaVecBackLaw
set_option linter.unusedVariables false
set_option linter.unusedSimpArgs false
set_option maxRecDepth 100000
namespace Go.Proofs.Ytaiofbagdcpfgaa
open Go.RowKit Go.Proofs.YtaiofbagdcpfgaaW.PrintWords Go.Proofs.YtaiofbagdcpfgaaW.PrintLast PackPure

theorem getT_put {u d : V7} (hu : Bnd u) (hd : Bnd d) : ∃ u' d', getT (putV u 7 ++ putV d 7) false = (u', d', [], false) ∧ (∀ i, i < 7 → u' i = u i) ∧ ∀ i, i < 7 → d' i = d i := by
  obtain ⟨h1, h2⟩ := getV_put hu (by decide) (putV d 7) false 7 (Nat.le_refl _)
  obtain ⟨h3, h4⟩ := getV_put hd (by decide) [] false 7 (Nat.le_refl _)
  rw [List.append_nil] at h3 h4
  simp only [Nat.sub_self, tailV, List.nil_append, List.append_nil] at h1 h3
  refine ⟨_, (getV (putV d 7) false 1125899906842624 7).1, ?_, h2, h4⟩
  unfold getT
  rw [h1]
  simp only
  rw [show getV (putV d 7) false 1125899906842624 7 = ((getV (putV d 7) false 1125899906842624 7).1, (getV (putV d 7) false 1125899906842624 7).2) from rfl, h3]
theorem TT.congr {w : World} {g : Nat} {u d u' d' : V7} (h : TT w g u' d') (hu : ∀ i, i < 7 → u' i = u i) (hd : ∀ i, i < 7 → d' i = d i) : TT w g u d := ⟨h.up.congr hu, h.down.congr hd, h.fu, h.fd⟩

/-- What is written is read again. -/
theorem tround_any (g : Nat) (u d : V7) (l : List UInt8) (hl : l = putV u 7 ++ putV d 7) (w : World) (h : Rd w g l false) (hu : Bnd u) (hd : Bnd d) :
    Calls Try.prog 60 #[.pointer (some ⟨g, 0, none⟩)] w fun e w' => ∃ q, e = .returned (.pointer (some ⟨q, 0, none⟩)) ∧ Rd w' g [] false ∧ But g w w' ∧ w.heap.size ≤ q ∧ TT w' q u d := by
  subst hl
  obtain ⟨u', d', hg, h1, h2⟩ := getT_put hu hd
  refine (tget_any g _ false w h u' d' [] false hg).mono ?_
  rintro e w' ⟨hr, hB, q, hq, hT, rfl⟩
  exact ⟨q, by simp, hr, hB, hq, hT.congr h1 h2⟩
theorem tputnil_any (g : Nat) (u d : V7) (w : World) (hT : TT w g u d) (hu : Bnd u) (hd : Bnd d) :
    Calls Try.prog 67 #[.pointer (some ⟨g, 0, none⟩), .slice none 0 0] w fun e w' => ∃ A' c', e = .returned (.slice A' (putV u 7 ++ putV d 7).length c') ∧ Bs w' A' (putV u 7 ++ putV d 7) ∧ Ext w w' := by
  refine (tput_any g u d none 0 0 [] w hT hu hd (Bs.nil w) rfl (Nat.le_refl _) (by omega)).mono ?_
  rintro e w' ⟨A', c', rfl, _, hB, hx⟩
  rw [List.nil_append] at hB
  exact ⟨A', c', by rw [List.nil_append], hB, hx⟩

set_option maxHeartbeats 4000000 in
theorem tback_any (A1 A2 : Option Addr) (c1 c2 : Nat) (a b : List Int) (w : World) (ha : Is w A1 a) (hb : Is w A2 b) :
    Calls Try.prog 16 #[.slice A1 a.length c1, .slice A2 b.length c2] w fun e w' => e = .returned (.bool true) ∧ Ext w w' := by
  go_enter Try.func16, Try.ntmps16
  go_wp2_with fail
  refine (awake10_any _).mono ?_
  rintro e w1 ⟨rfl, hx1⟩
  by_cases h1 : 30 < a.length
  · go_wp2
    all_goals go_ret
    all_goals exact ⟨rfl, hx1⟩
  by_cases h2 : 30 < b.length
  · go_wp2
    all_goals go_ret
    all_goals exact ⟨rfl, hx1⟩
  go_wp2_with fail
  refine (tnew_any _).mono ?_
  rintro e w2 ⟨rfl, ht1, hx2⟩
  obtain ⟨g, Hg⟩ : ∃ g, Hid (w1.heap.size = g) := ⟨_, Lib.hid rfl⟩
  have hg := Hg.out
  rw [hg] at ht1
  go_wp2_with fail
  refine (tnew_any _).mono ?_
  rintro e w3 ⟨rfl, ht2, hx3⟩
  obtain ⟨g2, Hg2⟩ : ∃ g, Hid (w2.heap.size = g) := ⟨_, Lib.hid rfl⟩
  have hg2 := Hg2.out
  rw [hg2] at ht2
  have hb0 : Bnd (fun _ => 0) := fun i hi => by simp
  have hne : g2 ≠ g := by have := ht1.lt; have := Hg2.out; omega
  have hwg : w.heap.size ≤ g := by have := hx1.size; have := Hg.out; omega
  have hwg2 : w.heap.size ≤ g2 := by have := (hx1.trans hx2).size; have := Hg2.out; omega
  have ht1' := ht1.ext hx3
  have hX3 := hx1.trans (hx2.trans hx3)
  go_wp2_with fail
  clear hg hg2
  go_loopw [7] (fun i wr => ∃ (k : Nat) (u d : V7), k ≤ a.length ∧ i = .int .i64 k ∧ Ext w wr ∧ TT wr g u d ∧ TT wr g2 (fun _ => 0) (fun _ => 0) ∧ Bnd u ∧ Bnd d) (fun i _ => a.length - (intOf i).toNat)
  case atStart => exact ⟨0, _, _, Nat.zero_le _, rfl, hX3, ht1', ht2, hb0, hb0⟩
  case round =>
    obtain ⟨k, u, d, hk, rfl, hX, hT, hT2, hu, hd⟩ := hrel
    by_cases hkl : k < a.length
    · obtain ⟨ad, rfl, hc⟩ := (ha.ext hX) k _ (List.getElem?_eq_getElem hkl)
      generalize a[k] = x at hc
      go_wp2_with fail
      refine (tadd_any g u d _ x wr hT hu hd).mono ?_
      rintro e w4 ⟨rfl, hT4, hB4⟩
      obtain ⟨n4, N4⟩ : ∃ n, Hid ((tadd u d ((k : Int) % 7) x).1 = n) := ⟨_, Lib.hid rfl⟩
      obtain ⟨b4, b4'⟩ := tadd_bnd ((k : Int) % 7) x hu hd
      generalize (tadd u d ((k : Int) % 7) x).2.1 = u' at *
      generalize (tadd u d ((k : Int) % 7) x).2.2 = d' at *
      rw [N4.out]
      go_wp2
      go_roundw
      case rel => exact ⟨k + 1, u', d', by omega, by go_num, hX.but hB4 hwg, hT4, hT2.but hB4 hne, b4, b4'⟩
      case measure => simp [intOf]; omega
    · go_wp2_with fail
      go_loopw [8] (fun i wr => ∃ (k : Nat) (u2 d2 : V7), k ≤ b.length ∧ i = .int .i64 k ∧ Ext w wr ∧ TT wr g u d ∧ TT wr g2 u2 d2 ∧ Bnd u2 ∧ Bnd d2) (fun i _ => b.length - (intOf i).toNat)
      case atStart => exact ⟨0, _, _, Nat.zero_le _, rfl, hX, hT, hT2, hb0, hb0⟩
      case round =>
        obtain ⟨k2, u2, d2, hk2, rfl, hX, hT, hT2, hu2, hd2⟩ := hrel
        by_cases hkl2 : k2 < b.length
        · obtain ⟨ad, rfl, hc⟩ := (hb.ext hX) k2 _ (List.getElem?_eq_getElem hkl2)
          generalize b[k2] = x at hc
          go_wp2_with fail
          refine (tadd_any g2 u2 d2 _ x _ hT2 hu2 hd2).mono ?_
          rintro e w4 ⟨rfl, hT4, hB4⟩
          obtain ⟨n4, N4⟩ : ∃ n, Hid ((tadd u2 d2 ((k2 : Int) % 7) x).1 = n) := ⟨_, Lib.hid rfl⟩
          obtain ⟨b4, b4'⟩ := tadd_bnd ((k2 : Int) % 7) x hu2 hd2
          generalize (tadd u2 d2 ((k2 : Int) % 7) x).2.1 = u' at *
          generalize (tadd u2 d2 ((k2 : Int) % 7) x).2.2 = d' at *
          rw [N4.out]
          go_wp2
          go_roundw
          case rel => exact ⟨k2 + 1, u', d', by omega, by go_num, hX.but hB4 hwg2, hT.but hB4 (Ne.symm hne), hT4, b4, b4'⟩
          case measure => simp [intOf]; omega
        · have cp := fun W hW => tputnil_any g u d W hW hu hd
          have hlen : (putV u 7 ++ putV d 7).length ≤ 140 := by
            have q1 := putV_le hu.in64 7 (by omega)
            have q2 := putV_le hd.in64 7 (by omega)
            rw [List.length_append]; omega
          obtain ⟨p, Hp⟩ : ∃ p, Hid (putV u 7 ++ putV d 7 = p) := ⟨_, Lib.hid rfl⟩
          rw [Hp.out] at cp hlen
          have cg := fun g W hW => tround_any g u d p Hp.out.symm W hW hu hd
          go_wp2_with fail
          refine (cp _ hT).mono ?_
          rintro e v1 ⟨B1, e1, rfl, hB1, y1⟩
          go_wp2_with fail
          refine (read_any B1 p.length e1 p v1 hB1 rfl (by omega)).mono ?_
          rintro e v2 ⟨gr, rfl, hgr, hr, y2⟩
          have y12 := y1.trans y2
          have hgrw : wr.heap.size ≤ gr := Nat.le_trans y1.size hgr
          have hrlt := hr.lt
          go_wp2_with fail
          refine (cg gr _ hr).mono ?_
          rintro e v3 ⟨qx, rfl, hr3, hBr, hqx, hx⟩
          have y3 : Ext wr v3 := y12.but hBr hgrw
          go_wp2_with fail
          refine (cp _ (hT.ext y3)).mono ?_
          rintro e v4 ⟨B4, e4, rfl, hB4, y4⟩
          go_wp2_with fail
          refine (read_any B4 p.length e4 p v4 hB4 rfl (by omega)).mono ?_
          rintro e v5 ⟨gs, rfl, hgs, hs, y5⟩
          have y45 := y4.trans y5
          have hgsw : v3.heap.size ≤ gs := Nat.le_trans y4.size hgs
          go_wp2_with fail
          refine (cg gs _ hs).mono ?_
          rintro e v6 ⟨qy, rfl, hs6, hBs, hqy, hy⟩
          have y6 : Ext v3 v6 := y45.but hBs hgsw
          have hx6 := hx.ext y6
          have hr6 := hr3.ext y6
          have y36 := y3.trans y6
          go_wp2_with fail
          have hg6 := hT.ext y36
          have ht6 := hT2.ext y36
          have l1 := hT.lt
          have l2 := hT2.lt
          have l3 := y12.size
          have l4 := hx.lt
          have l5 := y45.size
          have q1 : g2 ≠ qx := by omega
          have q2 : qy ≠ g2 := by have := y36.size; omega
          have q3 : qy ≠ qx := by omega
          have q4 : g ≠ qx := by omega
          have hwx : w.heap.size ≤ qx := by have := hX.size; omega
          refine (end_any gr [] false v6 hr6).mono ?_
          rintro e v7 ⟨rfl, hv7⟩
          obtain rfl := hv7
          go_wp2_with fail
          have s1 := fun W hA hB => tsame_any qx g u d u d W hA hB
          rw [eq7_refl, eq7_refl] at s1
          refine (s1 _ hx6 hg6).mono ?_
          rintro e v8 ⟨rfl, z8⟩
          have s2 := tsum_bnd hu hd 7 (by omega)
          obtain ⟨x, Hx⟩ : ∃ x, Hid (tsum u d 7 = x) := ⟨_, Lib.hid rfl⟩
          rw [Hx.out] at s2
          have cv := fun q W hW => tval_any q u d W hW hu hd
          rw [Hx.out] at cv
          go_wp2_with fail
          refine (cv _ _ (hx6.ext z8)).mono ?_
          rintro e v9 ⟨rfl, z9⟩
          have z89 := z8.trans z9
          go_wp2_with fail
          refine (cv _ _ (hg6.ext z89)).mono ?_
          rintro e v10 ⟨rfl, z10⟩
          have z := z89.trans z10
          go_wp2_with fail
          refine (tmerge_any qx g2 u d u2 d2 v10 (hx6.ext z) (ht6.ext z) q1).mono ?_
          rintro e v11 ⟨hx11, hB11, r11, rfl⟩
          go_wp2_with fail
          refine (tmerge_any g2 qy u2 d2 u d v11 ((ht6.ext z).but hB11 q1) ((hy.ext z).but hB11 q3) q2).mono ?_
          rintro e v12 ⟨ht12, hB12, r12, rfl⟩
          rw [mrg_comm u u2, mrg_comm d d2] at ht12
          have hx12 := hx11.but hB12 (Ne.symm q1)
          go_wp2_with fail
          have s3 := fun W hA hB => tsame_any qx g2 (mrg u u2) (mrg d d2) (mrg u u2) (mrg d d2) W hA hB
          rw [eq7_refl, eq7_refl] at s3
          refine (s3 _ hx12 ht12).mono ?_
          rintro e v13 ⟨rfl, z13⟩
          go_wp2_with fail
          refine (tmerge_any qx g2 _ _ _ _ v13 (hx12.ext z13) (ht12.ext z13) q1).mono ?_
          rintro e v14 ⟨hx14, hB14, r14, rfl⟩
          rw [show mrg (mrg u u2) (mrg u u2) = mrg u u2 from funext fun i => by simp only [mrg]; omega, show mrg (mrg d d2) (mrg d d2) = mrg d d2 from funext fun i => by simp only [mrg]; omega] at hx14
          go_wp2_with fail
          refine (s3 _ hx14 ((ht12.ext z13).but hB14 q1)).mono ?_
          rintro e v15 ⟨rfl, z15⟩
          have f11 : Ext w v11 := ((hX.trans y36).trans z).but hB11 hwx
          have f14 : Ext w v14 := ((f11.but hB12 hwg2).trans z13).but hB14 hwx
          go_wp2
          go_ret
          exact ⟨rfl, f14.trans z15⟩

end Go.Proofs.Ytaiofbagdcpfgaa
