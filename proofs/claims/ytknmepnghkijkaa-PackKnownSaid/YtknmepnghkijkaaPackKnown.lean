/- PackKnown: the walk. -/
import Derived.Test.YtknmepnghkijkaaPackAwake
set_option linter.unusedVariables false
set_option maxRecDepth 100000
namespace Go.Proofs.Ytknmepnghkijkaa
open Go.RowKit Go.Proofs.YtknmepnghkijkaaW.PrintWords PackPure

theorem known_a : rdNum [128, 0] false 0 9 = (0, [], true) := by decide
theorem known_b : rdNum [4] false 3 9 = (0, [], true) := by decide
theorem known_c : rdBytes [6, 1, 2] false 9 = ([], [], true) := by decide
theorem known_d : rdNum [] false 0 0 = (0, [], true) := by decide
theorem known_f : rdNum [255, 255, 255, 255, 255, 255, 255, 255, 255, 3] false (-9223372036854775808) 9223372036854775807 = (0, [], true) := by decide +kernel
theorem known_e : rdNum (num (-9223372036854775808)) false (-9223372036854775808) 0 = (-9223372036854775808, [], false) := by
  have h := rdNum_num (-9223372036854775808) (by omega) (by omega) [] false (-9223372036854775808) 0
  rw [List.append_nil] at h
  rw [h, if_neg (by omega)]
theorem known_g : putB [97, 98] = [4, 97, 98] := by
  have e : num 2 = [4] := by rw [num, show zz 2 = 4 from rfl, enc_small _ (by decide)]; rfl
  show num 2 ++ [97, 98] = _
  rw [e]; rfl
theorem known_ab : Chars (⟨#[97, 98]⟩ : ByteArray) = [97, 98] := rfl

set_option maxHeartbeats 1600000 in
theorem known4_any (w : World) : Calls Try.prog 6 #[] w fun e w' => e = .returned (.bool true) ∧ Ext w w' := by
  go_enter Try.func6, Try.ntmps6
  go_wp2_with fail
  refine (awake4_any _).mono ?_
  rintro e w0 ⟨rfl, hx0⟩
  go_wp2_with fail
  refine (read_any (some ⟨w0.heap.size, 0, none⟩) 2 2 [128, 0] _ (Bs.alloc_at w0 _ (by decide) _ rfl _ _ _ rfl) rfl (by omega)).mono ?_
  rintro e w1 ⟨ga, rfl, hga, hra, hy⟩
  have hx1 : Ext w0 w1 := ((Ext.refl _).alloc _).trans hy
  replace hga : w0.heap.size ≤ ga := Nat.le_trans ((Ext.refl _).alloc _).size hga
  clear hy
  have hz : Ext w w1 := hx0.trans hx1
  have HZ := hz; clear hz
  have ta := hra.lt
  go_wp2_with fail
  refine (read_any (some ⟨w1.heap.size, 0, none⟩) 1 1 [4] _ (Bs.alloc_at w1 _ (by decide) _ rfl _ _ _ rfl) rfl (by omega)).mono ?_
  rintro e w2 ⟨gb, rfl, hgb, hrb, hy⟩
  have hx2 : Ext w1 w2 := ((Ext.refl _).alloc _).trans hy
  replace hgb : w1.heap.size ≤ gb := Nat.le_trans ((Ext.refl _).alloc _).size hgb
  clear hy
  replace hra := hra.ext hx2
  have hz : Ext w w2 := HZ.trans hx2
  clear HZ; have HZ := hz; clear hz
  have tb := hrb.lt
  go_wp2_with fail
  refine (read_any (some ⟨w2.heap.size, 0, none⟩) 3 3 [6, 1, 2] _ (Bs.alloc_at w2 _ (by decide) _ rfl _ _ _ rfl) rfl (by omega)).mono ?_
  rintro e w3 ⟨gc, rfl, hgc, hrc, hy⟩
  have hx3 : Ext w2 w3 := ((Ext.refl _).alloc _).trans hy
  replace hgc : w2.heap.size ≤ gc := Nat.le_trans ((Ext.refl _).alloc _).size hgc
  clear hy
  replace hra := hra.ext hx3
  replace hrb := hrb.ext hx3
  have hz : Ext w w3 := HZ.trans hx3
  clear HZ; have HZ := hz; clear hz
  have tc := hrc.lt
  go_wp2_with fail
  refine (read_any none 0 0 [] w3 (Bs.nil _) rfl (by omega)).mono ?_
  rintro e w4 ⟨gd, rfl, hgd, hrd, hy⟩
  have hx4 : Ext w3 w4 := hy
  clear hy
  replace hra := hra.ext hx4
  replace hrb := hrb.ext hx4
  replace hrc := hrc.ext hx4
  have hz : Ext w w4 := HZ.trans hx4
  clear HZ; have HZ := hz; clear hz
  have td := hrd.lt
  go_wp2_with fail
  refine (numnil_any (-9223372036854775808) w4 (by omega) (by omega)).mono ?_
  rintro e w5 ⟨Ae, ce, rfl, hle, hBe, hx5⟩
  have hlen := num_le (-9223372036854775808) (by omega) (by omega)
  replace hra := hra.ext hx5
  replace hrb := hrb.ext hx5
  replace hrc := hrc.ext hx5
  replace hrd := hrd.ext hx5
  have hz : Ext w w5 := HZ.trans hx5; clear HZ; have HZ := hz; clear hz
  go_wp2_with fail
  refine (read_any Ae (num (-9223372036854775808)).length ce (num (-9223372036854775808)) w5 hBe rfl (by omega)).mono ?_
  rintro e w6 ⟨ge, rfl, hge, hre, hx6⟩
  replace hra := hra.ext hx6
  replace hrb := hrb.ext hx6
  replace hrc := hrc.ext hx6
  replace hrd := hrd.ext hx6
  have hz : Ext w w6 := HZ.trans hx6; clear HZ; have HZ := hz; clear hz
  have te := hre.lt
  go_wp2_with fail
  refine (read_any (some ⟨w6.heap.size, 0, none⟩) 10 10 [255, 255, 255, 255, 255, 255, 255, 255, 255, 3] _ (Bs.alloc_at w6 _ (by decide) _ rfl _ _ _ rfl) rfl (by omega)).mono ?_
  rintro e w7 ⟨gf, rfl, hgf, hrf, hy⟩
  have hx7 : Ext w6 w7 := ((Ext.refl _).alloc _).trans hy
  replace hgf : w6.heap.size ≤ gf := Nat.le_trans ((Ext.refl _).alloc _).size hgf
  clear hy
  replace hra := hra.ext hx7
  replace hrb := hrb.ext hx7
  replace hrc := hrc.ext hx7
  replace hrd := hrd.ext hx7
  replace hre := hre.ext hx7
  have hz : Ext w w7 := HZ.trans hx7
  clear HZ; have HZ := hz; clear hz
  have tf := hrf.lt
  have s0 : w.heap.size ≤ w0.heap.size := hx0.size
  have s1 := hx1.size
  have s2 := hx2.size
  have s3 := hx3.size
  have s4 := hx4.size
  have s5 := hx5.size
  have s6 := hx6.size
  have s7 := hx7.size
  have la := hra.lt; have lb := hrb.lt; have lc := hrc.lt; have ld := hrd.lt; have le := hre.lt; have lf := hrf.lt
  have nab : ga ≠ gb := by omega
  have nac : ga ≠ gc := by omega
  have nad : ga ≠ gd := by omega
  have nae : ga ≠ ge := by omega
  have naf : ga ≠ gf := by omega
  have nbc : gb ≠ gc := by omega
  have nbd : gb ≠ gd := by omega
  have nbe : gb ≠ ge := by omega
  have nbf : gb ≠ gf := by omega
  have ncd : gc ≠ gd := by omega
  have nce : gc ≠ ge := by omega
  have ncf : gc ≠ gf := by omega
  have nde : gd ≠ ge := by omega
  have ndf : gd ≠ gf := by omega
  have nef : ge ≠ gf := by omega
  go_wp2_with fail
  refine (rnum_any ga [128, 0] false 0 9 w7 hra).mono ?_
  rintro e w8 ⟨rfl, hq, hb⟩
  rw [known_a] at hq ⊢
  replace hrb := hrb.but hb nab.symm hra.no
  replace hrc := hrc.but hb nac.symm hra.no
  replace hrd := hrd.but hb nad.symm hra.no
  replace hre := hre.but hb nae.symm hra.no
  replace hrf := hrf.but hb naf.symm hra.no
  have hz : Ext w w8 := HZ.but hb (by omega); clear HZ; have HZ := hz; clear hz
  clear hra; have hra := hq; clear hq hb
  go_wp2_with fail
  refine (bad_any ga [] true w8 hra).mono ?_
  rintro e w9 ⟨rfl, hw⟩
  obtain rfl := hw
  go_wp2_with fail
  refine (rnum_any gb [4] false 3 9 w8 hrb).mono ?_
  rintro e w9 ⟨rfl, hq, hb⟩
  rw [known_b] at hq ⊢
  replace hra := hra.but hb nab hrb.no
  replace hrc := hrc.but hb nbc.symm hrb.no
  replace hrd := hrd.but hb nbd.symm hrb.no
  replace hre := hre.but hb nbe.symm hrb.no
  replace hrf := hrf.but hb nbf.symm hrb.no
  have hz : Ext w w9 := HZ.but hb (by omega); clear HZ; have HZ := hz; clear hz
  clear hrb; have hrb := hq; clear hq hb
  go_wp2_with fail
  refine (bad_any gb [] true w9 hrb).mono ?_
  rintro e w10 ⟨rfl, hw⟩
  obtain rfl := hw
  go_wp2_with fail
  refine (rbytes_any gc [6, 1, 2] false 9 w9 hrc (by simp)).mono ?_
  rintro e w10 ⟨vb, rfl, ho, hq, hb⟩
  rw [known_c] at ho hq
  obtain ⟨Ab, cb, rfl, _, _⟩ := ho.reads; clear ho
  replace hra := hra.but hb nac hrc.no
  replace hrb := hrb.but hb nbc hrc.no
  replace hrd := hrd.but hb ncd.symm hrc.no
  replace hre := hre.but hb nce.symm hrc.no
  replace hrf := hrf.but hb ncf.symm hrc.no
  have hz : Ext w w10 := HZ.but hb (by omega); clear HZ; have HZ := hz; clear hz
  clear hrc; have hrc := hq; clear hq hb
  go_wp2_with fail
  refine (bad_any gc [] true w10 hrc).mono ?_
  rintro e w11 ⟨rfl, hw⟩
  obtain rfl := hw
  go_wp2_with fail
  refine (end_any gc [] true w10 hrc).mono ?_
  rintro e w11 ⟨rfl, hw⟩
  obtain rfl := hw
  go_wp2_with fail
  refine (end_any gd [] false w10 hrd).mono ?_
  rintro e w11 ⟨rfl, hw⟩
  obtain rfl := hw
  go_wp2_with fail
  refine (rnum_any gd [] false 0 0 w10 hrd).mono ?_
  rintro e w11 ⟨rfl, hq, hb⟩
  rw [known_d] at hq ⊢
  replace hra := hra.but hb nad hrd.no
  replace hrb := hrb.but hb nbd hrd.no
  replace hrc := hrc.but hb ncd hrd.no
  replace hre := hre.but hb nde.symm hrd.no
  replace hrf := hrf.but hb ndf.symm hrd.no
  have hz : Ext w w11 := HZ.but hb (by omega); clear HZ; have HZ := hz; clear hz
  clear hrd; have hrd := hq; clear hq hb
  go_wp2_with fail
  refine (bad_any gd [] true w11 hrd).mono ?_
  rintro e w12 ⟨rfl, hw⟩
  obtain rfl := hw
  go_wp2_with fail
  refine (rnum_any ge (num (-9223372036854775808)) false (-9223372036854775808) 0 w11 hre).mono ?_
  rintro e w12 ⟨rfl, hq, hb⟩
  rw [known_e] at hq ⊢
  replace hra := hra.but hb nae hre.no
  replace hrb := hrb.but hb nbe hre.no
  replace hrc := hrc.but hb nce hre.no
  replace hrd := hrd.but hb nde hre.no
  replace hrf := hrf.but hb nef.symm hre.no
  have hz : Ext w w12 := HZ.but hb (by omega); clear HZ; have HZ := hz; clear hz
  clear hre; have hre := hq; clear hq hb
  go_wp2_with fail
  refine (end_any ge [] false w12 hre).mono ?_
  rintro e w13 ⟨rfl, hw⟩
  obtain rfl := hw
  go_wp2_with fail
  refine (rnum_any gf [255, 255, 255, 255, 255, 255, 255, 255, 255, 3] false (-9223372036854775808) 9223372036854775807 w12 hrf).mono ?_
  rintro e w13 ⟨rfl, hq, hb⟩
  rw [known_f] at hq ⊢
  replace hra := hra.but hb naf hrf.no
  replace hrb := hrb.but hb nbf hrf.no
  replace hrc := hrc.but hb ncf hrf.no
  replace hrd := hrd.but hb ndf hrf.no
  replace hre := hre.but hb nef hrf.no
  have hz : Ext w w13 := HZ.but hb (by omega); clear HZ; have HZ := hz; clear hz
  clear hrf; have hrf := hq; clear hq hb
  go_wp2_with fail
  refine (bad_any gf [] true w13 hrf).mono ?_
  rintro e w14 ⟨rfl, hw⟩
  obtain rfl := hw
  go_wp2_with fail
  refine (putt_any none 0 0 [] (⟨#[97, 98]⟩ : ByteArray) w13 (Bs.nil _) rfl (by decide)).mono ?_
  rintro e w14 ⟨vt, rfl, ho, hx⟩
  rw [known_ab, known_g, List.nil_append] at ho
  obtain ⟨At, ct, rfl, _, hBt⟩ := ho.reads
  have hct := hBt.string 3 ct rfl
  have hS := Str_toList
  go_wp2
  go_ret
  exact ⟨rfl, HZ.trans hx⟩

end Go.Proofs.Ytknmepnghkijkaa
