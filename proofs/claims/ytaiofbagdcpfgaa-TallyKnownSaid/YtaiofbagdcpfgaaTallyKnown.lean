/- TallyKnown: the walk of the law TallyKnown. -/
import Derived.Test.YtaiofbagdcpfgaaTallyGet
set_option linter.unusedVariables false
set_option linter.unusedSimpArgs false
set_option maxRecDepth 100000
namespace Go.Proofs.Ytaiofbagdcpfgaa
open Go.RowKit Go.Proofs.YtaiofbagdcpfgaaW.PrintWords Go.Proofs.YtaiofbagdcpfgaaW.PrintLast PackPure

def dn (x : Int) : V7 := upd (fun _ => 0) 3 x
theorem dn_bnd {x : Int} (h0 : 0 ≤ x) (h1 : x ≤ 1125899906842624) : Bnd (dn x) := fun i hi => by unfold dn upd; dsimp only; split <;> omega
theorem getT_nil : ∃ u d, getT [] false = (u, d, [], true) := by
  have h1 : (getT [] false).2.2 = ([], true) := by decide +kernel
  exact ⟨(getT [] false).1, (getT [] false).2.1, by rw [← h1]⟩

set_option maxHeartbeats 4000000 in
theorem known10_any (w : World) : Calls Try.prog 14 #[] w fun e w' => e = .returned (.bool true) ∧ Ext w w' := by
  go_enter Try.func14, Try.ntmps14
  go_wp2_with fail
  refine (awake10_any _).mono ?_
  rintro e w1 ⟨rfl, hx1⟩
  go_wp2_with fail
  refine (tnew_any _).mono ?_
  rintro e w2 ⟨rfl, hT, hx2⟩
  obtain ⟨g, Hg⟩ : ∃ g, Hid (w1.heap.size = g) := ⟨_, Lib.hid rfl⟩
  have hg := Hg.out
  rw [hg] at hT
  have hwg : w.heap.size ≤ g := by have := hx1.size; have := Hg.out; omega
  have hX := hx1.trans hx2
  have hb0 : Bnd (fun _ => 0) := fun i hi => by simp
  go_wp2_with fail
  refine (tadd_any g _ _ 7 1 w2 hT hb0 hb0).mono ?_
  rw [show tadd (fun _ => 0) (fun _ => 0) 7 1 = (1, fun _ => 0, fun _ => 0) from rfl]
  rintro e w3 ⟨rfl, hT3, hB3⟩
  have hX3 := hX.but hB3 hwg
  go_wp2_with fail
  refine (tadd_any g _ _ 0 1099511627777 w3 hT3 hb0 hb0).mono ?_
  rw [show tadd (fun _ => 0) (fun _ => 0) 0 1099511627777 = (1, fun _ => 0, fun _ => 0) from rfl]
  rintro e w4 ⟨rfl, hT4, hB4⟩
  have hX4 := hX3.but hB4 hwg
  go_wp2_with fail
  refine (tadd_any g _ _ 0 (-1099511627777) w4 hT4 hb0 hb0).mono ?_
  rw [show tadd (fun _ => 0) (fun _ => 0) 0 (-1099511627777) = (1, fun _ => 0, fun _ => 0) from rfl]
  rintro e w5 ⟨rfl, hT5, hB5⟩
  have hX5 := hX4.but hB5 hwg
  go_wp2_with fail
  clear hg
  go_loopw [5] (fun i wr => ∃ (k : Nat), k ≤ 1024 ∧ i = .int .i64 k ∧ Ext w wr ∧ TT wr g (fun _ => 0) (dn (k * 1099511627776))) (fun i _ => 1024 - (intOf i).toNat)
  case atStart => exact ⟨0, by omega, rfl, hX5, ⟨hT5.up, hT5.down.congr (fun i _ => by simp [dn, upd]), hT5.fu, hT5.fd⟩⟩
  case round =>
    obtain ⟨k, hk, rfl, hX, hT⟩ := hrel
    by_cases hkl : k < 1024
    · have hres : tadd (fun _ => 0) (dn (k * 1099511627776)) 3 (-1099511627776) = (0, fun _ => 0, dn (((k + 1 : Nat) : Int) * 1099511627776)) := by
        have h3 : dn (k * 1099511627776) (3 : Int).toNat = k * 1099511627776 := rfl
        unfold tadd
        rw [if_neg (by simp [rep7]), if_pos (by decide), h3, if_neg (by omega)]
        refine Prod.ext rfl (Prod.ext rfl (funext fun i => ?_))
        show upd (dn _) 3 _ i = dn _ i
        unfold dn upd
        split <;> omega
      have ca := fun W hW => tadd_any g (fun _ => 0) (dn (k * 1099511627776)) 3 (-1099511627776) W hW hb0 (dn_bnd (by omega) (by omega))
      rw [hres] at ca
      have HRES := Lib.hid hres
      clear hres
      obtain ⟨d0, D0⟩ : ∃ d, Hid (dn (k * 1099511627776) = d) := ⟨_, Lib.hid rfl⟩
      obtain ⟨d1, D1⟩ : ∃ d, Hid (dn (((k + 1 : Nat) : Int) * 1099511627776) = d) := ⟨_, Lib.hid rfl⟩
      rw [D0.out] at hT ca
      rw [D1.out] at ca
      go_wp2_with fail
      refine (ca _ hT).mono ?_
      rintro e w6 ⟨rfl, hT6, hB6⟩
      clear ca
      go_wp2
      go_roundw
      case rel => exact ⟨k + 1, by omega, by go_num, hX.but hB6 hwg, by rw [D1.out]; exact hT6⟩
      case measure => simp [intOf]; omega
    · have hke : k = 1024 := by omega
      subst hke
      have hT' : TT wr g (fun _ => 0) (dn 1125899906842624) := hT
      have hbd : Bnd (dn 1125899906842624) := dn_bnd (by omega) (by omega)
      have c1 := fun W hW => tadd_any g (fun _ => 0) (dn 1125899906842624) 3 (-1) W hW hb0 hbd
      rw [show tadd (fun _ => 0) (dn 1125899906842624) 3 (-1) = (2, fun _ => 0, dn 1125899906842624) from rfl] at c1
      have c2 := fun W hW => tadd_any g (fun _ => 0) (dn 1125899906842624) 3 1 W hW hb0 hbd
      rw [show tadd (fun _ => 0) (dn 1125899906842624) 3 1 = (0, dn 1, dn 1125899906842624) from rfl] at c2
      have hb1 : Bnd (dn 1) := dn_bnd (by omega) (by omega)
      have c3 := fun W hW => tval_any g (dn 1) (dn 1125899906842624) W hW hb1 hbd
      rw [show tsum (dn 1) (dn 1125899906842624) 7 = -1125899906842623 from rfl] at c3
      have c4 := fun W hW => tadd_any g (dn 1) (dn 1125899906842624) 0 0 W hW hb1 hbd
      rw [show (tadd (dn 1) (dn 1125899906842624) 0 0).1 = 0 from rfl] at c4
      obtain ⟨gu, gd, hgt⟩ := getT_nil
      have c5 := fun q W hW => tget_any q [] false W hW gu gd [] true hgt
      have HGT := Lib.hid hgt
      clear hgt
      go_wp2_with fail
      refine (c1 _ hT').mono ?_
      rintro e w6 ⟨rfl, hT6, hB6⟩
      have hX6 := hX.but hB6 hwg
      go_wp2_with fail
      refine (c2 _ hT6).mono ?_
      rintro e w7 ⟨rfl, hT7, hB7⟩
      have hX7 := hX6.but hB7 hwg
      go_wp2_with fail
      refine (c3 _ hT7).mono ?_
      rintro e w8 ⟨rfl, hx8⟩
      have hX8 := hX7.trans hx8
      go_wp2_with fail
      refine (read_any none 0 0 [] w8 (Bs.nil w8) rfl (by decide)).mono ?_
      rintro e w9 ⟨q, rfl, hq, hr, hx9⟩
      have hX9 := hX8.trans hx9
      have hT9 := (hT7.ext hx8).ext hx9
      go_wp2_with fail
      refine (c5 _ _ hr).mono ?_
      rintro e w10 ⟨hr10, hB10, q2, hq2, hT10, rfl⟩
      have hqg : g ≠ q := by have := (hT7.ext hx8).lt; omega
      have hX10 := hX9.but hB10 (Nat.le_trans hX8.size hq)
      go_wp2_with fail
      refine (c4 _ (hT9.but hB10 hqg)).mono ?_
      rintro e w11 ⟨rfl, hT11, hB11⟩
      go_wp2
      go_ret
      exact ⟨rfl, hX10.but hB11 hwg⟩

end Go.Proofs.Ytaiofbagdcpfgaa
