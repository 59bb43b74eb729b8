/- PackRdNum: the walk of (*pack.Reader).Num. -/
import Derived.Test.YtlffbappgfimeaaDoorPackRd
set_option linter.unusedVariables false
set_option maxRecDepth 100000
namespace Go.Proofs.YtlffbappgfimeaaDoor
open Go.RowKit Go.Proofs.YtlffbappgfimeaaDoorW.PrintWords PackPure

theorem min2_int (k k' : IntKind) (x y : Int) : Builtin.min2 (.int k x) (.int k' y) = pure (.int k (if y < x then y else x)) := by simp only [Builtin.min2]
theorem min_two (ats : Array TypeId) (ty : TypeId) (a b : Value) : Builtin.min_ ats ty #[a, b] = (Builtin.min2 a b >>= fun s => pure s) := by simp only [Builtin.min_, List.foldlM_cons, List.foldlM_nil]
theorem and128_all : ∀ x : Nat, x < 256 → (bits .and .u8 (x : Int) 128 != 0) = decide (128 ≤ x) := by decide +kernel
theorem andNot128_all : ∀ x : Nat, x < 256 → bits .andNot .u8 (x : Int) 128 = ((x % 128 : Nat) : Int) := by decide +kernel
theorem bits_or_u64 (a b : Nat) (ha : a < 18446744073709551616) (hb : b < 18446744073709551616) : bits .or .u64 (a : Int) (b : Int) = ((a ||| b : Nat) : Int) := by
  have hx : a ||| b < 2 ^ 64 := Nat.or_lt_two_pow (by omega) (by omega)
  have h1 : (BitVec.ofInt 64 (a : Int)).toNat = a := by
    rw [BitVec.ofInt_natCast, BitVec.toNat_ofNat]; exact Nat.mod_eq_of_lt (by omega)
  have h2 : (BitVec.ofInt 64 (b : Int)).toNat = b := by
    rw [BitVec.ofInt_natCast, BitVec.toNat_ofNat]; exact Nat.mod_eq_of_lt (by omega)
  show IntKind.u64.wrap ((BitVec.ofInt 64 (a : Int) ||| BitVec.ofInt 64 (b : Int)).toNat : Int) = _
  rw [BitVec.toNat_or, h1, h2, IntKind.wrap_u64]
  omega
theorem grp_go (u : Nat) (b : UInt8) (k : Nat) (hu : u < 18446744073709551616) :
    bits .or .u64 (u : Int) (IntKind.u64.wrap (IntKind.u64.wrap (bits .andNot .u8 (b.toNat : Int) 128) * 2 ^ (7 * k))) = ((grp u b.toNat k : Nat) : Int) := by
  rw [andNot128_all _ b.toNat_lt, IntKind.wrap_u64, IntKind.wrap_u64, grp]
  rw [show (((b.toNat % 128 : Nat) : Int) % 18446744073709551616 * 2 ^ (7 * k)) % 18446744073709551616 = ((b.toNat % 128 * 2 ^ (7 * k) % 18446744073709551616 : Nat) : Int) from by
    rw [show ((b.toNat % 128 : Nat) : Int) % 18446744073709551616 = ((b.toNat % 128 : Nat) : Int) from by omega]
    simp]
  exact bits_or_u64 _ _ hu (Nat.mod_lt _ (by decide))

theorem bits_and1_u64 (a : Nat) (ha : a < 18446744073709551616) : bits .and .u64 (a : Int) 1 = ((a % 2 : Nat) : Int) := by
  have h1 : (BitVec.ofInt 64 (a : Int)).toNat = a := by
    rw [BitVec.ofInt_natCast, BitVec.toNat_ofNat]; exact Nat.mod_eq_of_lt (by omega)
  have h2 : (BitVec.ofInt 64 (1 : Int)).toNat = 1 := rfl
  show IntKind.u64.wrap ((BitVec.ofInt 64 (a : Int) &&& BitVec.ofInt 64 (1 : Int)).toNat : Int) = _
  rw [BitVec.toNat_and, h1, h2, Nat.and_one_is_mod, IntKind.wrap_u64]
  omega
theorem xor_minus1 (n : Nat) (h : n < 9223372036854775808) : bits .xor .i64 (n : Int) (-1) = -(n : Int) - 1 := by
  have h1 : (BitVec.ofInt 64 (n : Int)).toNat = n := by
    rw [BitVec.ofInt_natCast, BitVec.toNat_ofNat]; exact Nat.mod_eq_of_lt (by omega)
  have h2 : (BitVec.ofInt 64 (-1 : Int)).toNat = 18446744073709551615 := rfl
  show IntKind.i64.wrap ((BitVec.ofInt 64 (n : Int) ^^^ BitVec.ofInt 64 (-1 : Int)).toNat : Int) = _
  rw [BitVec.toNat_xor, h1, h2, xor_ones _ (by omega), IntKind.wrap_i64]
  omega
theorem xor_zero_i64 (n : Nat) (h : n < 9223372036854775808) : bits .xor .i64 (n : Int) 0 = (n : Int) := by
  have h1 : (BitVec.ofInt 64 (n : Int)).toNat = n := by
    rw [BitVec.ofInt_natCast, BitVec.toNat_ofNat]; exact Nat.mod_eq_of_lt (by omega)
  have h2 : (BitVec.ofInt 64 (0 : Int)).toNat = 0 := rfl
  show IntKind.i64.wrap ((BitVec.ofInt 64 (n : Int) ^^^ BitVec.ofInt 64 (0 : Int)).toNat : Int) = _
  rw [BitVec.toNat_xor, h1, h2, Nat.xor_zero, IntKind.wrap_i64]
  omega
theorem unzz_go (u : Nat) (hu : u < 18446744073709551616) : bits .xor .i64 ((u : Int) / 2) (wrap64 (-wrap64 (bits .and .u64 (u : Int) 1))) = unzz u := by
  rw [bits_and1_u64 u hu, show ((u : Int) / 2) = ((u / 2 : Nat) : Int) from by omega, unzz]
  by_cases h : u % 2 = 1
  · rw [if_pos h, h, show wrap64 (-wrap64 ((1 : Nat) : Int)) = -1 from by unfold wrap64; omega, xor_minus1 _ (by omega)]
  · rw [if_neg h, show u % 2 = 0 from by omega, show wrap64 (-wrap64 ((0 : Nat) : Int)) = 0 from by unfold wrap64; omega, xor_zero_i64 _ (by omega)]
theorem scan_at (l : List UInt8) (k u : Nat) (hk : k < l.length) (h10 : k < 10) :
    scan k u (l.drop k) = if (l.getD k 0).toNat < 128 then some (grp u (l.getD k 0).toNat k, k, l.getD k 0) else scan (k + 1) (grp u (l.getD k 0).toNat k) (l.drop (k + 1)) := by
  have e : l.drop k = l.getD k 0 :: l.drop (k + 1) := by
    rw [List.drop_eq_getElem_cons hk]; simp [hk]
  rw [e, scan, if_neg (by omega)]
theorem scan_end (l : List UInt8) (k u : Nat) (hk : l.length ≤ k ∨ 10 ≤ k) : scan k u (l.drop k) = none := by
  rcases Nat.lt_or_ge k l.length with h | h
  · have e : l.drop k = l.getD k 0 :: l.drop (k + 1) := by
      rw [List.drop_eq_getElem_cons h]; simp [h]
    rw [e, scan, if_pos (by omega)]
  · rw [List.drop_eq_nil_of_le h, scan]

theorem info_u8x : ∃ i, Tryd.prog.info? 5 = some i ∧ i.size = 1 := by
  obtain ⟨i, hi, _, hs, _⟩ := info_parts info_u8
  exact ⟨i, hi, hs⟩
noncomputable def iu8 : TypeInfo := info_u8x.choose
theorem info_u8i : Tryd.prog.info? 5 = some iu8 := info_u8x.choose_spec.1
theorem info_u8s : iu8.size = 1 := info_u8x.choose_spec.2
theorem bs_cut {w : World} {A A' : Option Addr} {l : List UInt8} {c m : Nat} (h : ∀ (w : World) (k : IntKind) (xs : List Int), l.length ≤ c → ReadsInt w k A l.length xs → ReadsInt w k A' (l.length - m) (xs.drop m)) (hc : l.length ≤ c) (hB : Bs w A l) : Bs w A' (l.drop m) := by
  have h1 := h w .u8 (B l) hc (Kd.reads_of_C (enc := Value.int .u8) (d := (0 : Int)) (h1 := fun _ => rfl) hB)
  have e : B (l.drop m) = (B l).drop m := by simp [B, List.map_drop]
  unfold Bs
  rw [List.length_drop, e]
  exact Kd.C_of_reads (enc := Value.int .u8) (d := (0 : Int)) (h1 := fun _ => rfl) h1

set_option maxHeartbeats 1600000 in
theorem rnum_any (g : Nat) (l : List UInt8) (bad : Bool) (least most : Int) (w : World) (h : Rd w g l bad) :
    Calls Tryd.prog 21 #[.pointer (some ⟨g, 0, none⟩), .int .i64 least, .int .i64 most] w fun e w' => e = .returned (.int .i64 (rdNum l bad least most).1) ∧ Rd w' g (rdNum l bad least most).2.1 (rdNum l bad least most).2.2 ∧ But g w w' := by
  obtain ⟨A, c, hh, h0, h1, f0, f1, hl, hB⟩ := h.cells
  have hmax := hB.max
  have Hh := Lib.hid hh
  clear hh
  obtain ⟨m, hm1, hm2, hm3, hmin⟩ : ∃ m : Nat, m ≤ l.length ∧ m ≤ 10 ∧ (l.length ≤ m ∨ 10 ≤ m) ∧ ∀ ats ty, Builtin.min_ ats ty #[.int .i64 (l.length : Int), .int .i64 10] = (pure (.int .i64 (m : Int)) : Sem Value) := by
    by_cases h10 : l.length < 10
    · refine ⟨l.length, Nat.le_refl _, by omega, by omega, fun ats ty => ?_⟩
      rw [min_two, min2_int, if_neg (by omega)]; rfl
    · refine ⟨10, by omega, by omega, by omega, fun ats ty => ?_⟩
      rw [min_two, min2_int]
      by_cases h' : (10 : Int) < l.length
      · rw [if_pos h']; rfl
      · rw [if_neg h', show (l.length : Int) = ((10 : Nat) : Int) from by omega]; rfl
  have hmz : (m : Int) ≤ (l.length : Int) := by omega
  go_enter Tryd.func21, Tryd.ntmps21
  go_wp2
  go_region
  go_wp2
  have hB1 : Bs w.drew A l := hB.ext (Ext.refl w).drew
  have hR1 : Rd w.drew g l bad := h.ext (Ext.refl w).drew
  have hz1 : But g w w.drew := (But.refl g w).drew
  have Hh1 : Hid (w.drew.heap[g]? = some (.cells #[.slice A l.length c, .bool bad] 73 (0, 0))) := Hh.out
  clear hmin
  go_loopw [7, 23] (fun x y wr => ∃ (k u : Nat), k ≤ m ∧ y = .int .i64 k ∧ x = .int .u64 u ∧ u < 18446744073709551616 ∧ scan 0 0 l = scan k u (l.drop k) ∧ wr = w.drew) (fun _ y _ => m - (intOf y).toNat)
  case atStart => exact ⟨0, 0, Nat.zero_le _, rfl, rfl, by decide, by rw [List.drop_zero], rfl⟩
  case round =>
    obtain ⟨k, u, hk, rfl, rfl, hu, hsc, rfl⟩ := hrel
    by_cases hlt : k < m
    · have hkl : k < l.length := by omega
      have hk10 : k < 10 := by omega
      rw [scan_at l k u hkl hk10] at hsc
      obtain ⟨ad, rfl, hb⟩ := hB1.at k hkl
      have hblt := (l.getD k 0).toNat_lt
      have hgo := grp_go u (l.getD k 0) k hu
      have hgl := grp_lt u (l.getD k 0).toNat k hu
      generalize l.getD k 0 = b at *
      generalize grp u b.toNat k = u2 at *
      have hbr := B_range b
      by_cases hmore : 128 ≤ b.toNat
      · have ht : (bits .and .u8 (b.toNat : Int) 128 != 0) = true := by rw [and128_all _ hblt]; simpa using hmore
        rw [if_neg (by omega)] at hsc
        have Hsc := Lib.hid hsc
        clear hsc
        go_wp2
        go_roundw
        case rel => exact ⟨k + 1, u2, by omega, by go_num, rfl, hgl, Hsc.out, by first | rfl | trivial⟩
        case measure => simp [intOf]; omega
      · have ht : (bits .and .u8 (b.toNat : Int) 128 != 0) = false := by rw [and128_all _ hblt]; simpa using hmore
        rw [if_pos (by omega)] at hsc
        have hun := unzz_go u2 hgl
        have hrd : rdNum l bad least most = if (0 < k ∧ b.toNat = 0) ∨ (k = 9 ∧ 1 < b.toNat) ∨ unzz u2 < least ∨ most < unzz u2 then (0, [], true) else (unzz u2, l.drop (k + 1), bad) := by
          rw [rdNum, hsc]
        generalize unzz u2 = v at *
        have Hrd := Lib.hid hrd
        clear hsc hrd
        obtain ⟨A', hcut, hA'⟩ := print_cut (P := Tryd.prog) 29 5 .i64 Tryd.underlying29 info_u8i info_u8s (some ad) l.length c (k + 1) (by omega)
        have hcut' : ∀ W : World, (Instr.slice 29 (.slice (some ad) l.length c) (some (.int .i64 ((k : Int) + 1))) none none).run Tryd.prog W = .ok (.slice A' (l.length - (k + 1)) (c - (k + 1))) W := hcut
        have hBd : Bs w.drew A' (l.drop (k + 1)) := bs_cut hA' hl hB1
        clear hcut hA'
        by_cases hk0 : k < 1
        · have hk0' : ¬ 0 < k := by omega
          have hk9' : ((k : Int) == 9) = false := by simp; omega
          by_cases hlo : v < least
          · go_wp2_with fail
            refine (fail_any g l bad _ hR1).mono ?_
            rintro e w2 ⟨rfl, hr2, hb2⟩
            go_wp2
            go_ret
            exact ⟨ret_i (by rw [Hrd.out, if_pos (by omega)]), by rw [Hrd.out, if_pos (by omega)]; exact hr2, hz1.trans hb2⟩
          · by_cases hhi : most < v
            · go_wp2_with fail
              refine (fail_any g l bad _ hR1).mono ?_
              rintro e w2 ⟨rfl, hr2, hb2⟩
              go_wp2
              go_ret
              exact ⟨ret_i (by rw [Hrd.out, if_pos (by omega)]), by rw [Hrd.out, if_pos (by omega)]; exact hr2, hz1.trans hb2⟩
            · go_wp2
              go_ret
              refine ⟨ret_i (by rw [Hrd.out, if_neg (by omega)]), ?_, ?_⟩
              · rw [Hrd.out, if_neg (by omega)]
                exact ⟨A', c - (k + 1), by rw [List.length_drop]; exact Joins.block_setCell Hh1 (i := 0) _, by rw [List.length_drop]; omega, hBd.but (But.setCell (But.refl g _) 0 _) hR1.no⟩
              · exact hz1.setCell 0 _
        · have hk0' : 0 < k := by omega
          by_cases hb0 : b.toNat < 1
          · have hb0' : ((b.toNat : Int) == 0) = true := by simp; omega
            go_wp2_with fail
            refine (fail_any g l bad _ hR1).mono ?_
            rintro e w2 ⟨rfl, hr2, hb2⟩
            go_wp2
            go_ret
            exact ⟨ret_i (by rw [Hrd.out, if_pos (by omega)]), by rw [Hrd.out, if_pos (by omega)]; exact hr2, hz1.trans hb2⟩
          · have hb0' : ((b.toNat : Int) == 0) = false := by simp; omega
            by_cases hk9 : 9 ≤ k
            · have hk9' : ((k : Int) == 9) = true := by simp; omega
              by_cases hb1 : 1 < b.toNat
              · go_wp2_with fail
                refine (fail_any g l bad _ hR1).mono ?_
                rintro e w2 ⟨rfl, hr2, hb2⟩
                go_wp2
                go_ret
                exact ⟨ret_i (by rw [Hrd.out, if_pos (by omega)]), by rw [Hrd.out, if_pos (by omega)]; exact hr2, hz1.trans hb2⟩
              · by_cases hlo : v < least
                · go_wp2_with fail
                  refine (fail_any g l bad _ hR1).mono ?_
                  rintro e w2 ⟨rfl, hr2, hb2⟩
                  go_wp2
                  go_ret
                  exact ⟨ret_i (by rw [Hrd.out, if_pos (by omega)]), by rw [Hrd.out, if_pos (by omega)]; exact hr2, hz1.trans hb2⟩
                · by_cases hhi : most < v
                  · go_wp2_with fail
                    refine (fail_any g l bad _ hR1).mono ?_
                    rintro e w2 ⟨rfl, hr2, hb2⟩
                    go_wp2
                    go_ret
                    exact ⟨ret_i (by rw [Hrd.out, if_pos (by omega)]), by rw [Hrd.out, if_pos (by omega)]; exact hr2, hz1.trans hb2⟩
                  · go_wp2
                    go_ret
                    refine ⟨ret_i (by rw [Hrd.out, if_neg (by omega)]), ?_, ?_⟩
                    · rw [Hrd.out, if_neg (by omega)]
                      exact ⟨A', c - (k + 1), by rw [List.length_drop]; exact Joins.block_setCell Hh1 (i := 0) _, by rw [List.length_drop]; omega, hBd.but (But.setCell (But.refl g _) 0 _) hR1.no⟩
                    · exact hz1.setCell 0 _
            · have hk9' : ((k : Int) == 9) = false := by simp; omega
              by_cases hlo : v < least
              · go_wp2_with fail
                refine (fail_any g l bad _ hR1).mono ?_
                rintro e w2 ⟨rfl, hr2, hb2⟩
                go_wp2
                go_ret
                exact ⟨ret_i (by rw [Hrd.out, if_pos (by omega)]), by rw [Hrd.out, if_pos (by omega)]; exact hr2, hz1.trans hb2⟩
              · by_cases hhi : most < v
                · go_wp2_with fail
                  refine (fail_any g l bad _ hR1).mono ?_
                  rintro e w2 ⟨rfl, hr2, hb2⟩
                  go_wp2
                  go_ret
                  exact ⟨ret_i (by rw [Hrd.out, if_pos (by omega)]), by rw [Hrd.out, if_pos (by omega)]; exact hr2, hz1.trans hb2⟩
                · go_wp2
                  go_ret
                  refine ⟨ret_i (by rw [Hrd.out, if_neg (by omega)]), ?_, ?_⟩
                  · rw [Hrd.out, if_neg (by omega)]
                    exact ⟨A', c - (k + 1), by rw [List.length_drop]; exact Joins.block_setCell Hh1 (i := 0) _, by rw [List.length_drop]; omega, hBd.but (But.setCell (But.refl g _) 0 _) hR1.no⟩
                  · exact hz1.setCell 0 _
    · have hend := scan_end l k u (by omega)
      rw [hend] at hsc
      have hrd : rdNum l bad least most = (0, [], true) := by rw [rdNum, hsc]
      have Hrd := Lib.hid hrd
      clear hsc hrd hend
      go_wp2_with fail
      refine (fail_any g l bad _ hR1).mono ?_
      rintro e w2 ⟨rfl, hr2, hb2⟩
      go_wp2
      go_ret
      exact ⟨ret_i (by rw [Hrd.out]), by rw [Hrd.out]; exact hr2, hz1.trans hb2⟩

end Go.Proofs.YtlffbappgfimeaaDoor
