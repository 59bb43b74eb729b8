/- CrcXor: the walk. -/
import Derived.Test.YtboihdhmahgggaaCrcRef
import Derived.RegionTactic
import Derived.BigRegion
set_option linter.unusedVariables false
namespace Go.Proofs.Ytboihdhmahgggaa
open Go.RowKit Go.Proofs.YtboihdhmahgggaaW.PrintWords CrcPure

theorem bits_xor_u8 (a b : UInt8) : bits .xor .u8 (a.toNat : Int) (b.toNat : Int) = ((a ^^^ b).toNat : Int) := by
  have ha := a.toNat_lt
  have hb := b.toNat_lt
  have hx : a.toNat ^^^ b.toNat < 2 ^ 8 := Nat.xor_lt_two_pow (by omega) (by omega)
  have h1 : (BitVec.ofInt 8 (a.toNat : Int)).toNat = a.toNat := by
    rw [BitVec.ofInt_natCast, BitVec.toNat_ofNat]; exact Nat.mod_eq_of_lt (by omega)
  have h2 : (BitVec.ofInt 8 (b.toNat : Int)).toNat = b.toNat := by
    rw [BitVec.ofInt_natCast, BitVec.toNat_ofNat]; exact Nat.mod_eq_of_lt (by omega)
  show IntKind.u8.wrap ((BitVec.ofInt 8 (a.toNat : Int) ^^^ BitVec.ofInt 8 (b.toNat : Int)).toNat : Int) = _
  rw [BitVec.toNat_xor, h1, h2, UInt8.toNat_xor, IntKind.wrap_u8]
  omega

/-- Three rows put on one another, as far as k; zeros behind. -/
def put3 (a b c : List UInt8) (k : Nat) : List UInt8 := (List.range a.length).map fun i => if i < k then a.getD i 0 ^^^ b.getD i 0 ^^^ c.getD i 0 else 0
theorem put3_length (a b c : List UInt8) (k : Nat) : (put3 a b c k).length = a.length := by simp [put3]
theorem put3_zero (a b c : List UInt8) : put3 a b c 0 = List.replicate a.length 0 := by
  apply List.ext_getElem
  · simp [put3]
  · intro i h1 h2
    simp [put3]
theorem put3_set (a b c : List UInt8) (k : Nat) (hk : k < a.length) : (put3 a b c k).set k (a.getD k 0 ^^^ b.getD k 0 ^^^ c.getD k 0) = put3 a b c (k + 1) := by
  apply List.ext_getElem
  · simp [put3]
  · intro i h1 h2
    rw [List.getElem_set]
    by_cases e : k = i
    · subst e
      simp [put3]
    · rw [if_neg e]
      simp only [put3, List.getElem_map, List.getElem_range]
      by_cases h : i < k
      · rw [if_pos h, if_pos (by omega)]
      · rw [if_neg h, if_neg (by omega)]
theorem xor3_get (l m n : List Nat) (hm : m.length = l.length) (hn : n.length = l.length) : xor3 l m n = (List.range l.length).map fun i => l.getD i 0 ^^^ m.getD i 0 ^^^ n.getD i 0 := by
  induction l generalizing m n with
  | nil => rfl
  | cons a l ih =>
    match m, n, hm, hn with
    | b :: m, c :: n, hm, hn =>
      simp only [xor3, List.length_cons, List.range_succ_eq_map, List.map_cons, List.map_map]
      rw [ih m n (by simpa using hm) (by simpa using hn)]
      congr 1
theorem put3_toN (a b c : List UInt8) (hb : b.length = a.length) (hc : c.length = a.length) : toN (put3 a b c a.length) = xor3 (toN a) (toN b) (toN c) := by
  rw [xor3_get _ _ _ (by simp [toN, hb]) (by simp [toN, hc])]
  simp only [toN, put3, List.map_map, List.length_map]
  apply List.map_congr_left
  intro i hi
  have hi' := List.mem_range.1 hi
  simp only [Function.comp_apply, if_pos hi']
  rw [UInt8.toNat_xor, UInt8.toNat_xor]
  simp [hi', hb, hc]

set_option maxHeartbeats 400000 in
theorem xor_any (A1 A2 A3 : Option Addr) (c1 c2 c3 : Nat) (a b c : List UInt8) (w : World) (ha : Bs w A1 a) (hb : Bs w A2 b) (hc : Bs w A3 c) (h1c : a.length ≤ c1) (h2c : b.length ≤ c2) (h3c : c.length ≤ c3) :
    Calls Try.prog 5 #[.slice A1 a.length c1, .slice A2 b.length c2, .slice A3 c.length c3] w fun e w' => e = .returned (.bool true) ∧ Ext w w' := by
  go_enter Try.func5, Try.ntmps5
  go_wp2_with fail
  refine (awake2_any _).mono ?_
  rintro e w1 ⟨rfl, hb1⟩
  by_cases h1 : 300 < a.length
  · go_wp2
    go_ret
    exact ⟨rfl, hb1⟩
  by_cases h2 : b.length = a.length
  · by_cases h3 : c.length = a.length
    · have hmk := make_bytes a.length (by omega)
      have e2 : ((b.length : Int) != (a.length : Int)) = false := by simp [h2]
      have e3 : ((c.length : Int) != (a.length : Int)) = false := by simp [h3]
      have e2' : (b.length != a.length) = false := by simp [h2]
      have e3' : (c.length != a.length) = false := by simp [h3]
      have H2 := Lib.hid h2
      have H3 := Lib.hid h3
      clear h2 h3
      go_wp2
      go_loopw [8] (fun i wr => ∃ k : Nat, k ≤ a.length ∧ i = .int .i64 k ∧ Ob wr w.heap.size (.slice (some ⟨w1.heap.size, 0, none⟩) a.length a.length) (put3 a b c k) ∧ Ext w wr) (fun i _ => a.length - (intOf i).toNat)
      case atStart => exact ⟨0, Nat.zero_le _, rfl, by rw [put3_zero]; exact Ob.made _ _ _ hb1.size (by omega) _ rfl, hb1.alloc _⟩
      case round =>
        obtain ⟨k, hk, rfl, ho, hx⟩ := hrel
        by_cases hlt : k < a.length
        · obtain ⟨ad1, rfl, hA⟩ := (ha.ext hx).at k hlt
          obtain ⟨ad2, rfl, hB⟩ := (hb.ext hx).at k (by rw [H2.out]; exact hlt)
          obtain ⟨ad3, rfl, hC⟩ := (hc.ext hx).at k (by rw [H3.out]; exact hlt)
          obtain ⟨hD, hF⟩ := ho.at (put3_length a b c k).symm k (by rw [put3_length]; exact hlt)
          have hs := ho.store (put3_length a b c k).symm k (a.getD k 0 ^^^ b.getD k 0 ^^^ c.getD k 0)
          rw [put3_set a b c k hlt] at hs
          have k2 : (k : Int) < (b.length : Int) := by have := H2.out; omega
          have k3 : (k : Int) < (c.length : Int) := by have := H3.out; omega
          have hx' := hx.setCell (p := ⟨w1.heap.size, k, none⟩) ho.block (.int .u8 ((a.getD k 0 ^^^ b.getD k 0 ^^^ c.getD k 0).toNat : Int))
          have hxor : bits .xor .u8 (bits .xor .u8 ((a.getD k 0).toNat : Int) ((b.getD k 0).toNat : Int)) ((c.getD k 0).toNat : Int) = ((a.getD k 0 ^^^ b.getD k 0 ^^^ c.getD k 0).toNat : Int) := by rw [bits_xor_u8, bits_xor_u8]
          generalize a.getD k 0 = x at *
          generalize b.getD k 0 = y at *
          generalize c.getD k 0 = z at *
          generalize (put3 a b c k).getD k 0 = o at *
          go_wp2
          go_region
          go_wp2
          go_roundw
          case rel => exact ⟨k + 1, by omega, by go_num, (hs.ext ((Ext.refl _).drew)), hx'.drew⟩
          case measure => simp [intOf]; omega
        · have hkl : k = a.length := by omega
          subst hkl
          have hsum : crc (toN (put3 a b c a.length)) = crc (toN a) ^^^ crc (toN b) ^^^ crc (toN c) := by
            rw [put3_toN a b c H2.out H3.out]
            exact crc_xor3 _ _ _ (by simp [toN, H2.out]) (by simp [toN, H3.out])
          have la := crc_lt _ (toN_lt a)
          have lb := crc_lt _ (toN_lt b)
          have lc := crc_lt _ (toN_lt c)
          have hbits : bits .xor .u32 (bits .xor .u32 (crc (toN a) : Int) (crc (toN b) : Int)) (crc (toN c) : Int) = ((crc (toN (put3 a b c a.length)) : Nat) : Int) := by
            rw [hsum, bits_xor_u32 _ _ la lb, bits_xor_u32 _ _ (Nat.xor_lt_two_pow la lb) lc]
          have hpl : (put3 a b c a.length).length = a.length := put3_length a b c a.length
          have Hpl := Lib.hid hpl
          clear hsum la lb lc hpl
          have hB7 : Bs wr (some ⟨w1.heap.size, 0, none⟩) (put3 a b c a.length) := by
            obtain ⟨A7, c7, he, _, hB7⟩ := ho.reads
            injection he with he1 _ _
            rw [he1]
            exact hB7
          clear ho
          generalize put3 a b c a.length = pp at *
          have Hbits := Lib.hid hbits
          clear hbits
          go_wp2_with fail
          refine (of_one' _ a.length _ pp _ hB7 Hpl.out.symm (Nat.le_refl _) _ rfl).mono ?_
          rintro e w2 ⟨rfl, hw2⟩
          have hb2 : Ext w w2 := by rw [← hw2]; exact hx.alloc _
          clear hw2
          go_wp2_with fail
          refine (of_one _ _ a _ (ha.ext hb2) h1c _ rfl).mono ?_
          rintro e w3 ⟨rfl, hw3⟩
          have hb3 : Ext w w3 := by rw [← hw3]; exact hb2.alloc _
          clear hw3
          go_wp2_with fail
          refine (of_one _ _ b _ (hb.ext hb3) h2c _ rfl).mono ?_
          rintro e w4 ⟨rfl, hw4⟩
          have hb4 : Ext w w4 := by rw [← hw4]; exact hb3.alloc _
          clear hw4
          go_wp2_with fail
          refine (of_one _ _ c _ (hc.ext hb4) h3c _ rfl).mono ?_
          rintro e w5 ⟨rfl, hw5⟩
          have hb5 : Ext w w5 := by rw [← hw5]; exact hb4.alloc _
          clear hw5
          have hbits := Hbits.out
          go_wp2
          go_ret
          exact ⟨by simp, hb5⟩
    · have e3 : ((c.length : Int) != (a.length : Int)) = true := by simp; omega
      have e3' : (c.length != a.length) = true := by simp; omega
      go_wp2
      go_ret
      exact ⟨rfl, hb1⟩
  · have e2 : ((b.length : Int) != (a.length : Int)) = true := by simp; omega
    have e2' : (b.length != a.length) = true := by simp; omega
    go_wp2
    go_ret
    exact ⟨rfl, hb1⟩

end Go.Proofs.Ytboihdhmahgggaa
