/- CrcBit: the walk. -/
import Derived.Test.YtboihdhmahgggaaCrcRef
import Derived.Test.YtboihdhmahgggaaCrcXor
import Derived.Test.YtboihdhmahgggaaCrcFlip
import Derived.RegionTactic
import Derived.BigRegion
import Derived.Deep.RegionHeld3
set_option linter.unusedVariables false
namespace Go.Proofs.Ytboihdhmahgggaa
open Go.RowKit Go.Proofs.YtboihdhmahgggaaW.PrintWords CrcPure

def flipB (l : List UInt8) (p : Nat) : List UInt8 := l.set (p / 8) (l.getD (p / 8) 0 ^^^ UInt8.ofNat (2 ^ (p % 8)))
def flipsB (l : List UInt8) (at_ bt : Nat) : Nat → List UInt8
  | 0 => l
  | k + 1 => if at_ + k < 8 * l.length ∧ bt / 2 ^ k % 2 = 1 then flipB (flipsB l at_ bt k) (at_ + k) else flipsB l at_ bt k
theorem flipB_toN (l : List UInt8) (p : Nat) : toN (flipB l p) = flipN (toN l) p := by
  have hp : 2 ^ (p % 8) < 256 := Nat.lt_of_lt_of_le (Nat.pow_lt_pow_right (by omega) (Nat.mod_lt p (by omega) : p % 8 < 8)) (by decide)
  simp only [toN, flipB, flipN, List.map_set, UInt8.toNat_xor, UInt8.toNat_ofNat']
  congr 2
  · simp only [List.getD_eq_getElem?_getD, List.getElem?_map]
    cases l[p / 8]? <;> rfl
  · exact Nat.mod_eq_of_lt hp
theorem flipsB_length (l : List UInt8) (at_ bt k : Nat) : (flipsB l at_ bt k).length = l.length := by
  induction k with
  | zero => rfl
  | succ k ih =>
    simp only [flipsB]
    split
    · simp [flipB, ih]
    · exact ih
theorem flipsB_toN (l : List UInt8) (at_ bt k : Nat) : toN (flipsB l at_ bt k) = flipsN (toN l) at_ bt k := by
  induction k with
  | zero => rfl
  | succ k ih =>
    simp only [flipsB, flipsN]
    rw [show (toN l).length = l.length from by simp [toN]]
    split
    · rw [flipB_toN, ih]
    · exact ih
theorem toN_inj (l m : List UInt8) (h : toN l = toN m) : l = m := by
  induction l generalizing m with
  | nil => exact (List.map_eq_nil_iff.1 h.symm).symm
  | cons a l ih =>
    match m, h with
    | b :: m, h =>
      simp only [toN, List.map_cons, List.cons.injEq] at h
      rw [ih m h.2, UInt8.toNat_inj.1 h.1]
theorem crc_flipsB (l : List UInt8) (at_ bt : Nat) (hat : at_ ≤ 8 * l.length) : crc (toN l) = crc (toN (flipsB l at_ bt 32)) ↔ l = flipsB l at_ bt 32 := by
  rw [flipsB_toN, eq_comm, crc_flips (toN l) at_ bt (by simpa [toN] using hat), ← flipsN_eq (toN l) at_ bt (toN_lt _) (by rw [← flipsB_toN]; exact toN_lt _), ← flipsB_toN]
  constructor
  · intro h; exact (toN_inj _ _ h).symm
  · intro h; rw [← h]

theorem shr_nat (bt k : Nat) : ((bt : Int) / 2 ^ k) = ((bt / 2 ^ k : Nat) : Int) := by
  rw [Int.natCast_ediv, Int.natCast_pow]; rfl
theorem bit_yes (bt k : Nat) (h2 : bt < 4294967296) (h : bt / 2 ^ k % 2 = 1) : (bits .and .u32 ((bt : Int) / 2 ^ k) 1 == 1) = true := by
  rw [shr_nat]
  exact odd_yes _ (Nat.lt_of_le_of_lt (Nat.div_le_self _ _) h2) h
theorem bit_no (bt k : Nat) (h2 : bt < 4294967296) (h : ¬ bt / 2 ^ k % 2 = 1) : (bits .and .u32 ((bt : Int) / 2 ^ k) 1 == 1) = false := by
  rw [shr_nat]
  exact odd_no _ (Nat.lt_of_le_of_lt (Nat.div_le_self _ _) h2) h

theorem flip_value (x : UInt8) (r : Nat) (hr : r < 8) : bits .xor .u8 (x.toNat : Int) (2 ^ r % 256) = ((x ^^^ UInt8.ofNat (2 ^ r)).toNat : Int) := by
  have hp : 2 ^ r < 256 := Nat.lt_of_lt_of_le (Nat.pow_lt_pow_right (by omega) hr) (by decide)
  have e : ((2 : Int) ^ r % 256) = (((UInt8.ofNat (2 ^ r)).toNat : Nat) : Int) := by
    have : ((2 : Int) ^ r) = ((2 ^ r : Nat) : Int) := by simp
    rw [UInt8.toNat_ofNat', Nat.mod_eq_of_lt hp, this]
    generalize 2 ^ r = q at *
    omega
  rw [e, bits_xor_u8]

set_option maxHeartbeats 800000 in
theorem bit_in (A : Option Addr) (c : Nat) (a : List UInt8) (at_ bt : Nat) (w : World) (ha : Bs w A a) (hc : a.length ≤ c) (hat : at_ < 8 * a.length) (hbt : 0 < bt) (hbt2 : bt < 4294967296) :
    Calls Try.prog 4 #[.slice A a.length c, .int .i64 (at_ : Int), .int .u32 (bt : Int)] w fun e w' => e = .returned (.bool true) ∧ Ext w w' := by
  go_enter Try.func4, Try.ntmps4
  go_wp2_with fail
  refine (awake2_any _).mono ?_
  rintro e w1 ⟨rfl, hb1⟩
  by_cases h1 : 300 < a.length
  · go_wp2
    go_ret
    exact ⟨rfl, hb1⟩
  have e1 : ((bt : Int) == 0) = false := by simp; omega
  have e2 : (at_ : Int) < 8 * (a.length : Int) := by omega
  go_wp2_with ((with_reducible refine gate_dst (N := 31) rfl ?_); refine halt ?_)
  refine unhalt (wp_append rfl _ _ rfl (.slice (some ⟨w1.heap.size, 0, none⟩) 0 0) [] rfl A a a.length c rfl rfl w.heap.size (Ob.alloc_at _ _ [] hb1.size (by decide) _ rfl _ rfl _ rfl) (ha.ext (hb1.alloc _)) (hb1.alloc _).size (by simp; omega) ?_)
  intro v1 w2 ho1 hg1 _
  have hb2 : Ext w w2 := (hb1.alloc _).grown (Ob.alloc_at (l := []) _ w.heap.size hb1.size (by decide) _ rfl _ rfl _ rfl) (Nat.le_refl _) hg1
  clear hg1
  rw [List.nil_append] at ho1
  have hpos : 0 < a.length := by omega
  obtain ⟨g, cap, rfl, hgb, _⟩ := ho1.form hpos
  go_wp2
  go_loopw [8] (fun i wr => ∃ k : Nat, k ≤ 32 ∧ i = .int .i64 k ∧ Ob wr w.heap.size (.slice (some ⟨g, 0, none⟩) a.length cap) (flipsB a at_ bt k) ∧ Ext w wr) (fun i _ => 32 - (intOf i).toNat)
  case atStart => exact ⟨0, by omega, rfl, ho1, hb2⟩
  case round =>
    obtain ⟨k, hk, rfl, ho, hx⟩ := hrel
    clear ho1 hb2
    by_cases hgo : k < 32 ∧ at_ + k < 8 * a.length
    · obtain ⟨hlt, hin⟩ := hgo
      by_cases hbit : bt / 2 ^ k % 2 = 1
      · have hkl : (at_ + k) / 8 < (flipsB a at_ bt k).length := by rw [flipsB_length]; omega
        obtain ⟨hD, hF⟩ := ho.at (flipsB_length a at_ bt k).symm ((at_ + k) / 8) hkl
        have hs := ho.store (flipsB_length a at_ bt k).symm ((at_ + k) / 8) ((flipsB a at_ bt k).getD ((at_ + k) / 8) 0 ^^^ UInt8.ofNat (2 ^ ((at_ + k) % 8)))
        have hnx : flipsB a at_ bt (k + 1) = (flipsB a at_ bt k).set ((at_ + k) / 8) ((flipsB a at_ bt k).getD ((at_ + k) / 8) 0 ^^^ UInt8.ofNat (2 ^ ((at_ + k) % 8))) := by
          rw [flipsB, if_pos ⟨hin, hbit⟩, flipB]
        rw [← hnx] at hs
        clear hnx
        have hv := flip_value ((flipsB a at_ bt k).getD ((at_ + k) / 8) 0) ((at_ + k) % 8) (Nat.mod_lt _ (by omega))
        generalize (flipsB a at_ bt k).getD ((at_ + k) / 8) 0 = x at *
        have hyes := bit_yes bt k hbt2 hbit
        have hx' := hx.setCell (p := ⟨g, (at_ + k) / 8, none⟩) ho.block (.int .u8 ((x ^^^ UInt8.ofNat (2 ^ ((at_ + k) % 8))).toNat : Int))
        have Hv := Lib.hid hv
        clear hv hbit hkl
        go_wp2
        go_roundw
        case rel => exact ⟨k + 1, by omega, by go_num, by rw [Hv.out]; exact hs, by rw [Hv.out]; exact hx'⟩
        case measure => simp [intOf]; omega
      · have hno := bit_no bt k hbt2 hbit
        have hnx : flipsB a at_ bt (k + 1) = flipsB a at_ bt k := by rw [flipsB, if_neg (fun h => hbit h.2)]
        rw [← hnx] at ho
        clear hbit hnx
        go_wp2
        go_roundw
        case rel => exact ⟨k + 1, by omega, by go_num, ho, hx⟩
        case measure => simp [intOf]; omega
    · have hfin : flipsB a at_ bt k = flipsB a at_ bt 32 := by
        have : ∀ j, k ≤ j → j ≤ 32 → flipsB a at_ bt j = flipsB a at_ bt k := by
          intro j hj hj2
          induction j with
          | zero => rw [show k = 0 from by omega]
          | succ j ih =>
            by_cases hkj : k ≤ j
            · rw [flipsB, if_neg (fun h => hgo ⟨by omega, by omega⟩), ih hkj (by omega)]
            · rw [show k = j + 1 from by omega]
        exact (this 32 hk (Nat.le_refl _)).symm
      rw [hfin] at ho
      clear hfin
      have hpl := flipsB_length a at_ bt 32
      have hiff := crc_flipsB a at_ bt (by omega)
      obtain ⟨hB7, hcap⟩ : Bs wr (some ⟨g, 0, none⟩) (flipsB a at_ bt 32) ∧ a.length ≤ cap := by
        obtain ⟨A7, c7, he, hl7, hB7⟩ := ho.reads
        injection he with he1 he2 he3
        rw [he1, he2, he3]
        exact ⟨hB7, hl7⟩
      generalize flipsB a at_ bt 32 = pp at *
      have hne : ((crc (toN a) : Int) == (crc (toN pp) : Int)) = (a == pp) := by
        rw [Bool.eq_iff_iff]
        simp only [beq_iff_eq]
        rw [← hiff]
        omega
      have hS := Str_toList
      have hc1 : ∀ W, Ext wr W → (convert 22 9 (.slice A a.length c)).run Try.prog W = .ok (.string (Str a)) W := fun W hW => ((ha.ext hx).ext hW).string _ _ rfl
      have hc2 : ∀ W, Ext wr W → (convert 22 9 (.slice (some ⟨g, 0, none⟩) a.length cap)).run Try.prog W = .ok (.string (Str pp)) W := fun W hW => (hB7.ext hW).string _ _ hpl.symm
      have hax : Bs wr A a := ha.ext hx
      have Hpl := Lib.hid hpl
      clear hpl hiff
      by_cases hlt : k < 32
      all_goals
        try have hin : 8 * (a.length : Int) ≤ (at_ : Int) + (k : Int) := by omega
        go_wp2
        go_region_held3 (fun W => Ext wr W) (first | exact Ext.drew (Ext.refl _) | exact Ext.alloc (by assumption) _ | assumption) (first | (go_at_call 13; refine (of_any _ 1 [a] _ (by first | exact (Bss.one hax rfl hc _ rfl).ext (Ext.refl _).drew | exact (Bss.one hax rfl hc _ rfl).ext ((Ext.refl _).alloc _).drew | exact (Bss.one (hax.ext ((Ext.refl _).alloc _)) rfl hc _ (size_alloc _ _)).ext (Ext.refl _).drew)).mono ?_; rintro e w' ⟨rfl, rfl⟩) | (go_at_call 13; refine (of_any _ 1 [pp] _ (by first | exact (Bss.one hB7 Hpl.out.symm hcap _ rfl).ext (Ext.refl _).drew | exact (Bss.one hB7 Hpl.out.symm hcap _ rfl).ext ((Ext.refl _).alloc _).drew | exact (Bss.one (hB7.ext ((Ext.refl _).alloc _)) Hpl.out.symm hcap _ (size_alloc _ _)).ext (Ext.refl _).drew)).mono ?_; rintro e w' ⟨rfl, rfl⟩))
        all_goals
          go_wp2
          go_ret
          exact ⟨by simp, hx.trans (by assumption)⟩

theorem bit_any (A : Option Addr) (c : Nat) (a : List UInt8) (at_ bt : Int) (w : World) (ha : Bs w A a) (hc : a.length ≤ c) (hm : a.length * 1 ≤ 140737488351232) (h0 : (Lit.int .i64 at_).wf = true) (h1 : (Lit.int .u32 bt).wf = true) :
    Calls Try.prog 4 #[.slice A a.length c, .int .i64 at_, .int .u32 bt] w fun e w' => e = .returned (.bool true) ∧ Ext w w' := by
  have r1 : 0 ≤ bt ∧ bt ≤ 4294967295 := by simpa [Lit.wf, IntKind.min, IntKind.max, IntKind.signed, IntKind.bits] using h1
  have r0 : -9223372036854775808 ≤ at_ ∧ at_ ≤ 9223372036854775807 := by simpa [Lit.wf, IntKind.min, IntKind.max, IntKind.signed, IntKind.bits] using h0
  clear h0 h1
  by_cases hin : 0 ≤ at_ ∧ at_ < 8 * (a.length : Int) ∧ 0 < bt
  · obtain ⟨x, rfl⟩ := Int.eq_ofNat_of_zero_le hin.1
    obtain ⟨y, rfl⟩ := Int.eq_ofNat_of_zero_le r1.1
    exact bit_in A c a x y w ha hc (by omega) (by omega) (by omega)
  · obtain ⟨hr0, hr1⟩ := r0
    obtain ⟨hq0, hq1⟩ := r1
    by_cases c1 : 0 ≤ at_
    · by_cases c2 : at_ < 8 * (a.length : Int)
      · have hz : (bt == 0) = true := by simp; omega
        go_enter Try.func4, Try.ntmps4
        go_wp2_with fail
        refine (awake2_any _).mono ?_
        rintro e w1 ⟨rfl, hb1⟩
        go_wp2
        all_goals go_ret
        all_goals exact ⟨rfl, hb1⟩
      · go_enter Try.func4, Try.ntmps4
        go_wp2_with fail
        refine (awake2_any _).mono ?_
        rintro e w1 ⟨rfl, hb1⟩
        go_wp2
        all_goals go_ret
        all_goals exact ⟨rfl, hb1⟩
    · go_enter Try.func4, Try.ntmps4
      go_wp2_with fail
      refine (awake2_any _).mono ?_
      rintro e w1 ⟨rfl, hb1⟩
      go_wp2
      all_goals go_ret
      all_goals exact ⟨rfl, hb1⟩

end Go.Proofs.Ytboihdhmahgggaa
