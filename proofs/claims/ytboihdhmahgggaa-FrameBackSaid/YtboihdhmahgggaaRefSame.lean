/- RefSame: the walk of the reference's Same. -/
import Derived.Test.YtboihdhmahgggaaRefFrame
set_option linter.unusedVariables false
set_option linter.unusedSimpArgs false
set_option maxRecDepth 100000
namespace Go.Proofs.Ytboihdhmahgggaa
open Go.RowKit Go.Proofs.YtboihdhmahgggaaW.PrintWords Go.Proofs.YtboihdhmahgggaaW.PrintLast CrcPure

theorem same_step {xs ys : List (List UInt8)} {k : Nat} (h : xs.take k = ys.take k) (hx : k < xs.length) (hy : k < ys.length) (e : xs.getD k [] = ys.getD k []) : xs.take (k + 1) = ys.take (k + 1) := by
  rw [List.take_succ_eq_append_getElem hx, List.take_succ_eq_append_getElem hy, h]
  congr 2
  simpa [hx, hy] using e

set_option maxHeartbeats 800000 in
theorem same_any (A1 A2 : Option Addr) (n1 c1 n2 c2 : Nat) (xs ys : List (List UInt8)) (w : World) (h1 : Bss w A1 xs) (h2 : Bss w A2 ys) (hn1 : n1 = xs.length) (hn2 : n2 = ys.length) :
    Calls Try.prog 22 #[.slice A1 n1 c1, .slice A2 n2 c2] w fun e w' => e = .returned (.bool (decide (xs = ys))) ∧ Ext w w' := by
  subst hn1 hn2
  go_enter Try.func22, Try.ntmps22
  by_cases hl : ys.length = xs.length
  case neg =>
    have hne : xs ≠ ys := fun h => hl (by rw [h])
    rw [decide_eq_false hne]
    have hq : ¬ ((xs.length : Int) = (ys.length : Int)) := by omega
    go_wp2
    go_ret
    exact ⟨rfl, Ext.refl _⟩
  have hmx := h1.max
  rw [hl]
  have Hl := Lib.hid hl
  clear hl
  obtain ⟨n, Hn⟩ : ∃ n, Hid (xs.length = n) := ⟨_, Lib.hid rfl⟩
  rw [Hn.out] at hmx ⊢
  go_wp2
  go_loopw [5] (fun i wr => ∃ k : Nat, k ≤ n ∧ i = .int .i64 k ∧ xs.take k = ys.take k ∧ Ext w wr) (fun i _ => n - (intOf i).toNat)
  case atStart => exact ⟨0, Nat.zero_le _, rfl, rfl, Ext.refl _⟩
  case round =>
    obtain ⟨k, hk, rfl, heq, hx⟩ := hrel
    by_cases hlt : k < n
    · obtain ⟨ad1, B1, d1, rfl, hc1, hd1, hb1⟩ := (h1.ext hx).at k (by rw [Hn.out]; exact hlt)
      obtain ⟨ad2, B2, d2, rfl, hc2, hd2, hb2⟩ := (h2.ext hx).at k (by rw [Hl.out, Hn.out]; exact hlt)
      obtain ⟨x, Hx⟩ : ∃ x, Hid (xs.getD k [] = x) := ⟨_, Lib.hid rfl⟩
      obtain ⟨y, Hy⟩ : ∃ y, Hid (ys.getD k [] = y) := ⟨_, Lib.hid rfl⟩
      rw [Hx.out] at hc1 hd1 hb1
      rw [Hy.out] at hc2 hd2 hb2
      have hr1 := (hb1.ext (Ext.refl _).drew).string x.length d1 rfl
      have hr2 := (hb2.ext (Ext.refl _).drew).string y.length d2 rfl
      have Heq := Lib.hid heq
      clear heq
      by_cases hxy : x = y
      · subst hxy
        go_wp2
        go_region
        go_wp2
        go_roundw
        case rel => exact ⟨k + 1, by omega, by go_num, same_step Heq.out (by rw [Hn.out]; exact hlt) (by rw [Hl.out, Hn.out]; exact hlt) (by rw [Hx.out, Hy.out]), hx.drew⟩
        case measure => simp [intOf]; omega
      · have hne : ((Str x).toList == (Str y).toList) = false := by simp [Str_toList, hxy]
        have hres : xs ≠ ys := by
          intro h
          apply hxy
          rw [← Hx.out, ← Hy.out, h]
        have Hres := Lib.hid hres
        clear hxy hres
        go_wp2
        go_region
        go_wp2
        go_ret
        exact ⟨by rw [decide_eq_false Hres.out]; rfl, hx.drew⟩
    · have hkn : k = n := by omega
      subst hkn
      have hres : xs = ys := by
        rw [List.take_of_length_le (by rw [Hn.out]; exact Nat.le_refl _), List.take_of_length_le (by rw [Hl.out, Hn.out]; exact Nat.le_refl _)] at heq
        exact heq
      have Hres := Lib.hid hres
      clear heq hres
      go_wp2
      go_ret
      exact ⟨by rw [decide_eq_true Hres.out]; rfl, hx⟩

end Go.Proofs.Ytboihdhmahgggaa
