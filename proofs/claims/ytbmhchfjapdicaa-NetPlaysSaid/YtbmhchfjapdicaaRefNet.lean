/- RefNet: the walks of the reference's may, Len, All, Clear. -/
import Derived.Test.YtbmhchfjapdicaaNetAwake
set_option linter.unusedVariables false
set_option linter.unusedSimpArgs false
set_option maxRecDepth 100000
namespace Go.Proofs.Ytbmhchfjapdicaa
open Go.RowKit Go.Proofs.YtbmhchfjapdicaaW.PrintWords Go.Proofs.YtbmhchfjapdicaaW.PrintLast

theorem way_some {n k : Nat} {f t : Int} (h : way n f t = some k) : ∃ a b : Nat, f = a ∧ t = b ∧ k = a * 7 + b ∧ a < n ∧ b < n := by
  unfold way at h
  split at h
  · rename_i c
    injection h with h
    exact ⟨f.toNat, t.toNat, by omega, by omega, h.symm, by omega, by omega⟩
  · cases h

set_option maxHeartbeats 1600000 in
theorem rmay_any (g n : Nat) (V : Nat → Value) (f t : Int) (w : World) (h : NetB w 45 g n V) :
    Calls Try.prog 25 #[.pointer (some ⟨g, 0, none⟩), .int .i64 f, .int .i64 t] w fun e w' => e = .returned (.bool (way n f t).isSome) ∧ w = w' := by
  have hd := h.head
  go_enter Try.func25, Try.ntmps25
  by_cases c : 0 ≤ f ∧ f < n ∧ 0 ≤ t ∧ t < n ∧ f ≠ t
  case neg =>
    have hres : (way n f t).isSome = false := by rw [way, if_neg c]; rfl
    have Hres := Lib.hid hres
    clear hres
    by_cases c1 : f < 0
    · clear c
      go_wp2
      go_ret
      exact ⟨by rw [Hres.out]; rfl, rfl⟩
    by_cases c2 : (n : Int) ≤ f
    · clear c
      go_wp2
      go_ret
      exact ⟨by rw [Hres.out]; rfl, rfl⟩
    by_cases c3 : t < 0
    · clear c
      go_wp2
      go_ret
      exact ⟨by rw [Hres.out]; rfl, rfl⟩
    by_cases c4 : (n : Int) ≤ t
    · clear c
      go_wp2
      go_ret
      exact ⟨by rw [Hres.out]; rfl, rfl⟩
    obtain rfl : f = t := by omega
    clear c
    go_wp2
    go_ret
    exact ⟨by rw [Hres.out]; rfl, rfl⟩
  case pos =>
    have hres : (way n f t).isSome = true := by rw [way, if_pos c]; rfl
    have Hres := Lib.hid hres
    clear hres
    have c0 : ¬ (f < 0) := by omega
    have c1 : ¬ ((n : Int) ≤ f) := by omega
    have c1' : f < (n : Int) := by omega
    have c2 : ¬ (t < 0) := by omega
    have c2' : ¬ ((n : Int) ≤ t) := by omega
    have c3 : (f == t) = false := by
      have := c.2.2.2.2
      simpa using this
    have c4 : (f != t) = true := by simp [bne, c3]
    clear c
    go_wp2
    go_ret
    exact ⟨by rw [Hres.out]; rfl, rfl⟩

theorem rlen_any (g n : Nat) (V : Nat → Value) (L : Nat → List Ent) (S : Nat → List (List UInt8)) (f t : Int) (w : World) (h : Net w 45 g n V L) (hS : Holds L S) (hn : n ≤ 7) :
    Calls Try.prog 19 #[.pointer (some ⟨g, 0, none⟩), .int .i64 f, .int .i64 t] w fun e w' => e = .returned (.int .i64 (lenS n S f t : Nat)) ∧ w = w' := by
  go_enter Try.func19, Try.ntmps19
  go_wp2_with fail
  refine (rmay_any g n V f t w h.blk).mono ?_
  rintro e w' ⟨rfl, hw⟩
  obtain rfl := hw
  cases hk : way n f t with
  | none =>
    have hres : lenS n S f t = 0 := by rw [lenS, hk]
    have Hres := Lib.hid hres
    clear hres
    dsimp only [Option.isSome]
    go_wp2
    go_ret
    exact ⟨by rw [Hres.out]; rfl, rfl⟩
  | some k =>
    have hk49 := way_lt hk hn
    have hres : lenS n S f t = (L k).length := by rw [lenS, hk, holds_len hS k hk49]
    have Hres := Lib.hid hres
    obtain ⟨a, b, rfl, rfl, rfl, ha, hb⟩ := way_some hk
    have hc := h.blk.cell _ hk49
    obtain ⟨A, c, hV, hlc, hmx, _⟩ := (h.bag _ hk49).shape
    obtain ⟨m, Hm⟩ : ∃ m, Hid ((L (a * 7 + b)).length = m) := ⟨_, Lib.hid rfl⟩
    rw [hV, ← Nat.add_assoc, Hm.out] at hc
    rw [Hm.out] at hmx
    have ha7 : (a : Int) < 7 := by omega
    have hb7 : (b : Int) < 7 := by omega
    clear hres hV hk
    dsimp only [Option.isSome]
    go_wp2
    go_ret
    exact ⟨by rw [Hres.out, Hm.out]; rfl, rfl⟩

/-- The sum of the first i rows' lengths. -/
def sumI (S : Nat → List (List UInt8)) : Nat → Nat
  | 0 => 0
  | i + 1 => sumI S i + (S i).length
theorem sumI_row (S : Nat → List (List UInt8)) (f : Nat) : ∀ t, sumI S (f * 7 + t) = sumI S (f * 7) + rowS S f t
  | 0 => rfl
  | t + 1 => by
    have h := sumI_row S f t
    show sumI S (f * 7 + t) + (S (f * 7 + t)).length = _
    rw [h, rowS]
    omega
theorem sumI_sq (S : Nat → List (List UInt8)) : ∀ f, sumI S (f * 7) = sqS S 7 f
  | 0 => rfl
  | f + 1 => by
    have h := sumI_sq S f
    rw [Nat.succ_mul, sumI_row, h, sqS]
theorem sumI_le {S : Nat → List (List UInt8)} (hb : ∀ k, k < 49 → (S k).length ≤ 64) : ∀ i, i ≤ 49 → sumI S i ≤ 64 * i
  | 0, _ => Nat.le_refl _
  | i + 1, h => by
    have h1 := sumI_le hb i (by omega)
    have h2 := hb i (by omega)
    simp only [sumI]
    omega

set_option maxHeartbeats 800000 in
theorem rall_any (g n : Nat) (V : Nat → Value) (L : Nat → List Ent) (S : Nat → List (List UInt8)) (w : World) (h : Net w 45 g n V L) (hS : Holds L S) (hb : ∀ k, k < 49 → (S k).length ≤ 64) :
    Calls Try.prog 20 #[.pointer (some ⟨g, 0, none⟩)] w fun e w' => e = .returned (.int .i64 (sumI S 49 : Nat)) ∧ w = w' := by
  go_enter Try.func20, Try.ntmps20
  go_wp2
  go_loop [3, 4] (fun s i => ∃ k : Nat, k ≤ 49 ∧ i = .int .i64 k ∧ s = .int .i64 (sumI S k : Nat)) (fun _ i => 49 - (intOf i).toNat)
  case atStart => exact ⟨0, by omega, rfl, rfl⟩
  case round =>
    obtain ⟨k, hk, rfl, rfl⟩ := hrel
    by_cases hlt : k < 49
    · have hsum := sumI_le hb k (by omega)
      obtain ⟨R, HR⟩ : ∃ R, Hid (sumI S k = R) := ⟨_, Lib.hid rfl⟩
      have hc := h.blk.cell k hlt
      obtain ⟨A, c, hV, hlc, hmx, _⟩ := (h.bag k hlt).shape
      have hbk := hb k hlt
      rw [← holds_len hS k hlt] at hbk
      obtain ⟨m, Hm⟩ : ∃ m, Hid ((L k).length = m) := ⟨_, Lib.hid rfl⟩
      obtain ⟨a, Ha⟩ : ∃ a, Hid (k / 7 = a) := ⟨_, Lib.hid rfl⟩
      obtain ⟨b, Hb⟩ : ∃ b, Hid (k % 7 = b) := ⟨_, Lib.hid rfl⟩
      have hkab : k = a * 7 + b := by have := Ha.out; have := Hb.out; omega
      rw [hV, Hm.out, hkab, ← Nat.add_assoc] at hc
      rw [Hm.out] at hbk hmx
      rw [HR.out] at hsum ⊢
      have hdv : Int.tdiv (k : Int) 7 = (a : Int) := by
        rw [Int.tdiv_eq_ediv_of_nonneg (by omega), ← Ha.out]
        omega
      have hmd : Int.tmod (k : Int) 7 = (b : Int) := by
        rw [Int.tmod_eq_emod_of_nonneg (by omega), ← Hb.out]
        omega
      have ha7 : (a : Int) < 7 := by have := Ha.out; omega
      have hb7 : (b : Int) < 7 := by have := Hb.out; omega
      have hres : sumI S (k + 1) = R + m := by rw [sumI, HR.out, ← holds_len hS k hlt, Hm.out]
      have Hres := Lib.hid hres
      clear hV hkab hres hlc
      go_wp2
      go_round
      case rel => exact ⟨k + 1, by omega, by go_num, by rw [Hres.out]; go_num⟩
      case measure => simp [intOf]; omega
    · have hk49 : k = 49 := by omega
      subst hk49
      go_wp2
      go_ret
      exact ⟨rfl, rfl⟩

set_option maxHeartbeats 1600000 in
theorem rclear_any (g n : Nat) (V : Nat → Value) (L : Nat → List Ent) (S : Nat → List (List UInt8)) (rep : Int) (w : World) (h : Net w 45 g n V L) (hS : Holds L S) (hn : n ≤ 7) :
    Calls Try.prog 18 #[.pointer (some ⟨g, 0, none⟩), .int .i64 rep] w fun e w' => e = .returned (.tuple #[]) ∧ After w w' 45 g n V (clr n rep S 7) := by
  go_enter Try.func18, Try.ntmps18
  go_wp2
  go_loopw [4] (fun i wr => ∃ f : Nat, f ≤ 7 ∧ i = .int .i64 f ∧ After w wr 45 g n V (clr n rep S f)) (fun i _ => 7 - (intOf i).toNat)
  case atStart => exact ⟨0, Nat.zero_le _, rfl, After.same h hS⟩
  case round =>
    obtain ⟨f, hf, rfl, ha⟩ := hrel
    by_cases hlt : f < 7
    · obtain ⟨V1, L1, hN1, hS1, hK1, hf1⟩ := ha
      go_wp2_with fail
      refine (rmay_any g n V1 (f : Int) rep wr hN1.blk).mono ?_
      rintro e w' ⟨rfl, hw⟩
      obtain rfl := hw
      cases hk : way n (f : Int) rep with
      | none =>
        have hres : clr n rep S (f + 1) = clr n rep S f := by simp only [clr, hk]
        have Hres := Lib.hid hres
        clear hres
        dsimp only [Option.isSome]
        go_wp2
        go_roundw
        case rel => exact ⟨f + 1, by omega, by go_num, by rw [Hres.out]; exact ⟨V1, L1, hN1, hS1, hK1, hf1⟩⟩
        case measure => simp [intOf]; omega
      | some k =>
        have hk49 := way_lt hk hn
        have hres : clr n rep S (f + 1) = updV (clr n rep S f) k [] := by simp only [clr, hk]
        have Hres := Lib.hid hres
        have hst := After.store hN1 hS1 k hk49
        obtain ⟨a, b, hfa, rfl, rfl, han, hbn⟩ := way_some hk
        obtain rfl : f = a := by omega
        have hc := hN1.blk.cell _ hk49
        have hfz := hN1.blk.free (1 + (f * 7 + b))
        obtain ⟨A0, c0, hV, hlc, hmx, _⟩ := (hN1.bag _ hk49).shape
        rw [hV, ← Nat.add_assoc] at hc
        rw [← Nat.add_assoc] at hfz hst
        have hb7 : (b : Int) < 7 := by omega
        clear hres hV hk hfa
        dsimp only [Option.isSome]
        go_wp2
        go_roundw
        case rel => exact ⟨f + 1, by omega, by go_num, by rw [Hres.out]; exact After.comp hK1 hf1 hst⟩
        case measure => simp [intOf]; omega
    · have hfn : f = 7 := by omega
      subst hfn
      go_wp2
      refine bodyPost_end (v := .tuple #[]) (results_none rfl _ _ _) rfl ⟨rfl, ha⟩
theorem clr_more (n : Nat) (hn : n ≤ 7) (rep : Int) (S : Nat → List (List UInt8)) : ∀ f, n ≤ f → clr n rep S f = clr n rep S n := by
  intro f hf
  induction f with
  | zero => rw [show n = 0 from by omega]
  | succ f ih =>
    by_cases e : n = f + 1
    · rw [e]
    · have hw : way n (f : Int) rep = none := by
        unfold way
        rw [if_neg (by omega)]
      simp only [clr, hw]
      exact ih (by omega)

end Go.Proofs.Ytbmhchfjapdicaa
