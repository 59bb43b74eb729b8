/- PackRefNum: the walks of the reference's reader: Num, Bytes, End. -/
import Derived.Test.YtlffbappgfimeaaDoorPackRefRd
set_option linter.unusedVariables false
set_option maxRecDepth 100000
namespace Go.Proofs.YtlffbappgfimeaaDoor
open Go.RowKit Go.Proofs.YtlffbappgfimeaaDoorW.PrintWords PackPure

theorem rdNum_raw (l : List UInt8) (bad : Bool) (least most : Int) : rdNum l bad least most = match rawRes l with
    | none => (0, [], true)
    | some (u, i, c) => if (0 < i ∧ c.toNat = 0) ∨ unzz u < least ∨ most < unzz u then (0, [], true) else (unzz u, l.drop (i + 1), bad) := by
  unfold rdNum rawRes
  rcases hs : scan 0 0 l with _ | ⟨u, i, c⟩
  · rfl
  · simp only
    by_cases h9 : i = 9 ∧ 1 < c.toNat
    · rw [if_pos (Or.inr (Or.inl h9)), if_pos h9]
    · rw [if_neg h9]
      simp only
      by_cases h : (0 < i ∧ c.toNat = 0) ∨ unzz u < least ∨ most < unzz u
      · rw [if_pos h, if_pos (by rcases h with h | h; exact Or.inl h; exact Or.inr (Or.inr h))]
      · rw [if_neg h, if_neg (by rintro (h' | h' | h'); exact h (Or.inl h'); exact h9 h'; exact h (Or.inr h'))]
theorem rawRes_lt {l : List UInt8} {u i : Nat} {c : UInt8} (h : rawRes l = some (u, i, c)) : u < 18446744073709551616 ∧ i + 1 ≤ l.length := by
  have key : ∀ (l : List UInt8) (k v : Nat), v < 18446744073709551616 → ∀ u i c, scan k v l = some (u, i, c) → u < 18446744073709551616 ∧ i + 1 ≤ k + l.length := by
    intro l
    induction l with
    | nil => intro k v _ u i c h; simp [scan] at h
    | cons x l ih =>
      intro k v hv u i c h
      rw [scan] at h
      split at h
      · cases h
      · split at h
        · simp only [Option.some.injEq, Prod.mk.injEq] at h
          obtain ⟨rfl, rfl, rfl⟩ := h
          exact ⟨grp_lt _ _ _ hv, by simp⟩
        · have := ih (k + 1) _ (grp_lt _ _ _ hv) u i c h
          simp only [List.length_cons]
          omega
  unfold rawRes at h
  split at h
  · cases h
  · rename_i u' i' c' hs
    split at h
    · cases h
    · simp only [Option.some.injEq, Prod.mk.injEq] at h
      obtain ⟨rfl, rfl, rfl⟩ := h
      have := key l 0 0 (by decide) _ _ _ hs
      omega

set_option maxHeartbeats 800000 in
theorem refrnum_bad (g : Nat) (b : List UInt8) (at_ : Nat) (least most : Int) (w : World) (h : RR w g b at_ true) :
    Calls Tryd.prog 31 #[.pointer (some ⟨g, 0, none⟩), .int .i64 least, .int .i64 most] w fun e w' => e = .returned (.int .i64 0) ∧ w = w' := by
  obtain ⟨A, c, hh, h0, h1, h2, f0, f1, f2, hl, ha, hB⟩ := h.cells
  clear hh
  go_enter Tryd.func31, Tryd.ntmps31
  go_wp2
  go_ret
  exact ⟨rfl, rfl⟩

/-- What Num leaves of the reference's reader. -/
def RefNum (w : World) (g : Nat) (b : List UInt8) (r : Int × List UInt8 × Bool) (e : Ending) (w' : World) : Prop := But g w w' ∧ e = .returned (.int .i64 r.1) ∧ ∃ at2, RR w' g b at2 r.2.2 ∧ (r.2.2 = false → b.drop at2 = r.2.1)

set_option maxHeartbeats 1600000 in
theorem refrnum_good (g : Nat) (b : List UInt8) (at_ : Nat) (least most : Int) (w : World) (h : RR w g b at_ false) (hm : b.length ≤ 140737488355000) :
    Calls Tryd.prog 31 #[.pointer (some ⟨g, 0, none⟩), .int .i64 least, .int .i64 most] w (RefNum w g b (rdNum (b.drop at_) false least most)) := by
  obtain ⟨A, c, hh, h0, h1, h2, f0, f1, f2, hl, ha, hB⟩ := h.cells
  clear hh
  go_enter Tryd.func31, Tryd.ntmps31
  go_wp2_with fail
  refine (raw_any g b at_ false w h hm).mono ?_
  rintro e w1 ⟨hb1, hq⟩
  have hrd := rdNum_raw (b.drop at_) false least most
  clear h0 h1 h2 f0 f1 f2
  rcases hres : rawRes (b.drop at_) with _ | ⟨u, i, c2⟩
  · rw [hres] at hq hrd
    obtain ⟨rfl, hr1⟩ := hq
    obtain ⟨A, c, hh, h0, h1, h2, f0, f1, f2, hl, ha, hB⟩ := hr1.cells
    have Hrd := Lib.hid hrd
    clear hh hres hrd
    go_wp2
    go_ret
    refine ⟨hb1.setCell 2 _, ret_i (by rw [Hrd.out]), at_, by rw [Hrd.out]; exact hr1.setBad true, fun hf => ?_⟩
    rw [Hrd.out] at hf; cases hf
  · have hu := rawRes_lt hres
    rw [hres] at hq hrd
    obtain ⟨rfl, hr1⟩ := hq
    obtain ⟨A, c, hh, h0, h1, h2, f0, f1, f2, hl, ha, hB⟩ := hr1.cells
    have hdd : (b.drop at_).drop (i + 1) = b.drop (at_ + i + 1) := by rw [List.drop_drop]; rfl
    have hun : unzz u = if u % 2 = 1 then -((u / 2 : Nat) : Int) - 1 else ((u / 2 : Nat) : Int) := rfl
    have hbit := bits_and1_u64 u hu.1
    simp only at hrd
    rw [hdd] at hrd
    have Hrd := Lib.hid hrd
    clear hh hres hrd hdd
    by_cases hodd : u % 2 = 1
    all_goals
      try have ht : (bits .and .u64 (u : Int) 1 == 1) = true := by rw [hbit, hodd]; first | done | rfl
      try have ht : (bits .and .u64 (u : Int) 1 == 1) = false := by rw [hbit, show u % 2 = 0 from by omega]; first | done | rfl
      first
      | rw [if_pos hodd] at hun
      | rw [if_neg hodd] at hun
      have Hun := Lib.hid hun
      clear hun hbit
      generalize hok : (decide (0 < c2.toNat) || decide (i = 0)) = ok at *
      have Hok := Lib.hid hok
      clear hok
      cases ok with
      | false =>
        go_wp2
        go_ret
        have hc : (0 < i ∧ c2.toNat = 0) := by
          have := Hok.out
          simp at this
          omega
        refine ⟨hb1.setCell 2 _, ret_i (by rw [Hrd.out, if_pos (Or.inl hc)]), _, by rw [Hrd.out, if_pos (Or.inl hc)]; exact hr1.setBad true, fun hf => ?_⟩
        rw [Hrd.out, if_pos (Or.inl hc)] at hf; cases hf
      | true =>
        have hc : ¬ (0 < i ∧ c2.toNat = 0) := by
          have := Hok.out
          simp at this
          omega
        first
        | have hX : unzz u = -1 - (u : Int) / 2 := by rw [Hun.out]; omega
        | have hX : unzz u = (u : Int) / 2 := by rw [Hun.out]; omega
        have HX := Lib.hid hX
        clear hX
        by_cases hlo : unzz u < least
        · have hlo' := hlo
          rw [HX.out] at hlo'
          have Hlo := Lib.hid hlo
          clear hlo
          go_wp2
          go_ret
          refine ⟨hb1.setCell 2 _, ret_i (by rw [Hrd.out, if_pos (Or.inr (Or.inl Hlo.out))]), _, by rw [Hrd.out, if_pos (Or.inr (Or.inl Hlo.out))]; exact hr1.setBad true, fun hf => ?_⟩
          rw [Hrd.out, if_pos (Or.inr (Or.inl Hlo.out))] at hf; cases hf
        · by_cases hhi : most < unzz u
          · have Hhi := Lib.hid hhi
            have hlo' := hlo
            have hhi' := hhi
            rw [HX.out] at hlo' hhi'
            clear hlo hhi
            go_wp2
            go_ret
            refine ⟨hb1.setCell 2 _, ret_i (by rw [Hrd.out, if_pos (Or.inr (Or.inr Hhi.out))]), _, by rw [Hrd.out, if_pos (Or.inr (Or.inr Hhi.out))]; exact hr1.setBad true, fun hf => ?_⟩
            rw [Hrd.out, if_pos (Or.inr (Or.inr Hhi.out))] at hf; cases hf
          · have Hno := Lib.hid (show ¬ ((0 < i ∧ c2.toNat = 0) ∨ unzz u < least ∨ most < unzz u) from by rintro (h' | h' | h'); exact hc h'; exact hlo h'; exact hhi h')
            have hlo' := hlo
            have hhi' := hhi
            rw [HX.out] at hlo' hhi'
            clear hlo hhi
            clear hc
            go_wp2
            go_ret
            refine ⟨hb1, ret_i (by rw [Hrd.out, if_neg Hno.out, HX.out]), at_ + i + 1, by rw [Hrd.out, if_neg Hno.out]; exact hr1, fun _ => by rw [Hrd.out, if_neg Hno.out]⟩

set_option maxHeartbeats 800000 in
theorem refend_any (g : Nat) (b : List UInt8) (at_ : Nat) (bad : Bool) (w : World) (h : RR w g b at_ bad) :
    Calls Tryd.prog 34 #[.pointer (some ⟨g, 0, none⟩)] w fun e w' => e = .returned (.bool (!bad && decide (at_ = b.length))) ∧ Ext w w' := by
  obtain ⟨A, c, hh, h0, h1, h2, f0, f1, f2, hl, ha, hB⟩ := h.cells
  clear hh
  go_enter Tryd.func34, Tryd.ntmps34
  cases bad with
  | true =>
    go_wp2
    go_quiet (fail)
    go_wp2
    go_ret
    exact ⟨rfl, (Ext.refl _).drewN _⟩
  | false =>
    have he : ((at_ : Int) == (b.length : Int)) = decide (at_ = b.length) := by
      rw [Bool.eq_iff_iff]; simp; omega
    generalize decide (at_ = b.length) = q at *
    go_wp2
    go_quiet (fail)
    go_wp2
    go_ret
    exact ⟨by simp, (Ext.refl _).drewN _⟩

end Go.Proofs.YtlffbappgfimeaaDoor
