/- PackRel: both readers side by side; the reference's calls told by the same functions as ours. -/
import Derived.Test.YtlffbappgfimeaaDoorPackRefB
set_option linter.unusedVariables false
set_option maxRecDepth 100000
namespace Go.Proofs.YtlffbappgfimeaaDoor
open Go.RowKit Go.Proofs.YtlffbappgfimeaaDoorW.PrintWords PackPure

/-- The reference's reader stands where ours does: bad and nothing left, or the same bytes left. -/
def At (b : List UInt8) (at_ : Nat) (l : List UInt8) (bad : Bool) : Prop := if bad = true then l = [] else b.drop at_ = l
/-- The reference's reader, told by what ours has left. -/
def RQ (w : World) (g : Nat) (b l : List UInt8) (bad : Bool) : Prop := ∃ at_, RR w g b at_ bad ∧ At b at_ l bad

theorem RQ.ext {w w' : World} {g : Nat} {b l : List UInt8} {bad : Bool} (h : RQ w g b l bad) (hx : Ext w w') : RQ w' g b l bad := by
  obtain ⟨k, h1, h2⟩ := h
  exact ⟨k, h1.ext hx, h2⟩
theorem RQ.but {w w' : World} {g g' : Nat} {b l : List UInt8} {bad : Bool} (h : RQ w g b l bad) (hb : But g' w w') (hne : g ≠ g') (hno : ∀ ad v, w.cell? ad = some v → ad.block = g' → ∀ n, v ≠ .int .u8 n) : RQ w' g b l bad := by
  obtain ⟨k, h1, h2⟩ := h
  exact ⟨k, h1.but hb hne hno, h2⟩
theorem RQ.no {w : World} {g : Nat} {b l : List UInt8} {bad : Bool} (h : RQ w g b l bad) : ∀ ad v, w.cell? ad = some v → ad.block = g → ∀ n, v ≠ .int .u8 n := by
  obtain ⟨k, h1, h2⟩ := h
  exact h1.no
theorem RQ.lt {w : World} {g : Nat} {b l : List UInt8} {bad : Bool} (h : RQ w g b l bad) : g < w.heap.size := by
  obtain ⟨k, h1, h2⟩ := h
  exact h1.lt

theorem rdNum_nil (bad : Bool) (least most : Int) : rdNum [] bad least most = (0, [], true) := rfl
theorem rdBytes_nil (bad : Bool) (most : Int) : rdBytes [] bad most = ([], [], true) := by
  rw [rdBytes, rdNum_nil]
  simp
theorem rdNum_isbad (l : List UInt8) (least most : Int) (h : (rdNum l false least most).2.2 = true) : (rdNum l false least most).2.1 = [] := by
  rw [rdNum_bad l least most h]
theorem rdBytes_isbad (l : List UInt8) (most : Int) (h : (rdBytes l false most).2.2 = true) : (rdBytes l false most).2.1 = [] := by
  by_cases hb : (rdNum l false 0 most).2.2 = true
  · rw [rdBytes_of_bad l most hb]
  · rw [rdBytes] at h ⊢
    split
    · rfl
    · rename_i hh
      rw [if_neg hh] at h
      exact absurd h hb

theorem refnum_rel (g : Nat) (b l : List UInt8) (bad : Bool) (least most : Int) (w : World) (h : RQ w g b l bad) (hm : b.length ≤ 140737488355000) :
    Calls Tryd.prog 31 #[.pointer (some ⟨g, 0, none⟩), .int .i64 least, .int .i64 most] w fun e w' => e = .returned (.int .i64 (rdNum l bad least most).1) ∧ RQ w' g b (rdNum l bad least most).2.1 (rdNum l bad least most).2.2 ∧ But g w w' := by
  obtain ⟨k, h1, h2⟩ := h
  cases bad with
  | true =>
    refine (refrnum_bad g b k least most w h1).mono ?_
    rintro e w' ⟨rfl, rfl⟩
    simp only [At, if_true] at h2
    subst h2
    rw [rdNum_nil]
    exact ⟨rfl, ⟨k, h1, by simp [At]⟩, But.refl _ _⟩
  | false =>
    refine (refrnum_good g b k least most w h1 hm).mono ?_
    rintro e w' ⟨hb, rfl, at2, hr, ha⟩
    have h3 : b.drop k = l := by simpa [At] using h2
    rw [h3] at hr ha ⊢
    refine ⟨rfl, ⟨at2, hr, ?_⟩, hb⟩
    unfold At
    split
    · rename_i hbad
      exact rdNum_isbad l least most hbad
    · rename_i hbad
      exact ha (by simpa using hbad)

theorem refbytes_rel (g : Nat) (b l : List UInt8) (bad : Bool) (most : Int) (w : World) (h : RQ w g b l bad) (hm : b.length ≤ 140737488355000) :
    Calls Tryd.prog 33 #[.pointer (some ⟨g, 0, none⟩), .int .i64 most] w fun e w' => ∃ A c, e = .returned (.slice A (rdBytes l bad most).1.length c) ∧ Bs w' A (rdBytes l bad most).1 ∧ RQ w' g b (rdBytes l bad most).2.1 (rdBytes l bad most).2.2 ∧ But g w w' := by
  obtain ⟨k, h1, h2⟩ := h
  cases bad with
  | true =>
    refine (refbytes_bad g b k most w h1 hm).mono ?_
    rintro e w' ⟨rfl, hr, hb⟩
    simp only [At, if_true] at h2
    subst h2
    rw [rdBytes_nil]
    exact ⟨none, 0, rfl, Bs.nil _, ⟨k, hr, by simp [At]⟩, hb⟩
  | false =>
    refine (refbytes_good g b k most w h1 hm).mono ?_
    rintro e w' ⟨hb, ⟨A, c, rfl, hB⟩, at2, hr, ha⟩
    have h3 : b.drop k = l := by simpa [At] using h2
    rw [h3] at hr ha hB ⊢
    refine ⟨A, c, rfl, hB, ⟨at2, hr, ?_⟩, hb⟩
    unfold At
    split
    · rename_i hbad
      exact rdBytes_isbad l most hbad
    · rename_i hbad
      exact ha (by simpa using hbad)

theorem refend_rel (g : Nat) (b l : List UInt8) (bad : Bool) (w : World) (h : RQ w g b l bad) :
    Calls Tryd.prog 34 #[.pointer (some ⟨g, 0, none⟩)] w fun e w' => e = .returned (.bool (!bad && l.isEmpty)) ∧ Ext w w' := by
  obtain ⟨k, h1, h2⟩ := h
  refine (refend_any g b k bad w h1).mono ?_
  rintro e w' ⟨rfl, hx⟩
  refine ⟨?_, hx⟩
  cases bad with
  | true => rfl
  | false =>
    have h3 : b.drop k = l := by simpa [At] using h2
    have hk : k ≤ b.length := by obtain ⟨A, c, _, _, hk, _⟩ := h1; exact hk
    subst h3
    have e : decide (k = b.length) = (b.drop k).isEmpty := by
      rw [Bool.eq_iff_iff, decide_eq_true_iff, List.isEmpty_iff, List.drop_eq_nil_iff]
      omega
    rw [e]

end Go.Proofs.YtlffbappgfimeaaDoor
