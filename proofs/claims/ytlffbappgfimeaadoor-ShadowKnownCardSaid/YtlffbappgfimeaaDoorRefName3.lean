/- The reference's GoodName. -/
import Derived.Test.YtlffbappgfimeaaDoorRefName2
set_option linter.unusedVariables false
namespace Go.Proofs.YtlffbappgfimeaaDoor
open Go.RowKit Go.Lib Go.Shelf Go.Proofs.YtlffbappgfimeaaDoorW.PrintWords
set_option maxHeartbeats 4000000
set_option maxRecDepth 100000

theorem okR_first (r : Int) (h : okR r true = true) : okR r false = true := by
  simp only [okR, Bool.not_true, Bool.false_and, Bool.or_false] at h
  simp [okR, h]
theorem bad_rune : okR 65533 false = false := by kernel_rfl
theorem goodL_eq (s : ByteArray) (x : Int) (h0 : (zr s)[0]? = some x) (h1 : (zr s).length ≤ 20) : goodL (CH s) = (isLetterU x && (zr s).all fun r => okR r false) := by
  rw [zr] at h0 h1 ⊢
  rw [List.length_map] at h1
  cases hc : CH s with
  | nil => rw [hc] at h0; simp at h0
  | cons c t =>
    rw [hc] at h0 h1
    have hx : (c.2 : Int) = x := by simpa using h0
    have e1 : okR x true = isLetterU x := by simp [okR]
    have e2 : decide (1 ≤ (c :: t).length) = true := by simp
    have e3 : decide ((c :: t).length ≤ 20) = true := by simpa using h1
    simp only [goodL, e2, e3, Bool.and_true, hx, e1, List.map_cons, List.all_cons, List.all_map]
    cases hl : isLetterU x with
    | false => simp
    | true =>
      have : okR x false = true := okR_first x (by rw [e1]; exact hl)
      rw [this]
      simp [Function.comp_def]
theorem goodL_none (s : ByteArray) (h : (CH s).length < 1 ∨ 20 < (CH s).length) : goodL (CH s) = false := by
  unfold goodL
  rcases h with h | h
  · rw [decide_eq_false (by omega : ¬ 1 ≤ (CH s).length)]; simp
  · rw [decide_eq_false (by omega : ¬ (CH s).length ≤ 20)]; simp

theorem nrefgood_any (s : ByteArray) (w : World) (hs : s.size ≤ 1048576) (ht : Tabs w) :
    Calls Tryd.prog 37 #[.string s] w fun e w' => e = .returned (.bool (goodL (CH s))) ∧ Ext w w' := by
  have hn := goodL_none s
  have hge := goodL_eq s
  go_enter Tryd.func37, Tryd.ntmps37
  go_wp2_with fail
  refine (runes_any s w hs).mono ?_
  rintro e w1 ⟨v, u, rfl, hv, hu, x1⟩
  obtain ⟨A1, c1, rfl, hc1, -⟩ := hv.shape
  obtain ⟨A2, c2, rfl, hc2, -⟩ := hu.shape
  rw [zr_length] at hc1 hge ⊢
  rw [ofs_length] at hc2 ⊢
  have hcl := CH_length s
  have hzc : ∀ i, i < (CH s).length → ∃ x : Int, (zr s)[i]? = some x ∧ 0 ≤ x ∧ x ≤ 1114111 ∧ (zr s).drop i = x :: (zr s).drop (i + 1) := by
    intro i hi
    have hc := List.getElem?_eq_getElem hi
    have := CH_rune s i _ hc
    have h0 := zr_get s i _ hc
    refine ⟨_, h0, by omega, by omega, ?_⟩
    have hz := (List.getElem?_eq_some_iff.1 h0).1
    rw [List.drop_eq_getElem_cons hz, (List.getElem?_eq_some_iff.1 h0).2]
  have hpq := fun i (hi : i < (CH s).length) => And.intro (ofs_get s i (by omega)) (ofs_get s (i + 1) (by omega))
  have hpl := pos_le s
  have Hn := Lib.hid (zr_length s)
  rw [zr_length] at hv
  rw [ofs_length] at hu
  generalize (CH s).length = n at *
  by_cases q : n < 1 ∨ 20 < n
  · have hg0 : goodL (CH s) = false := hn q
    clear hge hn hzc hpq hpl hv hu
    go_wp2_with fail
    all_goals go_ret
    all_goals exact ⟨by first | rfl | (rw [hg0]; rfl), x1⟩
  · have q1 : ¬ n < 1 := fun h => q (Or.inl h)
    have q2 : ¬ 20 < n := fun h => q (Or.inr h)
    obtain ⟨x0, hx0, hb0, hb1, -⟩ := hzc 0 (by omega)
    have hgd := hge x0 hx0 (by omega)
    obtain ⟨g, rfl, k0⟩ := hv.at 0 x0 hx0
    clear hge hn q
    have t1 := ht.ext x1
    go_wp2_with (go_at_call 52; refine (letter_any x0 _ (by omega) (by omega) t1).mono ?_)
    rintro e w2 ⟨rfl, b2⟩
    have x2 : Ext w1 w2 := b2
    have x12 : Ext w w2 := x1.trans x2
    cases hL : isLetterU x0
    · rw [hL, Bool.false_and] at hgd
      have Hgd := Lib.hid hgd
      clear hgd hzc hpq hpl hv hu
      go_wp2
      go_ret
      exact ⟨by rw [Hgd.out]; rfl, x12⟩
    · rw [hL, Bool.true_and] at hgd
      have Hgd := Lib.hid hgd
      clear hgd
      have hv2 := hv.ext x2
      have hu2 := hu.ext x2
      clear hL k0 hx0
      go_wp2
      go_loopw [5] (fun iv wr => ∃ i : Nat, iv = Value.int .i64 i ∧ Ext w2 wr ∧ i ≤ n ∧ goodL (CH s) = ((zr s).drop i).all fun r => okR r false) (fun iv _ => n - (intOf iv).toNat)
      case atStart => exact ⟨0, rfl, Ext.refl _, by omega, Hgd.out⟩
      case round =>
        obtain ⟨i, rfl, hx, hin, hc⟩ := hrel
        have hy := x12.trans hx
        by_cases hi : i < n
        · obtain ⟨x, hxi, hxa, hxb, hdr⟩ := hzc i hi
          obtain ⟨hp, hq⟩ := hpq i hi
          have hp1 := hpl i
          have hq1 := hpl (i + 1)
          obtain ⟨g1, e1, k1⟩ := hv2.at i x hxi
          obtain ⟨g2, rfl, k2⟩ := hu2.at i _ hp
          obtain ⟨g3, e3, k3⟩ := hu2.at (i + 1) _ hq
          injection e3 with e3
          injection e3 with e3 _ _
          subst e3
          injection e1 with e1
          injection e1 with e1 _ _
          subst e1
          rw [hdr, List.all_cons] at hc
          have Hc := Lib.hid hc
          clear hc hdr hxi hp hq
          generalize pos_ s i = p at *
          generalize pos_ s (i + 1) = q at *
          go_wp2_with (go_at_call 53; refine (nbad_any s g n c1 g2 (n + 1) c2 i x p q _ (hx.cell k1) (hx.cell k2) (hx.cell k3) hi (by omega) (by omega) (by omega) (by omega)).mono ?_)
          rintro e w3 rfl x3
          have k1' := (hx.trans x3).cell k1
          have hX := hx.trans x3
          have hY := hy.trans x3
          have hbb : ((x == 65533) && ((q : Int) - (p : Int) == 1)) = true → x = 65533 := by
            intro h
            simp only [Bool.and_eq_true, beq_iff_eq] at h
            exact h.1
          generalize ((x == 65533) && ((q : Int) - (p : Int) == 1)) = bb at *
          clear hzc hpq hpl k1 k2 k3
          cases bb
          · have t3 := ht.ext hY
            go_wp2_with (go_at_call 52; refine (letter_any x _ (by omega) (by omega) t3).mono ?_)
            rintro e w4 ⟨rfl, b4⟩
            have x4 : Ext w3 w4 := b4
            have k1'' := x4.cell k1'
            have t4 := t3.ext x4
            cases hL : isLetterU x
            · go_wp2_with (go_at_call 54; refine (digit_any x _ (by omega) (by omega) t4).mono ?_)
              rintro e w5 ⟨rfl, b5⟩
              have x5 : Ext w4 w5 := b5
              have k5 := x5.cell k1''
              cases hD : isDigitU x
              · by_cases hm : x = 45
                · subst hm
                  have ho : okR 45 false = true := by simp [okR]
                  go_wp2
                  go_roundw
                  case rel => exact ⟨i + 1, by simp, hX.trans (x4.trans x5), by omega, by rw [Hc.out, ho, Bool.true_and]⟩
                  case measure => simp [intOf]; omega
                · have ho : okR x false = false := by simp [okR, hL, hD, hm]
                  have hg0 : goodL (CH s) = false := by rw [Hc.out, ho, Bool.false_and]
                  go_wp2
                  go_ret
                  exact ⟨by first | rfl | (rw [hg0]; rfl), hY.trans (x4.trans x5)⟩
              · have ho : okR x false = true := by simp [okR, hL, hD]
                go_wp2
                go_roundw
                case rel => exact ⟨i + 1, by simp, hX.trans (x4.trans x5), by omega, by rw [Hc.out, ho, Bool.true_and]⟩
                case measure => simp [intOf]; omega
            · have ho : okR x false = true := by simp [okR, hL]
              go_wp2
              go_roundw
              case rel => exact ⟨i + 1, by simp, hX.trans x4, by omega, by rw [Hc.out, ho, Bool.true_and]⟩
              case measure => simp [intOf]; omega
          · have hx65 := hbb rfl
            subst hx65
            have hg0 : goodL (CH s) = false := by rw [Hc.out, bad_rune, Bool.false_and]
            go_wp2
            go_ret
            exact ⟨by first | rfl | (rw [hg0]; rfl), hY⟩
        · have him : i = n := by omega
          subst him
          rw [List.drop_of_length_le (by rw [Hn.out]; omega)] at hc
          have hg1 : goodL (CH s) = true := hc
          clear hzc hpq hpl hc
          go_wp2
          go_ret
          exact ⟨by first | rfl | (rw [hg1]; rfl), hy⟩
end Go.Proofs.YtlffbappgfimeaaDoor
