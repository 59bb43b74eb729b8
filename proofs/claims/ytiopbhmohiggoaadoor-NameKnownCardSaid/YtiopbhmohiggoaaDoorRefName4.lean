/- The reference's Split, and the comparison of two rows of texts. -/
import Derived.Test.YtiopbhmohiggoaaDoorRefName2
import Derived.Test.YtiopbhmohiggoaaDoorNameParts
set_option linter.unusedVariables false
namespace Go.Proofs.YtiopbhmohiggoaaDoor
open Go.RowKit Go.Lib Go.Shelf Go.Proofs.YtiopbhmohiggoaaDoorW.PrintWords
set_option maxHeartbeats 4000000
set_option maxRecDepth 100000

theorem texts_any (b1 b2 : Nat) (v1 v2 : Value) (L : List ByteArray) (w : World) (h1 : So w b1 v1 L) (h2 : So w b2 v2 L) :
    Calls Tryd.prog 20 #[v1, v2] w fun e w' => e = .returned (.bool true) ∧ Ext w w' := by
  obtain ⟨A1, c1, rfl, hc1, hm⟩ := h1.shape
  obtain ⟨A2, c2, rfl, hc2, -⟩ := h2.shape
  obtain ⟨n, Hn⟩ : ∃ n, Hid (L.length = n) := ⟨_, Lib.hid rfl⟩
  rw [Hn.out] at hc1 hc2 hm h1 h2
  rw [Hn.out]
  go_enter Tryd.func20, Tryd.ntmps20
  go_wp2
  go_loopw [5] (fun iv wr => ∃ i : Nat, iv = Value.int .i64 i ∧ Ext w wr ∧ i ≤ n) (fun iv _ => n - (intOf iv).toNat)
  case atStart => exact ⟨0, rfl, Ext.refl _, Nat.zero_le _⟩
  case round =>
    obtain ⟨i, rfl, hx, hin⟩ := hrel
    by_cases hi : i < n
    · obtain ⟨x, hxi⟩ : ∃ x, L[i]? = some x := ⟨_, List.getElem?_eq_getElem (by rw [Hn.out]; exact hi)⟩
      obtain ⟨g1, rfl, k1⟩ := h1.at i x hxi
      obtain ⟨g2, rfl, k2⟩ := h2.at i x hxi
      have k1' := hx.cell k1
      have k2' := hx.cell k2
      clear k1 k2 hxi h1 h2
      go_wp2
      go_quiet (fail)
      go_wp2
      go_roundw
      case rel => exact ⟨i + 1, by simp, by repeat (first | exact hx | apply Ext.drewN | apply Ext.drew), by omega⟩
      case measure => simp [intOf]; omega
    · have him : i = n := by omega
      subst him
      go_wp2
      go_ret
      exact ⟨rfl, hx⟩

theorem refsplit_any (s : ByteArray) (c : Int) (w : World) (hs : s.size ≤ 1048576) :
    Calls Tryd.prog 21 #[.string s, .int .i32 c] w fun e w' => ∃ v L, e = .returned v ∧ So w' w.heap.size v L ∧ L.map (fun x => x.data.toList) = splitC c [] (CH s) ∧ Ext w w' := by
  obtain ⟨i0, hi0, hz0, hz1, hz2⟩ := info_parts info_str
  have hcl := CH_length s
  go_enter Tryd.func21, Tryd.ntmps21
  go_wp2_with fail
  refine (runes_any s w hs).mono ?_
  rintro e w1 ⟨v, u, rfl, hv, hu, x1⟩
  obtain ⟨A1, c1, rfl, hc1, -⟩ := hv.shape
  obtain ⟨A2, c2, rfl, hc2, -⟩ := hu.shape
  rw [zr_length] at hc1 ⊢
  rw [ofs_length] at hc2 ⊢
  have hzc : ∀ i, i < (CH s).length → ∃ (d : List UInt8) (r : Nat), (zr s)[i]? = some (r : Int) ∧ pos_ s (i + 1) = pos_ s i + d.length ∧ (s.data.toList.drop (pos_ s i)).take d.length = d ∧ (CH s).drop i = (d, r) :: (CH s).drop (i + 1) := by
    intro i hi
    have hc := List.getElem?_eq_getElem hi
    obtain ⟨a1, a2, a3⟩ := pos_succ s i _ hc
    exact ⟨_, _, zr_get s i _ hc, a1, a2, a3⟩
  have hpq := fun i (hi : i < (CH s).length) => And.intro (ofs_get s i (by omega)) (ofs_get s (i + 1) (by omega))
  have hpl := pos_le s
  have hpe := pos_end s
  have hdn : ∀ i, (CH s).length ≤ i → (CH s).drop i = [] := fun i h => List.drop_of_length_le h
  have Hn := Lib.hid (zr_length s)
  rw [zr_length] at hv
  rw [ofs_length] at hu
  have h00 : (CH s) = (CH s).drop 0 := rfl
  obtain ⟨n, HN⟩ : ∃ n, Hid ((CH s).length = n) := ⟨_, Lib.hid rfl⟩
  rw [HN.out] at hc1 hc2 hcl hzc hpq hpe hdn hv hu Hn
  rw [HN.out]
  obtain ⟨R, HR⟩ : ∃ R, Hid (splitC c [] (CH s) = R) := ⟨_, Lib.hid rfl⟩
  clear h00
  go_wp2_with fail
  go_loopw [7, 8, 9] (fun lv fv iv wr => ∃ (i fr : Nat) (L : List ByteArray), iv = Value.int .i64 i ∧ fv = Value.int .i64 fr ∧ So wr w1.heap.size lv L ∧ Ext w1 wr ∧ i ≤ n ∧ fr ≤ pos_ s i ∧ L.length ≤ i ∧ L.map (fun x => x.data.toList) ++ splitC c ((s.data.toList.drop fr).take (pos_ s i - fr)) ((CH s).drop i) = R) (fun _ _ iv _ => n - (intOf iv).toNat)
  case atStart =>
    exact ⟨0, 0, [], rfl, rfl, So.nil _ _, Ext.refl _, Nat.zero_le _, Nat.zero_le _, Nat.zero_le _, by rw [← HR.out]; simp [pos_zero]⟩
  case round =>
    obtain ⟨i, fr, L, rfl, rfl, hL, hx, hin, hfr, hLi, hsp⟩ := hrel
    have hxw := x1.trans hx
    by_cases hi : i < n
    · obtain ⟨d, r, hr, hps, hd, hdr⟩ := hzc i hi
      obtain ⟨hp, hq⟩ := hpq i hi
      have hp1 := hpl i
      have hq1 := hpl (i + 1)
      obtain ⟨g1, rfl, k1⟩ := hv.at i _ hr
      obtain ⟨g2, rfl, k2⟩ := hu.at i _ hp
      obtain ⟨g3, e3, k3⟩ := hu.at (i + 1) _ hq
      injection e3 with e3
      injection e3 with e3 _ _
      subst e3
      have k1' := hx.cell k1
      have k2' := hx.cell k2
      rw [hdr] at hsp
      have Hsp := Lib.hid hsp
      have Hd := Lib.hid hd
      have Hps := Lib.hid hps
      clear hsp hd hdr hr hp hq hzc hpq hpl hpe hdn k1 k2
      obtain ⟨p, Hp⟩ : ∃ p, Hid (pos_ s i = p) := ⟨_, Lib.hid rfl⟩
      obtain ⟨q, Hq⟩ : ∃ q, Hid (pos_ s (i + 1) = q) := ⟨_, Lib.hid rfl⟩
      rw [Hp.out] at k2' hp1 hfr
      rw [Hq.out] at k3 hq1
      have Hpq : Hid (q = p + d.length) := Lib.hid (by rw [← Hp.out, ← Hq.out]; exact Hps.out)
      have hpq2 : p ≤ q := by have := Hpq.out; omega
      by_cases hc : (r : Int) = c
      · go_wp2_with ((with_reducible refine gate_dst (N := 36) rfl ?_); refine halt ?_)
        refine unhalt (wpList_append_own _ rfl _ _ 31 rfl w1.heap.size 9 i0 (.string ⟨#[]⟩) 1 16 Tryd.underlying31 hi0 hz0 hz1 hz2 rfl (by decide) _ L.length (L.map Value.string) rfl (hL.ext ((Ext.refl _).alloc _)) ⟨wr.heap.size, 0, none⟩ 1 1 [.string (s.extract fr p)] rfl rfl ?c1 ?c2 ?c3 ?c4 ?c5 ?_)
        case c1 =>
          intro j u hj
          match j, hj with
          | 0, hj => simp at hj; subst hj; simp [Addr.add]
          | (j + 1), hj => simp at hj
        case c2 => intro u hu; simp at hu; subst hu; rfl
        case c3 => unfold maxLen; omega
        case c4 => omega
        case c5 => have := hx.size; simp; omega
        intro v' w2 hown' hgrow _
        have hLa := hL.ext ((Ext.refl wr).alloc (.cells #[.string (s.extract fr p)] 9))
        have hx2 : Ext w1 w2 := ext_own (hx.alloc _) hLa (Nat.le_refl _) hgrow
        have hS2 : So w2 w1.heap.size v' (L ++ [s.extract fr p]) := by rw [So, List.length_append, List.map_append]; exact hown'
        have k3'' := hx2.cell k3
        clear hgrow hown' hLa
        go_wp2_with fail
        go_roundw
        case rel =>
          refine ⟨i + 1, q, L ++ [s.extract fr p], by simp, rfl, hS2, hx2, by omega, by rw [Hq.out]; exact Nat.le_refl _, by rw [List.length_append]; simp; omega, ?_⟩
          rw [← Hsp.out, List.map_append, List.append_assoc, Hq.out, Nat.sub_self, List.take_zero, Hp.out, splitC, if_pos hc]
          rw [← extract_list s fr p]; rfl
        case measure => simp [intOf]; omega
      · go_wp2_with fail
        go_roundw
        case rel =>
          refine ⟨i + 1, fr, L, by simp, rfl, hL, hx, by omega, by rw [Hq.out]; omega, by omega, ?_⟩
          rw [← Hsp.out, Hp.out, Hq.out, splitC, if_neg hc]
          have hd := Hd.out
          rw [Hp.out] at hd
          have hg := piece_grow s.data.toList fr p d.length hfr
          rw [hd] at hg
          rw [hg, Hpq.out]
        case measure => simp [intOf]; omega
    · have him : i = n := by omega
      subst him
      rw [hdn i (Nat.le_refl _), hpe i (Nat.le_refl _)] at hsp
      rw [hpe i (Nat.le_refl _)] at hfr
      have Hsp := Lib.hid hsp
      clear hsp hzc hpq hpl hpe hdn hv hu
      go_wp2_with ((with_reducible refine gate_dst (N := 47) rfl ?_); refine halt ?_)
      refine unhalt (wpList_append_own _ rfl _ _ 31 rfl w1.heap.size 9 i0 (.string ⟨#[]⟩) 1 16 Tryd.underlying31 hi0 hz0 hz1 hz2 rfl (by decide) _ L.length (L.map Value.string) rfl (hL.ext ((Ext.refl _).alloc _)) ⟨wr.heap.size, 0, none⟩ 1 1 [.string (s.extract fr s.size)] rfl rfl ?c1 ?c2 ?c3 ?c4 ?c5 ?_)
      case c1 =>
        intro j u hj
        match j, hj with
        | 0, hj => simp at hj; subst hj; simp [Addr.add]
        | (j + 1), hj => simp at hj
      case c2 => intro u hu; simp at hu; subst hu; rfl
      case c3 => unfold maxLen; omega
      case c4 => omega
      case c5 => have := hx.size; simp; omega
      intro v' w2 hown' hgrow _
      have hLa := hL.ext ((Ext.refl wr).alloc (.cells #[.string (s.extract fr s.size)] 9))
      have hx2 : Ext w1 w2 := ext_own (hx.alloc _) hLa (Nat.le_refl _) hgrow
      have hS2 : So w2 w1.heap.size v' (L ++ [s.extract fr s.size]) := by rw [So, List.length_append, List.map_append]; exact hown'
      clear hgrow hown' hLa
      go_wp2_with fail
      go_ret
      refine ⟨_, L ++ [s.extract fr s.size], rfl, hS2.lower x1.size, ?_, x1.trans hx2⟩
      rw [HR.out, ← Hsp.out, List.map_append, splitC, List.map_cons, List.map_nil, extract_list]
end Go.Proofs.YtiopbhmohiggoaaDoor
