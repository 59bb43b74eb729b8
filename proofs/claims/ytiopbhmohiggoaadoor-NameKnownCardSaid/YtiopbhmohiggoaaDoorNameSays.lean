/- NameSays: the walk. -/
import Derived.Test.YtiopbhmohiggoaaDoorRefName3
import Derived.Test.YtiopbhmohiggoaaDoorRefName4
import Derived.Test.YtiopbhmohiggoaaDoorNameAwake
set_option linter.unusedVariables false
namespace Go.Proofs.YtiopbhmohiggoaaDoor
open Go.RowKit Go.Lib Go.Shelf Go.Proofs.YtiopbhmohiggoaaDoorW.PrintWords
set_option maxHeartbeats 4000000
set_option maxRecDepth 100000

theorem same_texts {L M : List ByteArray} (h : L.map (fun x => x.data.toList) = M.map (fun x => x.data.toList)) : L = M := by
  induction L generalizing M with
  | nil => cases M with | nil => rfl | cons => simp at h
  | cons a l ih =>
    cases M with
    | nil => simp at h
    | cons b m =>
      rw [List.map_cons, List.map_cons] at h
      injection h with h1 h2
      rw [bytes_ext h1, ih h2]
theorem says_any (a b : ByteArray) (c n : Int) (w : World) (ht : Tabs w) :
    Calls Tryd.prog 7 #[.string a, .string b, .int .i32 c, .int .i64 n] w fun e w' => e = .returned (.bool true) ∧ Ext w w' := by
  go_enter Tryd.func7, Tryd.ntmps7
  go_wp2_with (go_at_call 9; refine (awake_any _ ht).mono ?_)
  rintro e w1 ⟨rfl, x1⟩
  by_cases h : a.size ≤ 200 ∧ b.size ≤ 200
  · obtain ⟨ha, hb⟩ := h
    have q1 : ¬ (200 < a.size) := by omega
    have q2 : ¬ (200 < b.size) := by omega
    go_wp2_with fail
    refine (runes_any a _ (by omega)).mono ?_
    rintro e w2 ⟨v, u, rfl, hv, -, x2⟩
    obtain ⟨A, cp, rfl, hcp, -⟩ := hv.shape
    rw [zr_length] at hcp ⊢
    have hcl := CH_length a
    have kg := fun W t => good_any a W (by omega) t
    have kg2 := fun W t => refgood_any a W (by omega) t
    have kl := fun W => len_any a W (by omega)
    have kf := fun W t => fold_any a W (by omega) t
    have kf2 := fun W t => reffold_any a W (by omega) t
    have kc := fun W => cmp_any a b W (by omega) (by omega)
    have kc2 := fun W => refcmp_any a b W (by omega) (by omega)
    have ks := fun W => split_any a c W (by omega)
    have ks2 := fun W => refsplit_any a c W (by omega)
    have kt := fun W => cut_any a n W (by omega)
    have kt2 := fun W => refcut_any a n W (by omega)
    generalize goodL (CH a) = G at *
    generalize (⟨(foldL (CH a)).toArray⟩ : ByteArray) = F at *
    generalize cmpL (zr a) (zr b) = C at *
    generalize (CH a).length = m at *
    generalize cutL a n = T at *
    generalize splitC c [] (CH a) = S at *
    clear hv
    have y2 := x1.trans x2
    go_wp2_with fail
    refine (kg _ (ht.ext y2)).mono ?_
    rintro e w3 ⟨rfl, x3⟩
    have y3 := y2.trans x3
    go_wp2_with fail
    refine (kg2 _ (ht.ext y3)).mono ?_
    rintro e w4 ⟨rfl, x4⟩
    have y4 := y3.trans x4
    go_wp2_with fail
    refine (kl _).mono ?_
    rintro e w5 ⟨rfl, x5⟩
    have y5 := y4.trans x5
    go_wp2_with fail
    refine (kf _ (ht.ext y5)).mono ?_
    rintro e w6 ⟨rfl, x6⟩
    have y6 := y5.trans x6
    go_wp2_with fail
    refine (kf2 _ (ht.ext y6)).mono ?_
    rintro e w7 ⟨rfl, x7⟩
    have y7 := y6.trans x7
    go_wp2_with fail
    refine (kc _).mono ?_
    rintro e w8 ⟨rfl, x8⟩
    go_wp2_with fail
    refine (kc2 _).mono ?_
    rintro e w9 ⟨rfl, x9⟩
    have y9 := y7.trans (x8.trans x9)
    go_wp2_with fail
    refine (ks _).mono ?_
    rintro e w10 ⟨v1, L1, rfl, hs1, hl1, x10⟩
    go_wp2_with fail
    refine (ks2 _).mono ?_
    rintro e w11 ⟨v2, L2, rfl, hs2, hl2, x11⟩
    have y11 := y9.trans (x10.trans x11)
    have hLL : L1 = L2 := same_texts (hl1.trans hl2.symm)
    subst hLL
    clear hl1 hl2
    go_wp2_with fail
    refine (texts_any _ _ v1 v2 L1 _ (hs1.ext x11) hs2).mono ?_
    rintro e w12 ⟨rfl, x12⟩
    have y12 := y11.trans x12
    clear hs1 hs2
    go_wp2_with fail
    refine (kt _).mono ?_
    rintro e w13 ⟨⟨r1, rfl, hr1⟩, x13⟩
    go_wp2_with fail
    refine (kt2 _).mono ?_
    rintro e w14 ⟨⟨r2, rfl, hr2⟩, x14⟩
    have hrr : r1 = r2 := bytes_ext (hr1.trans hr2.symm)
    subst hrr
    clear hr1 hr2
    go_wp2_with fail
    go_ret
    exact ⟨rfl, y12.trans (x13.trans x14)⟩
  · have hn : 200 < a.size ∨ 200 < b.size := by omega
    go_wp2_with fail
    all_goals go_ret
    all_goals exact ⟨rfl, x1⟩
end Go.Proofs.YtiopbhmohiggoaaDoor
