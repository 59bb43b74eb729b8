/- NameCuts: the walk, and the plain law. -/
import Derived.Test.YtiopbhmohiggoaaDoorNameAwake
set_option linter.unusedVariables false
namespace Go.Proofs.YtiopbhmohiggoaaDoor
open Go.RowKit Go.Lib Go.Shelf Go.Proofs.YtiopbhmohiggoaaDoorW.PrintWords
set_option maxHeartbeats 4000000
set_option maxRecDepth 100000

theorem bytes_ext {a b : ByteArray} (h : a.data.toList = b.data.toList) : a = b := by
  cases a; cases b
  congr
  exact Array.ext' h
theorem append_list (a b : ByteArray) : (a ++ b).data.toList = a.data.toList ++ b.data.toList := by
  rw [ByteArray.data_append, Array.toList_append]
theorem cut_back (s C : ByteArray) (n : Int) (h : C.data.toList = cutL s n) : C.size ≤ s.size ∧ C ++ s.extract C.size s.size = s ∧ CH C = (CH s).take n.toNat ∧ CH (s.extract C.size s.size) = (CH s).drop n.toNat := by
  have h0 : s.data.toList = flat ((CH s).take n.toNat) ++ flat ((CH s).drop n.toNat) := by rw [← flat_append, List.take_append_drop]; exact (chunks_flat _).symm
  have hsz : C.size = (flat ((CH s).take n.toNat)).length := by rw [← slen, h]; rfl
  have hs : s.size = (flat ((CH s).take n.toNat)).length + (flat ((CH s).drop n.toNat)).length := by rw [← slen s, h0, List.length_append]
  have hx : (s.extract C.size s.size).data.toList = s.data.toList.drop C.size := by
    rw [extract_list, List.take_of_length_le (by rw [List.length_drop, slen]; omega)]
  have hd : s.data.toList.drop C.size = flat ((CH s).drop n.toNat) := by rw [h0, hsz, List.drop_left]
  refine ⟨by omega, bytes_ext ?_, ?_, ?_⟩
  · rw [append_list, hx, hd, h]
    exact h0.symm
  · show chunks C.data.toList = _
    rw [h]
    exact chunks_pre n.toNat _
  · show chunks _ = _
    rw [hx, hsz]
    exact chunks_post n.toNat _
theorem good_take (l : List (List UInt8 × Nat)) (n : Nat) (hn : 1 ≤ n) (h : goodL l = true) : goodL (l.take n) = true := by
  cases l with
  | nil => simp [goodL] at h
  | cons c t =>
    obtain ⟨m, rfl⟩ : ∃ m, n = m + 1 := ⟨n - 1, by omega⟩
    simp only [goodL, List.take_succ_cons, Bool.and_eq_true, decide_eq_true_eq, List.length_cons, List.length_take, List.all_eq_true] at h ⊢
    refine ⟨⟨h.1.1, fun d hd => h.1.2 d (List.mem_of_mem_take hd)⟩, by omega, by omega⟩

theorem cuts_any (s : ByteArray) (n : Int) (w : World) (ht : Tabs w) :
    Calls Tryd.prog 5 #[.string s, .int .i64 n] w fun e w' => e = .returned (.bool true) ∧ Ext w w' := by
  go_enter Tryd.func5, Tryd.ntmps5
  go_wp2_with (go_at_call 9; refine (awake_any _ ht).mono ?_)
  rintro e w1 ⟨rfl, x1⟩
  by_cases h : s.size ≤ 200 ∧ 0 ≤ n ∧ n ≤ 200
  · obtain ⟨hs, hn0, hn1⟩ := h
    have q1 : ¬ (200 < s.size) := by omega
    have q2 : ¬ (n < 0) := by omega
    have q3 : ¬ (200 < n) := by omega
    go_wp2_with (go_at_call 14; refine (cut_any s n _ (by omega)).mono ?_)
    rintro e w2 ⟨⟨C, rfl, hC⟩, x2⟩
    obtain ⟨c1, c2, c3, c4⟩ := cut_back s C n hC
    have kC := fun W => len_any C W (by omega)
    have kR := fun W => len_any (s.extract C.size s.size) W (by rw [ByteArray.size_extract]; omega)
    have kS := fun W => len_any s W (by omega)
    have gS := fun W t => good_any s W (by omega) t
    have gC := fun W t => good_any C W (by omega) t
    have hg : goodL (CH s) = true → 1 ≤ n → goodL (CH C) = true := fun h1 h2 => by rw [c3]; exact good_take _ _ (by omega) h1
    have hl : (CH C).length + (CH (s.extract C.size s.size)).length = (CH s).length := by rw [c3, c4, ← List.length_append, List.take_append_drop]
    have hl2 := CH_length s
    generalize (CH (s.extract C.size s.size)).length = m2 at kR hl
    generalize (CH C).length = m1 at kC hl
    generalize (CH s).length = m3 at kS hl hl2
    generalize goodL (CH C) = g2 at gC hg
    generalize goodL (CH s) = g1 at gS hg
    have C2 := Lib.hid c2
    clear c2 c3 c4 hC
    have hl' : (m1 : Int) + (m2 : Int) = (m3 : Int) := by omega
    have x12 := x1.trans x2
    go_wp2_with fail
    rotate_left
    · rename_i hbad
      exact absurd (congrArg ByteArray.toList C2.out) (by simpa using hbad)
    refine (kC _).mono ?_
    rintro e w3 ⟨rfl, x3⟩
    go_wp2_with fail
    refine (kR _).mono ?_
    rintro e w4 ⟨rfl, x4⟩
    go_wp2_with fail
    refine (kS _).mono ?_
    rintro e w5 ⟨rfl, x5⟩
    have x15 := x12.trans (x3.trans (x4.trans x5))
    go_wp2_with fail
    refine (gS _ (ht.ext x15)).mono ?_
    rintro e w6 ⟨rfl, x6⟩
    have x16 := x15.trans x6
    cases g1
    · go_wp2_with fail
      go_ret
      exact ⟨rfl, x16⟩
    · by_cases hn : n < 1
      · go_wp2_with fail
        go_ret
        exact ⟨rfl, x16⟩
      · have hg2 : g2 = true := hg rfl (by omega)
        subst hg2
        go_wp2_with fail
        refine (gC _ (ht.ext x16)).mono ?_
        rintro e w7 ⟨rfl, x7⟩
        go_wp2_with fail
        go_ret
        exact ⟨rfl, x16.trans x7⟩
  · go_wp2_with fail
    all_goals go_ret
    all_goals exact ⟨rfl, x1⟩
end Go.Proofs.YtiopbhmohiggoaaDoor
