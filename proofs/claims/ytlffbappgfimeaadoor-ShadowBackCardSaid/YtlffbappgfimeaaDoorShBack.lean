/- ShBack: the law ShadowBack. -/
import Derived.Test.YtlffbappgfimeaaDoorShAwake
import Derived.Test.YtlffbappgfimeaaDoorRegion
set_option linter.unusedVariables false
set_option linter.unusedSimpArgs false
set_option maxRecDepth 100000
namespace Go.Proofs.YtlffbappgfimeaaDoor
open Go.RowKit Go.Lib Go.Proofs.YtlffbappgfimeaaDoorW.PrintWords Go.Proofs.YtlffbappgfimeaaDoorW.PrintLast PackPure

theorem bytes_eq {r n : Int} {v : V7} {k : Int} {key text : ByteArray} {b t : Int} {r' n' : Int} {v' : V7} {k' : Int} {key' text' : ByteArray} {b' t' : Int} (hg : goodS r n v k key text b t = true) (hg' : goodS r' n' v' k' key' text' b' t' = true) : ((bytesS r n v k key text b t) == (bytesS r' n' v' k' key' text' b' t')) = eqS r n v k key text b t r' n' v' k' key' text' b' t' := by
  rw [Bool.eq_iff_iff, beq_iff_eq, eqS_iff]
  constructor
  · exact fun h => bytes_inj hg hg' h
  · rintro ⟨rfl, rfl, h, rfl, rfl, rfl, rfl, rfl⟩
    have : putV v 7 = putV v' 7 := by simp only [putV, h 0 (by omega), h 1 (by omega), h 2 (by omega), h 3 (by omega), h 4 (by omega), h 5 (by omega), h 6 (by omega)]
    simp only [bytesS, this]
set_option maxHeartbeats 8000000 in
theorem sback_any (r n : Int) (v : V7) (k : Int) (key text : ByteArray) (b t : Int) (r' n' : Int) (v' : V7) (k' : Int) (key' text' : ByteArray) (b' t' : Int) (cut : Int) (w : World) (hk : -9223372036854775808 ≤ k ∧ k ≤ 9223372036854775807) (hk' : -9223372036854775808 ≤ k' ∧ k' ≤ 9223372036854775807) (ht : Tabs w) :
    Calls Tryd.prog 5 #[shv r n v k key text b t, shv r' n' v' k' key' text' b' t', .int .i64 cut] w fun e w' => e = .returned (.bool true) ∧ Ext w w' := by
  obtain ⟨h, Hh⟩ : ∃ h, Hid (w.heap.size = h) := ⟨_, Lib.hid rfl⟩
  obtain ⟨w1, H1, S1, hx1, hb1⟩ := allocS w r n v k key text b t 28 h Hh.out
  obtain ⟨w2, H2, S2, hx2, ha2⟩ := allocS w1 r' n' v' k' key' text' b' t' 28 (h + 1) S1.out
  have hX2 := hx1.trans hx2
  have hb2 := hb1.ext hx2
  have kl := fun W => long_any r n v k key text b t W
  have kl' := fun W => long_any r' n' v' k' key' text' b' t' W
  have hh := Hh.out
  have s1 := S1.out
  have h1 := H1.out
  have h2 := H2.out
  unfold shv at kl kl'
  unfold shv
  go_enter Tryd.func5, Tryd.ntmps5
  go_wp2_with fail
  clear h1 h2 hh s1
  refine (sawake_any _ (ht.ext hX2)).mono ?_
  rintro e w3 ⟨rfl, x3⟩
  have hX3 := hX2.trans x3
  have hb3 := hb2.ext x3
  have ha3 := ha2.ext x3
  obtain ⟨c0, c1, c2, c3, c4, c5, c6, c7, c8, c9, c10, c11, c12, c13⟩ := hb3.cells
  go_wp2_with fail
  refine (kl _).mono ?_
  rintro e w4 ⟨rfl, x4⟩
  clear c0 c1 c2 c3 c4 c5 c6 c7 c8 c9 c10 c11 c12 c13
  have hX4 := hX3.trans x4
  have hb4 := hb3.ext x4
  have ha4 := ha3.ext x4
  cases ql : longS key text with
  | true =>
    go_wp2
    all_goals go_ret
    all_goals exact ⟨rfl, hX4⟩
  | false =>
    have hsz : key.size ≤ 100 ∧ text.size ≤ 150 := by
      simp only [longS, Bool.or_eq_false_iff, decide_eq_false_iff_not] at ql
      omega
    obtain ⟨c0, c1, c2, c3, c4, c5, c6, c7, c8, c9, c10, c11, c12, c13⟩ := ha4.cells
    go_wp2_with fail
    refine (kl' _).mono ?_
    rintro e w5 ⟨rfl, x5⟩
    clear c0 c1 c2 c3 c4 c5 c6 c7 c8 c9 c10 c11 c12 c13
    have hX5 := hX4.trans x5
    have hb5 := hb4.ext x5
    have ha5 := ha4.ext x5
    cases ql' : longS key' text' with
    | true =>
      go_wp2
      all_goals go_ret
      all_goals exact ⟨rfl, hX5⟩
    | false =>
      have hsz' : key'.size ≤ 100 ∧ text'.size ≤ 150 := by
        simp only [longS, Bool.or_eq_false_iff, decide_eq_false_iff_not] at ql'
        omega
      have kg := fun W hW => sgood_any r n v k key text b t W (by omega) hk hW
      have kg' := fun W hW => sgood_any r' n' v' k' key' text' b' t' W (by omega) hk' hW
      unfold shv at kg kg'
      obtain ⟨c0, c1, c2, c3, c4, c5, c6, c7, c8, c9, c10, c11, c12, c13⟩ := hb5.cells
      go_wp2_with fail
      refine (kg _ (ht.ext hX5)).mono ?_
      rintro e w6 ⟨rfl, x6⟩
      clear c0 c1 c2 c3 c4 c5 c6 c7 c8 c9 c10 c11 c12 c13
      have hX6 := hX5.trans x6
      have hb6 := hb5.ext x6
      have ha6 := ha5.ext x6
      cases qg : goodS r n v k key text b t with
      | false =>
        go_wp2
        all_goals go_ret
        all_goals exact ⟨rfl, hX6⟩
      | true =>
        have kp := fun W hW => sput_good r n v k key text b t W qg hW
        have kr := fun A m c W h1 h2 h3 h4 => sget_good r n v k key text b t A m c W qg h1 h2 h3 h4
        have kc := fun A m c i W h1 h2 h3 h4 h5 => sget_cut r n v k key text b t A m c i W qg h1 h2 h3 h4 h5
        have hlb := bytes_len (facts qg)
        have heqs : ∀ W, (Op.equalIn 10000 28 (shv r n v k key text b t) (shv r n v k key text b t)).run Tryd.prog W = .ok true W := fun W => by
          have h := run_eqS28 r n v k key text b t r n v k key text b t W
          rw [eqS_refl] at h
          exact h
        have heqm := fun W => run_eqS28 r n v k key text b t r' n' v' k' key' text' b' t' W
        have hbe := fun q => bytes_eq (r' := r') (n' := n') (v' := v') (k' := k') (key' := key') (text' := text') (b' := b') (t' := t') qg q
        have kp' := fun q W hW => sput_good r' n' v' k' key' text' b' t' W q hW
        unfold shv at kp kr kc heqs heqm kp'
        obtain ⟨PB, HPB⟩ : ∃ x, Hid (bytesS r n v k key text b t = x) := ⟨_, Lib.hid rfl⟩
        obtain ⟨PC, HPC⟩ : ∃ x, Hid (bytesS r' n' v' k' key' text' b' t' = x) := ⟨_, Lib.hid rfl⟩
        rw [HPB.out] at kp kr kc hlb
        simp only [HPB.out, HPC.out] at hbe kp'
        obtain ⟨eq, Heq⟩ : ∃ x, Hid (eqS r n v k key text b t r' n' v' k' key' text' b' t' = x) := ⟨_, Lib.hid rfl⟩
        rw [Heq.out] at hbe heqm
        obtain ⟨c0, c1, c2, c3, c4, c5, c6, c7, c8, c9, c10, c11, c12, c13⟩ := hb6.cells
        go_wp2_with fail
        refine (kp _ (ht.ext hX6)).mono ?_
        rintro e w7 ⟨A, m, c, rfl, hm, hc, hB, -, x7⟩
        clear c0 c1 c2 c3 c4 c5 c6 c7 c8 c9 c10 c11 c12 c13
        have Hm := Lib.hid hm
        clear hm
        have hX7 := hX6.trans x7
        have hb7 := hb6.ext x7
        have ha7 := ha6.ext x7
        go_wp2_with fail
        refine (kr A m c _ hB Hm.out hc (ht.ext hX7)).mono ?_
        rintro e w8 ⟨rfl, x8⟩
        have hX8 := hX7.trans x8
        have hb8 := hb7.ext x8
        have ha8 := ha7.ext x8
        have hB8 := hB.ext x8
        obtain ⟨h1, Hh1⟩ : ∃ h, Hid (w8.heap.size = h) := ⟨_, Lib.hid rfl⟩
        obtain ⟨a1, Ha1, Sa1, xa1, ba1⟩ := allocS w8 0 0 (fun _ => 0) 0 ⟨#[]⟩ ⟨#[]⟩ 0 0 28 h1 Hh1.out
        obtain ⟨z1, Hz1, bz1, kz1, -, Sz1⟩ := putS (r' := r) (n' := n) (v' := v) (k' := k) (key' := key) (text' := text) (b' := b) (t' := t) (h := ba1)
        have xz1 : Ext w8 z1 := kz1 _ xa1 (by rw [Hh1.out]; exact Nat.le_refl _)
        obtain ⟨p0, p1, p2, p3, p4, p5, p6, p7, p8, p9, p10, p11, p12, p13⟩ := ba1.cells
        obtain ⟨q0, q1, q2, q3, q4, q5, q6, q7, q8, q9, q10, q11, q12, q13⟩ := ba1.frs
        have rh := Hh1.out
        have ra := Ha1.out
        have rz := Hz1.out
        have hb9 := hb8.ext xz1
        have ha9 := ha8.ext xz1
        have hB9 := hB8.ext xz1
        have hX9 := hX8.trans xz1
        go_wp2
        clear rh ra rz p0 p1 p2 p3 p4 p5 p6 p7 p8 p9 p10 p11 p12 p13 q0 q1 q2 q3 q4 q5 q6 q7 q8 q9 q10 q11 q12 q13
        obtain ⟨s0, s1, s2, s3, s4, s5, s6, s7, s8, s9, s10, s11, s12, s13⟩ := hb9.rules
        obtain ⟨u0, u1, u2, u3, u4, u5, u6, u7, u8, u9, u10, u11, u12, u13⟩ := ha9.rules
        obtain ⟨t_0, t_1, t_2, t_3, t_4, t_5, t_6, t_7, t_8, t_9, t_10, t_11, t_12, t_13⟩ := bz1.rules
        have hcv : ∀ W, Ext z1 W → (convert 29 9 (.slice A m c)).run Tryd.prog W = .ok (.string (Str PB)) W := fun W hW => (hB9.ext hW).string _ _ Hm.out
        have hT9 := ht.ext hX9
        have hS := Str_toList
        have xT := Ext.refl z1
        cases qg' : goodS r' n' v' k' key' text' b' t' with
        | false =>
          rw [qg'] at kg'
          refine start_ (n := 23) (S := (fun W => Ext z1 W)) (ds := []) #[false, false, false, false, false, false, false, false, false, false, false, false, false, false, false, false, false, false, false, false, false, false, false] (by kernel_rfl) (by kernel_rfl) (by kernel_rfl) (xT.drew) (fun hHeld => ?_)
          refine take_ (i := 0) (N := (some 32)) (v := ?_) (a' := ?_) #[true, false, false, false, false, false, false, false, false, false, false, false, false, false, false, false, false, false, false, false, false, false, false] rfl rfl (by kernel_rfl) (fun _ _ _ h => h) (Or.inl ⟨by rfl, ?_⟩) (by assumption) ?_ ?_
          rotate_left
          · intro w' hSw; (try dsimp only at hSw)
            go_simp
            try with_reducible rfl
          rotate_left
          · simp only [Act.put, List.setIfInBounds_toArray, List.set_cons_zero, List.set_cons_succ]
            rfl
          refine take_ (i := 1) (N := (some 33)) (v := ?_) (a' := ?_) #[true, true, false, false, false, false, false, false, false, false, false, false, false, false, false, false, false, false, false, false, false, false, false] rfl rfl (by kernel_rfl) (fun _ _ _ h => h) (Or.inl ⟨by rfl, ?_⟩) (by assumption) ?_ ?_
          rotate_left
          · intro w' hSw; (try dsimp only at hSw)
            go_simp
            try with_reducible rfl
          rotate_left
          · simp only [Act.put, List.setIfInBounds_toArray, List.set_cons_zero, List.set_cons_succ]
            rfl
          refine take_ (i := 2) (N := (some 34)) (v := ?_) (a' := ?_) #[true, true, true, false, false, false, false, false, false, false, false, false, false, false, false, false, false, false, false, false, false, false, false] rfl rfl (by kernel_rfl) (fun _ _ _ h => h) (Or.inl ⟨by rfl, ?_⟩) (by assumption) ?_ ?_
          rotate_left
          · intro w' hSw; (try dsimp only at hSw)
            go_simp
            try with_reducible rfl
          rotate_left
          · simp only [Act.put, List.setIfInBounds_toArray, List.set_cons_zero, List.set_cons_succ]
            rfl
          refine take_ (i := 3) (N := (some 35)) (v := ?_) (a' := ?_) #[true, true, true, true, false, false, false, false, false, false, false, false, false, false, false, false, false, false, false, false, false, false, false] rfl rfl (by kernel_rfl) (fun _ _ _ h => h) (Or.inl ⟨by rfl, ?_⟩) (by assumption) ?_ ?_
          rotate_left
          · intro w' hSw; (try dsimp only at hSw)
            go_simp
            try with_reducible rfl
          rotate_left
          · simp only [Act.put, List.setIfInBounds_toArray, List.set_cons_zero, List.set_cons_succ]
            rfl
          refine take_ (i := 4) (N := (some 36)) (v := ?_) (a' := ?_) #[true, true, true, true, true, false, false, false, false, false, false, false, false, false, false, false, false, false, false, false, false, false, false] rfl rfl (by kernel_rfl) (fun _ _ _ h => h) (Or.inl ⟨by rfl, ?_⟩) (by assumption) ?_ ?_
          rotate_left
          · intro w' hSw; (try dsimp only at hSw)
            go_simp
            try with_reducible rfl
          rotate_left
          · simp only [Act.put, List.setIfInBounds_toArray, List.set_cons_zero, List.set_cons_succ]
            rfl
          refine take_ (i := 5) (N := (some 37)) (v := ?_) (a' := ?_) #[true, true, true, true, true, true, false, false, false, false, false, false, false, false, false, false, false, false, false, false, false, false, false] rfl rfl (by kernel_rfl) (fun _ _ _ h => h) (Or.inl ⟨by rfl, ?_⟩) (by assumption) ?_ ?_
          rotate_left
          · intro w' hSw; (try dsimp only at hSw)
            go_simp
            try with_reducible rfl
          rotate_left
          · simp only [Act.put, List.setIfInBounds_toArray, List.set_cons_zero, List.set_cons_succ]
            rfl
          refine take_ (i := 6) (N := (some 38)) (v := ?_) (a' := ?_) #[true, true, true, true, true, true, true, false, false, false, false, false, false, false, false, false, false, false, false, false, false, false, false] rfl rfl (by kernel_rfl) (fun _ _ _ h => h) (Or.inl ⟨by rfl, ?_⟩) (by assumption) ?_ ?_
          rotate_left
          · intro w' hSw; (try dsimp only at hSw)
            go_simp
            try with_reducible rfl
          rotate_left
          · simp only [Act.put, List.setIfInBounds_toArray, List.set_cons_zero, List.set_cons_succ]
            rfl
          refine take_ (i := 7) (N := (some 39)) (v := ?_) (a' := ?_) #[true, true, true, true, true, true, true, true, false, false, false, false, false, false, false, false, false, false, false, false, false, false, false] rfl rfl (by kernel_rfl) (fun _ _ _ h => h) (Or.inl ⟨by rfl, ?_⟩) (by assumption) ?_ ?_
          rotate_left
          · intro w' hSw; (try dsimp only at hSw)
            go_simp
            try with_reducible rfl
          rotate_left
          · simp only [Act.put, List.setIfInBounds_toArray, List.set_cons_zero, List.set_cons_succ]
            rfl
          refine take_ (i := 8) (N := (some 40)) (v := ?_) (a' := ?_) #[true, true, true, true, true, true, true, true, true, false, false, false, false, false, false, false, false, false, false, false, false, false, false] rfl rfl (by kernel_rfl) (fun _ _ _ h => h) (Or.inl ⟨by rfl, ?_⟩) (by assumption) ?_ ?_
          rotate_left
          · intro w' hSw; (try dsimp only at hSw)
            go_simp
            try with_reducible rfl
          rotate_left
          · simp only [Act.put, List.setIfInBounds_toArray, List.set_cons_zero, List.set_cons_succ]
            rfl
          refine one_ (i := 9) (N := (some 41)) #[true, true, true, true, true, true, true, true, true, true, false, false, false, false, false, false, false, false, false, false, false, false, false] rfl rfl (by kernel_rfl) (by simp) (fun K hK => ?_)
          go_simp
          refine (kg' _ (hT9.ext hHeld)).mono ?_
          rintro e w' ⟨rfl, xx⟩
          refine hK.out _ _ ?_ (fun hHeld => ?_)
          · first | assumption | exact hHeld.trans (by assumption)
          clear hK K
          (try simp only [Act.put, List.setIfInBounds_toArray, List.set_cons_zero, List.set_cons_succ])
          refine take_ (i := 10) (N := (some 42)) (v := ?_) (a' := ?_) #[true, true, true, true, true, true, true, true, true, true, true, false, false, false, false, false, false, false, false, false, false, false, false] rfl rfl (by kernel_rfl) (fun _ _ _ h => h) (Or.inl ⟨by rfl, ?_⟩) (by assumption) ?_ ?_
          rotate_left
          · intro w' hSw; (try dsimp only at hSw)
            go_simp
            try with_reducible rfl
          rotate_left
          · simp only [Act.put, List.setIfInBounds_toArray, List.set_cons_zero, List.set_cons_succ]
            rfl
          refine take_ (i := 11) (N := (some 43)) (v := undef) (a' := ?_) #[true, true, true, true, true, true, true, true, true, true, true, true, false, false, false, false, false, false, false, false, false, false, false] rfl rfl (by kernel_rfl) (fun _ _ _ h => h) (Or.inr ⟨by rfl, rfl⟩) (by assumption) ?_ ?_
          rotate_left
          · simp only [Act.put, List.setIfInBounds_toArray, List.set_cons_zero, List.set_cons_succ]
            rfl
          refine take_ (i := 12) (N := (some 44)) (v := undef) (a' := ?_) #[true, true, true, true, true, true, true, true, true, true, true, true, true, false, false, false, false, false, false, false, false, false, false] rfl rfl (by kernel_rfl) (fun _ _ _ h => h) (Or.inr ⟨by rfl, rfl⟩) (by assumption) ?_ ?_
          rotate_left
          · simp only [Act.put, List.setIfInBounds_toArray, List.set_cons_zero, List.set_cons_succ]
            rfl
          refine take_ (i := 13) (N := (some 45)) (v := undef) (a' := ?_) #[true, true, true, true, true, true, true, true, true, true, true, true, true, true, false, false, false, false, false, false, false, false, false] rfl rfl (by kernel_rfl) (fun _ _ _ h => h) (Or.inr ⟨by rfl, rfl⟩) (by assumption) ?_ ?_
          rotate_left
          · simp only [Act.put, List.setIfInBounds_toArray, List.set_cons_zero, List.set_cons_succ]
            rfl
          refine take_ (i := 14) (N := (some 46)) (v := undef) (a' := ?_) #[true, true, true, true, true, true, true, true, true, true, true, true, true, true, true, false, false, false, false, false, false, false, false] rfl rfl (by kernel_rfl) (fun _ _ _ h => h) (Or.inr ⟨by rfl, rfl⟩) (by assumption) ?_ ?_
          rotate_left
          · simp only [Act.put, List.setIfInBounds_toArray, List.set_cons_zero, List.set_cons_succ]
            rfl
          refine take_ (i := 15) (N := (some 47)) (v := undef) (a' := ?_) #[true, true, true, true, true, true, true, true, true, true, true, true, true, true, true, true, false, false, false, false, false, false, false] rfl rfl (by kernel_rfl) (fun _ _ _ h => h) (Or.inr ⟨by rfl, rfl⟩) (by assumption) ?_ ?_
          rotate_left
          · simp only [Act.put, List.setIfInBounds_toArray, List.set_cons_zero, List.set_cons_succ]
            rfl
          refine take_ (i := 16) (N := (some 48)) (v := undef) (a' := ?_) #[true, true, true, true, true, true, true, true, true, true, true, true, true, true, true, true, true, false, false, false, false, false, false] rfl rfl (by kernel_rfl) (fun _ _ _ h => h) (Or.inr ⟨by rfl, rfl⟩) (by assumption) ?_ ?_
          rotate_left
          · simp only [Act.put, List.setIfInBounds_toArray, List.set_cons_zero, List.set_cons_succ]
            rfl
          refine take_ (i := 17) (N := (some 49)) (v := undef) (a' := ?_) #[true, true, true, true, true, true, true, true, true, true, true, true, true, true, true, true, true, true, false, false, false, false, false] rfl rfl (by kernel_rfl) (fun _ _ _ h => h) (Or.inr ⟨by rfl, rfl⟩) (by assumption) ?_ ?_
          rotate_left
          · simp only [Act.put, List.setIfInBounds_toArray, List.set_cons_zero, List.set_cons_succ]
            rfl
          refine take_ (i := 18) (N := (some 50)) (v := undef) (a' := ?_) #[true, true, true, true, true, true, true, true, true, true, true, true, true, true, true, true, true, true, true, false, false, false, false] rfl rfl (by kernel_rfl) (fun _ _ _ h => h) (Or.inr ⟨by rfl, rfl⟩) (by assumption) ?_ ?_
          rotate_left
          · simp only [Act.put, List.setIfInBounds_toArray, List.set_cons_zero, List.set_cons_succ]
            rfl
          refine take_ (i := 19) (N := (some 51)) (v := undef) (a' := ?_) #[true, true, true, true, true, true, true, true, true, true, true, true, true, true, true, true, true, true, true, true, false, false, false] rfl rfl (by kernel_rfl) (fun _ _ _ h => h) (Or.inr ⟨by rfl, rfl⟩) (by assumption) ?_ ?_
          rotate_left
          · simp only [Act.put, List.setIfInBounds_toArray, List.set_cons_zero, List.set_cons_succ]
            rfl
          refine take_ (i := 20) (N := (some 52)) (v := undef) (a' := ?_) #[true, true, true, true, true, true, true, true, true, true, true, true, true, true, true, true, true, true, true, true, true, false, false] rfl rfl (by kernel_rfl) (fun _ _ _ h => h) (Or.inr ⟨by rfl, rfl⟩) (by assumption) ?_ ?_
          rotate_left
          · simp only [Act.put, List.setIfInBounds_toArray, List.set_cons_zero, List.set_cons_succ]
            rfl
          refine take_ (i := 21) (N := (some 53)) (v := ?_) (a' := ?_) #[true, true, true, true, true, true, true, true, true, true, true, true, true, true, true, true, true, true, true, true, true, true, false] rfl rfl (by kernel_rfl) (fun _ _ _ h => h) (Or.inl ⟨by rfl, ?_⟩) (by assumption) ?_ ?_
          rotate_left
          · intro w' hSw; (try dsimp only at hSw)
            go_simp
            try with_reducible rfl
          rotate_left
          · simp only [Act.put, List.setIfInBounds_toArray, List.set_cons_zero, List.set_cons_succ]
            rfl
          refine take_ (i := 22) (N := (some 54)) (v := ?_) (a' := ?_) #[true, true, true, true, true, true, true, true, true, true, true, true, true, true, true, true, true, true, true, true, true, true, true] rfl rfl (by kernel_rfl) (fun _ _ _ h => h) (Or.inl ⟨by rfl, ?_⟩) (by assumption) ?_ ?_
          rotate_left
          · intro w' hSw; (try dsimp only at hSw)
            go_simp
            try with_reducible rfl
          rotate_left
          · simp only [Act.put, List.setIfInBounds_toArray, List.set_cons_zero, List.set_cons_succ]
            rfl
          refine done_ (by kernel_rfl) ?_
          have hX10 := hX9.trans hHeld
          have hB10 := hB9.ext hHeld
          by_cases qc : cut < 0
          · go_wp2
            all_goals go_ret
            all_goals exact ⟨rfl, hX10⟩
          obtain ⟨i, rfl⟩ := Int.eq_ofNat_of_zero_le (show 0 ≤ cut by omega)
          by_cases qm : m ≤ i
          · go_wp2
            all_goals go_ret
            all_goals exact ⟨rfl, hX10⟩
          have qi : ¬ ((m : Int) ≤ (i : Int)) := by omega
          have qj : (i : Int) < (m : Int) := by omega
          have hi : i < PB.length := by have := Hm.out; omega
          have hBi := hB10.take i (by omega)
          go_wp2_with fail
          refine (kc A i c i _ hBi hi rfl (by omega) (ht.ext hX10)).mono ?_
          rintro e w12 ⟨rfl, x12⟩
          obtain ⟨h2, Hh2⟩ : ∃ h, Hid (w12.heap.size = h) := ⟨_, Lib.hid rfl⟩
          obtain ⟨a2, Ha2, Sa2, xa2, ba2⟩ := allocS w12 0 0 (fun _ => 0) 0 ⟨#[]⟩ ⟨#[]⟩ 0 0 28 h2 Hh2.out
          obtain ⟨z2, Hz2, bz2, kz2, -, Sz2⟩ := putS (r' := 0) (n' := 0) (v' := (fun _ => 0)) (k' := 0) (key' := ⟨#[]⟩) (text' := ⟨#[]⟩) (b' := 0) (t' := 0) (h := ba2)
          have xz2 : Ext w12 z2 := kz2 _ xa2 (by rw [Hh2.out]; exact Nat.le_refl _)
          obtain ⟨p0, p1, p2, p3, p4, p5, p6, p7, p8, p9, p10, p11, p12, p13⟩ := ba2.cells
          obtain ⟨q0, q1, q2, q3, q4, q5, q6, q7, q8, q9, q10, q11, q12, q13⟩ := ba2.frs
          have rh := Hh2.out
          have ra := Ha2.out
          have rz := Hz2.out
          go_wp2
          clear rh ra rz p0 p1 p2 p3 p4 p5 p6 p7 p8 p9 p10 p11 p12 p13 q0 q1 q2 q3 q4 q5 q6 q7 q8 q9 q10 q11 q12 q13
          go_ret
          exact ⟨rfl, (hX10.trans x12).trans xz2⟩
        | true =>
          rw [qg'] at kg'
          have hbe' := hbe qg'
          refine start_ (n := 23) (S := (fun W => Ext z1 W)) (ds := []) #[false, false, false, false, false, false, false, false, false, false, false, false, false, false, false, false, false, false, false, false, false, false, false] (by kernel_rfl) (by kernel_rfl) (by kernel_rfl) (xT.drew) (fun hHeld => ?_)
          refine take_ (i := 0) (N := (some 32)) (v := ?_) (a' := ?_) #[true, false, false, false, false, false, false, false, false, false, false, false, false, false, false, false, false, false, false, false, false, false, false] rfl rfl (by kernel_rfl) (fun _ _ _ h => h) (Or.inl ⟨by rfl, ?_⟩) (by assumption) ?_ ?_
          rotate_left
          · intro w' hSw; (try dsimp only at hSw)
            go_simp
            try with_reducible rfl
          rotate_left
          · simp only [Act.put, List.setIfInBounds_toArray, List.set_cons_zero, List.set_cons_succ]
            rfl
          refine take_ (i := 1) (N := (some 33)) (v := ?_) (a' := ?_) #[true, true, false, false, false, false, false, false, false, false, false, false, false, false, false, false, false, false, false, false, false, false, false] rfl rfl (by kernel_rfl) (fun _ _ _ h => h) (Or.inl ⟨by rfl, ?_⟩) (by assumption) ?_ ?_
          rotate_left
          · intro w' hSw; (try dsimp only at hSw)
            go_simp
            try with_reducible rfl
          rotate_left
          · simp only [Act.put, List.setIfInBounds_toArray, List.set_cons_zero, List.set_cons_succ]
            rfl
          refine take_ (i := 2) (N := (some 34)) (v := ?_) (a' := ?_) #[true, true, true, false, false, false, false, false, false, false, false, false, false, false, false, false, false, false, false, false, false, false, false] rfl rfl (by kernel_rfl) (fun _ _ _ h => h) (Or.inl ⟨by rfl, ?_⟩) (by assumption) ?_ ?_
          rotate_left
          · intro w' hSw; (try dsimp only at hSw)
            go_simp
            try with_reducible rfl
          rotate_left
          · simp only [Act.put, List.setIfInBounds_toArray, List.set_cons_zero, List.set_cons_succ]
            rfl
          refine take_ (i := 3) (N := (some 35)) (v := ?_) (a' := ?_) #[true, true, true, true, false, false, false, false, false, false, false, false, false, false, false, false, false, false, false, false, false, false, false] rfl rfl (by kernel_rfl) (fun _ _ _ h => h) (Or.inl ⟨by rfl, ?_⟩) (by assumption) ?_ ?_
          rotate_left
          · intro w' hSw; (try dsimp only at hSw)
            go_simp
            try with_reducible rfl
          rotate_left
          · simp only [Act.put, List.setIfInBounds_toArray, List.set_cons_zero, List.set_cons_succ]
            rfl
          refine take_ (i := 4) (N := (some 36)) (v := ?_) (a' := ?_) #[true, true, true, true, true, false, false, false, false, false, false, false, false, false, false, false, false, false, false, false, false, false, false] rfl rfl (by kernel_rfl) (fun _ _ _ h => h) (Or.inl ⟨by rfl, ?_⟩) (by assumption) ?_ ?_
          rotate_left
          · intro w' hSw; (try dsimp only at hSw)
            go_simp
            try with_reducible rfl
          rotate_left
          · simp only [Act.put, List.setIfInBounds_toArray, List.set_cons_zero, List.set_cons_succ]
            rfl
          refine take_ (i := 5) (N := (some 37)) (v := ?_) (a' := ?_) #[true, true, true, true, true, true, false, false, false, false, false, false, false, false, false, false, false, false, false, false, false, false, false] rfl rfl (by kernel_rfl) (fun _ _ _ h => h) (Or.inl ⟨by rfl, ?_⟩) (by assumption) ?_ ?_
          rotate_left
          · intro w' hSw; (try dsimp only at hSw)
            go_simp
            try with_reducible rfl
          rotate_left
          · simp only [Act.put, List.setIfInBounds_toArray, List.set_cons_zero, List.set_cons_succ]
            rfl
          refine take_ (i := 6) (N := (some 38)) (v := ?_) (a' := ?_) #[true, true, true, true, true, true, true, false, false, false, false, false, false, false, false, false, false, false, false, false, false, false, false] rfl rfl (by kernel_rfl) (fun _ _ _ h => h) (Or.inl ⟨by rfl, ?_⟩) (by assumption) ?_ ?_
          rotate_left
          · intro w' hSw; (try dsimp only at hSw)
            go_simp
            try with_reducible rfl
          rotate_left
          · simp only [Act.put, List.setIfInBounds_toArray, List.set_cons_zero, List.set_cons_succ]
            rfl
          refine take_ (i := 7) (N := (some 39)) (v := ?_) (a' := ?_) #[true, true, true, true, true, true, true, true, false, false, false, false, false, false, false, false, false, false, false, false, false, false, false] rfl rfl (by kernel_rfl) (fun _ _ _ h => h) (Or.inl ⟨by rfl, ?_⟩) (by assumption) ?_ ?_
          rotate_left
          · intro w' hSw; (try dsimp only at hSw)
            go_simp
            try with_reducible rfl
          rotate_left
          · simp only [Act.put, List.setIfInBounds_toArray, List.set_cons_zero, List.set_cons_succ]
            rfl
          refine take_ (i := 8) (N := (some 40)) (v := ?_) (a' := ?_) #[true, true, true, true, true, true, true, true, true, false, false, false, false, false, false, false, false, false, false, false, false, false, false] rfl rfl (by kernel_rfl) (fun _ _ _ h => h) (Or.inl ⟨by rfl, ?_⟩) (by assumption) ?_ ?_
          rotate_left
          · intro w' hSw; (try dsimp only at hSw)
            go_simp
            try with_reducible rfl
          rotate_left
          · simp only [Act.put, List.setIfInBounds_toArray, List.set_cons_zero, List.set_cons_succ]
            rfl
          refine one_ (i := 9) (N := (some 41)) #[true, true, true, true, true, true, true, true, true, true, false, false, false, false, false, false, false, false, false, false, false, false, false] rfl rfl (by kernel_rfl) (by simp) (fun K hK => ?_)
          go_simp
          refine (kg' _ (hT9.ext hHeld)).mono ?_
          rintro e w' ⟨rfl, xx⟩
          refine hK.out _ _ ?_ (fun hHeld => ?_)
          · first | assumption | exact hHeld.trans (by assumption)
          clear hK K
          (try simp only [Act.put, List.setIfInBounds_toArray, List.set_cons_zero, List.set_cons_succ])
          refine take_ (i := 10) (N := (some 42)) (v := ?_) (a' := ?_) #[true, true, true, true, true, true, true, true, true, true, true, false, false, false, false, false, false, false, false, false, false, false, false] rfl rfl (by kernel_rfl) (fun _ _ _ h => h) (Or.inl ⟨by rfl, ?_⟩) (by assumption) ?_ ?_
          rotate_left
          · intro w' hSw; (try dsimp only at hSw)
            go_simp
            try with_reducible rfl
          rotate_left
          · simp only [Act.put, List.setIfInBounds_toArray, List.set_cons_zero, List.set_cons_succ]
            rfl
          refine take_ (i := 11) (N := (some 43)) (v := ?_) (a' := ?_) #[true, true, true, true, true, true, true, true, true, true, true, true, false, false, false, false, false, false, false, false, false, false, false] rfl rfl (by kernel_rfl) (fun _ _ _ h => h) (Or.inl ⟨by rfl, ?_⟩) (by assumption) ?_ ?_
          rotate_left
          · intro w' hSw; (try dsimp only at hSw)
            go_simp
            try with_reducible rfl
          rotate_left
          · simp only [Act.put, List.setIfInBounds_toArray, List.set_cons_zero, List.set_cons_succ]
            rfl
          refine take_ (i := 12) (N := (some 44)) (v := ?_) (a' := ?_) #[true, true, true, true, true, true, true, true, true, true, true, true, true, false, false, false, false, false, false, false, false, false, false] rfl rfl (by kernel_rfl) (fun _ _ _ h => h) (Or.inl ⟨by rfl, ?_⟩) (by assumption) ?_ ?_
          rotate_left
          · intro w' hSw; (try dsimp only at hSw)
            go_simp
            try with_reducible rfl
          rotate_left
          · simp only [Act.put, List.setIfInBounds_toArray, List.set_cons_zero, List.set_cons_succ]
            rfl
          refine take_ (i := 13) (N := (some 45)) (v := ?_) (a' := ?_) #[true, true, true, true, true, true, true, true, true, true, true, true, true, true, false, false, false, false, false, false, false, false, false] rfl rfl (by kernel_rfl) (fun _ _ _ h => h) (Or.inl ⟨by rfl, ?_⟩) (by assumption) ?_ ?_
          rotate_left
          · intro w' hSw; (try dsimp only at hSw)
            go_simp
            try with_reducible rfl
          rotate_left
          · simp only [Act.put, List.setIfInBounds_toArray, List.set_cons_zero, List.set_cons_succ]
            rfl
          refine take_ (i := 17) (N := (some 49)) (v := ?_) (a' := ?_) #[true, true, true, true, true, true, true, true, true, true, true, true, true, true, false, false, false, true, false, false, false, false, false] rfl rfl (by kernel_rfl) (fun _ _ _ h => h) (Or.inl ⟨by rfl, ?_⟩) (by assumption) ?_ ?_
          rotate_left
          · intro w' hSw; (try dsimp only at hSw)
            go_simp
            try with_reducible rfl
          rotate_left
          · simp only [Act.put, List.setIfInBounds_toArray, List.set_cons_zero, List.set_cons_succ]
            rfl
          refine take_ (i := 18) (N := (some 50)) (v := ?_) (a' := ?_) #[true, true, true, true, true, true, true, true, true, true, true, true, true, true, false, false, false, true, true, false, false, false, false] rfl rfl (by kernel_rfl) (fun _ _ _ h => h) (Or.inl ⟨by rfl, ?_⟩) (by assumption) ?_ ?_
          rotate_left
          · intro w' hSw; (try dsimp only at hSw)
            go_simp
            try with_reducible rfl
          rotate_left
          · simp only [Act.put, List.setIfInBounds_toArray, List.set_cons_zero, List.set_cons_succ]
            rfl
          refine take_ (i := 19) (N := (some 51)) (v := ?_) (a' := ?_) #[true, true, true, true, true, true, true, true, true, true, true, true, true, true, false, false, false, true, true, true, false, false, false] rfl rfl (by kernel_rfl) (fun _ _ _ h => h) (Or.inl ⟨by rfl, ?_⟩) (by assumption) ?_ ?_
          rotate_left
          · intro w' hSw; (try dsimp only at hSw)
            go_simp
            try with_reducible rfl
          rotate_left
          · simp only [Act.put, List.setIfInBounds_toArray, List.set_cons_zero, List.set_cons_succ]
            rfl
          refine one_ (i := 14) (N := (some 46)) #[true, true, true, true, true, true, true, true, true, true, true, true, true, true, true, false, false, true, true, true, false, false, false] rfl rfl (by kernel_rfl) (by simp) (fun K hK => ?_)
          go_simp
          refine (kp' qg' _ (hT9.ext hHeld)).mono ?_
          rintro e w11 ⟨A11, m11, c11, rfl, hm11, hc11, hB11, -, xx⟩
          have Hm11 := Lib.hid hm11
          clear hm11
          have yy := hHeld.trans xx
          have hc11' : ∀ W, Ext w11 W → (convert 29 9 (.slice A11 m11 c11)).run Tryd.prog W = .ok (.string (Str PC)) W := fun W hW => (hB11.ext hW).string _ _ Hm11.out
          have hcv' : ∀ W, Ext w11 W → (convert 29 9 (.slice A m c)).run Tryd.prog W = .ok (.string (Str PB)) W := fun W hW => hcv W (yy.trans hW)
          have rs0 := fun W (e : Ext w11 W) => s0 W (yy.trans e)
          have rs1 := fun W (e : Ext w11 W) => s1 W (yy.trans e)
          have rs2 := fun W (e : Ext w11 W) => s2 W (yy.trans e)
          have rs3 := fun W (e : Ext w11 W) => s3 W (yy.trans e)
          have rs4 := fun W (e : Ext w11 W) => s4 W (yy.trans e)
          have rs5 := fun W (e : Ext w11 W) => s5 W (yy.trans e)
          have rs6 := fun W (e : Ext w11 W) => s6 W (yy.trans e)
          have rs7 := fun W (e : Ext w11 W) => s7 W (yy.trans e)
          have rs8 := fun W (e : Ext w11 W) => s8 W (yy.trans e)
          have rs9 := fun W (e : Ext w11 W) => s9 W (yy.trans e)
          have rs10 := fun W (e : Ext w11 W) => s10 W (yy.trans e)
          have rs11 := fun W (e : Ext w11 W) => s11 W (yy.trans e)
          have rs12 := fun W (e : Ext w11 W) => s12 W (yy.trans e)
          have rs13 := fun W (e : Ext w11 W) => s13 W (yy.trans e)
          have ru0 := fun W (e : Ext w11 W) => u0 W (yy.trans e)
          have ru1 := fun W (e : Ext w11 W) => u1 W (yy.trans e)
          have ru2 := fun W (e : Ext w11 W) => u2 W (yy.trans e)
          have ru3 := fun W (e : Ext w11 W) => u3 W (yy.trans e)
          have ru4 := fun W (e : Ext w11 W) => u4 W (yy.trans e)
          have ru5 := fun W (e : Ext w11 W) => u5 W (yy.trans e)
          have ru6 := fun W (e : Ext w11 W) => u6 W (yy.trans e)
          have ru7 := fun W (e : Ext w11 W) => u7 W (yy.trans e)
          have ru8 := fun W (e : Ext w11 W) => u8 W (yy.trans e)
          have ru9 := fun W (e : Ext w11 W) => u9 W (yy.trans e)
          have ru10 := fun W (e : Ext w11 W) => u10 W (yy.trans e)
          have ru11 := fun W (e : Ext w11 W) => u11 W (yy.trans e)
          have ru12 := fun W (e : Ext w11 W) => u12 W (yy.trans e)
          have ru13 := fun W (e : Ext w11 W) => u13 W (yy.trans e)
          refine hK.out _ _ ?_ (fun hHeld => ?_)
          · exact yy
          clear hK K
          (try simp only [Act.put, List.setIfInBounds_toArray, List.set_cons_zero, List.set_cons_succ])
          refine switch_ (S' := (fun W => Ext w11 W)) (fun W hW => yy.trans hW) (Ext.refl w11) ?_
          have hHeld : Ext w11 w11 := Ext.refl w11
          refine take_ (i := 15) (N := (some 47)) (v := ?_) (a' := ?_) #[true, true, true, true, true, true, true, true, true, true, true, true, true, true, true, true, false, true, true, true, false, false, false] rfl rfl (by kernel_rfl) (fun _ _ _ h => h) (Or.inl ⟨by rfl, ?_⟩) (by assumption) ?_ ?_
          rotate_left
          · intro w' hSw; (try dsimp only at hSw)
            go_simp
            try with_reducible rfl
          rotate_left
          · simp only [Act.put, List.setIfInBounds_toArray, List.set_cons_zero, List.set_cons_succ]
            rfl
          refine take_ (i := 16) (N := (some 48)) (v := ?_) (a' := ?_) #[true, true, true, true, true, true, true, true, true, true, true, true, true, true, true, true, true, true, true, true, false, false, false] rfl rfl (by kernel_rfl) (fun _ _ _ h => h) (Or.inl ⟨by rfl, ?_⟩) (by assumption) ?_ ?_
          rotate_left
          · intro w' hSw; (try dsimp only at hSw)
            go_simp
            try with_reducible rfl
          rotate_left
          · simp only [Act.put, List.setIfInBounds_toArray, List.set_cons_zero, List.set_cons_succ]
            rfl
          refine take_ (i := 20) (N := (some 52)) (v := ?_) (a' := ?_) #[true, true, true, true, true, true, true, true, true, true, true, true, true, true, true, true, true, true, true, true, true, false, false] rfl rfl (by kernel_rfl) (fun _ _ _ h => h) (Or.inl ⟨by rfl, ?_⟩) (by assumption) ?_ ?_
          rotate_left
          · intro w' hSw; (try dsimp only at hSw)
            go_simp
            try with_reducible rfl
          rotate_left
          · simp only [Act.put, List.setIfInBounds_toArray, List.set_cons_zero, List.set_cons_succ]
            rfl
          refine take_ (i := 21) (N := (some 53)) (v := ?_) (a' := ?_) #[true, true, true, true, true, true, true, true, true, true, true, true, true, true, true, true, true, true, true, true, true, true, false] rfl rfl (by kernel_rfl) (fun _ _ _ h => h) (Or.inl ⟨by rfl, ?_⟩) (by assumption) ?_ ?_
          rotate_left
          · intro w' hSw; (try dsimp only at hSw)
            go_simp
            try with_reducible rfl
          rotate_left
          · simp only [Act.put, List.setIfInBounds_toArray, List.set_cons_zero, List.set_cons_succ]
            rfl
          refine take_ (i := 22) (N := (some 54)) (v := ?_) (a' := ?_) #[true, true, true, true, true, true, true, true, true, true, true, true, true, true, true, true, true, true, true, true, true, true, true] rfl rfl (by kernel_rfl) (fun _ _ _ h => h) (Or.inl ⟨by rfl, ?_⟩) (by assumption) ?_ ?_
          rotate_left
          · intro w' hSw; (try dsimp only at hSw)
            go_simp
            try with_reducible rfl
          rotate_left
          · simp only [Act.put, List.setIfInBounds_toArray, List.set_cons_zero, List.set_cons_succ]
            rfl
          refine done_ (by kernel_rfl) ?_
          have hHeld : Ext z1 _ := yy.trans hHeld
          have hX10 := hX9.trans hHeld
          have hB10 := hB9.ext hHeld
          by_cases qc : cut < 0
          · go_wp2
            all_goals go_ret
            all_goals exact ⟨rfl, hX10⟩
          obtain ⟨i, rfl⟩ := Int.eq_ofNat_of_zero_le (show 0 ≤ cut by omega)
          by_cases qm : m ≤ i
          · go_wp2
            all_goals go_ret
            all_goals exact ⟨rfl, hX10⟩
          have qi : ¬ ((m : Int) ≤ (i : Int)) := by omega
          have qj : (i : Int) < (m : Int) := by omega
          have hi : i < PB.length := by have := Hm.out; omega
          have hBi := hB10.take i (by omega)
          go_wp2_with fail
          refine (kc A i c i _ hBi hi rfl (by omega) (ht.ext hX10)).mono ?_
          rintro e w12 ⟨rfl, x12⟩
          obtain ⟨h2, Hh2⟩ : ∃ h, Hid (w12.heap.size = h) := ⟨_, Lib.hid rfl⟩
          obtain ⟨a2, Ha2, Sa2, xa2, ba2⟩ := allocS w12 0 0 (fun _ => 0) 0 ⟨#[]⟩ ⟨#[]⟩ 0 0 28 h2 Hh2.out
          obtain ⟨z2, Hz2, bz2, kz2, -, Sz2⟩ := putS (r' := 0) (n' := 0) (v' := (fun _ => 0)) (k' := 0) (key' := ⟨#[]⟩) (text' := ⟨#[]⟩) (b' := 0) (t' := 0) (h := ba2)
          have xz2 : Ext w12 z2 := kz2 _ xa2 (by rw [Hh2.out]; exact Nat.le_refl _)
          obtain ⟨p0, p1, p2, p3, p4, p5, p6, p7, p8, p9, p10, p11, p12, p13⟩ := ba2.cells
          obtain ⟨q0, q1, q2, q3, q4, q5, q6, q7, q8, q9, q10, q11, q12, q13⟩ := ba2.frs
          have rh := Hh2.out
          have ra := Ha2.out
          have rz := Hz2.out
          go_wp2
          clear rh ra rz p0 p1 p2 p3 p4 p5 p6 p7 p8 p9 p10 p11 p12 p13 q0 q1 q2 q3 q4 q5 q6 q7 q8 q9 q10 q11 q12 q13
          go_ret
          exact ⟨rfl, (hX10.trans x12).trans xz2⟩
end Go.Proofs.YtlffbappgfimeaaDoor
