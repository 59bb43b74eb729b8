/- StGrows: the walk of the law StableGrows. -/
import Derived.Test.YtaiofbagdcpfgaaStAgainLaw
set_option linter.unusedVariables false
set_option linter.unusedSimpArgs false
set_option maxRecDepth 100000
namespace Go.Proofs.Ytaiofbagdcpfgaa
open Go.RowKit Go.Proofs.YtaiofbagdcpfgaaW.PrintWords Go.Proofs.YtaiofbagdcpfgaaW.PrintLast

theorem stab_le (R : Nat → V7) : ∀ k r, r < k → ∀ i, stab R k i ≤ R r i
  | k + 1, r, h, i => by
    simp only [stab, lst]
    by_cases e : r = k
    · subst e; omega
    · have := stab_le R k r (by omega) i
      omega
theorem le_top (R : Nat → V7) : ∀ k r, r < k → ∀ i, R r i ≤ top R k i
  | k + 1, r, h, i => by
    simp only [top, mrg]
    by_cases e : r = k
    · subst e; omega
    · have := le_top R k r (by omega) i
      omega
theorem stab_ge (R : Nat → V7) (c : Int) (i : Nat) : ∀ k, (∀ r, r < k → c ≤ R r i) → c ≤ R 0 i → c ≤ stab R k i
  | 0, _, h0 => h0
  | k + 1, h, h0 => by
    have h1 := stab_ge R c i k (fun r hr => h r (by omega)) h0
    have h2 := h k (by omega)
    simp only [stab, lst]
    omega
theorem stab_mono {R R' : Nat → V7} (h : ∀ r i, R r i ≤ R' r i) : ∀ k i, stab R k i ≤ stab R' k i
  | 0, i => h 0 i
  | k + 1, i => by
    have h1 := stab_mono h k i
    have h2 := h k i
    simp only [stab, lst]
    omega
theorem le_tell (R : Nat → V7) (n : Nat) (r : Int) (v : V7) (j i : Nat) : R j i ≤ tell R n r v j i := by
  unfold tell
  split
  · by_cases e : j = r.toNat
    · subst e; simp only [if_true, mrg]; omega
    · simp [e]
  · exact Int.le_refl _
theorem stab_zero : ∀ k, stab (fun _ _ => 0) k = fun _ => 0
  | 0 => rfl
  | k + 1 => by simp only [stab, stab_zero k]; rfl
/-- Does one of the first k lack something? -/
def lackN (R : Nat → V7) (n : Nat) : Nat → Bool
  | 0 => false
  | k + 1 => lackN R n k || mlacks R n (k : Int)
theorem lackN_iff (R : Nat → V7) (n : Nat) : ∀ k, k ≤ n → (lackN R n k = false ↔ ∀ r, r < k → eq7 (R r) (top R n) = true)
  | 0, _ => by simp [lackN]
  | k + 1, h => by
    have ih := lackN_iff R n k (by omega)
    have hm : mlacks R n (k : Int) = !(eq7 (R k) (top R n)) := by
      have : mhas n (k : Int) = true := by simp [mhas]; omega
      simp [mlacks, this]
    simp only [lackN, Bool.or_eq_false_iff, ih, hm, Bool.not_eq_false']
    constructor
    · rintro ⟨h1, h2⟩ r hr
      by_cases e : r = k
      · subst e; exact h2
      · exact h1 r (by omega)
    · intro h1
      exact ⟨fun r hr => h1 r (by omega), h1 k (by omega)⟩
theorem lack_stab (R : Nat → V7) (n : Nat) (h1 : 1 ≤ n) : lackN R n n = !(eq7 (stab R n) (top R n)) := by
  have hi := lackN_iff R n n (Nat.le_refl _)
  cases e : eq7 (stab R n) (top R n) with
  | true =>
    rw [Bool.not_true]
    refine hi.2 fun r hr => eq7_iff.2 fun i hi7 => ?_
    have h2 := eq7_iff.1 e i hi7
    have h3 := stab_le R n r hr i
    have h4 := le_top R n r hr i
    omega
  | false =>
    rw [Bool.not_false]
    cases e2 : lackN R n n with
    | true => rfl
    | false =>
      have h2 := hi.1 e2
      have : eq7 (stab R n) (top R n) = true := eq7_iff.2 fun i hi7 => by
        have h3 := stab_le R n 0 (by omega) i
        have h4 := le_top R n 0 (by omega) i
        have h5 := stab_ge R (top R n i) i n (fun r hr => Int.le_of_eq (eq7_iff.1 (h2 r hr) i hi7).symm) (Int.le_of_eq (eq7_iff.1 (h2 0 (by omega)) i hi7).symm)
        omega
      rw [this] at e
      cases e

theorem But.put7' {w w0 w1 : World} {g : Nat} {f' : V7} (hb : But g w0 w) (H : Hid ((((((((w.setCell ⟨g, 0, none⟩ (.int .i64 (f' 0))).setCell ⟨g, 1, none⟩ (.int .i64 (f' 1))).setCell ⟨g, 2, none⟩ (.int .i64 (f' 2))).setCell ⟨g, 3, none⟩ (.int .i64 (f' 3))).setCell ⟨g, 4, none⟩ (.int .i64 (f' 4))).setCell ⟨g, 5, none⟩ (.int .i64 (f' 5))).setCell ⟨g, 6, none⟩ (.int .i64 (f' 6))) = w1)) : But g w0 w1 := by
  rw [← H.out]
  exact ((((((hb.setCell _ _).setCell _ _).setCell _ _).setCell _ _).setCell _ _).setCell _ _).setCell _ _
theorem At7.but' {w w' : World} {g k : Nat} {f : V7} (h : At7 w g 0 f) (e : But k w w') (hne : g ≠ k) : At7 w' g 0 f := fun i hi => by rw [World.cell?_of_block (w := w) (e.block g h.lt hne)]; exact h i hi
theorem Fr7.but' {w w' : World} {g k : Nat} (h : Fr7 w g 0) (e : But k w w') (hg : g < w.heap.size) (hne : g ≠ k) : Fr7 w' g 0 := fun i hi => by rw [World.frozen?_of_block (w := w) (e.block g hg hne)]; exact h i hi

set_option maxHeartbeats 8000000 in
theorem stgrows_any (n : Int) (A1 A2 : Option Addr) (c1 c2 : Nat) (reps : List Int) (rows : List V7) (w : World) (ha : Is w A1 reps) (hb : Vs w A2 rows) :
    Calls Try.prog 13 #[.int .i64 n, .slice A1 reps.length c1, .slice A2 rows.length c2] w fun e w' => e = .returned (.bool true) ∧ Ext w w' := by
  go_enter Try.func13, Try.ntmps13
  go_wp2_with fail
  refine (awake17_any _).mono ?_
  rintro e w1 ⟨rfl, hx1⟩
  by_cases h1 : n < 1
  · go_wp2
    all_goals go_ret
    all_goals exact ⟨rfl, hx1⟩
  by_cases h2 : 7 < n
  · go_wp2
    all_goals go_ret
    all_goals exact ⟨rfl, hx1⟩
  by_cases h3 : 60 < reps.length
  · go_wp2
    all_goals go_ret
    all_goals exact ⟨rfl, hx1⟩
  by_cases h4 : rows.length = reps.length
  case neg =>
    have h4' : ((rows.length : Int) != (reps.length : Int)) = true := by rw [bne_iff_ne]; omega
    go_wp2
    all_goals go_ret
    all_goals exact ⟨rfl, hx1⟩
  obtain ⟨n, rfl⟩ := Int.eq_ofNat_of_zero_le (show 0 ≤ n by omega)
  have h4' : ((rows.length : Int) != (reps.length : Int)) = false := by rw [bne_eq_false_iff_eq]; omega
  have H4 := Lib.hid h4
  clear h4
  have hso := fun W => mnew_any n W (by omega) (by omega)
  go_wp2_with fail
  refine (hso _).mono ?_
  rintro e w2 ⟨g, s, rfl, hM, hx2, hg, hs⟩
  clear hso
  obtain ⟨h0, Hh⟩ : ∃ h, Hid (w2.heap.size = h) := ⟨_, Lib.hid rfl⟩
  obtain ⟨w3, H3, -, hx3, hz3, fz3, -⟩ := alloc7 w2 (fun _ => 0) 51 h0 Hh.out
  have hX3 := hx1.trans (hx2.trans hx3)
  have l1 := hx1.size
  have l2 := hx2.size
  have l3 := Hh.out
  have hwg : w.heap.size ≤ s := by omega
  have hwh : w.heap.size ≤ h0 := by omega
  have n1 : g ≠ h0 := by have := hM.lt; omega
  have n2 : s ≠ h0 := by have := hM.slt; omega
  have hM' := hM.ext hx3
  obtain ⟨w4, H4w, hz4, kx4, kr4, kf4, -⟩ := put7 w3 h0 _ (fun _ => 0) hz3
  have fz4 := kf4 _ _ fz3
  have hX4 := kx4 _ hX3 hwh
  have hB4 : But h0 w3 w4 := But.put7' (f' := fun _ => 0) (But.refl _ _) H4w
  have hM4 := hM'.but hB4 n1 n2
  obtain ⟨y0, y1, y2, y3, y4, y5, y6⟩ := hz3.cells0
  obtain ⟨z0, z1, z2, z3, z4, z5, z6⟩ := fz3.cells0
  have hr3 := H3.out
  have hr4 := H4w.out
  have hhh := Hh.out
  clear l1 l2 l3 hM
  go_wp2_with fail
  clear hr3 hr4 hhh y0 y1 y2 y3 y4 y5 y6 z0 z1 z2 z3 z4 z5 z6
  go_loopw [10] (fun i wr => ∃ (k : Nat) (R : Nat → V7), k ≤ reps.length ∧ i = .int .i64 k ∧ Ext w wr ∧ MM wr g s n R ∧ At7 wr h0 0 (stab R n) ∧ Fr7 wr h0 0) (fun i _ => reps.length - (intOf i).toNat)
  case atStart => exact ⟨0, _, Nat.zero_le _, rfl, hX4, hM4, by rw [stab_zero]; exact hz4, fz4⟩
  case round =>
    obtain ⟨k, R, hk, rfl, hX, hT, hW, fW⟩ := hrel
    by_cases hkl : k < reps.length
    · have hklr : k < rows.length := by rw [H4.out]; exact hkl
      have hn7 := hT.n7
      have hn1 := hT.n1
      obtain ⟨ad, rfl, p0⟩ := ha.rule k _ (List.getElem?_eq_getElem hkl)
      obtain ⟨ae, rfl, a0, a1, a2, a3, a4, a5, a6⟩ := hb.rules k _ (List.getElem?_eq_getElem hklr)
      generalize reps[k] = r at p0
      generalize rows[k] = v at a0 a1 a2 a3 a4 a5 a6
      obtain ⟨q, Hq⟩ : ∃ x, Hid (tellE n r v = x) := ⟨_, Lib.hid rfl⟩
      obtain ⟨R2, HR2⟩ : ∃ x, Hid (tell R n r v = x) := ⟨_, Lib.hid rfl⟩
      have ct := fun W hW => mtell_any g s n R r v W hW
      rw [Hq.out, HR2.out] at ct
      unfold vf at ct
      obtain ⟨was, Hwas⟩ : ∃ x, Hid (stab R n = x) := ⟨_, Lib.hid rfl⟩
      obtain ⟨st, Hst⟩ : ∃ x, Hid (stab R2 n = x) := ⟨_, Lib.hid rfl⟩
      obtain ⟨tp, Htp⟩ : ∃ x, Hid (top R2 n = x) := ⟨_, Lib.hid rfl⟩
      have hws : Hid (le7 was st = true) := Lib.hid (le7_iff.2 fun i _ => by rw [← Hwas.out, ← Hst.out, ← HR2.out]; exact stab_mono (fun j i => le_tell R n r v j i) n i)
      rw [Hwas.out] at hW
      go_wp2_with fail
      refine start_ (n := 10) (S := (fun W => Ext w W)) (ds := []) #[false, false, false, false, false, false, false, false, false, false] (by kernel_rfl) (by kernel_rfl) (by kernel_rfl) (hX.drew) (fun hHeld => ?_)
      refine take_ (i := 0) (N := (some 46)) (v := ?_) (a' := ?_) #[true, false, false, false, false, false, false, false, false, false] rfl rfl (by kernel_rfl) (fun _ _ _ h => h) (Or.inl ⟨by rfl, ?_⟩) (by assumption) ?_ ?_
      rotate_left
      · intro w' hSw; (try dsimp only at hSw)
        go_simp
        try with_reducible rfl
      rotate_left
      · simp only [Act.put, List.setIfInBounds_toArray, List.set_cons_zero, List.set_cons_succ]
        rfl
      refine take_ (i := 1) (N := (some 47)) (v := ?_) (a' := ?_) #[true, true, false, false, false, false, false, false, false, false] rfl rfl (by kernel_rfl) (fun _ _ _ h => h) (Or.inl ⟨by rfl, ?_⟩) (by assumption) ?_ ?_
      rotate_left
      · intro w' hSw; (try dsimp only at hSw)
        go_simp
        try with_reducible rfl
      rotate_left
      · simp only [Act.put, List.setIfInBounds_toArray, List.set_cons_zero, List.set_cons_succ]
        rfl
      refine take_ (i := 2) (N := (some 48)) (v := ?_) (a' := ?_) #[true, true, true, false, false, false, false, false, false, false] rfl rfl (by kernel_rfl) (fun _ _ _ h => h) (Or.inl ⟨by rfl, ?_⟩) (by assumption) ?_ ?_
      rotate_left
      · intro w' hSw; (try dsimp only at hSw)
        go_simp
        try with_reducible rfl
      rotate_left
      · simp only [Act.put, List.setIfInBounds_toArray, List.set_cons_zero, List.set_cons_succ]
        rfl
      refine take_ (i := 3) (N := (some 49)) (v := ?_) (a' := ?_) #[true, true, true, true, false, false, false, false, false, false] rfl rfl (by kernel_rfl) (fun _ _ _ h => h) (Or.inl ⟨by rfl, ?_⟩) (by assumption) ?_ ?_
      rotate_left
      · intro w' hSw; (try dsimp only at hSw)
        go_simp
        try with_reducible rfl
      rotate_left
      · simp only [Act.put, List.setIfInBounds_toArray, List.set_cons_zero, List.set_cons_succ]
        rfl
      refine take_ (i := 4) (N := (some 50)) (v := ?_) (a' := ?_) #[true, true, true, true, true, false, false, false, false, false] rfl rfl (by kernel_rfl) (fun _ _ _ h => h) (Or.inl ⟨by rfl, ?_⟩) (by assumption) ?_ ?_
      rotate_left
      · intro w' hSw; (try dsimp only at hSw)
        go_simp
        try with_reducible rfl
      rotate_left
      · simp only [Act.put, List.setIfInBounds_toArray, List.set_cons_zero, List.set_cons_succ]
        rfl
      refine take_ (i := 5) (N := (some 51)) (v := ?_) (a' := ?_) #[true, true, true, true, true, true, false, false, false, false] rfl rfl (by kernel_rfl) (fun _ _ _ h => h) (Or.inl ⟨by rfl, ?_⟩) (by assumption) ?_ ?_
      rotate_left
      · intro w' hSw; (try dsimp only at hSw)
        go_simp
        try with_reducible rfl
      rotate_left
      · simp only [Act.put, List.setIfInBounds_toArray, List.set_cons_zero, List.set_cons_succ]
        rfl
      refine take_ (i := 6) (N := (some 52)) (v := ?_) (a' := ?_) #[true, true, true, true, true, true, true, false, false, false] rfl rfl (by kernel_rfl) (fun _ _ _ h => h) (Or.inl ⟨by rfl, ?_⟩) (by assumption) ?_ ?_
      rotate_left
      · intro w' hSw; (try dsimp only at hSw)
        go_simp
        try with_reducible rfl
      rotate_left
      · simp only [Act.put, List.setIfInBounds_toArray, List.set_cons_zero, List.set_cons_succ]
        rfl
      refine take_ (i := 7) (N := (some 53)) (v := ?_) (a' := ?_) #[true, true, true, true, true, true, true, true, false, false] rfl rfl (by kernel_rfl) (fun _ _ _ h => h) (Or.inl ⟨by rfl, ?_⟩) (by assumption) ?_ ?_
      rotate_left
      · intro w' hSw; (try dsimp only at hSw)
        go_simp
        try with_reducible rfl
      rotate_left
      · simp only [Act.put, List.setIfInBounds_toArray, List.set_cons_zero, List.set_cons_succ]
        rfl
      refine take_ (i := 8) (N := (some 54)) (v := ?_) (a' := ?_) #[true, true, true, true, true, true, true, true, true, false] rfl rfl (by kernel_rfl) (fun _ _ _ h => h) (Or.inl ⟨by rfl, ?_⟩) (by assumption) ?_ ?_
      rotate_left
      · intro w' hSw; (try dsimp only at hSw)
        go_simp
        try with_reducible rfl
      rotate_left
      · simp only [Act.put, List.setIfInBounds_toArray, List.set_cons_zero, List.set_cons_succ]
        rfl
      refine one_ (i := 9) (N := (some 55)) #[true, true, true, true, true, true, true, true, true, true] rfl rfl (by kernel_rfl) (by simp) (fun K hK => ?_)
      go_simp
      refine (ct _ (hT.ext (Ext.refl _).drew)).mono ?_
      rintro e w5 ⟨rfl, hT5, hB5⟩
      have hX5 := (hX.drew).but hB5 hwg
      have hW5 := hW.but' ((But.of_ext (Ext.refl _).drew).trans hB5) (Ne.symm n2)
      have fW5 := fW.but' ((But.of_ext (Ext.refl _).drew).trans hB5) hW.lt (Ne.symm n2)
      refine hK.out _ _ ?_ (fun hHeld => ?_)
      · first | assumption | exact hHeld.trans (by assumption)
      clear hK K
      (try simp only [Act.put, List.setIfInBounds_toArray, List.set_cons_zero, List.set_cons_succ])
      refine done_ (by kernel_rfl) ?_
      clear p0 a0 a1 a2 a3 a4 a5 a6 ct
      have c1 := fun W hW => mstab_any g s n R2 W hW
      rw [Hst.out] at c1
      unfold vf at c1
      go_wp2_with fail
      refine (c1 _ hT5).mono ?_
      rintro e w6 ⟨rfl, hx6⟩
      have hX6 := hX5.trans hx6
      have hT6 := hT5.ext hx6
      have fW6 := fW5.ext hx6 hW5.lt
      replace hW5 := hW5.ext hx6
      obtain ⟨j, Hj⟩ : ∃ h, Hid (w6.heap.size = h) := ⟨_, Lib.hid rfl⟩
      obtain ⟨w7, H7, -, hx7, hz7, fz7, -⟩ := alloc7 w6 (fun _ => 0) 51 j Hj.out
      have hwj : w.heap.size ≤ j := by rw [← Hj.out]; exact hX6.size
      have m1 : g ≠ j := by rw [← Hj.out]; exact Nat.ne_of_lt hT6.lt
      have m2 : s ≠ j := by rw [← Hj.out]; exact Nat.ne_of_lt hT6.slt
      have m3 : h0 ≠ j := by rw [← Hj.out]; exact Nat.ne_of_lt hW5.lt
      obtain ⟨w8, H8, hz8, kx8, kr8, kf8, -⟩ := put7 w7 j _ st hz7
      have fz8 := kf8 _ _ fz7
      have hX8 := kx8 _ (hX6.trans hx7) hwj
      have hB8 : But j w7 w8 := But.put7' (f' := st) (But.refl _ _) H8
      have hT8 := (hT6.ext hx7).but hB8 m1 m2
      have hW8 := kr8 _ _ _ m3 (hW5.ext hx7)
      have fW8 := kf8 _ _ (fW6.ext hx7 hW5.lt)
      obtain ⟨y0, y1, y2, y3, y4, y5, y6⟩ := hz7.cells0
      obtain ⟨z0, z1, z2, z3, z4, z5, z6⟩ := fz7.cells0
      have hr7 := H7.out
      have hr8 := H8.out
      have hhh := Hj.out
      go_wp2_with fail
      clear hr7 hr8 hhh y0 y1 y2 y3 y4 y5 y6 z0 z1 z2 z3 z4 z5 z6 c1
      have c2 := fun W hW => mmost_any g s n R2 W hW
      rw [Htp.out] at c2
      unfold vf at c2
      go_loopw [12, 13] (fun b i wr => ∃ (m : Nat), m ≤ n ∧ i = .int .i64 m ∧ b = .bool (lackN R2 n m) ∧ Ext w wr ∧ MM wr g s n R2 ∧ At7 wr h0 0 was ∧ Fr7 wr h0 0 ∧ At7 wr j 0 st) (fun _ i _ => n - (intOf i).toNat)
      case atStart => exact ⟨0, Nat.zero_le _, rfl, rfl, hX8, hT8, hW8, fW8, hz8⟩
      case round =>
        obtain ⟨m, hm, rfl, rfl, hX, hT, hW, fW, hS⟩ := hrel
        by_cases hml : m < n
        · obtain ⟨x, Hx⟩ : ∃ x, Hid (mrow R2 n (m : Int) = x) := ⟨_, Lib.hid rfl⟩
          have hxm : x = R2 m := by rw [← Hx.out, mrow, if_pos (by simp [mhas]; omega), Int.toNat_natCast]
          have hs1 : le7 st x = true := le7_iff.2 fun i _ => by rw [hxm, ← Hst.out]; exact stab_le R2 n m hml i
          have hs2 : le7 x tp = true := le7_iff.2 fun i _ => by rw [hxm, ← Htp.out]; exact le_top R2 n m hml i
          clear hxm
          have cr := fun W hW => mrow_any g s n R2 (m : Int) W hW
          have cl := fun W hW => mlacks_any g s n R2 (m : Int) W hW
          have cs1 := fun W => le_any st x W
          have cs2 := fun W => le_any x tp W
          rw [Hx.out] at cr
          rw [hs1] at cs1
          rw [hs2] at cs2
          clear hs1 hs2
          unfold vf at cr cs1 cs2
          have hlk : lackN R2 n (m + 1) = (lackN R2 n m || mlacks R2 n (m : Int)) := rfl
          have HLK := Lib.hid hlk
          clear hlk
          obtain ⟨b0, Hb0⟩ : ∃ x, Hid (lackN R2 n m = x) := ⟨_, Lib.hid rfl⟩
          obtain ⟨b1, Hb1⟩ : ∃ x, Hid (mlacks R2 n (m : Int) = x) := ⟨_, Lib.hid rfl⟩
          rw [Hb0.out]
          rw [Hb1.out] at cl
          obtain ⟨t0, t1, t2, t3, t4, t5, t6⟩ := hS.rules
          cases b0 with
          | true =>
            go_wp2_with fail
            refine start_ (n := 15) (S := (fun W => Ext wr W)) (ds := []) #[false, false, false, false, false, false, false, false, false, false, false, false, false, false, false] (by kernel_rfl) (by kernel_rfl) (by kernel_rfl) ((Ext.refl wr).drew) (fun hHeld => ?_)
            refine take_ (i := 0) (N := (some 69)) (v := ?_) (a' := ?_) #[true, false, false, false, false, false, false, false, false, false, false, false, false, false, false] rfl rfl (by kernel_rfl) (fun _ _ _ h => h) (Or.inl ⟨by rfl, ?_⟩) (by assumption) ?_ ?_
            rotate_left
            · intro w' hSw; (try dsimp only at hSw)
              go_simp
              try with_reducible rfl
            rotate_left
            · simp only [Act.put, List.setIfInBounds_toArray, List.set_cons_zero, List.set_cons_succ]
              rfl
            refine take_ (i := 1) (N := (some 70)) (v := ?_) (a' := ?_) #[true, true, false, false, false, false, false, false, false, false, false, false, false, false, false] rfl rfl (by kernel_rfl) (fun _ _ _ h => h) (Or.inl ⟨by rfl, ?_⟩) (by assumption) ?_ ?_
            rotate_left
            · intro w' hSw; (try dsimp only at hSw)
              go_simp
              try with_reducible rfl
            rotate_left
            · simp only [Act.put, List.setIfInBounds_toArray, List.set_cons_zero, List.set_cons_succ]
              rfl
            refine take_ (i := 2) (N := (some 71)) (v := ?_) (a' := ?_) #[true, true, true, false, false, false, false, false, false, false, false, false, false, false, false] rfl rfl (by kernel_rfl) (fun _ _ _ h => h) (Or.inl ⟨by rfl, ?_⟩) (by assumption) ?_ ?_
            rotate_left
            · intro w' hSw; (try dsimp only at hSw)
              go_simp
              try with_reducible rfl
            rotate_left
            · simp only [Act.put, List.setIfInBounds_toArray, List.set_cons_zero, List.set_cons_succ]
              rfl
            refine one_ (i := 3) (N := (some 72)) #[true, true, true, true, false, false, false, false, false, false, false, false, false, false, false] rfl rfl (by kernel_rfl) (by simp) (fun K hK => ?_)
            go_simp
            refine (cr _ (hT.ext hHeld)).mono ?_
            rintro e v1 ⟨rfl, x1⟩
            refine hK.out _ _ ?_ (fun hHeld => ?_)
            · first | assumption | exact hHeld.trans (by assumption)
            clear hK K
            (try simp only [Act.put, List.setIfInBounds_toArray, List.set_cons_zero, List.set_cons_succ])
            refine one_ (i := 4) (N := (some 73)) #[true, true, true, true, true, false, false, false, false, false, false, false, false, false, false] rfl rfl (by kernel_rfl) (by simp) (fun K hK => ?_)
            go_simp
            refine (cs1 _).mono ?_
            rintro e v2 ⟨rfl, x2⟩
            refine hK.out _ _ ?_ (fun hHeld => ?_)
            · first | assumption | exact hHeld.trans (by assumption)
            clear hK K
            (try simp only [Act.put, List.setIfInBounds_toArray, List.set_cons_zero, List.set_cons_succ])
            refine take_ (i := 5) (N := (some 74)) (v := ?_) (a' := ?_) #[true, true, true, true, true, true, false, false, false, false, false, false, false, false, false] rfl rfl (by kernel_rfl) (fun _ _ _ h => h) (Or.inl ⟨by rfl, ?_⟩) (by assumption) ?_ ?_
            rotate_left
            · intro w' hSw; (try dsimp only at hSw)
              go_simp
              try with_reducible rfl
            rotate_left
            · simp only [Act.put, List.setIfInBounds_toArray, List.set_cons_zero, List.set_cons_succ]
              rfl
            refine take_ (i := 6) (N := (some 75)) (v := ?_) (a' := ?_) #[true, true, true, true, true, true, true, false, false, false, false, false, false, false, false] rfl rfl (by kernel_rfl) (fun _ _ _ h => h) (Or.inl ⟨by rfl, ?_⟩) (by assumption) ?_ ?_
            rotate_left
            · intro w' hSw; (try dsimp only at hSw)
              go_simp
              try with_reducible rfl
            rotate_left
            · simp only [Act.put, List.setIfInBounds_toArray, List.set_cons_zero, List.set_cons_succ]
              rfl
            refine take_ (i := 7) (N := (some 76)) (v := ?_) (a' := ?_) #[true, true, true, true, true, true, true, true, false, false, false, false, false, false, false] rfl rfl (by kernel_rfl) (fun _ _ _ h => h) (Or.inl ⟨by rfl, ?_⟩) (by assumption) ?_ ?_
            rotate_left
            · intro w' hSw; (try dsimp only at hSw)
              go_simp
              try with_reducible rfl
            rotate_left
            · simp only [Act.put, List.setIfInBounds_toArray, List.set_cons_zero, List.set_cons_succ]
              rfl
            refine take_ (i := 8) (N := (some 77)) (v := ?_) (a' := ?_) #[true, true, true, true, true, true, true, true, true, false, false, false, false, false, false] rfl rfl (by kernel_rfl) (fun _ _ _ h => h) (Or.inl ⟨by rfl, ?_⟩) (by assumption) ?_ ?_
            rotate_left
            · intro w' hSw; (try dsimp only at hSw)
              go_simp
              try with_reducible rfl
            rotate_left
            · simp only [Act.put, List.setIfInBounds_toArray, List.set_cons_zero, List.set_cons_succ]
              rfl
            refine take_ (i := 10) (N := (some 79)) (v := ?_) (a' := ?_) #[true, true, true, true, true, true, true, true, true, false, true, false, false, false, false] rfl rfl (by kernel_rfl) (fun _ _ _ h => h) (Or.inl ⟨by rfl, ?_⟩) (by assumption) ?_ ?_
            rotate_left
            · intro w' hSw; (try dsimp only at hSw)
              go_simp
              try with_reducible rfl
            rotate_left
            · simp only [Act.put, List.setIfInBounds_toArray, List.set_cons_zero, List.set_cons_succ]
              rfl
            refine one_ (i := 9) (N := (some 78)) #[true, true, true, true, true, true, true, true, true, true, true, false, false, false, false] rfl rfl (by kernel_rfl) (by simp) (fun K hK => ?_)
            go_simp
            refine (cr _ (hT.ext hHeld)).mono ?_
            rintro e v3 ⟨rfl, x3⟩
            refine hK.out _ _ ?_ (fun hHeld => ?_)
            · first | assumption | exact hHeld.trans (by assumption)
            clear hK K
            (try simp only [Act.put, List.setIfInBounds_toArray, List.set_cons_zero, List.set_cons_succ])
            refine one_ (i := 11) (N := (some 80)) #[true, true, true, true, true, true, true, true, true, true, true, true, false, false, false] rfl rfl (by kernel_rfl) (by simp) (fun K hK => ?_)
            go_simp
            refine (c2 _ (hT.ext hHeld)).mono ?_
            rintro e v4 ⟨rfl, x4⟩
            refine hK.out _ _ ?_ (fun hHeld => ?_)
            · first | assumption | exact hHeld.trans (by assumption)
            clear hK K
            (try simp only [Act.put, List.setIfInBounds_toArray, List.set_cons_zero, List.set_cons_succ])
            refine one_ (i := 12) (N := (some 81)) #[true, true, true, true, true, true, true, true, true, true, true, true, true, false, false] rfl rfl (by kernel_rfl) (by simp) (fun K hK => ?_)
            go_simp
            refine (cs2 _).mono ?_
            rintro e v5 ⟨rfl, x5⟩
            refine hK.out _ _ ?_ (fun hHeld => ?_)
            · first | assumption | exact hHeld.trans (by assumption)
            clear hK K
            (try simp only [Act.put, List.setIfInBounds_toArray, List.set_cons_zero, List.set_cons_succ])
            refine take_ (i := 13) (N := (some 82)) (v := ?_) (a' := ?_) #[true, true, true, true, true, true, true, true, true, true, true, true, true, true, false] rfl rfl (by kernel_rfl) (fun _ _ _ h => h) (Or.inl ⟨by rfl, ?_⟩) (by assumption) ?_ ?_
            rotate_left
            · intro w' hSw; (try dsimp only at hSw)
              go_simp
              try with_reducible rfl
            rotate_left
            · simp only [Act.put, List.setIfInBounds_toArray, List.set_cons_zero, List.set_cons_succ]
              rfl
            refine take_ (i := 14) (N := (some 83)) (v := ?_) (a' := ?_) #[true, true, true, true, true, true, true, true, true, true, true, true, true, true, true] rfl rfl (by kernel_rfl) (fun _ _ _ h => h) (Or.inl ⟨by rfl, ?_⟩) (by assumption) ?_ ?_
            rotate_left
            · intro w' hSw; (try dsimp only at hSw)
              go_simp
              try with_reducible rfl
            rotate_left
            · simp only [Act.put, List.setIfInBounds_toArray, List.set_cons_zero, List.set_cons_succ]
              rfl
            refine done_ (by kernel_rfl) ?_
            go_wp2
            go_roundw
            case rel => exact ⟨m + 1, by omega, by go_num, by rw [HLK.out, Hb0.out, Hb1.out]; rfl, hX.trans hHeld, hT.ext hHeld, hW.ext hHeld, fW.ext hHeld hW.lt, hS.ext hHeld⟩
            case measure => simp [intOf]; omega
          | false =>
            go_wp2_with fail
            refine (cl _ hT).mono ?_
            rintro e wq ⟨rfl, hxq⟩
            replace hX := hX.trans hxq
            replace hT := hT.ext hxq
            replace fW := fW.ext hxq hW.lt
            replace hW := hW.ext hxq
            replace hS := hS.ext hxq
            clear t0 t1 t2 t3 t4 t5 t6
            obtain ⟨t0, t1, t2, t3, t4, t5, t6⟩ := hS.rules
            go_wp2_with fail
            refine start_ (n := 15) (S := (fun W => Ext wq W)) (ds := []) #[false, false, false, false, false, false, false, false, false, false, false, false, false, false, false] (by kernel_rfl) (by kernel_rfl) (by kernel_rfl) ((Ext.refl wq).drew) (fun hHeld => ?_)
            refine take_ (i := 0) (N := (some 69)) (v := ?_) (a' := ?_) #[true, false, false, false, false, false, false, false, false, false, false, false, false, false, false] rfl rfl (by kernel_rfl) (fun _ _ _ h => h) (Or.inl ⟨by rfl, ?_⟩) (by assumption) ?_ ?_
            rotate_left
            · intro w' hSw; (try dsimp only at hSw)
              go_simp
              try with_reducible rfl
            rotate_left
            · simp only [Act.put, List.setIfInBounds_toArray, List.set_cons_zero, List.set_cons_succ]
              rfl
            refine take_ (i := 1) (N := (some 70)) (v := ?_) (a' := ?_) #[true, true, false, false, false, false, false, false, false, false, false, false, false, false, false] rfl rfl (by kernel_rfl) (fun _ _ _ h => h) (Or.inl ⟨by rfl, ?_⟩) (by assumption) ?_ ?_
            rotate_left
            · intro w' hSw; (try dsimp only at hSw)
              go_simp
              try with_reducible rfl
            rotate_left
            · simp only [Act.put, List.setIfInBounds_toArray, List.set_cons_zero, List.set_cons_succ]
              rfl
            refine take_ (i := 2) (N := (some 71)) (v := ?_) (a' := ?_) #[true, true, true, false, false, false, false, false, false, false, false, false, false, false, false] rfl rfl (by kernel_rfl) (fun _ _ _ h => h) (Or.inl ⟨by rfl, ?_⟩) (by assumption) ?_ ?_
            rotate_left
            · intro w' hSw; (try dsimp only at hSw)
              go_simp
              try with_reducible rfl
            rotate_left
            · simp only [Act.put, List.setIfInBounds_toArray, List.set_cons_zero, List.set_cons_succ]
              rfl
            refine one_ (i := 3) (N := (some 72)) #[true, true, true, true, false, false, false, false, false, false, false, false, false, false, false] rfl rfl (by kernel_rfl) (by simp) (fun K hK => ?_)
            go_simp
            refine (cr _ (hT.ext hHeld)).mono ?_
            rintro e v1 ⟨rfl, x1⟩
            refine hK.out _ _ ?_ (fun hHeld => ?_)
            · first | assumption | exact hHeld.trans (by assumption)
            clear hK K
            (try simp only [Act.put, List.setIfInBounds_toArray, List.set_cons_zero, List.set_cons_succ])
            refine one_ (i := 4) (N := (some 73)) #[true, true, true, true, true, false, false, false, false, false, false, false, false, false, false] rfl rfl (by kernel_rfl) (by simp) (fun K hK => ?_)
            go_simp
            refine (cs1 _).mono ?_
            rintro e v2 ⟨rfl, x2⟩
            refine hK.out _ _ ?_ (fun hHeld => ?_)
            · first | assumption | exact hHeld.trans (by assumption)
            clear hK K
            (try simp only [Act.put, List.setIfInBounds_toArray, List.set_cons_zero, List.set_cons_succ])
            refine take_ (i := 5) (N := (some 74)) (v := ?_) (a' := ?_) #[true, true, true, true, true, true, false, false, false, false, false, false, false, false, false] rfl rfl (by kernel_rfl) (fun _ _ _ h => h) (Or.inl ⟨by rfl, ?_⟩) (by assumption) ?_ ?_
            rotate_left
            · intro w' hSw; (try dsimp only at hSw)
              go_simp
              try with_reducible rfl
            rotate_left
            · simp only [Act.put, List.setIfInBounds_toArray, List.set_cons_zero, List.set_cons_succ]
              rfl
            refine take_ (i := 6) (N := (some 75)) (v := ?_) (a' := ?_) #[true, true, true, true, true, true, true, false, false, false, false, false, false, false, false] rfl rfl (by kernel_rfl) (fun _ _ _ h => h) (Or.inl ⟨by rfl, ?_⟩) (by assumption) ?_ ?_
            rotate_left
            · intro w' hSw; (try dsimp only at hSw)
              go_simp
              try with_reducible rfl
            rotate_left
            · simp only [Act.put, List.setIfInBounds_toArray, List.set_cons_zero, List.set_cons_succ]
              rfl
            refine take_ (i := 7) (N := (some 76)) (v := ?_) (a' := ?_) #[true, true, true, true, true, true, true, true, false, false, false, false, false, false, false] rfl rfl (by kernel_rfl) (fun _ _ _ h => h) (Or.inl ⟨by rfl, ?_⟩) (by assumption) ?_ ?_
            rotate_left
            · intro w' hSw; (try dsimp only at hSw)
              go_simp
              try with_reducible rfl
            rotate_left
            · simp only [Act.put, List.setIfInBounds_toArray, List.set_cons_zero, List.set_cons_succ]
              rfl
            refine take_ (i := 8) (N := (some 77)) (v := ?_) (a' := ?_) #[true, true, true, true, true, true, true, true, true, false, false, false, false, false, false] rfl rfl (by kernel_rfl) (fun _ _ _ h => h) (Or.inl ⟨by rfl, ?_⟩) (by assumption) ?_ ?_
            rotate_left
            · intro w' hSw; (try dsimp only at hSw)
              go_simp
              try with_reducible rfl
            rotate_left
            · simp only [Act.put, List.setIfInBounds_toArray, List.set_cons_zero, List.set_cons_succ]
              rfl
            refine take_ (i := 10) (N := (some 79)) (v := ?_) (a' := ?_) #[true, true, true, true, true, true, true, true, true, false, true, false, false, false, false] rfl rfl (by kernel_rfl) (fun _ _ _ h => h) (Or.inl ⟨by rfl, ?_⟩) (by assumption) ?_ ?_
            rotate_left
            · intro w' hSw; (try dsimp only at hSw)
              go_simp
              try with_reducible rfl
            rotate_left
            · simp only [Act.put, List.setIfInBounds_toArray, List.set_cons_zero, List.set_cons_succ]
              rfl
            refine one_ (i := 9) (N := (some 78)) #[true, true, true, true, true, true, true, true, true, true, true, false, false, false, false] rfl rfl (by kernel_rfl) (by simp) (fun K hK => ?_)
            go_simp
            refine (cr _ (hT.ext hHeld)).mono ?_
            rintro e v3 ⟨rfl, x3⟩
            refine hK.out _ _ ?_ (fun hHeld => ?_)
            · first | assumption | exact hHeld.trans (by assumption)
            clear hK K
            (try simp only [Act.put, List.setIfInBounds_toArray, List.set_cons_zero, List.set_cons_succ])
            refine one_ (i := 11) (N := (some 80)) #[true, true, true, true, true, true, true, true, true, true, true, true, false, false, false] rfl rfl (by kernel_rfl) (by simp) (fun K hK => ?_)
            go_simp
            refine (c2 _ (hT.ext hHeld)).mono ?_
            rintro e v4 ⟨rfl, x4⟩
            refine hK.out _ _ ?_ (fun hHeld => ?_)
            · first | assumption | exact hHeld.trans (by assumption)
            clear hK K
            (try simp only [Act.put, List.setIfInBounds_toArray, List.set_cons_zero, List.set_cons_succ])
            refine one_ (i := 12) (N := (some 81)) #[true, true, true, true, true, true, true, true, true, true, true, true, true, false, false] rfl rfl (by kernel_rfl) (by simp) (fun K hK => ?_)
            go_simp
            refine (cs2 _).mono ?_
            rintro e v5 ⟨rfl, x5⟩
            refine hK.out _ _ ?_ (fun hHeld => ?_)
            · first | assumption | exact hHeld.trans (by assumption)
            clear hK K
            (try simp only [Act.put, List.setIfInBounds_toArray, List.set_cons_zero, List.set_cons_succ])
            refine take_ (i := 13) (N := (some 82)) (v := ?_) (a' := ?_) #[true, true, true, true, true, true, true, true, true, true, true, true, true, true, false] rfl rfl (by kernel_rfl) (fun _ _ _ h => h) (Or.inl ⟨by rfl, ?_⟩) (by assumption) ?_ ?_
            rotate_left
            · intro w' hSw; (try dsimp only at hSw)
              go_simp
              try with_reducible rfl
            rotate_left
            · simp only [Act.put, List.setIfInBounds_toArray, List.set_cons_zero, List.set_cons_succ]
              rfl
            refine take_ (i := 14) (N := (some 83)) (v := ?_) (a' := ?_) #[true, true, true, true, true, true, true, true, true, true, true, true, true, true, true] rfl rfl (by kernel_rfl) (fun _ _ _ h => h) (Or.inl ⟨by rfl, ?_⟩) (by assumption) ?_ ?_
            rotate_left
            · intro w' hSw; (try dsimp only at hSw)
              go_simp
              try with_reducible rfl
            rotate_left
            · simp only [Act.put, List.setIfInBounds_toArray, List.set_cons_zero, List.set_cons_succ]
              rfl
            refine done_ (by kernel_rfl) ?_
            go_wp2
            go_roundw
            case rel => exact ⟨m + 1, by omega, by go_num, by rw [HLK.out, Hb0.out, Hb1.out]; rfl, hX.trans hHeld, hT.ext hHeld, hW.ext hHeld, fW.ext hHeld hW.lt, hS.ext hHeld⟩
            case measure => simp [intOf]; omega
        · have hmn : m = n := by omega
          have hlk : lackN R2 n m = !(eq7 st tp) := by rw [hmn, ← Hst.out, ← Htp.out]; exact lack_stab R2 n hn1
          have heq := fun W => run_eq7 Try.underlying51 st tp W
          obtain ⟨b, Hb⟩ : ∃ x, Hid (eq7 st tp = x) := ⟨_, Lib.hid rfl⟩
          rw [Hb.out] at heq hlk
          rw [hlk]
          clear hlk hmn
          have cw := fun W => le_any was st W
          rw [hws.out] at cw
          unfold vf at cw
          obtain ⟨t0, t1, t2, t3, t4, t5, t6⟩ := hS.rules
          obtain ⟨u0, u1, u2, u3, u4, u5, u6⟩ := hW.rules
          cases b with
          | true =>
            go_wp2_with fail
            refine start_ (n := 12) (S := (fun W => Ext wr W)) (ds := []) #[false, false, false, false, false, false, false, false, false, false, false, false] (by kernel_rfl) (by kernel_rfl) (by kernel_rfl) ((Ext.refl wr).drew) (fun hHeld => ?_)
            refine take_ (i := 0) (N := (some 84)) (v := ?_) (a' := ?_) #[true, false, false, false, false, false, false, false, false, false, false, false] rfl rfl (by kernel_rfl) (fun _ _ _ h => h) (Or.inl ⟨by rfl, ?_⟩) (by assumption) ?_ ?_
            rotate_left
            · intro w' hSw; (try dsimp only at hSw)
              go_simp
              try with_reducible rfl
            rotate_left
            · simp only [Act.put, List.setIfInBounds_toArray, List.set_cons_zero, List.set_cons_succ]
              rfl
            refine take_ (i := 1) (N := (some 85)) (v := ?_) (a' := ?_) #[true, true, false, false, false, false, false, false, false, false, false, false] rfl rfl (by kernel_rfl) (fun _ _ _ h => h) (Or.inl ⟨by rfl, ?_⟩) (by assumption) ?_ ?_
            rotate_left
            · intro w' hSw; (try dsimp only at hSw)
              go_simp
              try with_reducible rfl
            rotate_left
            · simp only [Act.put, List.setIfInBounds_toArray, List.set_cons_zero, List.set_cons_succ]
              rfl
            refine one_ (i := 2) (N := (some 86)) #[true, true, true, false, false, false, false, false, false, false, false, false] rfl rfl (by kernel_rfl) (by simp) (fun K hK => ?_)
            go_simp
            refine (cw _).mono ?_
            rintro e v1 ⟨rfl, x1⟩
            refine hK.out _ _ ?_ (fun hHeld => ?_)
            · first | assumption | exact hHeld.trans (by assumption)
            clear hK K
            (try simp only [Act.put, List.setIfInBounds_toArray, List.set_cons_zero, List.set_cons_succ])
            refine take_ (i := 3) (N := (some 87)) (v := ?_) (a' := ?_) #[true, true, true, true, false, false, false, false, false, false, false, false] rfl rfl (by kernel_rfl) (fun _ _ _ h => h) (Or.inl ⟨by rfl, ?_⟩) (by assumption) ?_ ?_
            rotate_left
            · intro w' hSw; (try dsimp only at hSw)
              go_simp
              try with_reducible rfl
            rotate_left
            · simp only [Act.put, List.setIfInBounds_toArray, List.set_cons_zero, List.set_cons_succ]
              rfl
            refine take_ (i := 4) (N := (some 88)) (v := ?_) (a' := ?_) #[true, true, true, true, true, false, false, false, false, false, false, false] rfl rfl (by kernel_rfl) (fun _ _ _ h => h) (Or.inl ⟨by rfl, ?_⟩) (by assumption) ?_ ?_
            rotate_left
            · intro w' hSw; (try dsimp only at hSw)
              go_simp
              try with_reducible rfl
            rotate_left
            · simp only [Act.put, List.setIfInBounds_toArray, List.set_cons_zero, List.set_cons_succ]
              rfl
            refine take_ (i := 5) (N := (some 89)) (v := ?_) (a' := ?_) #[true, true, true, true, true, true, false, false, false, false, false, false] rfl rfl (by kernel_rfl) (fun _ _ _ h => h) (Or.inl ⟨by rfl, ?_⟩) (by assumption) ?_ ?_
            rotate_left
            · intro w' hSw; (try dsimp only at hSw)
              go_simp
              try with_reducible rfl
            rotate_left
            · simp only [Act.put, List.setIfInBounds_toArray, List.set_cons_zero, List.set_cons_succ]
              rfl
            refine take_ (i := 6) (N := (some 90)) (v := ?_) (a' := ?_) #[true, true, true, true, true, true, true, false, false, false, false, false] rfl rfl (by kernel_rfl) (fun _ _ _ h => h) (Or.inl ⟨by rfl, ?_⟩) (by assumption) ?_ ?_
            rotate_left
            · intro w' hSw; (try dsimp only at hSw)
              go_simp
              try with_reducible rfl
            rotate_left
            · simp only [Act.put, List.setIfInBounds_toArray, List.set_cons_zero, List.set_cons_succ]
              rfl
            refine take_ (i := 7) (N := (some 91)) (v := ?_) (a' := ?_) #[true, true, true, true, true, true, true, true, false, false, false, false] rfl rfl (by kernel_rfl) (fun _ _ _ h => h) (Or.inl ⟨by rfl, ?_⟩) (by assumption) ?_ ?_
            rotate_left
            · intro w' hSw; (try dsimp only at hSw)
              go_simp
              try with_reducible rfl
            rotate_left
            · simp only [Act.put, List.setIfInBounds_toArray, List.set_cons_zero, List.set_cons_succ]
              rfl
            refine one_ (i := 8) (N := (some 92)) #[true, true, true, true, true, true, true, true, true, false, false, false] rfl rfl (by kernel_rfl) (by simp) (fun K hK => ?_)
            go_simp
            refine (c2 _ (hT.ext hHeld)).mono ?_
            rintro e v2 ⟨rfl, x2⟩
            refine hK.out _ _ ?_ (fun hHeld => ?_)
            · first | assumption | exact hHeld.trans (by assumption)
            clear hK K
            (try simp only [Act.put, List.setIfInBounds_toArray, List.set_cons_zero, List.set_cons_succ])
            refine take_ (i := 9) (N := (some 93)) (v := ?_) (a' := ?_) #[true, true, true, true, true, true, true, true, true, true, false, false] rfl rfl (by kernel_rfl) (fun _ _ _ h => h) (Or.inl ⟨by rfl, ?_⟩) (by assumption) ?_ ?_
            rotate_left
            · intro w' hSw; (try dsimp only at hSw)
              go_simp
              try with_reducible rfl
            rotate_left
            · simp only [Act.put, List.setIfInBounds_toArray, List.set_cons_zero, List.set_cons_succ]
              rfl
            refine take_ (i := 10) (N := (some 94)) (v := ?_) (a' := ?_) #[true, true, true, true, true, true, true, true, true, true, true, false] rfl rfl (by kernel_rfl) (fun _ _ _ h => h) (Or.inl ⟨by rfl, ?_⟩) (by assumption) ?_ ?_
            rotate_left
            · intro w' hSw; (try dsimp only at hSw)
              go_simp
              try with_reducible rfl
            rotate_left
            · simp only [Act.put, List.setIfInBounds_toArray, List.set_cons_zero, List.set_cons_succ]
              rfl
            refine take_ (i := 11) (N := (some 95)) (v := ?_) (a' := ?_) #[true, true, true, true, true, true, true, true, true, true, true, true] rfl rfl (by kernel_rfl) (fun _ _ _ h => h) (Or.inl ⟨by rfl, ?_⟩) (by assumption) ?_ ?_
            rotate_left
            · intro w' hSw; (try dsimp only at hSw)
              go_simp
              try with_reducible rfl
            rotate_left
            · simp only [Act.put, List.setIfInBounds_toArray, List.set_cons_zero, List.set_cons_succ]
              rfl
            refine done_ (by kernel_rfl) ?_
            obtain ⟨v3, V3, hz9, kx9, kr9, kf9, -⟩ := put7 v2 h0 _ st (hW.ext hHeld)
            have fW9 := fW.ext hHeld hW.lt
            obtain ⟨y0, y1, y2, y3, y4, y5, y6⟩ := (hW.ext hHeld).cells0
            obtain ⟨z0, z1, z2, z3, z4, z5, z6⟩ := fW9.cells0
            obtain ⟨r0, r1, r2, r3, r4, r5, r6⟩ := (hS.ext hHeld).cells0
            clear t0 t1 t2 t3 t4 t5 t6 u0 u1 u2 u3 u4 u5 u6
            have hB9 : But h0 v2 v3 := But.put7' (f' := st) (But.refl _ _) V3
            have rv3 := V3.out
            go_wp2
            go_roundw
            case rel => exact ⟨k + 1, R2, by omega, by go_num, kx9 _ (hX.trans hHeld) hwh, (hT.ext hHeld).but hB9 n1 n2, by rw [Hst.out]; exact hz9, kf9 _ _ fW9⟩
            case measure => simp [intOf]; omega
          | false =>
            go_wp2_with fail
            refine start_ (n := 12) (S := (fun W => Ext wr W)) (ds := []) #[false, false, false, false, false, false, false, false, false, false, false, false] (by kernel_rfl) (by kernel_rfl) (by kernel_rfl) ((Ext.refl wr).drew) (fun hHeld => ?_)
            refine take_ (i := 0) (N := (some 84)) (v := ?_) (a' := ?_) #[true, false, false, false, false, false, false, false, false, false, false, false] rfl rfl (by kernel_rfl) (fun _ _ _ h => h) (Or.inl ⟨by rfl, ?_⟩) (by assumption) ?_ ?_
            rotate_left
            · intro w' hSw; (try dsimp only at hSw)
              go_simp
              try with_reducible rfl
            rotate_left
            · simp only [Act.put, List.setIfInBounds_toArray, List.set_cons_zero, List.set_cons_succ]
              rfl
            refine take_ (i := 1) (N := (some 85)) (v := ?_) (a' := ?_) #[true, true, false, false, false, false, false, false, false, false, false, false] rfl rfl (by kernel_rfl) (fun _ _ _ h => h) (Or.inl ⟨by rfl, ?_⟩) (by assumption) ?_ ?_
            rotate_left
            · intro w' hSw; (try dsimp only at hSw)
              go_simp
              try with_reducible rfl
            rotate_left
            · simp only [Act.put, List.setIfInBounds_toArray, List.set_cons_zero, List.set_cons_succ]
              rfl
            refine one_ (i := 2) (N := (some 86)) #[true, true, true, false, false, false, false, false, false, false, false, false] rfl rfl (by kernel_rfl) (by simp) (fun K hK => ?_)
            go_simp
            refine (cw _).mono ?_
            rintro e v1 ⟨rfl, x1⟩
            refine hK.out _ _ ?_ (fun hHeld => ?_)
            · first | assumption | exact hHeld.trans (by assumption)
            clear hK K
            (try simp only [Act.put, List.setIfInBounds_toArray, List.set_cons_zero, List.set_cons_succ])
            refine take_ (i := 3) (N := (some 87)) (v := ?_) (a' := ?_) #[true, true, true, true, false, false, false, false, false, false, false, false] rfl rfl (by kernel_rfl) (fun _ _ _ h => h) (Or.inl ⟨by rfl, ?_⟩) (by assumption) ?_ ?_
            rotate_left
            · intro w' hSw; (try dsimp only at hSw)
              go_simp
              try with_reducible rfl
            rotate_left
            · simp only [Act.put, List.setIfInBounds_toArray, List.set_cons_zero, List.set_cons_succ]
              rfl
            refine take_ (i := 4) (N := (some 88)) (v := ?_) (a' := ?_) #[true, true, true, true, true, false, false, false, false, false, false, false] rfl rfl (by kernel_rfl) (fun _ _ _ h => h) (Or.inl ⟨by rfl, ?_⟩) (by assumption) ?_ ?_
            rotate_left
            · intro w' hSw; (try dsimp only at hSw)
              go_simp
              try with_reducible rfl
            rotate_left
            · simp only [Act.put, List.setIfInBounds_toArray, List.set_cons_zero, List.set_cons_succ]
              rfl
            refine take_ (i := 5) (N := (some 89)) (v := ?_) (a' := ?_) #[true, true, true, true, true, true, false, false, false, false, false, false] rfl rfl (by kernel_rfl) (fun _ _ _ h => h) (Or.inl ⟨by rfl, ?_⟩) (by assumption) ?_ ?_
            rotate_left
            · intro w' hSw; (try dsimp only at hSw)
              go_simp
              try with_reducible rfl
            rotate_left
            · simp only [Act.put, List.setIfInBounds_toArray, List.set_cons_zero, List.set_cons_succ]
              rfl
            refine take_ (i := 6) (N := (some 90)) (v := ?_) (a' := ?_) #[true, true, true, true, true, true, true, false, false, false, false, false] rfl rfl (by kernel_rfl) (fun _ _ _ h => h) (Or.inl ⟨by rfl, ?_⟩) (by assumption) ?_ ?_
            rotate_left
            · intro w' hSw; (try dsimp only at hSw)
              go_simp
              try with_reducible rfl
            rotate_left
            · simp only [Act.put, List.setIfInBounds_toArray, List.set_cons_zero, List.set_cons_succ]
              rfl
            refine take_ (i := 7) (N := (some 91)) (v := ?_) (a' := ?_) #[true, true, true, true, true, true, true, true, false, false, false, false] rfl rfl (by kernel_rfl) (fun _ _ _ h => h) (Or.inl ⟨by rfl, ?_⟩) (by assumption) ?_ ?_
            rotate_left
            · intro w' hSw; (try dsimp only at hSw)
              go_simp
              try with_reducible rfl
            rotate_left
            · simp only [Act.put, List.setIfInBounds_toArray, List.set_cons_zero, List.set_cons_succ]
              rfl
            refine one_ (i := 8) (N := (some 92)) #[true, true, true, true, true, true, true, true, true, false, false, false] rfl rfl (by kernel_rfl) (by simp) (fun K hK => ?_)
            go_simp
            refine (c2 _ (hT.ext hHeld)).mono ?_
            rintro e v2 ⟨rfl, x2⟩
            refine hK.out _ _ ?_ (fun hHeld => ?_)
            · first | assumption | exact hHeld.trans (by assumption)
            clear hK K
            (try simp only [Act.put, List.setIfInBounds_toArray, List.set_cons_zero, List.set_cons_succ])
            refine take_ (i := 9) (N := (some 93)) (v := ?_) (a' := ?_) #[true, true, true, true, true, true, true, true, true, true, false, false] rfl rfl (by kernel_rfl) (fun _ _ _ h => h) (Or.inl ⟨by rfl, ?_⟩) (by assumption) ?_ ?_
            rotate_left
            · intro w' hSw; (try dsimp only at hSw)
              go_simp
              try with_reducible rfl
            rotate_left
            · simp only [Act.put, List.setIfInBounds_toArray, List.set_cons_zero, List.set_cons_succ]
              rfl
            refine take_ (i := 10) (N := (some 94)) (v := ?_) (a' := ?_) #[true, true, true, true, true, true, true, true, true, true, true, false] rfl rfl (by kernel_rfl) (fun _ _ _ h => h) (Or.inl ⟨by rfl, ?_⟩) (by assumption) ?_ ?_
            rotate_left
            · intro w' hSw; (try dsimp only at hSw)
              go_simp
              try with_reducible rfl
            rotate_left
            · simp only [Act.put, List.setIfInBounds_toArray, List.set_cons_zero, List.set_cons_succ]
              rfl
            refine take_ (i := 11) (N := (some 95)) (v := ?_) (a' := ?_) #[true, true, true, true, true, true, true, true, true, true, true, true] rfl rfl (by kernel_rfl) (fun _ _ _ h => h) (Or.inl ⟨by rfl, ?_⟩) (by assumption) ?_ ?_
            rotate_left
            · intro w' hSw; (try dsimp only at hSw)
              go_simp
              try with_reducible rfl
            rotate_left
            · simp only [Act.put, List.setIfInBounds_toArray, List.set_cons_zero, List.set_cons_succ]
              rfl
            refine done_ (by kernel_rfl) ?_
            obtain ⟨v3, V3, hz9, kx9, kr9, kf9, -⟩ := put7 v2 h0 _ st (hW.ext hHeld)
            have fW9 := fW.ext hHeld hW.lt
            obtain ⟨y0, y1, y2, y3, y4, y5, y6⟩ := (hW.ext hHeld).cells0
            obtain ⟨z0, z1, z2, z3, z4, z5, z6⟩ := fW9.cells0
            obtain ⟨r0, r1, r2, r3, r4, r5, r6⟩ := (hS.ext hHeld).cells0
            clear t0 t1 t2 t3 t4 t5 t6 u0 u1 u2 u3 u4 u5 u6
            have hB9 : But h0 v2 v3 := But.put7' (f' := st) (But.refl _ _) V3
            have rv3 := V3.out
            go_wp2
            go_roundw
            case rel => exact ⟨k + 1, R2, by omega, by go_num, kx9 _ (hX.trans hHeld) hwh, (hT.ext hHeld).but hB9 n1 n2, by rw [Hst.out]; exact hz9, kf9 _ _ fW9⟩
            case measure => simp [intOf]; omega
    · go_wp2
      go_ret
      exact ⟨rfl, hX⟩

end Go.Proofs.Ytaiofbagdcpfgaa
