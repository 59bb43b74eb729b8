/- NetKnown: the walk. -/
import Derived.Test.YtbmhchfjapdicaaNetAwake
set_option linter.unusedVariables false
set_option linter.unusedSimpArgs false
set_option maxRecDepth 100000
namespace Go.Proofs.Ytbmhchfjapdicaa
open Go.RowKit Go.Proofs.YtbmhchfjapdicaaW.PrintWords Go.Proofs.YtbmhchfjapdicaaW.PrintLast

set_option maxHeartbeats 800000 in
theorem send_no (g n : Nat) (V : Nat → Value) (f t : Int) (A : Option Addr) (bl c : Nat) (w : World) (h : NetB w 50 g n V) (hn : n ≤ 7) (hno : way n f t = none ∨ 65536 < bl) :
    Calls Try.prog 8 #[.pointer (some ⟨g, 0, none⟩), .int .i64 f, .int .i64 t, .slice A bl c] w fun e w' => e = .returned (.int .i64 1) ∧ w = w' := by
  go_enter Try.func8, Try.ntmps8
  go_wp2_with fail
  refine (bag_any g n V f t w h hn).mono ?_
  rintro e w' ⟨rfl, hw⟩
  obtain rfl := hw
  cases hk : way n f t with
  | none =>
    rw [bagp_none hk]
    clear hno
    go_wp2
    go_ret
    exact ⟨rfl, rfl⟩
  | some k =>
    rw [bagp_some hk]
    have q1 : 65536 < bl := hno.resolve_left (by rw [hk]; simp)
    clear hno
    go_wp2
    go_ret
    exact ⟨rfl, rfl⟩

/-- So many empty ones on the first way. -/
def E0 (k : Nat) : Nat → List (List UInt8) := updV noS 1 (List.replicate k [])
theorem upd_upd {α : Type} (f : Nat → α) (k : Nat) (x y : α) : updV (updV f k x) k y = updV f k y := by
  funext i
  unfold updV
  split <;> rfl
theorem E0_zero : E0 0 = noS := by
  funext i
  unfold E0 updV noS
  split <;> rfl
theorem E0_snd (k : Nat) (hk : k < 64) : snd 3 (E0 k) 0 1 [] = (E0 (k + 1), 0) := by
  have hw : way 3 0 1 = some 1 := rfl
  have he : E0 k 1 = List.replicate k [] := updV_same _ _ _
  simp only [snd, hw]
  rw [if_neg (by simp), if_neg (by rw [he, List.length_replicate]; omega), he, ← List.replicate_succ']
  congr 1
  exact upd_upd _ _ _ _
def E1 : Nat → List (List UInt8) := updV (E0 64) 15 [[113]]
def E2 : Nat → List (List UInt8) := updV E1 9 [[114]]
theorem e1 : snd 3 (E0 64) 0 1 [] = (E0 64, 6) := rfl
theorem e2 : dbl 3 (E0 64) 0 1 0 = (E0 64, 6) := rfl
theorem e3 : dbl 3 (E0 64) 1 0 0 = (E0 64, 4) := rfl
theorem e4 : tk 3 (E0 64) 2 0 0 = (E0 64, [], false) := rfl
theorem e5 : tk 3 (E0 64) 0 1 64 = (E0 64, [], false) := rfl
theorem e6 : snd 3 (E0 64) 2 1 [113] = (E1, 0) := rfl
theorem e7 : snd 3 E1 1 2 [114] = (E2, 0) := rfl
def E3 : Nat → List (List UInt8) := clr 3 1 E2 3
theorem e8 : lenS 3 E3 0 1 = 0 := rfl
theorem e9 : lenS 3 E3 2 1 = 0 := rfl
theorem e10 : lenS 3 E3 1 2 = 1 := rfl
theorem e11 : sqS E3 3 3 = 1 := rfl
theorem e12 : ∀ k, k < 49 → (E3 k).length ≤ 64 := by decide +kernel

set_option maxHeartbeats 3200000 in
theorem known15_any (w : World) : Calls Try.prog 4 #[] w fun e w' => e = .returned (.bool true) ∧ Ext w w' := by
  have hc := fun (W : World) (C : Array Value) (n c : Nat) => Lib.run_convert_bytes_const (P := Try.prog) W 30 5 C n c Try.underlying30 Try.underlying5
  go_enter Try.func4, Try.ntmps4
  go_wp2_with fail
  refine (awake15_any w).mono ?_
  rintro e w1 ⟨rfl, hx1⟩
  go_wp2_with fail
  refine (new_bad 0 w1 (Or.inl (by omega))).mono ?_
  rintro e w' ⟨rfl, hw⟩
  obtain rfl := hw
  go_wp2_with fail
  refine (new_bad 8 w1 (Or.inr (by omega))).mono ?_
  rintro e w' ⟨rfl, hw⟩
  obtain rfl := hw
  go_wp2_with fail
  refine (new_ok 3 w1 (by omega) (by omega)).mono ?_
  rintro e w2 ⟨rfl, hN2, hx2⟩
  have hX2 := hx1.trans hx2
  have hfn := foot_noV (w := w) (g := w1.heap.size) hx1.size
  obtain ⟨g, Hg⟩ : ∃ g, Hid (w1.heap.size = g) := ⟨_, Lib.hid rfl⟩
  rw [Hg.out] at hN2 hfn ⊢
  go_wp2
  go_loopw [7] (fun i wr => ∃ k : Nat, k ≤ 64 ∧ i = .int .i64 k ∧ After w2 wr 50 g 3 noV (E0 k)) (fun i _ => 64 - (intOf i).toNat)
  case atStart => exact ⟨0, by omega, rfl, by rw [E0_zero]; exact After.same hN2 holds_new⟩
  case round =>
    obtain ⟨k, hk, rfl, V1, L1, hN3, hS3, hK3, hf3⟩ := hrel
    by_cases hlt : k < 64
    · go_wp2_with fail
      refine (send_any g 3 V1 L1 (E0 k) 0 1 none 0 0 [] wr hN3 hS3 (by omega) (Bs.nil _) rfl).mono ?_
      rintro e w4 ⟨rfl, ha⟩
      rw [E0_snd k hlt] at ha ⊢
      have ha := After.comp hK3 hf3 ha
      dsimp only at ha ⊢
      go_wp2
      go_roundw
      case rel => exact ⟨k + 1, by omega, by go_num, ha⟩
      case measure => simp [intOf]; omega
    have hk64 : k = 64 := by omega
    subst hk64
    clear hk hlt
    go_wp2_with fail
    refine (send_any g 3 V1 L1 (E0 64) 0 1 none 0 0 [] wr hN3 hS3 (by omega) (Bs.nil _) rfl).mono ?_
    rintro e w4 ⟨rfl, ha⟩
    rw [e1] at ha ⊢
    have ha := After.comp hK3 hf3 ha
    clear hN3 hS3 hK3 hf3
    dsimp only at ha ⊢
    obtain ⟨V1, L1, hN3, hS3, hK3, hf3⟩ := ha
    go_wp2_with fail
    refine (double_any g 3 V1 L1 (E0 64) 0 1 0 w4 hN3 hS3 (by omega)).mono ?_
    rintro e w5 ⟨rfl, ha⟩
    rw [e2] at ha ⊢
    have ha := After.comp hK3 hf3 ha
    clear hN3 hS3 hK3 hf3
    dsimp only at ha ⊢
    obtain ⟨V1, L1, hN3, hS3, hK3, hf3⟩ := ha
    have hmk : ∀ W : World, (Instr.makeSlice 30 (.int .i64 65537) (.int .i64 65537)).run Try.prog W = .ok (.slice (some ⟨W.heap.size, 0, none⟩) 65537 65537) (W.alloc (.cells (madeCells #[.int .u8 0] 65537) 5)) := make_bytes 65537 (by omega)
    obtain ⟨gm, Hgm⟩ : ∃ gm, Hid (w5.heap.size = gm) := ⟨_, Lib.hid rfl⟩
    have hgm := Hgm.out
    go_wp2
    refine start_ (n := 10) (S := (fun W => Ext w5 W)) (ds := []) #[false, false, false, false, false, false, false, false, false, false] (by kernel_rfl) (by kernel_rfl) (by kernel_rfl) ((Ext.refl w5).drew) (fun hHeld => ?_)
    refine take_ (i := 0) (N := (some 42)) (v := ?_) (a' := ?_) #[true, false, false, false, false, false, false, false, false, false] rfl rfl (by kernel_rfl) (fun _ _ _ h => h) (Or.inl ⟨by rfl, ?_⟩) (by assumption) ?_ ?_
    rotate_left
    · intro w' hSw; (try dsimp only at hSw)
      go_simp
      try with_reducible rfl
    rotate_left
    · simp only [Act.put, List.setIfInBounds_toArray, List.set_cons_zero, List.set_cons_succ]
      rfl
    refine take_ (i := 2) (N := (some 44)) (v := ?_) (a' := ?_) #[true, false, true, false, false, false, false, false, false, false] rfl rfl (by kernel_rfl) (fun _ _ _ h => h) (Or.inl ⟨by rfl, ?_⟩) (by assumption) ?_ ?_
    rotate_left
    · intro w' hSw; (try dsimp only at hSw)
      go_simp
      try with_reducible rfl
    rotate_left
    · simp only [Act.put, List.setIfInBounds_toArray, List.set_cons_zero, List.set_cons_succ]
      rfl
    refine take_ (i := 4) (N := (some 46)) (v := ?_) (a' := ?_) #[true, false, true, false, true, false, false, false, false, false] rfl rfl (by kernel_rfl) (fun _ _ _ h => h) (Or.inl ⟨by rfl, ?_⟩) (by assumption) ?_ ?_
    rotate_left
    · intro w' hSw; (try dsimp only at hSw)
      go_simp
      try with_reducible rfl
    rotate_left
    · simp only [Act.put, List.setIfInBounds_toArray, List.set_cons_zero, List.set_cons_succ]
      rfl
    refine join_ (σ := Nat) 0 #[true, true, true, true, true, true, true, true, true, true] (fun s => [(43, .int .i64 1), (45, .int .i64 1), (47, .slice (some ⟨s, 0, none⟩) 65537 65537), (48, .int .i64 1), (10, .int .i64 1), (11, .int .i64 1), (12, .int .i64 1)]) (fun s W => Ext w5 W) ?_ ?_
    · intro s wj hF
      simp only [putAll, Act.put, List.setIfInBounds_toArray, List.set_cons_zero, List.set_cons_succ]
      refine done_ (by kernel_rfl) ?_
      go_wp2_with fail
      clear hgm hmk
      have hK3' := hK3.ext hF
      have hN3' := hN3.ext hF
      clear hN3 hK3
      refine (double_any g 3 V1 L1 (E0 64) 1 0 0 _ hN3' hS3 (by omega)).mono ?_
      rintro e w6 ⟨rfl, ha⟩
      rw [e3] at ha ⊢
      have ha := After.comp hK3' hf3 ha
      clear hN3' hS3 hK3' hf3
      dsimp only at ha ⊢
      obtain ⟨V1, L1, hN3', hS3, hK3', hf3⟩ := ha
      go_wp2_with fail
      refine (take_any g 3 V1 L1 (E0 64) 2 0 0 _ hN3' hS3 (by omega)).mono ?_
      rintro e w7 ⟨A7, c7, rfl, _, _, _, ha⟩
      rw [e4] at ha ⊢
      have ha := After.comp hK3' hf3 ha
      clear hN3' hS3 hK3' hf3
      dsimp only at ha ⊢
      obtain ⟨V1, L1, hN3', hS3, hK3', hf3⟩ := ha
      go_wp2_with fail
      refine (drop_any g 3 V1 L1 (E0 64) 0 1 64 _ hN3' hS3 (by omega)).mono ?_
      rintro e w8 ⟨rfl, ha⟩
      rw [e5] at ha ⊢
      have ha := After.comp hK3' hf3 ha
      clear hN3' hS3 hK3' hf3
      dsimp only at ha ⊢
      obtain ⟨V1, L1, hN3', hS3, hK3', hf3⟩ := ha
      go_wp2_with fail
      refine (send_any g 3 V1 L1 (E0 64) 2 1 _ 1 1 [113] _ (hN3'.ext ((Ext.refl _).alloc _)) hS3 (by omega) (Bs.alloc _ [113] (by decide) _ rfl _ _) rfl).mono ?_
      rintro e w9 ⟨rfl, ha⟩
      rw [e6] at ha ⊢
      have ha := After.comp (hK3'.ext ((Ext.refl _).alloc _)) hf3 ha
      clear hN3' hS3 hK3' hf3
      dsimp only at ha ⊢
      obtain ⟨V1, L1, hN3', hS3, hK3', hf3⟩ := ha
      go_wp2_with fail
      refine (send_any g 3 V1 L1 E1 1 2 _ 1 1 [114] _ (hN3'.ext ((Ext.refl _).alloc _)) hS3 (by omega) (Bs.alloc _ [114] (by decide) _ rfl _ _) rfl).mono ?_
      rintro e w10 ⟨rfl, ha⟩
      rw [e7] at ha ⊢
      have ha := After.comp (hK3'.ext ((Ext.refl _).alloc _)) hf3 ha
      clear hN3' hS3 hK3' hf3
      dsimp only at ha ⊢
      obtain ⟨V1, L1, hN3', hS3, hK3', hf3⟩ := ha
      go_wp2_with fail
      refine (clear_any g 3 V1 L1 E2 1 _ hN3' hS3 (by omega)).mono ?_
      rintro e w11 ⟨rfl, ha⟩
      rw [show clr 3 1 E2 3 = E3 from rfl] at ha
      have ha := After.comp hK3' hf3 ha
      clear hN3' hS3 hK3' hf3
      have hX11 := After.out hX2 hfn ha
      obtain ⟨V1, L1, hN3', hS3, hK3', hf3⟩ := ha
      have q8 := lens_any g 3 V1 L1 E3 0 1 w11 hN3' hS3 (by omega)
      have q9 := lens_any g 3 V1 L1 E3 2 1 w11 hN3' hS3 (by omega)
      have q10 := lens_any g 3 V1 L1 E3 1 2 w11 hN3' hS3 (by omega)
      have q11 := alls_any g 3 V1 L1 E3 w11 hN3' hS3 (by omega) e12
      rw [e8] at q8
      rw [e9] at q9
      rw [e10] at q10
      rw [e11] at q11
      go_wp2_with fail
      refine q8.mono ?_
      rintro e w' ⟨rfl, hw⟩
      obtain rfl := hw
      go_wp2_with fail
      refine q9.mono ?_
      rintro e w' ⟨rfl, hw⟩
      obtain rfl := hw
      go_wp2_with fail
      refine q11.mono ?_
      rintro e w' ⟨rfl, hw⟩
      obtain rfl := hw
      go_wp2_with fail
      refine q10.mono ?_
      rintro e w' ⟨rfl, hw⟩
      obtain rfl := hw
      go_wp2
      go_ret
      exact ⟨rfl, hX11⟩
    · intro hJ
      refine two_ (i := 1) (Ni := (some 43)) (j := 5) (Nj := (some 47)) #[true, true, true, false, true, false, false, false, false, false] #[true, false, true, false, true, true, false, false, false, false] rfl rfl rfl rfl (by kernel_rfl) (by simp) (by simp) (fun K hK => ?_) (fun K hK => ?_)
      · go_simp
        refine (send_no g 3 V1 0 0 none 0 0 _ (hN3.ext hHeld).blk (by omega) (Or.inl rfl)).mono ?_
        rintro e v1 ⟨rfl, hw1⟩
        obtain rfl := hw1
        refine hK.out _ _ ?_ (fun hHeld => ?_)
        · exact hHeld
        clear hK K
        (try simp only [Act.put, List.setIfInBounds_toArray, List.set_cons_zero, List.set_cons_succ])
        refine two_ (i := 3) (Ni := (some 45)) (j := 5) (Nj := (some 47)) #[true, true, true, true, true, false, false, false, false, false] #[true, true, true, false, true, true, false, false, false, false] rfl rfl rfl rfl (by kernel_rfl) (by simp) (by simp) (fun K hK => ?_) (fun K hK => ?_)
        · go_simp
          refine (send_no g 3 V1 0 3 none 0 0 _ (hN3.ext hHeld).blk (by omega) (Or.inl rfl)).mono ?_
          rintro e v2 ⟨rfl, hw2⟩
          obtain rfl := hw2
          refine hK.out _ _ ?_ (fun hHeld => ?_)
          · exact hHeld
          clear hK K
          (try simp only [Act.put, List.setIfInBounds_toArray, List.set_cons_zero, List.set_cons_succ])
          refine one_ (i := 5) (N := (some 47)) #[true, true, true, true, true, true, false, false, false, false] rfl rfl (by kernel_rfl) (by simp) (fun K hK => ?_)
          go_simp
          refine hK.out _ _ ?_ (fun hHeld => ?_)
          · exact hHeld.alloc _
          clear hK K
          (try simp only [Act.put, List.setIfInBounds_toArray, List.set_cons_zero, List.set_cons_succ])
          refine one_ (i := 6) (N := (some 48)) #[true, true, true, true, true, true, true, false, false, false] rfl rfl (by kernel_rfl) (by simp) (fun K hK => ?_)
          go_simp
          refine (send_no g 3 V1 1 0 _ 65537 65537 _ (hN3.ext hHeld).blk (by omega) (Or.inr (by omega))).mono ?_
          rintro e v4 ⟨rfl, hw4⟩
          obtain rfl := hw4
          refine hK.out _ _ ?_ (fun hHeld => ?_)
          · exact hHeld
          clear hK K
          (try simp only [Act.put, List.setIfInBounds_toArray, List.set_cons_zero, List.set_cons_succ])
          refine take_ (i := 7) (N := (some 10)) (v := ?_) (a' := ?_) #[true, true, true, true, true, true, true, true, false, false] rfl rfl (by kernel_rfl) (fun _ _ _ h => h) (Or.inl ⟨by rfl, ?_⟩) (by assumption) ?_ ?_
          rotate_left
          · intro w' hSw; (try dsimp only at hSw)
            go_simp
            try with_reducible rfl
          rotate_left
          · simp only [Act.put, List.setIfInBounds_toArray, List.set_cons_zero, List.set_cons_succ]
            rfl
          refine take_ (i := 8) (N := (some 11)) (v := ?_) (a' := ?_) #[true, true, true, true, true, true, true, true, true, false] rfl rfl (by kernel_rfl) (fun _ _ _ h => h) (Or.inl ⟨by rfl, ?_⟩) (by assumption) ?_ ?_
          rotate_left
          · intro w' hSw; (try dsimp only at hSw)
            go_simp
            try with_reducible rfl
          rotate_left
          · simp only [Act.put, List.setIfInBounds_toArray, List.set_cons_zero, List.set_cons_succ]
            rfl
          refine take_ (i := 9) (N := (some 12)) (v := ?_) (a' := ?_) #[true, true, true, true, true, true, true, true, true, true] rfl rfl (by kernel_rfl) (fun _ _ _ h => h) (Or.inl ⟨by rfl, ?_⟩) (by assumption) ?_ ?_
          rotate_left
          · intro w' hSw; (try dsimp only at hSw)
            go_simp
            try with_reducible rfl
          rotate_left
          · simp only [Act.put, List.setIfInBounds_toArray, List.set_cons_zero, List.set_cons_succ]
            rfl
          have hj := hJ gm _ hHeld
          simp only [putAll, Act.put, List.setIfInBounds_toArray, List.set_cons_zero, List.set_cons_succ] at hj
          exact hj
        · go_simp
          refine hK.out _ _ ?_ (fun hHeld => ?_)
          · exact hHeld.alloc _
          clear hK K
          (try simp only [Act.put, List.setIfInBounds_toArray, List.set_cons_zero, List.set_cons_succ])
          refine one_ (i := 3) (N := (some 45)) #[true, true, true, true, true, true, false, false, false, false] rfl rfl (by kernel_rfl) (by simp) (fun K hK => ?_)
          go_simp
          refine (send_no g 3 V1 0 3 none 0 0 _ (hN3.ext hHeld).blk (by omega) (Or.inl rfl)).mono ?_
          rintro e v6 ⟨rfl, hw6⟩
          obtain rfl := hw6
          refine hK.out _ _ ?_ (fun hHeld => ?_)
          · exact hHeld
          clear hK K
          (try simp only [Act.put, List.setIfInBounds_toArray, List.set_cons_zero, List.set_cons_succ])
          refine one_ (i := 6) (N := (some 48)) #[true, true, true, true, true, true, true, false, false, false] rfl rfl (by kernel_rfl) (by simp) (fun K hK => ?_)
          go_simp
          refine (send_no g 3 V1 1 0 _ 65537 65537 _ (hN3.ext hHeld).blk (by omega) (Or.inr (by omega))).mono ?_
          rintro e v7 ⟨rfl, hw7⟩
          obtain rfl := hw7
          refine hK.out _ _ ?_ (fun hHeld => ?_)
          · exact hHeld
          clear hK K
          (try simp only [Act.put, List.setIfInBounds_toArray, List.set_cons_zero, List.set_cons_succ])
          refine take_ (i := 7) (N := (some 10)) (v := ?_) (a' := ?_) #[true, true, true, true, true, true, true, true, false, false] rfl rfl (by kernel_rfl) (fun _ _ _ h => h) (Or.inl ⟨by rfl, ?_⟩) (by assumption) ?_ ?_
          rotate_left
          · intro w' hSw; (try dsimp only at hSw)
            go_simp
            try with_reducible rfl
          rotate_left
          · simp only [Act.put, List.setIfInBounds_toArray, List.set_cons_zero, List.set_cons_succ]
            rfl
          refine take_ (i := 8) (N := (some 11)) (v := ?_) (a' := ?_) #[true, true, true, true, true, true, true, true, true, false] rfl rfl (by kernel_rfl) (fun _ _ _ h => h) (Or.inl ⟨by rfl, ?_⟩) (by assumption) ?_ ?_
          rotate_left
          · intro w' hSw; (try dsimp only at hSw)
            go_simp
            try with_reducible rfl
          rotate_left
          · simp only [Act.put, List.setIfInBounds_toArray, List.set_cons_zero, List.set_cons_succ]
            rfl
          refine take_ (i := 9) (N := (some 12)) (v := ?_) (a' := ?_) #[true, true, true, true, true, true, true, true, true, true] rfl rfl (by kernel_rfl) (fun _ _ _ h => h) (Or.inl ⟨by rfl, ?_⟩) (by assumption) ?_ ?_
          rotate_left
          · intro w' hSw; (try dsimp only at hSw)
            go_simp
            try with_reducible rfl
          rotate_left
          · simp only [Act.put, List.setIfInBounds_toArray, List.set_cons_zero, List.set_cons_succ]
            rfl
          have hj := hJ gm _ hHeld
          simp only [putAll, Act.put, List.setIfInBounds_toArray, List.set_cons_zero, List.set_cons_succ] at hj
          exact hj
      · go_simp
        refine hK.out _ _ ?_ (fun hHeld => ?_)
        · exact hHeld.alloc _
        clear hK K
        (try simp only [Act.put, List.setIfInBounds_toArray, List.set_cons_zero, List.set_cons_succ])
        refine one_ (i := 1) (N := (some 43)) #[true, true, true, false, true, true, false, false, false, false] rfl rfl (by kernel_rfl) (by simp) (fun K hK => ?_)
        go_simp
        refine (send_no g 3 V1 0 0 none 0 0 _ (hN3.ext hHeld).blk (by omega) (Or.inl rfl)).mono ?_
        rintro e v9 ⟨rfl, hw9⟩
        obtain rfl := hw9
        refine hK.out _ _ ?_ (fun hHeld => ?_)
        · exact hHeld
        clear hK K
        (try simp only [Act.put, List.setIfInBounds_toArray, List.set_cons_zero, List.set_cons_succ])
        refine one_ (i := 3) (N := (some 45)) #[true, true, true, true, true, true, false, false, false, false] rfl rfl (by kernel_rfl) (by simp) (fun K hK => ?_)
        go_simp
        refine (send_no g 3 V1 0 3 none 0 0 _ (hN3.ext hHeld).blk (by omega) (Or.inl rfl)).mono ?_
        rintro e v10 ⟨rfl, hw10⟩
        obtain rfl := hw10
        refine hK.out _ _ ?_ (fun hHeld => ?_)
        · exact hHeld
        clear hK K
        (try simp only [Act.put, List.setIfInBounds_toArray, List.set_cons_zero, List.set_cons_succ])
        refine one_ (i := 6) (N := (some 48)) #[true, true, true, true, true, true, true, false, false, false] rfl rfl (by kernel_rfl) (by simp) (fun K hK => ?_)
        go_simp
        refine (send_no g 3 V1 1 0 _ 65537 65537 _ (hN3.ext hHeld).blk (by omega) (Or.inr (by omega))).mono ?_
        rintro e v11 ⟨rfl, hw11⟩
        obtain rfl := hw11
        refine hK.out _ _ ?_ (fun hHeld => ?_)
        · exact hHeld
        clear hK K
        (try simp only [Act.put, List.setIfInBounds_toArray, List.set_cons_zero, List.set_cons_succ])
        refine take_ (i := 7) (N := (some 10)) (v := ?_) (a' := ?_) #[true, true, true, true, true, true, true, true, false, false] rfl rfl (by kernel_rfl) (fun _ _ _ h => h) (Or.inl ⟨by rfl, ?_⟩) (by assumption) ?_ ?_
        rotate_left
        · intro w' hSw; (try dsimp only at hSw)
          go_simp
          try with_reducible rfl
        rotate_left
        · simp only [Act.put, List.setIfInBounds_toArray, List.set_cons_zero, List.set_cons_succ]
          rfl
        refine take_ (i := 8) (N := (some 11)) (v := ?_) (a' := ?_) #[true, true, true, true, true, true, true, true, true, false] rfl rfl (by kernel_rfl) (fun _ _ _ h => h) (Or.inl ⟨by rfl, ?_⟩) (by assumption) ?_ ?_
        rotate_left
        · intro w' hSw; (try dsimp only at hSw)
          go_simp
          try with_reducible rfl
        rotate_left
        · simp only [Act.put, List.setIfInBounds_toArray, List.set_cons_zero, List.set_cons_succ]
          rfl
        refine take_ (i := 9) (N := (some 12)) (v := ?_) (a' := ?_) #[true, true, true, true, true, true, true, true, true, true] rfl rfl (by kernel_rfl) (fun _ _ _ h => h) (Or.inl ⟨by rfl, ?_⟩) (by assumption) ?_ ?_
        rotate_left
        · intro w' hSw; (try dsimp only at hSw)
          go_simp
          try with_reducible rfl
        rotate_left
        · simp only [Act.put, List.setIfInBounds_toArray, List.set_cons_zero, List.set_cons_succ]
          rfl
        have hj := hJ gm _ hHeld
        simp only [putAll, Act.put, List.setIfInBounds_toArray, List.set_cons_zero, List.set_cons_succ] at hj
        exact hj

end Go.Proofs.Ytbmhchfjapdicaa
