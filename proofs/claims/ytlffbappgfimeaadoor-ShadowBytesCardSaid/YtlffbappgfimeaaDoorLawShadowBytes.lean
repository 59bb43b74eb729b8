/- The statement ShadowBytesCardSaid: the law's row, its three tables listed and tied to the program's text. -/
import Derived.Test.YtlffbappgfimeaaDoorRows
import Derived.Test.YtlffbappgfimeaaDoorCards
import Derived.Test.YtlffbappgfimeaaDoorTie
import Derived.Test.YtlffbappgfimeaaDoorShLaid
import Derived.Test.YtlffbappgfimeaaDoorShOpen
import Derived.Test.YtlffbappgfimeaaDoorOpen
import Derived.OpenShut
import Derived.ShutString
import Derived.ChangeSame
import Derived.ChangeOld
import Derived.ChangeVars
import Derived.LaidLaws
import Derived.LaidHandle
import Derived.Below
import Derived.SizedLaws
import Derived.SevenTiedAt
import Derived.Test.YtlffbappgfimeaaDoorShAwake
import Derived.Test.YtlffbappgfimeaaDoorShRefGet
import Derived.Test.YtlffbappgfimeaaDoorShRefPut
import Derived.Test.YtlffbappgfimeaaDoorRegion
set_option linter.unusedVariables false
set_option linter.unusedSimpArgs false
set_option maxRecDepth 100000
namespace Go.Proofs.YtlffbappgfimeaaDoor
open Go.RowKit Go.Lib Go.Proofs.YtlffbappgfimeaaDoorW.PrintWords Go.Proofs.YtlffbappgfimeaaDoorW.PrintLast PackPure

theorem outV_is (a : Bool) (r n : Int) (v : V7) (k : Int) (key text : ByteArray) (b t : Int) : ∃ xr xn xv xk xkey xtext xb xt, outV a r n v k key text b t = shv xr xn xv xk xkey xtext xb xt := by
  cases a
  · exact ⟨0, 0, fun _ => 0, 0, ⟨#[]⟩, ⟨#[]⟩, 0, 0, rfl⟩
  · exact ⟨r, n, v, k, key, text, b, t, rfl⟩
/-- What Get answers, and what the reference's does. -/
def Both (B : List UInt8) (a : Bool) (xr xn : Int) (xv : V7) (xk : Int) (xkey xtext : ByteArray) (xb xt : Int) : Prop :=
  ∃ r n v k key text b t L bad, Reads 7 0 0 80 B r n v k key text b t L bad ∧ a = accS r n v k key text b t L bad ∧ outV a r n v k key text b t = shv xr xn xv xk xkey xtext xb xt
theorem get_x (A : Option Addr) (n0 c0 : Nat) (B : List UInt8) (w : World) (h : Bs w A B) (hn : n0 = B.length) (hcap : n0 ≤ c0) (hm : B.length ≤ 1000000) (ht : Tabs w) :
    Calls Tryd.prog 8 #[.slice A n0 c0] w fun e w' => ∃ a xr xn xv xk xkey xtext xb xt, Both B a xr xn xv xk xkey xtext xb xt ∧ e = .returned (.tuple #[shv xr xn xv xk xkey xtext xb xt, .int .i64 (bif a then 0 else 3)]) ∧ Ext w w' := by
  refine (sget_any A n0 c0 B w h hn hcap hm ht).mono ?_
  rintro e w' ⟨⟨r, n, v, k, key, text, b, t, L, bad, hr, rfl⟩, hx⟩
  obtain ⟨xr, xn, xv, xk, xkey, xtext, xb, xt, hq⟩ := outV_is (accS r n v k key text b t L bad) r n v k key text b t
  exact ⟨_, xr, xn, xv, xk, xkey, xtext, xb, xt, ⟨r, n, v, k, key, text, b, t, L, bad, hr, rfl, hq⟩, by rw [hq], hx⟩
theorem get_y (A : Option Addr) (n0 c0 : Nat) (B : List UInt8) (w : World) (h : Bs w A B) (hn : n0 = B.length) (hcap : n0 ≤ c0) (hm : B.length ≤ 1000000) (ht : Tabs w) {a : Bool} {xr xn : Int} {xv : V7} {xk : Int} {xkey xtext : ByteArray} {xb xt : Int} (hB : Both B a xr xn xv xk xkey xtext xb xt) :
    Calls Tryd.prog 13 #[.slice A n0 c0] w fun e w' => e = .returned (.tuple #[shv xr xn xv xk xkey xtext xb xt, .bool a]) ∧ Ext w w' := by
  refine (srefget_any A n0 c0 B w h hn hcap hm ht).mono ?_
  rintro e w' ⟨⟨r', n', v', k', key', text', b', t', L', bad', hr', rfl⟩, hx⟩
  obtain ⟨r, n, v, k, key, text, b, t, L, bad, hr, rfl, hq⟩ := hB
  obtain ⟨h1, h2⟩ := acc_both hr hr'
  rw [← h2, ← h1, hq]
  exact ⟨rfl, hx⟩
set_option maxHeartbeats 8000000 in
theorem sbytes_any (r n : Int) (v : V7) (k : Int) (key text : ByteArray) (b t : Int) (a : V7) (A0 : Option Addr) (c0' : Nat) (B : List UInt8) (w : World) (hB : Bs w A0 B) (hcap : B.length ≤ c0') (hk : -9223372036854775808 ≤ k ∧ k ≤ 9223372036854775807) (ht : Tabs w) :
    Calls Tryd.prog 4 #[shv r n v k key text b t, vf a, .slice A0 B.length c0'] w fun e w' => e = .returned (.bool true) ∧ Ext w w' := by
  obtain ⟨h, Hh⟩ : ∃ h, Hid (w.heap.size = h) := ⟨_, Lib.hid rfl⟩
  obtain ⟨w1, H1, S1, hx1, hb1⟩ := allocS w r n v k key text b t 28 h Hh.out
  obtain ⟨w2, H2, S2, hx2, ha2, -, -⟩ := alloc7 w1 a 26 (h + 1) S1.out
  have hX2 := hx1.trans hx2
  have hb2 := hb1.ext hx2
  have kl := fun W => long_any r n v k key text b t W
  have hh := Hh.out
  have s1 := S1.out
  have h1 := H1.out
  have h2 := H2.out
  obtain ⟨m, Hm⟩ : ∃ m, Hid (B.length = m) := ⟨_, Lib.hid rfl⟩
  rw [Hm.out] at hcap ⊢
  unfold shv at kl
  unfold shv
  unfold vf
  go_enter Tryd.func4, Tryd.ntmps4
  go_wp2_with fail
  clear h1 h2 hh s1
  refine (sawake_any _ (ht.ext hX2)).mono ?_
  rintro e w3 ⟨rfl, x3⟩
  have hX3 := hX2.trans x3
  have hb3 := hb2.ext x3
  have ha3 := ha2.ext x3
  obtain ⟨c0, c1, c2, c3, c4, c5, c6, c7, c8, c9, c10, c11, c12, c13⟩ := hb3.cells
  go_wp2_with fail
  refine (kl _).mono ?_
  rintro e w4 ⟨rfl, x4⟩
  clear c0 c1 c2 c3 c4 c5 c6 c7 c8 c9 c10 c11 c12 c13
  have hX4 := hX3.trans x4
  have hb4 := hb3.ext x4
  have ha4 := ha3.ext x4
  have hB4 := hB.ext hX4
  cases ql : longS key text with
  | true =>
    go_wp2
    all_goals go_ret
    all_goals exact ⟨rfl, hX4⟩
  | false =>
    have hsz : key.size ≤ 100 ∧ text.size ≤ 150 := by
      simp only [longS, Bool.or_eq_false_iff, decide_eq_false_iff_not] at ql
      omega
    by_cases qm : 500 < m
    · go_wp2
      all_goals go_ret
      all_goals exact ⟨rfl, hX4⟩
    · have k1 := fun W hW => sgood_any r n v k key text b t W (by omega) hk hW
      have k3 := fun W => sh_any r n v k key text b t W
      have k4 := fun W hW => srefgood_any r n v k key text b t W (by omega) hk hW
      have k8 := fun W hW => sput_any r n v k key text b t W (by omega) hk hW
      have k12 := fun W hW => srefput_any r n v k key text b t W (by omega) hk hW
      have k38 := fun W => ready_any r n v k key text b t a W
      have k42 := fun W => refready_any r n v k key text b t a W
      have kx := fun W hW => get_x A0 m c0' B W (hB.ext hW) Hm.out.symm hcap (by rw [Hm.out]; omega) (ht.ext hW)
      have ky := fun W (hW : Ext w W) aa xr xn xv xk xkey xtext xb xt h => get_y A0 m c0' B W (hB.ext hW) Hm.out.symm hcap (by rw [Hm.out]; omega) (ht.ext hW) (a := aa) (xr := xr) (xn := xn) (xv := xv) (xk := xk) (xkey := xkey) (xtext := xtext) (xb := xb) (xt := xt) h
      generalize goodS r n v k key text b t = g at k1 k4
      generalize putS_ r n v k key text b t = pb at k8 k12
      generalize readyS r n v a = rd at k38 k42
      unfold shv at k1 k3 k4 k8 k12 k38 k42 ky
      unfold vf at k38 k42
      go_wp2_with fail
      refine (kx _ hX4).mono ?_
      rintro e w5 ⟨aa, xr, xn, xv, xk, xkey, xtext, xb, xt, hBoth, rfl, x5⟩
      unfold shv
      have hX5 := hX4.trans x5
      obtain ⟨h1, Hh1⟩ : ∃ h, Hid (w5.heap.size = h) := ⟨_, Lib.hid rfl⟩
      obtain ⟨a1, Ha1, Sa1, xa1, ba1⟩ := allocS w5 0 0 (fun _ => 0) 0 ⟨#[]⟩ ⟨#[]⟩ 0 0 28 h1 Hh1.out
      obtain ⟨z1, Hz1, bz1, kz1, -, Sz1⟩ := putS (r' := xr) (n' := xn) (v' := xv) (k' := xk) (key' := xkey) (text' := xtext) (b' := xb) (t' := xt) (h := ba1)
      have xz1 : Ext w5 z1 := kz1 _ xa1 (by rw [Hh1.out]; exact Nat.le_refl _)
      obtain ⟨p0, p1, p2, p3, p4, p5, p6, p7, p8, p9, p10, p11, p12, p13⟩ := ba1.cells
      obtain ⟨q0, q1, q2, q3, q4, q5, q6, q7, q8, q9, q10, q11, q12, q13⟩ := ba1.frs
      have rh := Hh1.out
      have ra := Ha1.out
      have rz := Hz1.out
      have hX6 := hX5.trans xz1
      go_wp2_with fail
      clear rh ra rz p0 p1 p2 p3 p4 p5 p6 p7 p8 p9 p10 p11 p12 p13 q0 q1 q2 q3 q4 q5 q6 q7 q8 q9 q10 q11 q12 q13
      refine (ky _ hX6 aa xr xn xv xk xkey xtext xb xt hBoth).mono ?_
      rintro e w7 ⟨rfl, x7⟩
      obtain ⟨h2, Hh2⟩ : ∃ h, Hid (w7.heap.size = h) := ⟨_, Lib.hid rfl⟩
      obtain ⟨a2, Ha2, Sa2, xa2, ba2⟩ := allocS w7 0 0 (fun _ => 0) 0 ⟨#[]⟩ ⟨#[]⟩ 0 0 38 h2 Hh2.out
      obtain ⟨z2, Hz2, bz2, kz2, -, Sz2⟩ := putS (r' := xr) (n' := xn) (v' := xv) (k' := xk) (key' := xkey) (text' := xtext) (b' := xb) (t' := xt) (h := ba2)
      have xz2 : Ext w7 z2 := kz2 _ xa2 (by rw [Hh2.out]; exact Nat.le_refl _)
      obtain ⟨p0, p1, p2, p3, p4, p5, p6, p7, p8, p9, p10, p11, p12, p13⟩ := ba2.cells
      obtain ⟨q0, q1, q2, q3, q4, q5, q6, q7, q8, q9, q10, q11, q12, q13⟩ := ba2.frs
      have rh := Hh2.out
      have ra := Ha2.out
      have rz := Hz2.out
      have hXz := (hX6.trans x7).trans xz2
      have bs := ((hb4.ext x5).ext xz1).ext (x7.trans xz2)
      have bx := bz1.ext (x7.trans xz2)
      have ba := ((ha4.ext x5).ext xz1).ext (x7.trans xz2)
      go_wp2
      clear rh ra rz p0 p1 p2 p3 p4 p5 p6 p7 p8 p9 p10 p11 p12 p13 q0 q1 q2 q3 q4 q5 q6 q7 q8 q9 q10 q11 q12 q13
      obtain ⟨s0, s1, s2, s3, s4, s5, s6, s7, s8, s9, s10, s11, s12, s13⟩ := bs.rules
      obtain ⟨u0, u1, u2, u3, u4, u5, u6, u7, u8, u9, u10, u11, u12, u13⟩ := bx.rules
      obtain ⟨y0, y1, y2, y3, y4, y5, y6, y7, y8, y9, y10, y11, y12, y13⟩ := bz2.rules
      obtain ⟨e0, e1, e2, e3, e4, e5, e6⟩ := ba.rules
      have hTz := ht.ext hXz
      have hS := Str_toList
      have xT := Ext.refl z2
      have k18 := fun W => sh_any xr xn xv xk xkey xtext xb xt W
      have heqs : ∀ W, (Op.equalIn 10000 38 (shv xr xn xv xk xkey xtext xb xt) (shv xr xn xv xk xkey xtext xb xt)).run Tryd.prog W = .ok true W := fun W => by
        have h := run_eqS38 xr xn xv xk xkey xtext xb xt xr xn xv xk xkey xtext xb xt W
        rw [eqS_refl] at h
        exact h
      unfold shv at k18 heqs
      clear kx ky hBoth hb1 hb2 hb3 hb4 ha2 ha3 ha4
      cases aa with
      | false =>
        as_aux_lemma =>
          simp only [cond_true, cond_false]
          refine start_ (n := 46) (S := (fun W => Ext z2 W)) (ds := []) #[false, false, false, false, false, false, false, false, false, false, false, false, false, false, false, false, false, false, false, false, false, false, false, false, false, false, false, false, false, false, false, false, false, false, false, false, false, false, false, false, false, false, false, false, false, false] (by kernel_rfl) (by kernel_rfl) (by kernel_rfl) (xT.drew) (fun hHeld => ?_)
          refine take_ (i := 0) (N := (some 30)) (v := ?_) (a' := ?_) #[true, false, false, false, false, false, false, false, false, false, false, false, false, false, false, false, false, false, false, false, false, false, false, false, false, false, false, false, false, false, false, false, false, false, false, false, false, false, false, false, false, false, false, false, false, false] rfl rfl (by as_aux_lemma => kernel_rfl) (fun _ _ _ h => h) (Or.inl ⟨by rfl, ?_⟩) (by assumption) ?_ ?_
          rotate_left
          · intro w' hSw; (try dsimp only at hSw)
            go_simp
            try with_reducible rfl
          rotate_left
          · simp only [Act.put, List.setIfInBounds_toArray, List.set_cons_zero, List.set_cons_succ]
            rfl
          refine take_ (i := 2) (N := (some 32)) (v := ?_) (a' := ?_) #[true, false, true, false, false, false, false, false, false, false, false, false, false, false, false, false, false, false, false, false, false, false, false, false, false, false, false, false, false, false, false, false, false, false, false, false, false, false, false, false, false, false, false, false, false, false] rfl rfl (by as_aux_lemma => kernel_rfl) (fun _ _ _ h => h) (Or.inl ⟨by rfl, ?_⟩) (by assumption) ?_ ?_
          rotate_left
          · intro w' hSw; (try dsimp only at hSw)
            go_simp
            try with_reducible rfl
          rotate_left
          · simp only [Act.put, List.setIfInBounds_toArray, List.set_cons_zero, List.set_cons_succ]
            rfl
          refine one_ (i := 1) (N := (some 31)) #[true, true, true, false, false, false, false, false, false, false, false, false, false, false, false, false, false, false, false, false, false, false, false, false, false, false, false, false, false, false, false, false, false, false, false, false, false, false, false, false, false, false, false, false, false, false] rfl rfl (by as_aux_lemma => kernel_rfl) (by simp) (fun K hK => ?_)
          go_simp
          refine (k1 _ (hTz.ext hHeld)).mono ?_
          rintro e w' ⟨rfl, xx⟩
          refine hK.out _ _ ?_ (fun hHeld => ?_)
          · first | assumption | exact hHeld.trans (by assumption)
          clear hK K
          (try simp only [Act.put, List.setIfInBounds_toArray, List.set_cons_zero, List.set_cons_succ])
          refine one_ (i := 3) (N := (some 33)) #[true, true, true, true, false, false, false, false, false, false, false, false, false, false, false, false, false, false, false, false, false, false, false, false, false, false, false, false, false, false, false, false, false, false, false, false, false, false, false, false, false, false, false, false, false, false] rfl rfl (by as_aux_lemma => kernel_rfl) (by simp) (fun K hK => ?_)
          go_simp
          refine (k3 _).mono ?_
          rintro e w' ⟨rfl, xx⟩
          refine hK.out _ _ ?_ (fun hHeld => ?_)
          · first | assumption | exact hHeld.trans (by assumption)
          clear hK K
          (try simp only [Act.put, List.setIfInBounds_toArray, List.set_cons_zero, List.set_cons_succ])
          refine one_ (i := 4) (N := (some 34)) #[true, true, true, true, true, false, false, false, false, false, false, false, false, false, false, false, false, false, false, false, false, false, false, false, false, false, false, false, false, false, false, false, false, false, false, false, false, false, false, false, false, false, false, false, false, false] rfl rfl (by as_aux_lemma => kernel_rfl) (by simp) (fun K hK => ?_)
          go_simp
          refine (k4 _ (hTz.ext hHeld)).mono ?_
          rintro e w' ⟨rfl, xx⟩
          refine hK.out _ _ ?_ (fun hHeld => ?_)
          · first | assumption | exact hHeld.trans (by assumption)
          clear hK K
          (try simp only [Act.put, List.setIfInBounds_toArray, List.set_cons_zero, List.set_cons_succ])
          refine take_ (i := 5) (N := (some 35)) (v := ?_) (a' := ?_) #[true, true, true, true, true, true, false, false, false, false, false, false, false, false, false, false, false, false, false, false, false, false, false, false, false, false, false, false, false, false, false, false, false, false, false, false, false, false, false, false, false, false, false, false, false, false] rfl rfl (by as_aux_lemma => kernel_rfl) (fun _ _ _ h => h) (Or.inl ⟨by rfl, ?_⟩) (by assumption) ?_ ?_
          rotate_left
          · intro w' hSw; (try dsimp only at hSw)
            go_simp
            try with_reducible rfl
          rotate_left
          · simp only [Act.put, List.setIfInBounds_toArray, List.set_cons_zero, List.set_cons_succ]
            rfl
          refine take_ (i := 6) (N := (some 36)) (v := ?_) (a' := ?_) #[true, true, true, true, true, true, true, false, false, false, false, false, false, false, false, false, false, false, false, false, false, false, false, false, false, false, false, false, false, false, false, false, false, false, false, false, false, false, false, false, false, false, false, false, false, false] rfl rfl (by as_aux_lemma => kernel_rfl) (fun _ _ _ h => h) (Or.inl ⟨by rfl, ?_⟩) (by assumption) ?_ ?_
          rotate_left
          · intro w' hSw; (try dsimp only at hSw)
            go_simp
            try with_reducible rfl
          rotate_left
          · simp only [Act.put, List.setIfInBounds_toArray, List.set_cons_zero, List.set_cons_succ]
            rfl
          refine take_ (i := 7) (N := (some 37)) (v := ?_) (a' := ?_) #[true, true, true, true, true, true, true, true, false, false, false, false, false, false, false, false, false, false, false, false, false, false, false, false, false, false, false, false, false, false, false, false, false, false, false, false, false, false, false, false, false, false, false, false, false, false] rfl rfl (by as_aux_lemma => kernel_rfl) (fun _ _ _ h => h) (Or.inl ⟨by rfl, ?_⟩) (by assumption) ?_ ?_
          rotate_left
          · intro w' hSw; (try dsimp only at hSw)
            go_simp
            try with_reducible rfl
          rotate_left
          · simp only [Act.put, List.setIfInBounds_toArray, List.set_cons_zero, List.set_cons_succ]
            rfl
          refine take_ (i := 10) (N := (some 40)) (v := ?_) (a' := ?_) #[true, true, true, true, true, true, true, true, false, false, true, false, false, false, false, false, false, false, false, false, false, false, false, false, false, false, false, false, false, false, false, false, false, false, false, false, false, false, false, false, false, false, false, false, false, false] rfl rfl (by as_aux_lemma => kernel_rfl) (fun _ _ _ h => h) (Or.inl ⟨by rfl, ?_⟩) (by assumption) ?_ ?_
          rotate_left
          · intro w' hSw; (try dsimp only at hSw)
            go_simp
            try with_reducible rfl
          rotate_left
          · simp only [Act.put, List.setIfInBounds_toArray, List.set_cons_zero, List.set_cons_succ]
            rfl
          refine one_ (i := 8) (N := (some 38)) #[true, true, true, true, true, true, true, true, true, false, true, false, false, false, false, false, false, false, false, false, false, false, false, false, false, false, false, false, false, false, false, false, false, false, false, false, false, false, false, false, false, false, false, false, false, false] rfl rfl (by as_aux_lemma => kernel_rfl) (by simp) (fun K hK => ?_)
          go_simp
          refine (k8 _ (hTz.ext (hHeld))).mono ?_
          rintro e wp ⟨vv, rfl, ho, xx⟩
          obtain ⟨Awp, cwp, rfl, -, hBwp⟩ := ho.reads
          clear ho
          have yywp := hHeld.trans xx
          obtain ⟨mwp, Hmwp⟩ : ∃ m, Hid (pb.length = m) := ⟨_, Lib.hid rfl⟩
          rw [Hmwp.out]
          have hcwp : ∀ W, Ext wp W → (convert 29 9 (.slice Awp mwp cwp)).run Tryd.prog W = .ok (.string (Str pb)) W := fun W hW => (hBwp.ext hW).string _ _ Hmwp.out.symm
          have ps0 := fun W (e : Ext wp W) => s0 W (yywp.trans e)
          have ps1 := fun W (e : Ext wp W) => s1 W (yywp.trans e)
          have ps2 := fun W (e : Ext wp W) => s2 W (yywp.trans e)
          have ps3 := fun W (e : Ext wp W) => s3 W (yywp.trans e)
          have ps4 := fun W (e : Ext wp W) => s4 W (yywp.trans e)
          have ps5 := fun W (e : Ext wp W) => s5 W (yywp.trans e)
          have ps6 := fun W (e : Ext wp W) => s6 W (yywp.trans e)
          have ps7 := fun W (e : Ext wp W) => s7 W (yywp.trans e)
          have ps8 := fun W (e : Ext wp W) => s8 W (yywp.trans e)
          have ps9 := fun W (e : Ext wp W) => s9 W (yywp.trans e)
          have ps10 := fun W (e : Ext wp W) => s10 W (yywp.trans e)
          have ps11 := fun W (e : Ext wp W) => s11 W (yywp.trans e)
          have ps12 := fun W (e : Ext wp W) => s12 W (yywp.trans e)
          have ps13 := fun W (e : Ext wp W) => s13 W (yywp.trans e)
          have pu0 := fun W (e : Ext wp W) => u0 W (yywp.trans e)
          have pu1 := fun W (e : Ext wp W) => u1 W (yywp.trans e)
          have pu2 := fun W (e : Ext wp W) => u2 W (yywp.trans e)
          have pu3 := fun W (e : Ext wp W) => u3 W (yywp.trans e)
          have pu4 := fun W (e : Ext wp W) => u4 W (yywp.trans e)
          have pu5 := fun W (e : Ext wp W) => u5 W (yywp.trans e)
          have pu6 := fun W (e : Ext wp W) => u6 W (yywp.trans e)
          have pu7 := fun W (e : Ext wp W) => u7 W (yywp.trans e)
          have pu8 := fun W (e : Ext wp W) => u8 W (yywp.trans e)
          have pu9 := fun W (e : Ext wp W) => u9 W (yywp.trans e)
          have pu10 := fun W (e : Ext wp W) => u10 W (yywp.trans e)
          have pu11 := fun W (e : Ext wp W) => u11 W (yywp.trans e)
          have pu12 := fun W (e : Ext wp W) => u12 W (yywp.trans e)
          have pu13 := fun W (e : Ext wp W) => u13 W (yywp.trans e)
          have py0 := fun W (e : Ext wp W) => y0 W (yywp.trans e)
          have py1 := fun W (e : Ext wp W) => y1 W (yywp.trans e)
          have py2 := fun W (e : Ext wp W) => y2 W (yywp.trans e)
          have py3 := fun W (e : Ext wp W) => y3 W (yywp.trans e)
          have py4 := fun W (e : Ext wp W) => y4 W (yywp.trans e)
          have py5 := fun W (e : Ext wp W) => y5 W (yywp.trans e)
          have py6 := fun W (e : Ext wp W) => y6 W (yywp.trans e)
          have py7 := fun W (e : Ext wp W) => y7 W (yywp.trans e)
          have py8 := fun W (e : Ext wp W) => y8 W (yywp.trans e)
          have py9 := fun W (e : Ext wp W) => y9 W (yywp.trans e)
          have py10 := fun W (e : Ext wp W) => y10 W (yywp.trans e)
          have py11 := fun W (e : Ext wp W) => y11 W (yywp.trans e)
          have py12 := fun W (e : Ext wp W) => y12 W (yywp.trans e)
          have py13 := fun W (e : Ext wp W) => y13 W (yywp.trans e)
          have pe0 := fun W (e : Ext wp W) => e0 W (yywp.trans e)
          have pe1 := fun W (e : Ext wp W) => e1 W (yywp.trans e)
          have pe2 := fun W (e : Ext wp W) => e2 W (yywp.trans e)
          have pe3 := fun W (e : Ext wp W) => e3 W (yywp.trans e)
          have pe4 := fun W (e : Ext wp W) => e4 W (yywp.trans e)
          have pe5 := fun W (e : Ext wp W) => e5 W (yywp.trans e)
          have pe6 := fun W (e : Ext wp W) => e6 W (yywp.trans e)
          refine hK.out _ _ ?_ (fun hHeld => ?_)
          · exact yywp
          clear hK K
          (try simp only [Act.put, List.setIfInBounds_toArray, List.set_cons_zero, List.set_cons_succ])
          refine switch_ (S' := (fun W => Ext wp W)) (fun W hW => yywp.trans hW) (Ext.refl wp) ?_
          have hHeld : Ext wp wp := Ext.refl wp
          refine take_ (i := 9) (N := (some 39)) (v := ?_) (a' := ?_) #[true, true, true, true, true, true, true, true, true, true, true, false, false, false, false, false, false, false, false, false, false, false, false, false, false, false, false, false, false, false, false, false, false, false, false, false, false, false, false, false, false, false, false, false, false, false] rfl rfl (by as_aux_lemma => kernel_rfl) (fun _ _ _ h => h) (Or.inl ⟨by rfl, ?_⟩) (by assumption) ?_ ?_
          rotate_left
          · intro w' hSw; (try dsimp only at hSw)
            go_simp
            try with_reducible rfl
          rotate_left
          · simp only [Act.put, List.setIfInBounds_toArray, List.set_cons_zero, List.set_cons_succ]
            rfl
          refine one_ (i := 11) (N := (some 41)) #[true, true, true, true, true, true, true, true, true, true, true, true, false, false, false, false, false, false, false, false, false, false, false, false, false, false, false, false, false, false, false, false, false, false, false, false, false, false, false, false, false, false, false, false, false, false] rfl rfl (by as_aux_lemma => kernel_rfl) (by simp) (fun K hK => ?_)
          go_simp
          refine (k3 _).mono ?_
          rintro e w' ⟨rfl, xx⟩
          refine hK.out _ _ ?_ (fun hHeld => ?_)
          · first | assumption | exact hHeld.trans (by assumption)
          clear hK K
          (try simp only [Act.put, List.setIfInBounds_toArray, List.set_cons_zero, List.set_cons_succ])
          refine one_ (i := 12) (N := (some 42)) #[true, true, true, true, true, true, true, true, true, true, true, true, true, false, false, false, false, false, false, false, false, false, false, false, false, false, false, false, false, false, false, false, false, false, false, false, false, false, false, false, false, false, false, false, false, false] rfl rfl (by as_aux_lemma => kernel_rfl) (by simp) (fun K hK => ?_)
          go_simp
          refine (k12 _ (hTz.ext (yywp.trans hHeld))).mono ?_
          rintro e wq ⟨vv, rfl, ho, xx⟩
          obtain ⟨Awq, cwq, rfl, -, hBwq⟩ := ho.reads
          clear ho
          have yywq := hHeld.trans xx
          obtain ⟨mwq, Hmwq⟩ : ∃ m, Hid (pb.length = m) := ⟨_, Lib.hid rfl⟩
          rw [Hmwq.out]
          have hcwq : ∀ W, Ext wq W → (convert 29 9 (.slice Awq mwq cwq)).run Tryd.prog W = .ok (.string (Str pb)) W := fun W hW => (hBwq.ext hW).string _ _ Hmwq.out.symm
          have qs0 := fun W (e : Ext wq W) => ps0 W (yywq.trans e)
          have qs1 := fun W (e : Ext wq W) => ps1 W (yywq.trans e)
          have qs2 := fun W (e : Ext wq W) => ps2 W (yywq.trans e)
          have qs3 := fun W (e : Ext wq W) => ps3 W (yywq.trans e)
          have qs4 := fun W (e : Ext wq W) => ps4 W (yywq.trans e)
          have qs5 := fun W (e : Ext wq W) => ps5 W (yywq.trans e)
          have qs6 := fun W (e : Ext wq W) => ps6 W (yywq.trans e)
          have qs7 := fun W (e : Ext wq W) => ps7 W (yywq.trans e)
          have qs8 := fun W (e : Ext wq W) => ps8 W (yywq.trans e)
          have qs9 := fun W (e : Ext wq W) => ps9 W (yywq.trans e)
          have qs10 := fun W (e : Ext wq W) => ps10 W (yywq.trans e)
          have qs11 := fun W (e : Ext wq W) => ps11 W (yywq.trans e)
          have qs12 := fun W (e : Ext wq W) => ps12 W (yywq.trans e)
          have qs13 := fun W (e : Ext wq W) => ps13 W (yywq.trans e)
          have qu0 := fun W (e : Ext wq W) => pu0 W (yywq.trans e)
          have qu1 := fun W (e : Ext wq W) => pu1 W (yywq.trans e)
          have qu2 := fun W (e : Ext wq W) => pu2 W (yywq.trans e)
          have qu3 := fun W (e : Ext wq W) => pu3 W (yywq.trans e)
          have qu4 := fun W (e : Ext wq W) => pu4 W (yywq.trans e)
          have qu5 := fun W (e : Ext wq W) => pu5 W (yywq.trans e)
          have qu6 := fun W (e : Ext wq W) => pu6 W (yywq.trans e)
          have qu7 := fun W (e : Ext wq W) => pu7 W (yywq.trans e)
          have qu8 := fun W (e : Ext wq W) => pu8 W (yywq.trans e)
          have qu9 := fun W (e : Ext wq W) => pu9 W (yywq.trans e)
          have qu10 := fun W (e : Ext wq W) => pu10 W (yywq.trans e)
          have qu11 := fun W (e : Ext wq W) => pu11 W (yywq.trans e)
          have qu12 := fun W (e : Ext wq W) => pu12 W (yywq.trans e)
          have qu13 := fun W (e : Ext wq W) => pu13 W (yywq.trans e)
          have qy0 := fun W (e : Ext wq W) => py0 W (yywq.trans e)
          have qy1 := fun W (e : Ext wq W) => py1 W (yywq.trans e)
          have qy2 := fun W (e : Ext wq W) => py2 W (yywq.trans e)
          have qy3 := fun W (e : Ext wq W) => py3 W (yywq.trans e)
          have qy4 := fun W (e : Ext wq W) => py4 W (yywq.trans e)
          have qy5 := fun W (e : Ext wq W) => py5 W (yywq.trans e)
          have qy6 := fun W (e : Ext wq W) => py6 W (yywq.trans e)
          have qy7 := fun W (e : Ext wq W) => py7 W (yywq.trans e)
          have qy8 := fun W (e : Ext wq W) => py8 W (yywq.trans e)
          have qy9 := fun W (e : Ext wq W) => py9 W (yywq.trans e)
          have qy10 := fun W (e : Ext wq W) => py10 W (yywq.trans e)
          have qy11 := fun W (e : Ext wq W) => py11 W (yywq.trans e)
          have qy12 := fun W (e : Ext wq W) => py12 W (yywq.trans e)
          have qy13 := fun W (e : Ext wq W) => py13 W (yywq.trans e)
          have qe0 := fun W (e : Ext wq W) => pe0 W (yywq.trans e)
          have qe1 := fun W (e : Ext wq W) => pe1 W (yywq.trans e)
          have qe2 := fun W (e : Ext wq W) => pe2 W (yywq.trans e)
          have qe3 := fun W (e : Ext wq W) => pe3 W (yywq.trans e)
          have qe4 := fun W (e : Ext wq W) => pe4 W (yywq.trans e)
          have qe5 := fun W (e : Ext wq W) => pe5 W (yywq.trans e)
          have qe6 := fun W (e : Ext wq W) => pe6 W (yywq.trans e)
          refine hK.out _ _ ?_ (fun hHeld => ?_)
          · exact yywq
          clear hK K
          (try simp only [Act.put, List.setIfInBounds_toArray, List.set_cons_zero, List.set_cons_succ])
          refine switch_ (S' := (fun W => Ext wq W)) (fun W hW => yywq.trans hW) (Ext.refl wq) ?_
          have hHeld : Ext wq wq := Ext.refl wq
          refine take_ (i := 13) (N := (some 43)) (v := ?_) (a' := ?_) #[true, true, true, true, true, true, true, true, true, true, true, true, true, true, false, false, false, false, false, false, false, false, false, false, false, false, false, false, false, false, false, false, false, false, false, false, false, false, false, false, false, false, false, false, false, false] rfl rfl (by as_aux_lemma => kernel_rfl) (fun _ _ _ h => h) (Or.inl ⟨by rfl, ?_⟩) (by assumption) ?_ ?_
          rotate_left
          · intro w' hSw; (try dsimp only at hSw)
            go_simp
            try with_reducible rfl
          rotate_left
          · simp only [Act.put, List.setIfInBounds_toArray, List.set_cons_zero, List.set_cons_succ]
            rfl
          refine take_ (i := 14) (N := (some 44)) (v := ?_) (a' := ?_) #[true, true, true, true, true, true, true, true, true, true, true, true, true, true, true, false, false, false, false, false, false, false, false, false, false, false, false, false, false, false, false, false, false, false, false, false, false, false, false, false, false, false, false, false, false, false] rfl rfl (by as_aux_lemma => kernel_rfl) (fun _ _ _ h => h) (Or.inl ⟨by rfl, ?_⟩) (by assumption) ?_ ?_
          rotate_left
          · intro w' hSw; (try dsimp only at hSw)
            go_simp
            try with_reducible rfl
          rotate_left
          · simp only [Act.put, List.setIfInBounds_toArray, List.set_cons_zero, List.set_cons_succ]
            rfl
          refine take_ (i := 15) (N := (some 45)) (v := ?_) (a' := ?_) #[true, true, true, true, true, true, true, true, true, true, true, true, true, true, true, true, false, false, false, false, false, false, false, false, false, false, false, false, false, false, false, false, false, false, false, false, false, false, false, false, false, false, false, false, false, false] rfl rfl (by as_aux_lemma => kernel_rfl) (fun _ _ _ h => h) (Or.inl ⟨by rfl, ?_⟩) (by assumption) ?_ ?_
          rotate_left
          · intro w' hSw; (try dsimp only at hSw)
            go_simp
            try with_reducible rfl
          rotate_left
          · simp only [Act.put, List.setIfInBounds_toArray, List.set_cons_zero, List.set_cons_succ]
            rfl
          refine take_ (i := 16) (N := (some 46)) (v := ?_) (a' := ?_) #[true, true, true, true, true, true, true, true, true, true, true, true, true, true, true, true, true, false, false, false, false, false, false, false, false, false, false, false, false, false, false, false, false, false, false, false, false, false, false, false, false, false, false, false, false, false] rfl rfl (by as_aux_lemma => kernel_rfl) (fun _ _ _ h => h) (Or.inl ⟨by rfl, ?_⟩) (by assumption) ?_ ?_
          rotate_left
          · intro w' hSw; (try dsimp only at hSw)
            go_simp
            try with_reducible rfl
          rotate_left
          · simp only [Act.put, List.setIfInBounds_toArray, List.set_cons_zero, List.set_cons_succ]
            rfl
          refine take_ (i := 17) (N := (some 47)) (v := ?_) (a' := ?_) #[true, true, true, true, true, true, true, true, true, true, true, true, true, true, true, true, true, true, false, false, false, false, false, false, false, false, false, false, false, false, false, false, false, false, false, false, false, false, false, false, false, false, false, false, false, false] rfl rfl (by as_aux_lemma => kernel_rfl) (fun _ _ _ h => h) (Or.inl ⟨by rfl, ?_⟩) (by assumption) ?_ ?_
          rotate_left
          · intro w' hSw; (try dsimp only at hSw)
            go_simp
            try with_reducible rfl
          rotate_left
          · simp only [Act.put, List.setIfInBounds_toArray, List.set_cons_zero, List.set_cons_succ]
            rfl
          refine take_ (i := 19) (N := (some 49)) (v := ?_) (a' := ?_) #[true, true, true, true, true, true, true, true, true, true, true, true, true, true, true, true, true, true, false, true, false, false, false, false, false, false, false, false, false, false, false, false, false, false, false, false, false, false, false, false, false, false, false, false, false, false] rfl rfl (by as_aux_lemma => kernel_rfl) (fun _ _ _ h => h) (Or.inl ⟨by rfl, ?_⟩) (by assumption) ?_ ?_
          rotate_left
          · intro w' hSw; (try dsimp only at hSw)
            go_simp
            try with_reducible rfl
          rotate_left
          · simp only [Act.put, List.setIfInBounds_toArray, List.set_cons_zero, List.set_cons_succ]
            rfl
          refine one_ (i := 18) (N := (some 48)) #[true, true, true, true, true, true, true, true, true, true, true, true, true, true, true, true, true, true, true, true, false, false, false, false, false, false, false, false, false, false, false, false, false, false, false, false, false, false, false, false, false, false, false, false, false, false] rfl rfl (by as_aux_lemma => kernel_rfl) (by simp) (fun K hK => ?_)
          go_simp
          refine (k18 _).mono ?_
          rintro e w' ⟨rfl, xx⟩
          refine hK.out _ _ ?_ (fun hHeld => ?_)
          · first | assumption | exact hHeld.trans (by assumption)
          clear hK K
          (try simp only [Act.put, List.setIfInBounds_toArray, List.set_cons_zero, List.set_cons_succ])
          refine take_ (i := 20) (N := (some 50)) (v := ?_) (a' := ?_) #[true, true, true, true, true, true, true, true, true, true, true, true, true, true, true, true, true, true, true, true, true, false, false, false, false, false, false, false, false, false, false, false, false, false, false, false, false, false, false, false, false, false, false, false, false, false] rfl rfl (by as_aux_lemma => kernel_rfl) (fun _ _ _ h => h) (Or.inl ⟨by rfl, ?_⟩) (by assumption) ?_ ?_
          rotate_left
          · intro w' hSw; (try dsimp only at hSw)
            go_simp
            try with_reducible rfl
          rotate_left
          · simp only [Act.put, List.setIfInBounds_toArray, List.set_cons_zero, List.set_cons_succ]
            rfl
          refine take_ (i := 21) (N := (some 51)) (v := ?_) (a' := ?_) #[true, true, true, true, true, true, true, true, true, true, true, true, true, true, true, true, true, true, true, true, true, true, false, false, false, false, false, false, false, false, false, false, false, false, false, false, false, false, false, false, false, false, false, false, false, false] rfl rfl (by as_aux_lemma => kernel_rfl) (fun _ _ _ h => h) (Or.inl ⟨by rfl, ?_⟩) (by assumption) ?_ ?_
          rotate_left
          · intro w' hSw; (try dsimp only at hSw)
            go_simp
            try with_reducible rfl
          rotate_left
          · simp only [Act.put, List.setIfInBounds_toArray, List.set_cons_zero, List.set_cons_succ]
            rfl
          refine take_ (i := 22) (N := (some 52)) (v := ?_) (a' := ?_) #[true, true, true, true, true, true, true, true, true, true, true, true, true, true, true, true, true, true, true, true, true, true, true, false, false, false, false, false, false, false, false, false, false, false, false, false, false, false, false, false, false, false, false, false, false, false] rfl rfl (by as_aux_lemma => kernel_rfl) (fun _ _ _ h => h) (Or.inl ⟨by rfl, ?_⟩) (by assumption) ?_ ?_
          rotate_left
          · intro w' hSw; (try dsimp only at hSw)
            go_simp
            try with_reducible rfl
          rotate_left
          · simp only [Act.put, List.setIfInBounds_toArray, List.set_cons_zero, List.set_cons_succ]
            rfl
          refine take_ (i := 23) (N := (some 53)) (v := ?_) (a' := ?_) #[true, true, true, true, true, true, true, true, true, true, true, true, true, true, true, true, true, true, true, true, true, true, true, true, false, false, false, false, false, false, false, false, false, false, false, false, false, false, false, false, false, false, false, false, false, false] rfl rfl (by as_aux_lemma => kernel_rfl) (fun _ _ _ h => h) (Or.inl ⟨by rfl, ?_⟩) (by assumption) ?_ ?_
          rotate_left
          · intro w' hSw; (try dsimp only at hSw)
            go_simp
            try with_reducible rfl
          rotate_left
          · simp only [Act.put, List.setIfInBounds_toArray, List.set_cons_zero, List.set_cons_succ]
            rfl
          refine take_ (i := 24) (N := (some 54)) (v := ?_) (a' := ?_) #[true, true, true, true, true, true, true, true, true, true, true, true, true, true, true, true, true, true, true, true, true, true, true, true, true, false, false, false, false, false, false, false, false, false, false, false, false, false, false, false, false, false, false, false, false, false] rfl rfl (by as_aux_lemma => kernel_rfl) (fun _ _ _ h => h) (Or.inl ⟨by rfl, ?_⟩) (by assumption) ?_ ?_
          rotate_left
          · intro w' hSw; (try dsimp only at hSw)
            go_simp
            try with_reducible rfl
          rotate_left
          · simp only [Act.put, List.setIfInBounds_toArray, List.set_cons_zero, List.set_cons_succ]
            rfl
          refine take_ (i := 25) (N := (some 55)) (v := ?_) (a' := ?_) #[true, true, true, true, true, true, true, true, true, true, true, true, true, true, true, true, true, true, true, true, true, true, true, true, true, true, false, false, false, false, false, false, false, false, false, false, false, false, false, false, false, false, false, false, false, false] rfl rfl (by as_aux_lemma => kernel_rfl) (fun _ _ _ h => h) (Or.inl ⟨by rfl, ?_⟩) (by assumption) ?_ ?_
          rotate_left
          · intro w' hSw; (try dsimp only at hSw)
            go_simp
            try with_reducible rfl
          rotate_left
          · simp only [Act.put, List.setIfInBounds_toArray, List.set_cons_zero, List.set_cons_succ]
            rfl
          refine take_ (i := 26) (N := (some 56)) (v := ?_) (a' := ?_) #[true, true, true, true, true, true, true, true, true, true, true, true, true, true, true, true, true, true, true, true, true, true, true, true, true, true, true, false, false, false, false, false, false, false, false, false, false, false, false, false, false, false, false, false, false, false] rfl rfl (by as_aux_lemma => kernel_rfl) (fun _ _ _ h => h) (Or.inl ⟨by rfl, ?_⟩) (by assumption) ?_ ?_
          rotate_left
          · intro w' hSw; (try dsimp only at hSw)
            go_simp
            try with_reducible rfl
          rotate_left
          · simp only [Act.put, List.setIfInBounds_toArray, List.set_cons_zero, List.set_cons_succ]
            rfl
          refine take_ (i := 27) (N := (some 57)) (v := ?_) (a' := ?_) #[true, true, true, true, true, true, true, true, true, true, true, true, true, true, true, true, true, true, true, true, true, true, true, true, true, true, true, true, false, false, false, false, false, false, false, false, false, false, false, false, false, false, false, false, false, false] rfl rfl (by as_aux_lemma => kernel_rfl) (fun _ _ _ h => h) (Or.inl ⟨by rfl, ?_⟩) (by assumption) ?_ ?_
          rotate_left
          · intro w' hSw; (try dsimp only at hSw)
            go_simp
            try with_reducible rfl
          rotate_left
          · simp only [Act.put, List.setIfInBounds_toArray, List.set_cons_zero, List.set_cons_succ]
            rfl
          refine take_ (i := 28) (N := (some 58)) (v := ?_) (a' := ?_) #[true, true, true, true, true, true, true, true, true, true, true, true, true, true, true, true, true, true, true, true, true, true, true, true, true, true, true, true, true, false, false, false, false, false, false, false, false, false, false, false, false, false, false, false, false, false] rfl rfl (by as_aux_lemma => kernel_rfl) (fun _ _ _ h => h) (Or.inl ⟨by rfl, ?_⟩) (by assumption) ?_ ?_
          rotate_left
          · intro w' hSw; (try dsimp only at hSw)
            go_simp
            try with_reducible rfl
          rotate_left
          · simp only [Act.put, List.setIfInBounds_toArray, List.set_cons_zero, List.set_cons_succ]
            rfl
          refine take_ (i := 29) (N := (some 59)) (v := ?_) (a' := ?_) #[true, true, true, true, true, true, true, true, true, true, true, true, true, true, true, true, true, true, true, true, true, true, true, true, true, true, true, true, true, true, false, false, false, false, false, false, false, false, false, false, false, false, false, false, false, false] rfl rfl (by as_aux_lemma => kernel_rfl) (fun _ _ _ h => h) (Or.inl ⟨by rfl, ?_⟩) (by assumption) ?_ ?_
          rotate_left
          · intro w' hSw; (try dsimp only at hSw)
            go_simp
            try with_reducible rfl
          rotate_left
          · simp only [Act.put, List.setIfInBounds_toArray, List.set_cons_zero, List.set_cons_succ]
            rfl
          refine take_ (i := 30) (N := (some 60)) (v := ?_) (a' := ?_) #[true, true, true, true, true, true, true, true, true, true, true, true, true, true, true, true, true, true, true, true, true, true, true, true, true, true, true, true, true, true, true, false, false, false, false, false, false, false, false, false, false, false, false, false, false, false] rfl rfl (by as_aux_lemma => kernel_rfl) (fun _ _ _ h => h) (Or.inl ⟨by rfl, ?_⟩) (by assumption) ?_ ?_
          rotate_left
          · intro w' hSw; (try dsimp only at hSw)
            go_simp
            try with_reducible rfl
          rotate_left
          · simp only [Act.put, List.setIfInBounds_toArray, List.set_cons_zero, List.set_cons_succ]
            rfl
          refine take_ (i := 31) (N := (some 61)) (v := ?_) (a' := ?_) #[true, true, true, true, true, true, true, true, true, true, true, true, true, true, true, true, true, true, true, true, true, true, true, true, true, true, true, true, true, true, true, true, false, false, false, false, false, false, false, false, false, false, false, false, false, false] rfl rfl (by as_aux_lemma => kernel_rfl) (fun _ _ _ h => h) (Or.inl ⟨by rfl, ?_⟩) (by assumption) ?_ ?_
          rotate_left
          · intro w' hSw; (try dsimp only at hSw)
            go_simp
            try with_reducible rfl
          rotate_left
          · simp only [Act.put, List.setIfInBounds_toArray, List.set_cons_zero, List.set_cons_succ]
            rfl
          refine take_ (i := 32) (N := (some 62)) (v := ?_) (a' := ?_) #[true, true, true, true, true, true, true, true, true, true, true, true, true, true, true, true, true, true, true, true, true, true, true, true, true, true, true, true, true, true, true, true, true, false, false, false, false, false, false, false, false, false, false, false, false, false] rfl rfl (by as_aux_lemma => kernel_rfl) (fun _ _ _ h => h) (Or.inl ⟨by rfl, ?_⟩) (by assumption) ?_ ?_
          rotate_left
          · intro w' hSw; (try dsimp only at hSw)
            go_simp
            try with_reducible rfl
          rotate_left
          · simp only [Act.put, List.setIfInBounds_toArray, List.set_cons_zero, List.set_cons_succ]
            rfl
          refine take_ (i := 33) (N := (some 63)) (v := ?_) (a' := ?_) #[true, true, true, true, true, true, true, true, true, true, true, true, true, true, true, true, true, true, true, true, true, true, true, true, true, true, true, true, true, true, true, true, true, true, false, false, false, false, false, false, false, false, false, false, false, false] rfl rfl (by as_aux_lemma => kernel_rfl) (fun _ _ _ h => h) (Or.inl ⟨by rfl, ?_⟩) (by assumption) ?_ ?_
          rotate_left
          · intro w' hSw; (try dsimp only at hSw)
            go_simp
            try with_reducible rfl
          rotate_left
          · simp only [Act.put, List.setIfInBounds_toArray, List.set_cons_zero, List.set_cons_succ]
            rfl
          refine take_ (i := 34) (N := (some 64)) (v := ?_) (a' := ?_) #[true, true, true, true, true, true, true, true, true, true, true, true, true, true, true, true, true, true, true, true, true, true, true, true, true, true, true, true, true, true, true, true, true, true, true, false, false, false, false, false, false, false, false, false, false, false] rfl rfl (by as_aux_lemma => kernel_rfl) (fun _ _ _ h => h) (Or.inl ⟨by rfl, ?_⟩) (by assumption) ?_ ?_
          rotate_left
          · intro w' hSw; (try dsimp only at hSw)
            go_simp
            try with_reducible rfl
          rotate_left
          · simp only [Act.put, List.setIfInBounds_toArray, List.set_cons_zero, List.set_cons_succ]
            rfl
          refine take_ (i := 35) (N := (some 65)) (v := ?_) (a' := ?_) #[true, true, true, true, true, true, true, true, true, true, true, true, true, true, true, true, true, true, true, true, true, true, true, true, true, true, true, true, true, true, true, true, true, true, true, true, false, false, false, false, false, false, false, false, false, false] rfl rfl (by as_aux_lemma => kernel_rfl) (fun _ _ _ h => h) (Or.inl ⟨by rfl, ?_⟩) (by assumption) ?_ ?_
          rotate_left
          · intro w' hSw; (try dsimp only at hSw)
            go_simp
            try with_reducible rfl
          rotate_left
          · simp only [Act.put, List.setIfInBounds_toArray, List.set_cons_zero, List.set_cons_succ]
            rfl
          refine take_ (i := 36) (N := (some 66)) (v := ?_) (a' := ?_) #[true, true, true, true, true, true, true, true, true, true, true, true, true, true, true, true, true, true, true, true, true, true, true, true, true, true, true, true, true, true, true, true, true, true, true, true, true, false, false, false, false, false, false, false, false, false] rfl rfl (by as_aux_lemma => kernel_rfl) (fun _ _ _ h => h) (Or.inl ⟨by rfl, ?_⟩) (by assumption) ?_ ?_
          rotate_left
          · intro w' hSw; (try dsimp only at hSw)
            go_simp
            try with_reducible rfl
          rotate_left
          · simp only [Act.put, List.setIfInBounds_toArray, List.set_cons_zero, List.set_cons_succ]
            rfl
          refine take_ (i := 37) (N := (some 67)) (v := ?_) (a' := ?_) #[true, true, true, true, true, true, true, true, true, true, true, true, true, true, true, true, true, true, true, true, true, true, true, true, true, true, true, true, true, true, true, true, true, true, true, true, true, true, false, false, false, false, false, false, false, false] rfl rfl (by as_aux_lemma => kernel_rfl) (fun _ _ _ h => h) (Or.inl ⟨by rfl, ?_⟩) (by assumption) ?_ ?_
          rotate_left
          · intro w' hSw; (try dsimp only at hSw)
            go_simp
            try with_reducible rfl
          rotate_left
          · simp only [Act.put, List.setIfInBounds_toArray, List.set_cons_zero, List.set_cons_succ]
            rfl
          refine take_ (i := 39) (N := (some 69)) (v := ?_) (a' := ?_) #[true, true, true, true, true, true, true, true, true, true, true, true, true, true, true, true, true, true, true, true, true, true, true, true, true, true, true, true, true, true, true, true, true, true, true, true, true, true, false, true, false, false, false, false, false, false] rfl rfl (by as_aux_lemma => kernel_rfl) (fun _ _ _ h => h) (Or.inl ⟨by rfl, ?_⟩) (by assumption) ?_ ?_
          rotate_left
          · intro w' hSw; (try dsimp only at hSw)
            go_simp
            try with_reducible rfl
          rotate_left
          · simp only [Act.put, List.setIfInBounds_toArray, List.set_cons_zero, List.set_cons_succ]
            rfl
          refine take_ (i := 41) (N := (some 71)) (v := ?_) (a' := ?_) #[true, true, true, true, true, true, true, true, true, true, true, true, true, true, true, true, true, true, true, true, true, true, true, true, true, true, true, true, true, true, true, true, true, true, true, true, true, true, false, true, false, true, false, false, false, false] rfl rfl (by as_aux_lemma => kernel_rfl) (fun _ _ _ h => h) (Or.inl ⟨by rfl, ?_⟩) (by assumption) ?_ ?_
          rotate_left
          · intro w' hSw; (try dsimp only at hSw)
            go_simp
            try with_reducible rfl
          rotate_left
          · simp only [Act.put, List.setIfInBounds_toArray, List.set_cons_zero, List.set_cons_succ]
            rfl
          refine one_ (i := 38) (N := (some 68)) #[true, true, true, true, true, true, true, true, true, true, true, true, true, true, true, true, true, true, true, true, true, true, true, true, true, true, true, true, true, true, true, true, true, true, true, true, true, true, true, true, false, true, false, false, false, false] rfl rfl (by as_aux_lemma => kernel_rfl) (by simp) (fun K hK => ?_)
          go_simp
          refine (k38 _).mono ?_
          rintro e w' ⟨rfl, xx⟩
          refine hK.out _ _ ?_ (fun hHeld => ?_)
          · first | assumption | exact hHeld.trans (by assumption)
          clear hK K
          (try simp only [Act.put, List.setIfInBounds_toArray, List.set_cons_zero, List.set_cons_succ])
          refine one_ (i := 40) (N := (some 70)) #[true, true, true, true, true, true, true, true, true, true, true, true, true, true, true, true, true, true, true, true, true, true, true, true, true, true, true, true, true, true, true, true, true, true, true, true, true, true, true, true, true, true, false, false, false, false] rfl rfl (by as_aux_lemma => kernel_rfl) (by simp) (fun K hK => ?_)
          go_simp
          refine (k3 _).mono ?_
          rintro e w' ⟨rfl, xx⟩
          refine hK.out _ _ ?_ (fun hHeld => ?_)
          · first | assumption | exact hHeld.trans (by assumption)
          clear hK K
          (try simp only [Act.put, List.setIfInBounds_toArray, List.set_cons_zero, List.set_cons_succ])
          refine one_ (i := 42) (N := (some 72)) #[true, true, true, true, true, true, true, true, true, true, true, true, true, true, true, true, true, true, true, true, true, true, true, true, true, true, true, true, true, true, true, true, true, true, true, true, true, true, true, true, true, true, true, false, false, false] rfl rfl (by as_aux_lemma => kernel_rfl) (by simp) (fun K hK => ?_)
          go_simp
          refine (k42 _).mono ?_
          rintro e w' ⟨rfl, xx⟩
          refine hK.out _ _ ?_ (fun hHeld => ?_)
          · first | assumption | exact hHeld.trans (by assumption)
          clear hK K
          (try simp only [Act.put, List.setIfInBounds_toArray, List.set_cons_zero, List.set_cons_succ])
          refine take_ (i := 43) (N := (some 73)) (v := ?_) (a' := ?_) #[true, true, true, true, true, true, true, true, true, true, true, true, true, true, true, true, true, true, true, true, true, true, true, true, true, true, true, true, true, true, true, true, true, true, true, true, true, true, true, true, true, true, true, true, false, false] rfl rfl (by as_aux_lemma => kernel_rfl) (fun _ _ _ h => h) (Or.inl ⟨by rfl, ?_⟩) (by assumption) ?_ ?_
          rotate_left
          · intro w' hSw; (try dsimp only at hSw)
            go_simp
            try with_reducible rfl
          rotate_left
          · simp only [Act.put, List.setIfInBounds_toArray, List.set_cons_zero, List.set_cons_succ]
            rfl
          refine take_ (i := 44) (N := (some 74)) (v := ?_) (a' := ?_) #[true, true, true, true, true, true, true, true, true, true, true, true, true, true, true, true, true, true, true, true, true, true, true, true, true, true, true, true, true, true, true, true, true, true, true, true, true, true, true, true, true, true, true, true, true, false] rfl rfl (by as_aux_lemma => kernel_rfl) (fun _ _ _ h => h) (Or.inl ⟨by rfl, ?_⟩) (by assumption) ?_ ?_
          rotate_left
          · intro w' hSw; (try dsimp only at hSw)
            go_simp
            try with_reducible rfl
          rotate_left
          · simp only [Act.put, List.setIfInBounds_toArray, List.set_cons_zero, List.set_cons_succ]
            rfl
          refine take_ (i := 45) (N := (some 6)) (v := ?_) (a' := ?_) #[true, true, true, true, true, true, true, true, true, true, true, true, true, true, true, true, true, true, true, true, true, true, true, true, true, true, true, true, true, true, true, true, true, true, true, true, true, true, true, true, true, true, true, true, true, true] rfl rfl (by as_aux_lemma => kernel_rfl) (fun _ _ _ h => h) (Or.inl ⟨by rfl, ?_⟩) (by assumption) ?_ ?_
          rotate_left
          · intro w' hSw; (try dsimp only at hSw)
            go_simp
            try with_reducible rfl
          rotate_left
          · simp only [Act.put, List.setIfInBounds_toArray, List.set_cons_zero, List.set_cons_succ]
            rfl
          refine done_ (by kernel_rfl) ?_
          go_wp2
          go_ret
          exact ⟨rfl, hXz.trans (yywp.trans (yywq.trans hHeld))⟩
      | true =>
        as_aux_lemma =>
          simp only [cond_true, cond_false]
          refine start_ (n := 46) (S := (fun W => Ext z2 W)) (ds := []) #[false, false, false, false, false, false, false, false, false, false, false, false, false, false, false, false, false, false, false, false, false, false, false, false, false, false, false, false, false, false, false, false, false, false, false, false, false, false, false, false, false, false, false, false, false, false] (by kernel_rfl) (by kernel_rfl) (by kernel_rfl) (xT.drew) (fun hHeld => ?_)
          refine take_ (i := 0) (N := (some 30)) (v := ?_) (a' := ?_) #[true, false, false, false, false, false, false, false, false, false, false, false, false, false, false, false, false, false, false, false, false, false, false, false, false, false, false, false, false, false, false, false, false, false, false, false, false, false, false, false, false, false, false, false, false, false] rfl rfl (by as_aux_lemma => kernel_rfl) (fun _ _ _ h => h) (Or.inl ⟨by rfl, ?_⟩) (by assumption) ?_ ?_
          rotate_left
          · intro w' hSw; (try dsimp only at hSw)
            go_simp
            try with_reducible rfl
          rotate_left
          · simp only [Act.put, List.setIfInBounds_toArray, List.set_cons_zero, List.set_cons_succ]
            rfl
          refine take_ (i := 2) (N := (some 32)) (v := ?_) (a' := ?_) #[true, false, true, false, false, false, false, false, false, false, false, false, false, false, false, false, false, false, false, false, false, false, false, false, false, false, false, false, false, false, false, false, false, false, false, false, false, false, false, false, false, false, false, false, false, false] rfl rfl (by as_aux_lemma => kernel_rfl) (fun _ _ _ h => h) (Or.inl ⟨by rfl, ?_⟩) (by assumption) ?_ ?_
          rotate_left
          · intro w' hSw; (try dsimp only at hSw)
            go_simp
            try with_reducible rfl
          rotate_left
          · simp only [Act.put, List.setIfInBounds_toArray, List.set_cons_zero, List.set_cons_succ]
            rfl
          refine one_ (i := 1) (N := (some 31)) #[true, true, true, false, false, false, false, false, false, false, false, false, false, false, false, false, false, false, false, false, false, false, false, false, false, false, false, false, false, false, false, false, false, false, false, false, false, false, false, false, false, false, false, false, false, false] rfl rfl (by as_aux_lemma => kernel_rfl) (by simp) (fun K hK => ?_)
          go_simp
          refine (k1 _ (hTz.ext hHeld)).mono ?_
          rintro e w' ⟨rfl, xx⟩
          refine hK.out _ _ ?_ (fun hHeld => ?_)
          · first | assumption | exact hHeld.trans (by assumption)
          clear hK K
          (try simp only [Act.put, List.setIfInBounds_toArray, List.set_cons_zero, List.set_cons_succ])
          refine one_ (i := 3) (N := (some 33)) #[true, true, true, true, false, false, false, false, false, false, false, false, false, false, false, false, false, false, false, false, false, false, false, false, false, false, false, false, false, false, false, false, false, false, false, false, false, false, false, false, false, false, false, false, false, false] rfl rfl (by as_aux_lemma => kernel_rfl) (by simp) (fun K hK => ?_)
          go_simp
          refine (k3 _).mono ?_
          rintro e w' ⟨rfl, xx⟩
          refine hK.out _ _ ?_ (fun hHeld => ?_)
          · first | assumption | exact hHeld.trans (by assumption)
          clear hK K
          (try simp only [Act.put, List.setIfInBounds_toArray, List.set_cons_zero, List.set_cons_succ])
          refine one_ (i := 4) (N := (some 34)) #[true, true, true, true, true, false, false, false, false, false, false, false, false, false, false, false, false, false, false, false, false, false, false, false, false, false, false, false, false, false, false, false, false, false, false, false, false, false, false, false, false, false, false, false, false, false] rfl rfl (by as_aux_lemma => kernel_rfl) (by simp) (fun K hK => ?_)
          go_simp
          refine (k4 _ (hTz.ext hHeld)).mono ?_
          rintro e w' ⟨rfl, xx⟩
          refine hK.out _ _ ?_ (fun hHeld => ?_)
          · first | assumption | exact hHeld.trans (by assumption)
          clear hK K
          (try simp only [Act.put, List.setIfInBounds_toArray, List.set_cons_zero, List.set_cons_succ])
          refine take_ (i := 5) (N := (some 35)) (v := ?_) (a' := ?_) #[true, true, true, true, true, true, false, false, false, false, false, false, false, false, false, false, false, false, false, false, false, false, false, false, false, false, false, false, false, false, false, false, false, false, false, false, false, false, false, false, false, false, false, false, false, false] rfl rfl (by as_aux_lemma => kernel_rfl) (fun _ _ _ h => h) (Or.inl ⟨by rfl, ?_⟩) (by assumption) ?_ ?_
          rotate_left
          · intro w' hSw; (try dsimp only at hSw)
            go_simp
            try with_reducible rfl
          rotate_left
          · simp only [Act.put, List.setIfInBounds_toArray, List.set_cons_zero, List.set_cons_succ]
            rfl
          refine take_ (i := 6) (N := (some 36)) (v := ?_) (a' := ?_) #[true, true, true, true, true, true, true, false, false, false, false, false, false, false, false, false, false, false, false, false, false, false, false, false, false, false, false, false, false, false, false, false, false, false, false, false, false, false, false, false, false, false, false, false, false, false] rfl rfl (by as_aux_lemma => kernel_rfl) (fun _ _ _ h => h) (Or.inl ⟨by rfl, ?_⟩) (by assumption) ?_ ?_
          rotate_left
          · intro w' hSw; (try dsimp only at hSw)
            go_simp
            try with_reducible rfl
          rotate_left
          · simp only [Act.put, List.setIfInBounds_toArray, List.set_cons_zero, List.set_cons_succ]
            rfl
          refine take_ (i := 7) (N := (some 37)) (v := ?_) (a' := ?_) #[true, true, true, true, true, true, true, true, false, false, false, false, false, false, false, false, false, false, false, false, false, false, false, false, false, false, false, false, false, false, false, false, false, false, false, false, false, false, false, false, false, false, false, false, false, false] rfl rfl (by as_aux_lemma => kernel_rfl) (fun _ _ _ h => h) (Or.inl ⟨by rfl, ?_⟩) (by assumption) ?_ ?_
          rotate_left
          · intro w' hSw; (try dsimp only at hSw)
            go_simp
            try with_reducible rfl
          rotate_left
          · simp only [Act.put, List.setIfInBounds_toArray, List.set_cons_zero, List.set_cons_succ]
            rfl
          refine take_ (i := 10) (N := (some 40)) (v := ?_) (a' := ?_) #[true, true, true, true, true, true, true, true, false, false, true, false, false, false, false, false, false, false, false, false, false, false, false, false, false, false, false, false, false, false, false, false, false, false, false, false, false, false, false, false, false, false, false, false, false, false] rfl rfl (by as_aux_lemma => kernel_rfl) (fun _ _ _ h => h) (Or.inl ⟨by rfl, ?_⟩) (by assumption) ?_ ?_
          rotate_left
          · intro w' hSw; (try dsimp only at hSw)
            go_simp
            try with_reducible rfl
          rotate_left
          · simp only [Act.put, List.setIfInBounds_toArray, List.set_cons_zero, List.set_cons_succ]
            rfl
          refine one_ (i := 8) (N := (some 38)) #[true, true, true, true, true, true, true, true, true, false, true, false, false, false, false, false, false, false, false, false, false, false, false, false, false, false, false, false, false, false, false, false, false, false, false, false, false, false, false, false, false, false, false, false, false, false] rfl rfl (by as_aux_lemma => kernel_rfl) (by simp) (fun K hK => ?_)
          go_simp
          refine (k8 _ (hTz.ext (hHeld))).mono ?_
          rintro e wp ⟨vv, rfl, ho, xx⟩
          obtain ⟨Awp, cwp, rfl, -, hBwp⟩ := ho.reads
          clear ho
          have yywp := hHeld.trans xx
          obtain ⟨mwp, Hmwp⟩ : ∃ m, Hid (pb.length = m) := ⟨_, Lib.hid rfl⟩
          rw [Hmwp.out]
          have hcwp : ∀ W, Ext wp W → (convert 29 9 (.slice Awp mwp cwp)).run Tryd.prog W = .ok (.string (Str pb)) W := fun W hW => (hBwp.ext hW).string _ _ Hmwp.out.symm
          have ps0 := fun W (e : Ext wp W) => s0 W (yywp.trans e)
          have ps1 := fun W (e : Ext wp W) => s1 W (yywp.trans e)
          have ps2 := fun W (e : Ext wp W) => s2 W (yywp.trans e)
          have ps3 := fun W (e : Ext wp W) => s3 W (yywp.trans e)
          have ps4 := fun W (e : Ext wp W) => s4 W (yywp.trans e)
          have ps5 := fun W (e : Ext wp W) => s5 W (yywp.trans e)
          have ps6 := fun W (e : Ext wp W) => s6 W (yywp.trans e)
          have ps7 := fun W (e : Ext wp W) => s7 W (yywp.trans e)
          have ps8 := fun W (e : Ext wp W) => s8 W (yywp.trans e)
          have ps9 := fun W (e : Ext wp W) => s9 W (yywp.trans e)
          have ps10 := fun W (e : Ext wp W) => s10 W (yywp.trans e)
          have ps11 := fun W (e : Ext wp W) => s11 W (yywp.trans e)
          have ps12 := fun W (e : Ext wp W) => s12 W (yywp.trans e)
          have ps13 := fun W (e : Ext wp W) => s13 W (yywp.trans e)
          have pu0 := fun W (e : Ext wp W) => u0 W (yywp.trans e)
          have pu1 := fun W (e : Ext wp W) => u1 W (yywp.trans e)
          have pu2 := fun W (e : Ext wp W) => u2 W (yywp.trans e)
          have pu3 := fun W (e : Ext wp W) => u3 W (yywp.trans e)
          have pu4 := fun W (e : Ext wp W) => u4 W (yywp.trans e)
          have pu5 := fun W (e : Ext wp W) => u5 W (yywp.trans e)
          have pu6 := fun W (e : Ext wp W) => u6 W (yywp.trans e)
          have pu7 := fun W (e : Ext wp W) => u7 W (yywp.trans e)
          have pu8 := fun W (e : Ext wp W) => u8 W (yywp.trans e)
          have pu9 := fun W (e : Ext wp W) => u9 W (yywp.trans e)
          have pu10 := fun W (e : Ext wp W) => u10 W (yywp.trans e)
          have pu11 := fun W (e : Ext wp W) => u11 W (yywp.trans e)
          have pu12 := fun W (e : Ext wp W) => u12 W (yywp.trans e)
          have pu13 := fun W (e : Ext wp W) => u13 W (yywp.trans e)
          have py0 := fun W (e : Ext wp W) => y0 W (yywp.trans e)
          have py1 := fun W (e : Ext wp W) => y1 W (yywp.trans e)
          have py2 := fun W (e : Ext wp W) => y2 W (yywp.trans e)
          have py3 := fun W (e : Ext wp W) => y3 W (yywp.trans e)
          have py4 := fun W (e : Ext wp W) => y4 W (yywp.trans e)
          have py5 := fun W (e : Ext wp W) => y5 W (yywp.trans e)
          have py6 := fun W (e : Ext wp W) => y6 W (yywp.trans e)
          have py7 := fun W (e : Ext wp W) => y7 W (yywp.trans e)
          have py8 := fun W (e : Ext wp W) => y8 W (yywp.trans e)
          have py9 := fun W (e : Ext wp W) => y9 W (yywp.trans e)
          have py10 := fun W (e : Ext wp W) => y10 W (yywp.trans e)
          have py11 := fun W (e : Ext wp W) => y11 W (yywp.trans e)
          have py12 := fun W (e : Ext wp W) => y12 W (yywp.trans e)
          have py13 := fun W (e : Ext wp W) => y13 W (yywp.trans e)
          have pe0 := fun W (e : Ext wp W) => e0 W (yywp.trans e)
          have pe1 := fun W (e : Ext wp W) => e1 W (yywp.trans e)
          have pe2 := fun W (e : Ext wp W) => e2 W (yywp.trans e)
          have pe3 := fun W (e : Ext wp W) => e3 W (yywp.trans e)
          have pe4 := fun W (e : Ext wp W) => e4 W (yywp.trans e)
          have pe5 := fun W (e : Ext wp W) => e5 W (yywp.trans e)
          have pe6 := fun W (e : Ext wp W) => e6 W (yywp.trans e)
          refine hK.out _ _ ?_ (fun hHeld => ?_)
          · exact yywp
          clear hK K
          (try simp only [Act.put, List.setIfInBounds_toArray, List.set_cons_zero, List.set_cons_succ])
          refine switch_ (S' := (fun W => Ext wp W)) (fun W hW => yywp.trans hW) (Ext.refl wp) ?_
          have hHeld : Ext wp wp := Ext.refl wp
          refine take_ (i := 9) (N := (some 39)) (v := ?_) (a' := ?_) #[true, true, true, true, true, true, true, true, true, true, true, false, false, false, false, false, false, false, false, false, false, false, false, false, false, false, false, false, false, false, false, false, false, false, false, false, false, false, false, false, false, false, false, false, false, false] rfl rfl (by as_aux_lemma => kernel_rfl) (fun _ _ _ h => h) (Or.inl ⟨by rfl, ?_⟩) (by assumption) ?_ ?_
          rotate_left
          · intro w' hSw; (try dsimp only at hSw)
            go_simp
            try with_reducible rfl
          rotate_left
          · simp only [Act.put, List.setIfInBounds_toArray, List.set_cons_zero, List.set_cons_succ]
            rfl
          refine one_ (i := 11) (N := (some 41)) #[true, true, true, true, true, true, true, true, true, true, true, true, false, false, false, false, false, false, false, false, false, false, false, false, false, false, false, false, false, false, false, false, false, false, false, false, false, false, false, false, false, false, false, false, false, false] rfl rfl (by as_aux_lemma => kernel_rfl) (by simp) (fun K hK => ?_)
          go_simp
          refine (k3 _).mono ?_
          rintro e w' ⟨rfl, xx⟩
          refine hK.out _ _ ?_ (fun hHeld => ?_)
          · first | assumption | exact hHeld.trans (by assumption)
          clear hK K
          (try simp only [Act.put, List.setIfInBounds_toArray, List.set_cons_zero, List.set_cons_succ])
          refine one_ (i := 12) (N := (some 42)) #[true, true, true, true, true, true, true, true, true, true, true, true, true, false, false, false, false, false, false, false, false, false, false, false, false, false, false, false, false, false, false, false, false, false, false, false, false, false, false, false, false, false, false, false, false, false] rfl rfl (by as_aux_lemma => kernel_rfl) (by simp) (fun K hK => ?_)
          go_simp
          refine (k12 _ (hTz.ext (yywp.trans hHeld))).mono ?_
          rintro e wq ⟨vv, rfl, ho, xx⟩
          obtain ⟨Awq, cwq, rfl, -, hBwq⟩ := ho.reads
          clear ho
          have yywq := hHeld.trans xx
          obtain ⟨mwq, Hmwq⟩ : ∃ m, Hid (pb.length = m) := ⟨_, Lib.hid rfl⟩
          rw [Hmwq.out]
          have hcwq : ∀ W, Ext wq W → (convert 29 9 (.slice Awq mwq cwq)).run Tryd.prog W = .ok (.string (Str pb)) W := fun W hW => (hBwq.ext hW).string _ _ Hmwq.out.symm
          have qs0 := fun W (e : Ext wq W) => ps0 W (yywq.trans e)
          have qs1 := fun W (e : Ext wq W) => ps1 W (yywq.trans e)
          have qs2 := fun W (e : Ext wq W) => ps2 W (yywq.trans e)
          have qs3 := fun W (e : Ext wq W) => ps3 W (yywq.trans e)
          have qs4 := fun W (e : Ext wq W) => ps4 W (yywq.trans e)
          have qs5 := fun W (e : Ext wq W) => ps5 W (yywq.trans e)
          have qs6 := fun W (e : Ext wq W) => ps6 W (yywq.trans e)
          have qs7 := fun W (e : Ext wq W) => ps7 W (yywq.trans e)
          have qs8 := fun W (e : Ext wq W) => ps8 W (yywq.trans e)
          have qs9 := fun W (e : Ext wq W) => ps9 W (yywq.trans e)
          have qs10 := fun W (e : Ext wq W) => ps10 W (yywq.trans e)
          have qs11 := fun W (e : Ext wq W) => ps11 W (yywq.trans e)
          have qs12 := fun W (e : Ext wq W) => ps12 W (yywq.trans e)
          have qs13 := fun W (e : Ext wq W) => ps13 W (yywq.trans e)
          have qu0 := fun W (e : Ext wq W) => pu0 W (yywq.trans e)
          have qu1 := fun W (e : Ext wq W) => pu1 W (yywq.trans e)
          have qu2 := fun W (e : Ext wq W) => pu2 W (yywq.trans e)
          have qu3 := fun W (e : Ext wq W) => pu3 W (yywq.trans e)
          have qu4 := fun W (e : Ext wq W) => pu4 W (yywq.trans e)
          have qu5 := fun W (e : Ext wq W) => pu5 W (yywq.trans e)
          have qu6 := fun W (e : Ext wq W) => pu6 W (yywq.trans e)
          have qu7 := fun W (e : Ext wq W) => pu7 W (yywq.trans e)
          have qu8 := fun W (e : Ext wq W) => pu8 W (yywq.trans e)
          have qu9 := fun W (e : Ext wq W) => pu9 W (yywq.trans e)
          have qu10 := fun W (e : Ext wq W) => pu10 W (yywq.trans e)
          have qu11 := fun W (e : Ext wq W) => pu11 W (yywq.trans e)
          have qu12 := fun W (e : Ext wq W) => pu12 W (yywq.trans e)
          have qu13 := fun W (e : Ext wq W) => pu13 W (yywq.trans e)
          have qy0 := fun W (e : Ext wq W) => py0 W (yywq.trans e)
          have qy1 := fun W (e : Ext wq W) => py1 W (yywq.trans e)
          have qy2 := fun W (e : Ext wq W) => py2 W (yywq.trans e)
          have qy3 := fun W (e : Ext wq W) => py3 W (yywq.trans e)
          have qy4 := fun W (e : Ext wq W) => py4 W (yywq.trans e)
          have qy5 := fun W (e : Ext wq W) => py5 W (yywq.trans e)
          have qy6 := fun W (e : Ext wq W) => py6 W (yywq.trans e)
          have qy7 := fun W (e : Ext wq W) => py7 W (yywq.trans e)
          have qy8 := fun W (e : Ext wq W) => py8 W (yywq.trans e)
          have qy9 := fun W (e : Ext wq W) => py9 W (yywq.trans e)
          have qy10 := fun W (e : Ext wq W) => py10 W (yywq.trans e)
          have qy11 := fun W (e : Ext wq W) => py11 W (yywq.trans e)
          have qy12 := fun W (e : Ext wq W) => py12 W (yywq.trans e)
          have qy13 := fun W (e : Ext wq W) => py13 W (yywq.trans e)
          have qe0 := fun W (e : Ext wq W) => pe0 W (yywq.trans e)
          have qe1 := fun W (e : Ext wq W) => pe1 W (yywq.trans e)
          have qe2 := fun W (e : Ext wq W) => pe2 W (yywq.trans e)
          have qe3 := fun W (e : Ext wq W) => pe3 W (yywq.trans e)
          have qe4 := fun W (e : Ext wq W) => pe4 W (yywq.trans e)
          have qe5 := fun W (e : Ext wq W) => pe5 W (yywq.trans e)
          have qe6 := fun W (e : Ext wq W) => pe6 W (yywq.trans e)
          refine hK.out _ _ ?_ (fun hHeld => ?_)
          · exact yywq
          clear hK K
          (try simp only [Act.put, List.setIfInBounds_toArray, List.set_cons_zero, List.set_cons_succ])
          refine switch_ (S' := (fun W => Ext wq W)) (fun W hW => yywq.trans hW) (Ext.refl wq) ?_
          have hHeld : Ext wq wq := Ext.refl wq
          refine take_ (i := 13) (N := (some 43)) (v := ?_) (a' := ?_) #[true, true, true, true, true, true, true, true, true, true, true, true, true, true, false, false, false, false, false, false, false, false, false, false, false, false, false, false, false, false, false, false, false, false, false, false, false, false, false, false, false, false, false, false, false, false] rfl rfl (by as_aux_lemma => kernel_rfl) (fun _ _ _ h => h) (Or.inl ⟨by rfl, ?_⟩) (by assumption) ?_ ?_
          rotate_left
          · intro w' hSw; (try dsimp only at hSw)
            go_simp
            try with_reducible rfl
          rotate_left
          · simp only [Act.put, List.setIfInBounds_toArray, List.set_cons_zero, List.set_cons_succ]
            rfl
          refine take_ (i := 14) (N := (some 44)) (v := ?_) (a' := ?_) #[true, true, true, true, true, true, true, true, true, true, true, true, true, true, true, false, false, false, false, false, false, false, false, false, false, false, false, false, false, false, false, false, false, false, false, false, false, false, false, false, false, false, false, false, false, false] rfl rfl (by as_aux_lemma => kernel_rfl) (fun _ _ _ h => h) (Or.inl ⟨by rfl, ?_⟩) (by assumption) ?_ ?_
          rotate_left
          · intro w' hSw; (try dsimp only at hSw)
            go_simp
            try with_reducible rfl
          rotate_left
          · simp only [Act.put, List.setIfInBounds_toArray, List.set_cons_zero, List.set_cons_succ]
            rfl
          refine take_ (i := 15) (N := (some 45)) (v := ?_) (a' := ?_) #[true, true, true, true, true, true, true, true, true, true, true, true, true, true, true, true, false, false, false, false, false, false, false, false, false, false, false, false, false, false, false, false, false, false, false, false, false, false, false, false, false, false, false, false, false, false] rfl rfl (by as_aux_lemma => kernel_rfl) (fun _ _ _ h => h) (Or.inl ⟨by rfl, ?_⟩) (by assumption) ?_ ?_
          rotate_left
          · intro w' hSw; (try dsimp only at hSw)
            go_simp
            try with_reducible rfl
          rotate_left
          · simp only [Act.put, List.setIfInBounds_toArray, List.set_cons_zero, List.set_cons_succ]
            rfl
          refine take_ (i := 16) (N := (some 46)) (v := ?_) (a' := ?_) #[true, true, true, true, true, true, true, true, true, true, true, true, true, true, true, true, true, false, false, false, false, false, false, false, false, false, false, false, false, false, false, false, false, false, false, false, false, false, false, false, false, false, false, false, false, false] rfl rfl (by as_aux_lemma => kernel_rfl) (fun _ _ _ h => h) (Or.inl ⟨by rfl, ?_⟩) (by assumption) ?_ ?_
          rotate_left
          · intro w' hSw; (try dsimp only at hSw)
            go_simp
            try with_reducible rfl
          rotate_left
          · simp only [Act.put, List.setIfInBounds_toArray, List.set_cons_zero, List.set_cons_succ]
            rfl
          refine take_ (i := 17) (N := (some 47)) (v := ?_) (a' := ?_) #[true, true, true, true, true, true, true, true, true, true, true, true, true, true, true, true, true, true, false, false, false, false, false, false, false, false, false, false, false, false, false, false, false, false, false, false, false, false, false, false, false, false, false, false, false, false] rfl rfl (by as_aux_lemma => kernel_rfl) (fun _ _ _ h => h) (Or.inl ⟨by rfl, ?_⟩) (by assumption) ?_ ?_
          rotate_left
          · intro w' hSw; (try dsimp only at hSw)
            go_simp
            try with_reducible rfl
          rotate_left
          · simp only [Act.put, List.setIfInBounds_toArray, List.set_cons_zero, List.set_cons_succ]
            rfl
          refine take_ (i := 19) (N := (some 49)) (v := ?_) (a' := ?_) #[true, true, true, true, true, true, true, true, true, true, true, true, true, true, true, true, true, true, false, true, false, false, false, false, false, false, false, false, false, false, false, false, false, false, false, false, false, false, false, false, false, false, false, false, false, false] rfl rfl (by as_aux_lemma => kernel_rfl) (fun _ _ _ h => h) (Or.inl ⟨by rfl, ?_⟩) (by assumption) ?_ ?_
          rotate_left
          · intro w' hSw; (try dsimp only at hSw)
            go_simp
            try with_reducible rfl
          rotate_left
          · simp only [Act.put, List.setIfInBounds_toArray, List.set_cons_zero, List.set_cons_succ]
            rfl
          refine one_ (i := 18) (N := (some 48)) #[true, true, true, true, true, true, true, true, true, true, true, true, true, true, true, true, true, true, true, true, false, false, false, false, false, false, false, false, false, false, false, false, false, false, false, false, false, false, false, false, false, false, false, false, false, false] rfl rfl (by as_aux_lemma => kernel_rfl) (by simp) (fun K hK => ?_)
          go_simp
          refine (k18 _).mono ?_
          rintro e w' ⟨rfl, xx⟩
          refine hK.out _ _ ?_ (fun hHeld => ?_)
          · first | assumption | exact hHeld.trans (by assumption)
          clear hK K
          (try simp only [Act.put, List.setIfInBounds_toArray, List.set_cons_zero, List.set_cons_succ])
          refine take_ (i := 20) (N := (some 50)) (v := ?_) (a' := ?_) #[true, true, true, true, true, true, true, true, true, true, true, true, true, true, true, true, true, true, true, true, true, false, false, false, false, false, false, false, false, false, false, false, false, false, false, false, false, false, false, false, false, false, false, false, false, false] rfl rfl (by as_aux_lemma => kernel_rfl) (fun _ _ _ h => h) (Or.inl ⟨by rfl, ?_⟩) (by assumption) ?_ ?_
          rotate_left
          · intro w' hSw; (try dsimp only at hSw)
            go_simp
            try with_reducible rfl
          rotate_left
          · simp only [Act.put, List.setIfInBounds_toArray, List.set_cons_zero, List.set_cons_succ]
            rfl
          refine take_ (i := 21) (N := (some 51)) (v := ?_) (a' := ?_) #[true, true, true, true, true, true, true, true, true, true, true, true, true, true, true, true, true, true, true, true, true, true, false, false, false, false, false, false, false, false, false, false, false, false, false, false, false, false, false, false, false, false, false, false, false, false] rfl rfl (by as_aux_lemma => kernel_rfl) (fun _ _ _ h => h) (Or.inl ⟨by rfl, ?_⟩) (by assumption) ?_ ?_
          rotate_left
          · intro w' hSw; (try dsimp only at hSw)
            go_simp
            try with_reducible rfl
          rotate_left
          · simp only [Act.put, List.setIfInBounds_toArray, List.set_cons_zero, List.set_cons_succ]
            rfl
          refine take_ (i := 22) (N := (some 52)) (v := ?_) (a' := ?_) #[true, true, true, true, true, true, true, true, true, true, true, true, true, true, true, true, true, true, true, true, true, true, true, false, false, false, false, false, false, false, false, false, false, false, false, false, false, false, false, false, false, false, false, false, false, false] rfl rfl (by as_aux_lemma => kernel_rfl) (fun _ _ _ h => h) (Or.inl ⟨by rfl, ?_⟩) (by assumption) ?_ ?_
          rotate_left
          · intro w' hSw; (try dsimp only at hSw)
            go_simp
            try with_reducible rfl
          rotate_left
          · simp only [Act.put, List.setIfInBounds_toArray, List.set_cons_zero, List.set_cons_succ]
            rfl
          refine take_ (i := 23) (N := (some 53)) (v := ?_) (a' := ?_) #[true, true, true, true, true, true, true, true, true, true, true, true, true, true, true, true, true, true, true, true, true, true, true, true, false, false, false, false, false, false, false, false, false, false, false, false, false, false, false, false, false, false, false, false, false, false] rfl rfl (by as_aux_lemma => kernel_rfl) (fun _ _ _ h => h) (Or.inl ⟨by rfl, ?_⟩) (by assumption) ?_ ?_
          rotate_left
          · intro w' hSw; (try dsimp only at hSw)
            go_simp
            try with_reducible rfl
          rotate_left
          · simp only [Act.put, List.setIfInBounds_toArray, List.set_cons_zero, List.set_cons_succ]
            rfl
          refine take_ (i := 24) (N := (some 54)) (v := ?_) (a' := ?_) #[true, true, true, true, true, true, true, true, true, true, true, true, true, true, true, true, true, true, true, true, true, true, true, true, true, false, false, false, false, false, false, false, false, false, false, false, false, false, false, false, false, false, false, false, false, false] rfl rfl (by as_aux_lemma => kernel_rfl) (fun _ _ _ h => h) (Or.inl ⟨by rfl, ?_⟩) (by assumption) ?_ ?_
          rotate_left
          · intro w' hSw; (try dsimp only at hSw)
            go_simp
            try with_reducible rfl
          rotate_left
          · simp only [Act.put, List.setIfInBounds_toArray, List.set_cons_zero, List.set_cons_succ]
            rfl
          refine take_ (i := 25) (N := (some 55)) (v := ?_) (a' := ?_) #[true, true, true, true, true, true, true, true, true, true, true, true, true, true, true, true, true, true, true, true, true, true, true, true, true, true, false, false, false, false, false, false, false, false, false, false, false, false, false, false, false, false, false, false, false, false] rfl rfl (by as_aux_lemma => kernel_rfl) (fun _ _ _ h => h) (Or.inl ⟨by rfl, ?_⟩) (by assumption) ?_ ?_
          rotate_left
          · intro w' hSw; (try dsimp only at hSw)
            go_simp
            try with_reducible rfl
          rotate_left
          · simp only [Act.put, List.setIfInBounds_toArray, List.set_cons_zero, List.set_cons_succ]
            rfl
          refine take_ (i := 26) (N := (some 56)) (v := ?_) (a' := ?_) #[true, true, true, true, true, true, true, true, true, true, true, true, true, true, true, true, true, true, true, true, true, true, true, true, true, true, true, false, false, false, false, false, false, false, false, false, false, false, false, false, false, false, false, false, false, false] rfl rfl (by as_aux_lemma => kernel_rfl) (fun _ _ _ h => h) (Or.inl ⟨by rfl, ?_⟩) (by assumption) ?_ ?_
          rotate_left
          · intro w' hSw; (try dsimp only at hSw)
            go_simp
            try with_reducible rfl
          rotate_left
          · simp only [Act.put, List.setIfInBounds_toArray, List.set_cons_zero, List.set_cons_succ]
            rfl
          refine take_ (i := 27) (N := (some 57)) (v := ?_) (a' := ?_) #[true, true, true, true, true, true, true, true, true, true, true, true, true, true, true, true, true, true, true, true, true, true, true, true, true, true, true, true, false, false, false, false, false, false, false, false, false, false, false, false, false, false, false, false, false, false] rfl rfl (by as_aux_lemma => kernel_rfl) (fun _ _ _ h => h) (Or.inl ⟨by rfl, ?_⟩) (by assumption) ?_ ?_
          rotate_left
          · intro w' hSw; (try dsimp only at hSw)
            go_simp
            try with_reducible rfl
          rotate_left
          · simp only [Act.put, List.setIfInBounds_toArray, List.set_cons_zero, List.set_cons_succ]
            rfl
          refine take_ (i := 28) (N := (some 58)) (v := ?_) (a' := ?_) #[true, true, true, true, true, true, true, true, true, true, true, true, true, true, true, true, true, true, true, true, true, true, true, true, true, true, true, true, true, false, false, false, false, false, false, false, false, false, false, false, false, false, false, false, false, false] rfl rfl (by as_aux_lemma => kernel_rfl) (fun _ _ _ h => h) (Or.inl ⟨by rfl, ?_⟩) (by assumption) ?_ ?_
          rotate_left
          · intro w' hSw; (try dsimp only at hSw)
            go_simp
            try with_reducible rfl
          rotate_left
          · simp only [Act.put, List.setIfInBounds_toArray, List.set_cons_zero, List.set_cons_succ]
            rfl
          refine take_ (i := 29) (N := (some 59)) (v := ?_) (a' := ?_) #[true, true, true, true, true, true, true, true, true, true, true, true, true, true, true, true, true, true, true, true, true, true, true, true, true, true, true, true, true, true, false, false, false, false, false, false, false, false, false, false, false, false, false, false, false, false] rfl rfl (by as_aux_lemma => kernel_rfl) (fun _ _ _ h => h) (Or.inl ⟨by rfl, ?_⟩) (by assumption) ?_ ?_
          rotate_left
          · intro w' hSw; (try dsimp only at hSw)
            go_simp
            try with_reducible rfl
          rotate_left
          · simp only [Act.put, List.setIfInBounds_toArray, List.set_cons_zero, List.set_cons_succ]
            rfl
          refine take_ (i := 30) (N := (some 60)) (v := ?_) (a' := ?_) #[true, true, true, true, true, true, true, true, true, true, true, true, true, true, true, true, true, true, true, true, true, true, true, true, true, true, true, true, true, true, true, false, false, false, false, false, false, false, false, false, false, false, false, false, false, false] rfl rfl (by as_aux_lemma => kernel_rfl) (fun _ _ _ h => h) (Or.inl ⟨by rfl, ?_⟩) (by assumption) ?_ ?_
          rotate_left
          · intro w' hSw; (try dsimp only at hSw)
            go_simp
            try with_reducible rfl
          rotate_left
          · simp only [Act.put, List.setIfInBounds_toArray, List.set_cons_zero, List.set_cons_succ]
            rfl
          refine take_ (i := 31) (N := (some 61)) (v := undef) (a' := ?_) #[true, true, true, true, true, true, true, true, true, true, true, true, true, true, true, true, true, true, true, true, true, true, true, true, true, true, true, true, true, true, true, true, false, false, false, false, false, false, false, false, false, false, false, false, false, false] rfl rfl (by kernel_rfl) (fun _ _ _ h => h) (Or.inr ⟨by rfl, rfl⟩) (by assumption) ?_ ?_
          rotate_left
          · simp only [Act.put, List.setIfInBounds_toArray, List.set_cons_zero, List.set_cons_succ]
            rfl
          refine take_ (i := 32) (N := (some 62)) (v := undef) (a' := ?_) #[true, true, true, true, true, true, true, true, true, true, true, true, true, true, true, true, true, true, true, true, true, true, true, true, true, true, true, true, true, true, true, true, true, false, false, false, false, false, false, false, false, false, false, false, false, false] rfl rfl (by kernel_rfl) (fun _ _ _ h => h) (Or.inr ⟨by rfl, rfl⟩) (by assumption) ?_ ?_
          rotate_left
          · simp only [Act.put, List.setIfInBounds_toArray, List.set_cons_zero, List.set_cons_succ]
            rfl
          refine take_ (i := 33) (N := (some 63)) (v := ?_) (a' := ?_) #[true, true, true, true, true, true, true, true, true, true, true, true, true, true, true, true, true, true, true, true, true, true, true, true, true, true, true, true, true, true, true, true, true, true, false, false, false, false, false, false, false, false, false, false, false, false] rfl rfl (by as_aux_lemma => kernel_rfl) (fun _ _ _ h => h) (Or.inl ⟨by rfl, ?_⟩) (by assumption) ?_ ?_
          rotate_left
          · intro w' hSw; (try dsimp only at hSw)
            go_simp
            try with_reducible rfl
          rotate_left
          · simp only [Act.put, List.setIfInBounds_toArray, List.set_cons_zero, List.set_cons_succ]
            rfl
          refine take_ (i := 34) (N := (some 64)) (v := ?_) (a' := ?_) #[true, true, true, true, true, true, true, true, true, true, true, true, true, true, true, true, true, true, true, true, true, true, true, true, true, true, true, true, true, true, true, true, true, true, true, false, false, false, false, false, false, false, false, false, false, false] rfl rfl (by as_aux_lemma => kernel_rfl) (fun _ _ _ h => h) (Or.inl ⟨by rfl, ?_⟩) (by assumption) ?_ ?_
          rotate_left
          · intro w' hSw; (try dsimp only at hSw)
            go_simp
            try with_reducible rfl
          rotate_left
          · simp only [Act.put, List.setIfInBounds_toArray, List.set_cons_zero, List.set_cons_succ]
            rfl
          refine take_ (i := 35) (N := (some 65)) (v := ?_) (a' := ?_) #[true, true, true, true, true, true, true, true, true, true, true, true, true, true, true, true, true, true, true, true, true, true, true, true, true, true, true, true, true, true, true, true, true, true, true, true, false, false, false, false, false, false, false, false, false, false] rfl rfl (by as_aux_lemma => kernel_rfl) (fun _ _ _ h => h) (Or.inl ⟨by rfl, ?_⟩) (by assumption) ?_ ?_
          rotate_left
          · intro w' hSw; (try dsimp only at hSw)
            go_simp
            try with_reducible rfl
          rotate_left
          · simp only [Act.put, List.setIfInBounds_toArray, List.set_cons_zero, List.set_cons_succ]
            rfl
          refine take_ (i := 36) (N := (some 66)) (v := ?_) (a' := ?_) #[true, true, true, true, true, true, true, true, true, true, true, true, true, true, true, true, true, true, true, true, true, true, true, true, true, true, true, true, true, true, true, true, true, true, true, true, true, false, false, false, false, false, false, false, false, false] rfl rfl (by as_aux_lemma => kernel_rfl) (fun _ _ _ h => h) (Or.inl ⟨by rfl, ?_⟩) (by assumption) ?_ ?_
          rotate_left
          · intro w' hSw; (try dsimp only at hSw)
            go_simp
            try with_reducible rfl
          rotate_left
          · simp only [Act.put, List.setIfInBounds_toArray, List.set_cons_zero, List.set_cons_succ]
            rfl
          refine take_ (i := 37) (N := (some 67)) (v := ?_) (a' := ?_) #[true, true, true, true, true, true, true, true, true, true, true, true, true, true, true, true, true, true, true, true, true, true, true, true, true, true, true, true, true, true, true, true, true, true, true, true, true, true, false, false, false, false, false, false, false, false] rfl rfl (by as_aux_lemma => kernel_rfl) (fun _ _ _ h => h) (Or.inl ⟨by rfl, ?_⟩) (by assumption) ?_ ?_
          rotate_left
          · intro w' hSw; (try dsimp only at hSw)
            go_simp
            try with_reducible rfl
          rotate_left
          · simp only [Act.put, List.setIfInBounds_toArray, List.set_cons_zero, List.set_cons_succ]
            rfl
          refine take_ (i := 39) (N := (some 69)) (v := ?_) (a' := ?_) #[true, true, true, true, true, true, true, true, true, true, true, true, true, true, true, true, true, true, true, true, true, true, true, true, true, true, true, true, true, true, true, true, true, true, true, true, true, true, false, true, false, false, false, false, false, false] rfl rfl (by as_aux_lemma => kernel_rfl) (fun _ _ _ h => h) (Or.inl ⟨by rfl, ?_⟩) (by assumption) ?_ ?_
          rotate_left
          · intro w' hSw; (try dsimp only at hSw)
            go_simp
            try with_reducible rfl
          rotate_left
          · simp only [Act.put, List.setIfInBounds_toArray, List.set_cons_zero, List.set_cons_succ]
            rfl
          refine take_ (i := 41) (N := (some 71)) (v := ?_) (a' := ?_) #[true, true, true, true, true, true, true, true, true, true, true, true, true, true, true, true, true, true, true, true, true, true, true, true, true, true, true, true, true, true, true, true, true, true, true, true, true, true, false, true, false, true, false, false, false, false] rfl rfl (by as_aux_lemma => kernel_rfl) (fun _ _ _ h => h) (Or.inl ⟨by rfl, ?_⟩) (by assumption) ?_ ?_
          rotate_left
          · intro w' hSw; (try dsimp only at hSw)
            go_simp
            try with_reducible rfl
          rotate_left
          · simp only [Act.put, List.setIfInBounds_toArray, List.set_cons_zero, List.set_cons_succ]
            rfl
          refine one_ (i := 38) (N := (some 68)) #[true, true, true, true, true, true, true, true, true, true, true, true, true, true, true, true, true, true, true, true, true, true, true, true, true, true, true, true, true, true, true, true, true, true, true, true, true, true, true, true, false, true, false, false, false, false] rfl rfl (by as_aux_lemma => kernel_rfl) (by simp) (fun K hK => ?_)
          go_simp
          refine (k38 _).mono ?_
          rintro e w' ⟨rfl, xx⟩
          refine hK.out _ _ ?_ (fun hHeld => ?_)
          · first | assumption | exact hHeld.trans (by assumption)
          clear hK K
          (try simp only [Act.put, List.setIfInBounds_toArray, List.set_cons_zero, List.set_cons_succ])
          refine one_ (i := 40) (N := (some 70)) #[true, true, true, true, true, true, true, true, true, true, true, true, true, true, true, true, true, true, true, true, true, true, true, true, true, true, true, true, true, true, true, true, true, true, true, true, true, true, true, true, true, true, false, false, false, false] rfl rfl (by as_aux_lemma => kernel_rfl) (by simp) (fun K hK => ?_)
          go_simp
          refine (k3 _).mono ?_
          rintro e w' ⟨rfl, xx⟩
          refine hK.out _ _ ?_ (fun hHeld => ?_)
          · first | assumption | exact hHeld.trans (by assumption)
          clear hK K
          (try simp only [Act.put, List.setIfInBounds_toArray, List.set_cons_zero, List.set_cons_succ])
          refine one_ (i := 42) (N := (some 72)) #[true, true, true, true, true, true, true, true, true, true, true, true, true, true, true, true, true, true, true, true, true, true, true, true, true, true, true, true, true, true, true, true, true, true, true, true, true, true, true, true, true, true, true, false, false, false] rfl rfl (by as_aux_lemma => kernel_rfl) (by simp) (fun K hK => ?_)
          go_simp
          refine (k42 _).mono ?_
          rintro e w' ⟨rfl, xx⟩
          refine hK.out _ _ ?_ (fun hHeld => ?_)
          · first | assumption | exact hHeld.trans (by assumption)
          clear hK K
          (try simp only [Act.put, List.setIfInBounds_toArray, List.set_cons_zero, List.set_cons_succ])
          refine take_ (i := 43) (N := (some 73)) (v := ?_) (a' := ?_) #[true, true, true, true, true, true, true, true, true, true, true, true, true, true, true, true, true, true, true, true, true, true, true, true, true, true, true, true, true, true, true, true, true, true, true, true, true, true, true, true, true, true, true, true, false, false] rfl rfl (by as_aux_lemma => kernel_rfl) (fun _ _ _ h => h) (Or.inl ⟨by rfl, ?_⟩) (by assumption) ?_ ?_
          rotate_left
          · intro w' hSw; (try dsimp only at hSw)
            go_simp
            try with_reducible rfl
          rotate_left
          · simp only [Act.put, List.setIfInBounds_toArray, List.set_cons_zero, List.set_cons_succ]
            rfl
          refine take_ (i := 44) (N := (some 74)) (v := ?_) (a' := ?_) #[true, true, true, true, true, true, true, true, true, true, true, true, true, true, true, true, true, true, true, true, true, true, true, true, true, true, true, true, true, true, true, true, true, true, true, true, true, true, true, true, true, true, true, true, true, false] rfl rfl (by as_aux_lemma => kernel_rfl) (fun _ _ _ h => h) (Or.inl ⟨by rfl, ?_⟩) (by assumption) ?_ ?_
          rotate_left
          · intro w' hSw; (try dsimp only at hSw)
            go_simp
            try with_reducible rfl
          rotate_left
          · simp only [Act.put, List.setIfInBounds_toArray, List.set_cons_zero, List.set_cons_succ]
            rfl
          refine take_ (i := 45) (N := (some 6)) (v := ?_) (a' := ?_) #[true, true, true, true, true, true, true, true, true, true, true, true, true, true, true, true, true, true, true, true, true, true, true, true, true, true, true, true, true, true, true, true, true, true, true, true, true, true, true, true, true, true, true, true, true, true] rfl rfl (by as_aux_lemma => kernel_rfl) (fun _ _ _ h => h) (Or.inl ⟨by rfl, ?_⟩) (by assumption) ?_ ?_
          rotate_left
          · intro w' hSw; (try dsimp only at hSw)
            go_simp
            try with_reducible rfl
          rotate_left
          · simp only [Act.put, List.setIfInBounds_toArray, List.set_cons_zero, List.set_cons_succ]
            rfl
          refine done_ (by kernel_rfl) ?_
          go_wp2
          go_ret
          exact ⟨rfl, hXz.trans (yywp.trans (yywq.trans hHeld))⟩
end Go.Proofs.YtlffbappgfimeaaDoor
set_option linter.unusedVariables false
namespace Go.Proofs.YtlffbappgfimeaaDoor.shadowBytes
open Go.ChangeShapes Go.WideShapes Go.ChangeAt Go.RowKit
open Go.ChangeMaps (open_string shut_string)
theorem laidOut : laidOutB Tryd.prog = true := by kernel_rfl
set_option maxHeartbeats 4000000 in
set_option maxRecDepth 100000 in
theorem lifted (os : Os) (started : os.Started) (H : Type) (enc : TypeId × Value → H) :
    ReturnsInHanded {} Tryd.checked os 4 .any (fun w args => (Rows.shadowBytesSpec.pre enc Tryd.prog Tryd.f4 [] false w args ∧ laidMetH Tryd.prog laidL w) ∧ sizedMet enc Tryd.prog Tryd.f4 (OpenSpec.ofChange Rows.shadowBytesSpec) false w args)
      (Rows.shadowBytesSpec.post enc Tryd.prog Tryd.f4 false true false false) := by
  refine returnsInHanded_of_change_and (C := Tryd.checked) (X := fun w _ => laidMetH Tryd.prog laidL w) (fun _ _ _ hh h => h.of_heap hh) own started (by kernel_rfl) Tryd.func4
    (ChangeSpec.witness_shaped (enc := enc) (C := Tryd.checked) (os := os) (X := fun w _ => laidMetH Tryd.prog laidL w) false (World.laidAll Tryd.prog os laidL) #[.agg #[.int .i64 0, .int .i64 0, .int .i64 0, .int .i64 0, .int .i64 0, .int .i64 0, .int .i64 0, .int .i64 0, .int .i64 0, .int .i64 0, .string ByteArray.empty, .string ByteArray.empty, .int .i64 0, .int .i64 0], .agg #[.int .i64 0, .int .i64 0, .int .i64 0, .int .i64 0, .int .i64 0, .int .i64 0, .int .i64 0], .slice none 0 0] 8 (World.laidAll_os _ _ _)
      (World.shaped_of_ZipB (by kernel_rfl) (by kernel_rfl)) (by kernel_rfl) (by kernel_rfl) (by kernel_rfl)
      (by rw [plainL]; exact laidMet_laidAll _ (by kernel_rfl) (by kernel_rfl))) ?_
  intro W base args ds gs before hval0 hW _ _ hL _
  have hval : ∀ (j : Nat) t v, Tryd.f4.params[j]? = some t → args[j]? = some v → Value.okWide Tryd.prog W .any base t v := hval0
  have hW' := hW
  obtain ⟨p, q, hA0, hV, rfl, _, _⟩ := hW
  have hA : DataW.TrodAll enc Tryd.prog W 0 (fun _ => true) true Tryd.f4.params.toList args.toList ds p := hA0
  rw [Tryd.params4] at hA hval
  obtain ⟨v0, vs0, d0, ds0, p0, q0, hargs, rfl, rfl, h0, r0⟩ := trodAll_cons hA
  obtain ⟨v1, vs1, d1, ds1, p1, q1, rfl, rfl, rfl, h1, r1⟩ := trodAll_cons r0
  obtain ⟨v2, vs2, d2, ds2, p2, q2, rfl, rfl, rfl, h2, r2⟩ := trodAll_cons r1
  obtain ⟨rfl, rfl, rfl⟩ := trodAll_nil r2
  obtain rfl : args = #[v0, v1, v2] := by cases args; simp_all
  obtain ⟨rfl, rfl⟩ := trodVars_none hV
  have k0 := h0
  have lt0 : ∀ x ∈ p0, x.block < W.heap.size := by obtain ⟨m, hm⟩ := k0; exact DataW.trod_lt m _ _ _ hm
  obtain ⟨sr, sn, sv, sk, se, sx, sb, sm, rfl, sw⟩ := open_sh Tryd.underlying28 h0 (hval 0 28 v0 rfl rfl)
  have k1 := h1
  have lt1 : ∀ x ∈ p1, x.block < W.heap.size := by obtain ⟨m, hm⟩ := k1; exact DataW.trod_lt m _ _ _ hm
  obtain ⟨f1, rfl, B1⟩ := open_vec Tryd.underlying26 h1 (hval 1 26 v1 rfl rfl)
  have k2 := h2
  have lt2 : ∀ x ∈ p2, x.block < W.heap.size := by obtain ⟨m, hm⟩ := k2; exact DataW.trod_lt m _ _ _ hm
  obtain ⟨a2, cap2, l2, rfl, G2, H2⟩ := open_bytes Tryd.underlying29 h2 (hval 2 29 v2 rfl rfl)
  clear hA0 hval0
  rw [plainL] at hL
  have T := tabs_of hL
  refine (sbytes_any sr sn sv sk se sx sb sm f1 a2 cap2 l2 W H2 G2 sw T).mono fun e W' ⟨he, bel0⟩ => ?_
  have bel : Below W.heap.size W W' := bel0
  subst he
  exact ⟨_, rfl, _, _, _, [], _, [], hW', trodAll_mk1 (shut_bool Tryd.underlying4 _), (trodAll_cons_mk (Below.trod laidOut (by kernel_rfl) (of_decide_eq_true (by kernel_rfl)) k0 bel lt0) (trodAll_cons_mk (Below.trod laidOut (by kernel_rfl) (of_decide_eq_true (by kernel_rfl)) k1 bel lt1) (trodAll_cons_mk (Below.trod laidOut (by kernel_rfl) (of_decide_eq_true (by kernel_rfl)) k2 bel lt2) trodAll_mk0))), rfl, bel.frame _, fun h => by cases h⟩
theorem over : Rows.shadowBytesRow.holds Tryd.pinned (OpenSpec.ofChange Rows.shadowBytesSpec) :=
  OpenClaim.holds_of_wide 4 Tryd.f4 rfl rfl rfl rfl rfl rfl rfl ⟨rfl, rfl, rfl, rfl, rfl⟩ rfl rfl rfl rfl rfl (by kernel_rfl) Tryd.func4 (by kernel_rfl)
    (of_decide_eq_true (by kernel_rfl)) (by unfold Func.isWrapper; first | (rw [if_pos (by decide +kernel)]; kernel_rfl) | (rw [if_neg (by decide +kernel)]; exact ⟨rfl, rfl⟩))
    (fun os started H enc _ => lifted os started H enc)
theorem proved : Rows.ShadowBytesCardSaid :=
  Claim7.holds_tied_plain_at .later [] [.data, .pinned, .pinned] true Rows.shadowBytesCard.stood.harness false over (fun _ h => by cases h) (by kernel_rfl) (fun _ h => by cases h) shadowBytes_row_tie rfl ⟨rfl, rfl⟩ (by kernel_rfl) rfl
    (fun f fn hf hfn => by
      obtain rfl : f = 4 := Option.some.inj ((show Tryd.prog.funcNamed "rostrum/rostrumlaw13.ShadowBytes" = some 4 by kernel_rfl).symm.trans hf) |>.symm
      obtain rfl : fn = Tryd.f4 := (Option.some.inj (Tryd.func4.symm.trans hfn)).symm
      exact ⟨by kernel_rfl, fun j t ht => by
        rw [Tryd.params4] at ht
        have hm : t ∈ [28, 26, 29] := by simpa using Array.mem_of_getElem? ht
        have hall : ([28, 26, 29].all fun u => !Tryd.prog.wantsStandIn u) = true := by kernel_rfl
        exact (show Tryd.prog.wantsStandIn t = false by simpa only [Bool.not_eq_true'] using List.all_eq_true.1 hall t hm)⟩)
    (by kernel_rfl)
end Go.Proofs.YtlffbappgfimeaaDoor.shadowBytes
namespace Go.Proofs.YtlffbappgfimeaaDoor
/-- The statement, under a short name. -/
theorem shadowBytes_holds : Rows.ShadowBytesCardSaid := shadowBytes.proved
#print axioms shadowBytes_holds
end Go.Proofs.YtlffbappgfimeaaDoor

