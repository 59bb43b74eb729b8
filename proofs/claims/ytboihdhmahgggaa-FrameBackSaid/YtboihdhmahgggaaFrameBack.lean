/- FrameBack: the walk. -/
import Derived.Test.YtboihdhmahgggaaFrameKnown
import Derived.Test.YtboihdhmahgggaaRefFScan
set_option linter.unusedVariables false
set_option linter.unusedSimpArgs false
set_option maxRecDepth 100000
namespace Go.Proofs.Ytboihdhmahgggaa
open Go.RowKit Go.Proofs.YtboihdhmahgggaaW.PrintWords Go.Proofs.YtboihdhmahgggaaW.PrintLast CrcPure

/-- Records framed, one behind the other. -/
def cat (l : List (List UInt8)) : List UInt8 := (l.map fr).flatten
theorem cat_nil : cat [] = [] := rfl
theorem cat_cons (r : List UInt8) (l : List (List UInt8)) : cat (r :: l) = fr r ++ cat l := rfl
theorem cat_snoc (l : List (List UInt8)) (r : List UInt8) : cat (l ++ [r]) = cat l ++ fr r := by simp [cat]
theorem cat_length (l : List (List UInt8)) (h : ∀ r ∈ l, r.length ≤ 100) : (cat l).length ≤ 109 * l.length := by
  induction l with
  | nil => simp [cat]
  | cons r l ih =>
    have h1 := ih (fun r hr => h r (List.mem_cons_of_mem _ hr))
    have h2 := h r List.mem_cons_self
    rw [cat_cons, List.length_append, fr_length, List.length_cons]
    omega
theorem cat_length' (l : List (List UInt8)) : l.length ≤ (cat l).length := by
  induction l with
  | nil => simp
  | cons r l ih =>
    rw [cat_cons, List.length_append, fr_length, List.length_cons]
    omega
theorem fscan_cat (l : List (List UInt8)) (h : ∀ r ∈ l, r.length ≤ 100) : ∀ F, l.length ≤ F → fscan F (cat l) = (l, [], true) := by
  induction l with
  | nil => intro F _; rw [cat_nil, fscan_nil]
  | cons r l ih =>
    intro F hF
    obtain ⟨F, rfl⟩ : ∃ F', F = F' + 1 := ⟨F - 1, by simp at hF; omega⟩
    have h2 := h r List.mem_cons_self
    have hg := fget_fr r (cat l) (by omega)
    rw [cat_cons, fscan_ok F _ (by rw [hg]), hg, ih (fun r hr => h r (List.mem_cons_of_mem _ hr)) F (by simp at hF; omega)]
theorem fscan_cut (l : List (List UInt8)) (h : ∀ r ∈ l, r.length ≤ 100) : ∀ F k, ∃ j, (fscan F ((cat l).take k)).1 = l.take j ∧ j ≤ l.length := by
  induction l with
  | nil => intro F k; exact ⟨0, by rw [cat_nil, List.take_nil, fscan_nil]; rfl, Nat.le_refl _⟩
  | cons r l ih =>
    intro F k
    have h2 := h r List.mem_cons_self
    cases F with
    | zero => exact ⟨0, rfl, Nat.zero_le _⟩
    | succ F =>
      rw [cat_cons]
      by_cases hk : k < (fr r).length
      · rw [List.take_append_of_le_length (by omega)]
        have ht := fget_torn r (by omega) k hk
        exact ⟨0, by rw [fscan_bad _ _ (by rw [ht]; simp)]; rfl, Nat.zero_le _⟩
      · rw [List.take_append, List.take_of_length_le (by omega)]
        have hg := fget_fr r ((cat l).take (k - (fr r).length)) (by omega)
        rw [fscan_ok F _ (by rw [hg]), hg]
        obtain ⟨j, h1, h3⟩ := ih (fun r hr => h r (List.mem_cons_of_mem _ hr)) F (k - (fr r).length)
        exact ⟨j + 1, by rw [h1]; rfl, by simp; omega⟩
theorem fscan_rem (F : Nat) : ∀ b, (fscan F b).2.1.length ≤ b.length := by
  induction F with
  | zero => intro b; exact Nat.le_refl _
  | succ F ih =>
    intro b
    by_cases h : (fget b).2.2 = 0
    · rw [fscan_ok F b h]
      obtain ⟨n, h1, _⟩ := fget_rest b h
      have := ih (fget b).2.1
      rw [h1, List.length_drop] at this
      simp only
      rw [h1]
      omega
    · rw [fscan_bad _ _ h]; exact Nat.le_refl _
theorem Bss.take {w : World} {A : Option Addr} {l : List (List UInt8)} (h : Bss w A l) (j : Nat) (hj : j ≤ l.length) : Bss w A (l.take j) := by
  have hm := h.max
  refine ⟨by simp, by simp; omega, fun hn => ?_⟩
  obtain ⟨ad, e, hc⟩ := h.2.2 (by simp at hn; omega)
  refine ⟨ad, e, fun i p hp => hc i p ?_⟩
  rw [List.map_take, List.getElem?_take] at hp
  split at hp
  · exact hp
  · cases hp
/-- l[:j]. -/
theorem bss_head (A : Option Addr) (n c : Nat) (l : List (List UInt8)) (J : Int) (j : Nat) (hJ : J = j) (hn : n = l.length) (hc : n ≤ c) (h1 : j ≤ n) :
    (∀ W : World, (Instr.slice 36 (.slice A n c) none (some (.int .i64 J)) none).run Try.prog W = .ok (.slice A j c) W) := by
  subst hn hJ
  obtain ⟨ti, hi, hs, _, _⟩ := info_parts info_bs
  have hel : Try.prog.elem 36 = 22 := by simp [Program.elem, Try.underlying36]
  have hu : Try.prog.underlying 36 = some (.slice (Try.prog.elem 36)) := by rw [hel]; exact Try.underlying36
  intro W
  rw [run_slice_h W 36 A l.length c hu .i64 (j : Int) (by omega) (by omega), hel]
  cases A <;> simp [sizeOf, typeInfo, hi, sliced, Result.andThen, Addr.add]
theorem wrap_u8 (a : Int) : ∃ u : UInt8, IntKind.u8.wrap a = (u.toNat : Int) := by
  refine ⟨UInt8.ofNat (IntKind.u8.wrap a).toNat, ?_⟩
  rw [IntKind.wrap_u8, UInt8.toNat_ofNat']
  omega
theorem xor_u8 (a b : Int) : ∃ u : UInt8, bits .xor .u8 a b = (u.toNat : Int) := wrap_u8 _

set_option maxHeartbeats 3200000 in
theorem back_any (A1 : Option Addr) (c1 : Nat) (l : List (List UInt8)) (cut bit : Int) (w : World) (h1 : Bss w A1 l) (hc1 : l.length ≤ c1) (hbit : bit ≤ 9223372036854775807) :
    Calls Try.prog 10 #[.slice A1 l.length c1, .int .i64 cut, .int .i64 bit] w fun e w' => e = .returned (.bool true) ∧ Ext w w' := by
  go_enter Try.func10, Try.ntmps10
  go_wp2_with fail
  refine (awake3_any _).mono ?_
  rintro e w1 ⟨rfl, hx1⟩
  by_cases q1 : 10 < l.length
  · go_wp2
    all_goals go_ret
    all_goals exact ⟨rfl, hx1⟩
  go_wp2
  go_loopw [7, 8] (fun x_ i wr => ∃ (k c : Nat) (A : Option Addr) (bs : List UInt8), k ≤ l.length ∧ i = .int .i64 k ∧ x_ = .slice A bs.length c ∧ bs.length ≤ c ∧ Bs wr A bs ∧ bs = cat (l.take k) ∧ (∀ r ∈ l.take k, r.length ≤ 100) ∧ Ext w wr) (fun _ i _ => l.length - (intOf i).toNat)
  case atStart => exact ⟨0, 0, none, [], Nat.zero_le _, rfl, rfl, Nat.le_refl _, Bs.nil _, rfl, fun r hr => by simp at hr, hx1⟩
  case round =>
    obtain ⟨k, c, A, bs, hk, rfl, rfl, hbc, hB, hbs, hall, hx⟩ := hrel
    have hbl : bs.length ≤ 1090 := by
      have := cat_length _ hall
      rw [← hbs, List.length_take] at this
      omega
    have Hall := Lib.hid hall
    have Hbs := Lib.hid hbs
    clear hbs hall
    by_cases hlt : k < l.length
    · obtain ⟨ad1, B1, d1, rfl, hcl, hd1, hb1⟩ := (h1.ext hx).at k hlt
      have hlk : l.take (k + 1) = l.take k ++ [l.getD k []] := by rw [List.take_succ_eq_append_getElem hlt]; simp [hlt]
      obtain ⟨r, Hr⟩ : ∃ r, Hid (l.getD k [] = r) := ⟨_, Lib.hid rfl⟩
      rw [Hr.out] at hcl hd1 hb1 hlk
      have Hlk := Lib.hid hlk
      clear hlk
      by_cases q2 : 100 < r.length
      · go_wp2
        go_ret
        exact ⟨rfl, hx⟩
      go_wp2_with fail
      refine (put_ok A B1 bs.length c r.length d1 bs r wr hB hb1 rfl rfl hd1 (by omega) (by omega)).mono ?_
      rintro e w2 ⟨A2, c2, rfl, hl2, hB2, _, hx2⟩
      go_wp2
      go_roundw
      case rel => exact ⟨k + 1, c2, A2, bs ++ fr r, by omega, by go_num, by rw [List.length_append, fr_length], by rw [List.length_append, fr_length]; exact hl2, hB2, by rw [Hlk.out, cat_snoc, Hbs.out], fun r' hr' => by
        rw [Hlk.out] at hr'
        rcases List.mem_append.1 hr' with h | h
        · exact Hall.out r' h
        · obtain rfl := List.mem_singleton.1 h
          omega, hx.trans hx2⟩
      case measure => simp [intOf]; omega
    · have hkl : k = l.length := by omega
      subst hkl
      have hbs := Hbs.out
      have hall := Hall.out
      rw [List.take_length] at hbs hall
      have hll := cat_length' l
      rw [← hbs] at hll
      have hsc := fscan_cat l hall
      have hcut := fscan_cut l hall
      rw [← hbs] at hsc hcut
      have Hsc := Lib.hid hsc
      have Hcut := Lib.hid hcut
      clear hbs hall hsc hcut Hall Hbs hk hlt
      obtain ⟨n, Hn⟩ : ∃ n, Hid (bs.length = n) := ⟨_, Lib.hid rfl⟩
      rw [Hn.out] at hbl hbc hll ⊢
      go_wp2_with fail
      refine (fscan_any A n c bs wr hB Hn.out.symm hbc (by omega)).mono ?_
      rintro e w2 ⟨v2, rfl, hx2, l2, ho2, hl2⟩
      rw [Hsc.out n hll] at hl2 ⊢
      have hx2' := hx.trans hx2
      obtain ⟨A2, c2, rfl, hc2, hB2⟩ := ho2.reads
      have hl2n : l2.length = l.length := by
        have := congrArg List.length hl2
        simpa using this
      rw [hl2] at hB2
      rw [hl2n] at hc2 ⊢
      simp only [List.length_nil]
      have hsame := same_any A2 A1 l.length c2 l.length c1 l l w2 hB2 (h1.ext hx2') rfl rfl
      rw [decide_eq_true rfl] at hsame
      have hz : ((n : Int) - ((0 : Nat) : Int)) = n := by omega
      rw [hz]
      clear hl2 ho2 hl2n hz
      go_wp2_with fail
      refine hsame.mono ?_
      rintro e w3 ⟨rfl, hx3⟩
      have hX3 := hx2'.trans hx3
      have hB3 := hB.ext (hx2.trans hx3)
      by_cases q3 : 0 ≤ cut ∧ cut < n
      case neg =>
        by_cases q4 : cut < 0
        · clear q3
          by_cases q5 : bit < 0
          · go_wp2
            all_goals go_ret
            all_goals exact ⟨rfl, hX3⟩
          obtain ⟨bt, rfl⟩ := Int.eq_ofNat_of_zero_le (show 0 ≤ bit from by omega)
          obtain ⟨k, Hk⟩ : ∃ k, Hid (bt / 8 = k) := ⟨_, Lib.hid rfl⟩
          have hdv : Int.tdiv (bt : Int) 8 = (k : Int) := by
            rw [Int.tdiv_eq_ediv_of_nonneg (by omega), ← Hk.out]
            omega
          have hwd : wrap64 (k : Int) = (k : Int) := by
            have := Hk.out
            unfold wrap64
            omega
          by_cases q6 : n ≤ k
          · go_wp2
            all_goals go_ret
            all_goals exact ⟨rfl, hX3⟩
          skip
          obtain ⟨sh, Hs⟩ : ∃ sh, Hid (bt % 8 = sh) := ⟨_, Lib.hid rfl⟩
          have hmd : Int.tmod (bt : Int) 8 = (sh : Int) := by
            rw [Int.tmod_eq_emod_of_nonneg (by omega), ← Hs.out]
            omega
          have hs8 : sh < 8 := by
            have := Hs.out
            omega
          go_wp2_with ((with_reducible refine gate_dst (N := 113) rfl ?_); refine halt ?_)
          refine unhalt (wp_append rfl _ _ rfl (.slice (some ⟨w3.heap.size, 0, none⟩) 0 0) [] rfl A bs n c rfl Hn.out.symm w3.heap.size (Ob.alloc_at _ _ [] (Nat.le_refl _) (by decide) _ rfl _ rfl _ rfl) (hB3.ext ((Ext.refl _).alloc _)) ((Ext.refl _).alloc _).size (by have := Hn.out; simp; omega) ?_)
          intro v9 w9 ho9 hg9 _
          have hx9 : Ext w3 w9 := ((Ext.refl _).alloc _).grown (Ob.alloc_at (l := []) _ w3.heap.size (Nat.le_refl _) (by decide) _ rfl _ rfl _ rfl) (Nat.le_refl _) hg9
          clear hg9
          rw [List.nil_append] at ho9
          obtain ⟨g, cap, rfl, hcap⟩ := ho9.place (by
            rintro rfl
            have := Hn.out
            simp at this
            omega)
          rw [Hn.out] at ho9 hcap ⊢
          obtain ⟨hd, hf⟩ := ho9.at Hn.out.symm k (by rw [Hn.out]; omega)
          obtain ⟨b0, Hb0⟩ : ∃ b0, Hid (bs.getD k 0 = b0) := ⟨_, Lib.hid rfl⟩
          rw [Hb0.out] at hd
          obtain ⟨u, hu⟩ := xor_u8 (b0.toNat : Int) (2 ^ sh % 256)
          have hst := ho9.store Hn.out.symm k u
          have hgb := ho9.block
          have hx10 : Ext w3 (w9.setCell ⟨g, k, none⟩ (.int .u8 (u.toNat : Int))) := hx9.setCell hgb _
          have hsl : (bs.set k u).length = n := by rw [List.length_set, Hn.out]
          obtain ⟨C, HC⟩ : ∃ C, Hid (bs.set k u = C) := ⟨_, Lib.hid rfl⟩
          rw [HC.out] at hst hsl
          have Hsl := Lib.hid hsl
          clear hsl
          obtain ⟨w10, H10⟩ : ∃ w10, Hid (w9.setCell ⟨g, k, none⟩ (.int .u8 (u.toNat : Int)) = w10) := ⟨_, Lib.hid rfl⟩
          rw [H10.out] at hst hx10
          have hB10 : Bs w10 (some ⟨g, 0, none⟩) C := by
            obtain ⟨A9, c9, he9, _, hB9⟩ := hst.reads
            injection he9 with h1 h2 h3
            rw [h1]
            exact hB9
          have hX10 := hX3.trans hx10
          have h10 := H10.out
          clear hst
          obtain ⟨S, HS⟩ : ∃ S, Hid (fscan n C = S) := ⟨_, Lib.hid rfl⟩
          go_wp2_with fail
          clear h10 hd hf hu
          refine (fscan_any _ n cap C w10 hB10 Hsl.out.symm hcap (by omega)).mono ?_
          rintro e w11 ⟨v11, rfl, hx11, l11, ho11, hl11⟩
          rw [HS.out] at hl11 ⊢
          obtain ⟨A11, c11, rfl, hc11, hB11⟩ := ho11.reads
          rw [hl11] at hB11
          have hn11 : l11.length = S.1.length := by rw [← hl11, List.length_map]
          rw [hn11] at hc11 ⊢
          clear ho11 hl11 hn11
          go_wp2_with fail
          refine (rfscan_any _ n cap C w11 (hB10.ext hx11) Hsl.out.symm hcap (by omega)).mono ?_
          rintro e w12 ⟨v12, rfl, hx12, l12, ho12, hl12⟩
          rw [HS.out] at hl12 ⊢
          obtain ⟨A12, c12, rfl, hc12, hB12⟩ := ho12.reads
          rw [hl12] at hB12
          have hn12 : l12.length = S.1.length := by rw [← hl12, List.length_map]
          rw [hn12] at hc12 ⊢
          clear ho12 hl12 hn12
          have hsame2 := same_any A11 A12 S.1.length c11 S.1.length c12 S.1 S.1 w12 (hB11.ext hx12) hB12 rfl rfl
          rw [decide_eq_true rfl] at hsame2
          go_wp2_with fail
          refine hsame2.mono ?_
          rintro e w13 ⟨rfl, hx13⟩
          go_wp2
          go_ret
          exact ⟨rfl, hX10.trans (hx11.trans (hx12.trans hx13))⟩
        · have q4' : (n : Int) ≤ cut := by omega
          clear q3
          by_cases q5 : bit < 0
          · go_wp2
            all_goals go_ret
            all_goals exact ⟨rfl, hX3⟩
          obtain ⟨bt, rfl⟩ := Int.eq_ofNat_of_zero_le (show 0 ≤ bit from by omega)
          obtain ⟨k, Hk⟩ : ∃ k, Hid (bt / 8 = k) := ⟨_, Lib.hid rfl⟩
          have hdv : Int.tdiv (bt : Int) 8 = (k : Int) := by
            rw [Int.tdiv_eq_ediv_of_nonneg (by omega), ← Hk.out]
            omega
          have hwd : wrap64 (k : Int) = (k : Int) := by
            have := Hk.out
            unfold wrap64
            omega
          by_cases q6 : n ≤ k
          · go_wp2
            all_goals go_ret
            all_goals exact ⟨rfl, hX3⟩
          skip
          obtain ⟨sh, Hs⟩ : ∃ sh, Hid (bt % 8 = sh) := ⟨_, Lib.hid rfl⟩
          have hmd : Int.tmod (bt : Int) 8 = (sh : Int) := by
            rw [Int.tmod_eq_emod_of_nonneg (by omega), ← Hs.out]
            omega
          have hs8 : sh < 8 := by
            have := Hs.out
            omega
          go_wp2_with ((with_reducible refine gate_dst (N := 113) rfl ?_); refine halt ?_)
          refine unhalt (wp_append rfl _ _ rfl (.slice (some ⟨w3.heap.size, 0, none⟩) 0 0) [] rfl A bs n c rfl Hn.out.symm w3.heap.size (Ob.alloc_at _ _ [] (Nat.le_refl _) (by decide) _ rfl _ rfl _ rfl) (hB3.ext ((Ext.refl _).alloc _)) ((Ext.refl _).alloc _).size (by have := Hn.out; simp; omega) ?_)
          intro v9 w9 ho9 hg9 _
          have hx9 : Ext w3 w9 := ((Ext.refl _).alloc _).grown (Ob.alloc_at (l := []) _ w3.heap.size (Nat.le_refl _) (by decide) _ rfl _ rfl _ rfl) (Nat.le_refl _) hg9
          clear hg9
          rw [List.nil_append] at ho9
          obtain ⟨g, cap, rfl, hcap⟩ := ho9.place (by
            rintro rfl
            have := Hn.out
            simp at this
            omega)
          rw [Hn.out] at ho9 hcap ⊢
          obtain ⟨hd, hf⟩ := ho9.at Hn.out.symm k (by rw [Hn.out]; omega)
          obtain ⟨b0, Hb0⟩ : ∃ b0, Hid (bs.getD k 0 = b0) := ⟨_, Lib.hid rfl⟩
          rw [Hb0.out] at hd
          obtain ⟨u, hu⟩ := xor_u8 (b0.toNat : Int) (2 ^ sh % 256)
          have hst := ho9.store Hn.out.symm k u
          have hgb := ho9.block
          have hx10 : Ext w3 (w9.setCell ⟨g, k, none⟩ (.int .u8 (u.toNat : Int))) := hx9.setCell hgb _
          have hsl : (bs.set k u).length = n := by rw [List.length_set, Hn.out]
          obtain ⟨C, HC⟩ : ∃ C, Hid (bs.set k u = C) := ⟨_, Lib.hid rfl⟩
          rw [HC.out] at hst hsl
          have Hsl := Lib.hid hsl
          clear hsl
          obtain ⟨w10, H10⟩ : ∃ w10, Hid (w9.setCell ⟨g, k, none⟩ (.int .u8 (u.toNat : Int)) = w10) := ⟨_, Lib.hid rfl⟩
          rw [H10.out] at hst hx10
          have hB10 : Bs w10 (some ⟨g, 0, none⟩) C := by
            obtain ⟨A9, c9, he9, _, hB9⟩ := hst.reads
            injection he9 with h1 h2 h3
            rw [h1]
            exact hB9
          have hX10 := hX3.trans hx10
          have h10 := H10.out
          clear hst
          obtain ⟨S, HS⟩ : ∃ S, Hid (fscan n C = S) := ⟨_, Lib.hid rfl⟩
          go_wp2_with fail
          clear h10 hd hf hu
          refine (fscan_any _ n cap C w10 hB10 Hsl.out.symm hcap (by omega)).mono ?_
          rintro e w11 ⟨v11, rfl, hx11, l11, ho11, hl11⟩
          rw [HS.out] at hl11 ⊢
          obtain ⟨A11, c11, rfl, hc11, hB11⟩ := ho11.reads
          rw [hl11] at hB11
          have hn11 : l11.length = S.1.length := by rw [← hl11, List.length_map]
          rw [hn11] at hc11 ⊢
          clear ho11 hl11 hn11
          go_wp2_with fail
          refine (rfscan_any _ n cap C w11 (hB10.ext hx11) Hsl.out.symm hcap (by omega)).mono ?_
          rintro e w12 ⟨v12, rfl, hx12, l12, ho12, hl12⟩
          rw [HS.out] at hl12 ⊢
          obtain ⟨A12, c12, rfl, hc12, hB12⟩ := ho12.reads
          rw [hl12] at hB12
          have hn12 : l12.length = S.1.length := by rw [← hl12, List.length_map]
          rw [hn12] at hc12 ⊢
          clear ho12 hl12 hn12
          have hsame2 := same_any A11 A12 S.1.length c11 S.1.length c12 S.1 S.1 w12 (hB11.ext hx12) hB12 rfl rfl
          rw [decide_eq_true rfl] at hsame2
          go_wp2_with fail
          refine hsame2.mono ?_
          rintro e w13 ⟨rfl, hx13⟩
          go_wp2
          go_ret
          exact ⟨rfl, hX10.trans (hx11.trans (hx12.trans hx13))⟩
      case pos =>
        obtain ⟨j, rfl⟩ := Int.eq_ofNat_of_zero_le q3.1
        have hjn : j < n := by omega
        obtain ⟨hc4, hBf, hl4⟩ := bs_head A n c bs (j : Int) j rfl Hn.out.symm hbc (by omega)
        have hB4 := hBf w3 hB3
        obtain ⟨p, hp, hpl⟩ := Hcut.out j j
        have hrem := fscan_rem j (bs.take j)
        obtain ⟨T, HT⟩ : ∃ T, Hid (bs.take j = T) := ⟨_, Lib.hid rfl⟩
        rw [HT.out] at hB4 hl4 hp hrem
        obtain ⟨S, HS⟩ : ∃ S, Hid (fscan j T = S) := ⟨_, Lib.hid rfl⟩
        rw [HS.out] at hp hrem
        rw [← hl4] at hrem
        obtain ⟨z, Hz⟩ : ∃ z, Hid (S.2.1.length = z) := ⟨_, Lib.hid rfl⟩
        rw [Hz.out] at hrem
        have Hl4 := Lib.hid hl4
        have Hp := Lib.hid hp
        clear hl4 hp hBf q3
        go_wp2_with fail
        refine (fscan_any A j c T w3 hB4 Hl4.out (by omega) (by omega)).mono ?_
        rintro e w4 ⟨v4, rfl, hx4, l4, ho4, hl4⟩
        rw [HS.out] at hl4 ⊢
        obtain ⟨y, Hy⟩ : ∃ y : Int, Hid ((j : Int) - (z : Int) = y) := ⟨_, Lib.hid rfl⟩
        rw [Hz.out, Hy.out]
        rw [Hp.out] at hl4
        obtain ⟨A4, c4, rfl, hcc4, hB5⟩ := ho4.reads
        rw [hl4] at hB5
        have hn4 : l4.length = p := by
          have := congrArg List.length hl4
          rw [List.length_map, List.length_take] at this
          omega
        rw [hn4] at hcc4 ⊢
        have hc5 := bss_head A1 l.length c1 l (p : Int) p rfl rfl hc1 hpl
        have hX4 := hX3.trans hx4
        have hpt : p = (l.take p).length := by rw [List.length_take]; omega
        have hsame4 := same_any A4 A1 p c4 p c1 (l.take p) (l.take p) w4 hB5 ((h1.ext hX4).take p hpl) hpt hpt
        rw [decide_eq_true rfl] at hsame4
        have hge : ¬ ((j : Int) < y) := by
          have := Hy.out
          omega
        have hple : ¬ ((l.length : Int) < (p : Int)) := by omega
        clear ho4 hl4 hn4 hpt hc4 hrem
        obtain ⟨S22, HS22⟩ : ∃ b, Hid (S.2.2 = b) := ⟨_, Lib.hid rfl⟩
        rw [HS22.out]
        go_wp2_with fail
        refine hsame4.mono ?_
        rintro e w5 ⟨rfl, hx5⟩
        have hX5 := hX4.trans hx5
        have hB9 := hB3.ext (hx4.trans hx5)
        go_wp2_with ((with_reducible refine gate_dst (N := 103) rfl ?_); refine halt ?_)
        clear hge hple hpl hjn hcc4 hsame4 hc5 hsame
        refine unhalt ?_
        by_cases q5 : bit < 0
        · go_wp2
          all_goals go_ret
          all_goals exact ⟨rfl, hX5⟩
        obtain ⟨bt, rfl⟩ := Int.eq_ofNat_of_zero_le (show 0 ≤ bit from by omega)
        obtain ⟨k, Hk⟩ : ∃ k, Hid (bt / 8 = k) := ⟨_, Lib.hid rfl⟩
        have hdv : Int.tdiv (bt : Int) 8 = (k : Int) := by
          rw [Int.tdiv_eq_ediv_of_nonneg (by omega), ← Hk.out]
          omega
        have hwd : wrap64 (k : Int) = (k : Int) := by
          have := Hk.out
          unfold wrap64
          omega
        by_cases q6 : n ≤ k
        · go_wp2
          all_goals go_ret
          all_goals exact ⟨rfl, hX5⟩
        clear hwd
        obtain ⟨sh, Hs⟩ : ∃ sh, Hid (bt % 8 = sh) := ⟨_, Lib.hid rfl⟩
        have hmd : Int.tmod (bt : Int) 8 = (sh : Int) := by
          rw [Int.tmod_eq_emod_of_nonneg (by omega), ← Hs.out]
          omega
        have hs8 : sh < 8 := by
          have := Hs.out
          omega
        go_wp2_with ((with_reducible refine gate_dst (N := 113) rfl ?_); refine halt ?_)
        refine unhalt (wp_append rfl _ _ rfl (.slice (some ⟨w5.heap.size, 0, none⟩) 0 0) [] rfl A bs n c rfl Hn.out.symm w5.heap.size (Ob.alloc_at _ _ [] (Nat.le_refl _) (by decide) _ rfl _ rfl _ rfl) (hB9.ext ((Ext.refl _).alloc _)) ((Ext.refl _).alloc _).size (by have := Hn.out; simp; omega) ?_)
        intro v9 w9 ho9 hg9 _
        have hx9 : Ext w5 w9 := ((Ext.refl _).alloc _).grown (Ob.alloc_at (l := []) _ w5.heap.size (Nat.le_refl _) (by decide) _ rfl _ rfl _ rfl) (Nat.le_refl _) hg9
        clear hg9
        rw [List.nil_append] at ho9
        obtain ⟨g, cap, rfl, hcap⟩ := ho9.place (by
          rintro rfl
          have := Hn.out
          simp at this
          omega)
        rw [Hn.out] at ho9 hcap ⊢
        obtain ⟨hd, hf⟩ := ho9.at Hn.out.symm k (by rw [Hn.out]; omega)
        obtain ⟨b0, Hb0⟩ : ∃ b0, Hid (bs.getD k 0 = b0) := ⟨_, Lib.hid rfl⟩
        rw [Hb0.out] at hd
        obtain ⟨u, hu⟩ := xor_u8 (b0.toNat : Int) (2 ^ sh % 256)
        have hst := ho9.store Hn.out.symm k u
        have hgb := ho9.block
        have hx10 : Ext w5 (w9.setCell ⟨g, k, none⟩ (.int .u8 (u.toNat : Int))) := hx9.setCell hgb _
        have hsl : (bs.set k u).length = n := by rw [List.length_set, Hn.out]
        obtain ⟨C, HC⟩ : ∃ C, Hid (bs.set k u = C) := ⟨_, Lib.hid rfl⟩
        rw [HC.out] at hst hsl
        have Hsl := Lib.hid hsl
        clear hsl
        obtain ⟨w10, H10⟩ : ∃ w10, Hid (w9.setCell ⟨g, k, none⟩ (.int .u8 (u.toNat : Int)) = w10) := ⟨_, Lib.hid rfl⟩
        rw [H10.out] at hst hx10
        have hB10 : Bs w10 (some ⟨g, 0, none⟩) C := by
          obtain ⟨A9, c9, he9, _, hB9⟩ := hst.reads
          injection he9 with h1 h2 h3
          rw [h1]
          exact hB9
        have hX10 := hX5.trans hx10
        have h10 := H10.out
        clear hst
        obtain ⟨S, HS⟩ : ∃ S, Hid (fscan n C = S) := ⟨_, Lib.hid rfl⟩
        go_wp2_with fail
        clear h10 hd hf hu
        refine (fscan_any _ n cap C w10 hB10 Hsl.out.symm hcap (by omega)).mono ?_
        rintro e w11 ⟨v11, rfl, hx11, l11, ho11, hl11⟩
        rw [HS.out] at hl11 ⊢
        obtain ⟨A11, c11, rfl, hc11, hB11⟩ := ho11.reads
        rw [hl11] at hB11
        have hn11 : l11.length = S.1.length := by rw [← hl11, List.length_map]
        rw [hn11] at hc11 ⊢
        clear ho11 hl11 hn11
        go_wp2_with fail
        refine (rfscan_any _ n cap C w11 (hB10.ext hx11) Hsl.out.symm hcap (by omega)).mono ?_
        rintro e w12 ⟨v12, rfl, hx12, l12, ho12, hl12⟩
        rw [HS.out] at hl12 ⊢
        obtain ⟨A12, c12, rfl, hc12, hB12⟩ := ho12.reads
        rw [hl12] at hB12
        have hn12 : l12.length = S.1.length := by rw [← hl12, List.length_map]
        rw [hn12] at hc12 ⊢
        clear ho12 hl12 hn12
        have hsame2 := same_any A11 A12 S.1.length c11 S.1.length c12 S.1 S.1 w12 (hB11.ext hx12) hB12 rfl rfl
        rw [decide_eq_true rfl] at hsame2
        go_wp2_with fail
        refine hsame2.mono ?_
        rintro e w13 ⟨rfl, hx13⟩
        go_wp2
        go_ret
        exact ⟨rfl, hX10.trans (hx11.trans (hx12.trans hx13))⟩

theorem back_wf (A1 : Option Addr) (c1 : Nat) (l : List (List UInt8)) (cut bit : Int) (w : World) (h1 : Bss w A1 l) (hc1 : l.length ≤ c1) (hb : (Lit.int .i64 bit).wf = true) :
    Calls Try.prog 10 #[.slice A1 l.length c1, .int .i64 cut, .int .i64 bit] w fun e w' => e = .returned (.bool true) ∧ Ext w w' := by
  have rb : -9223372036854775808 ≤ bit ∧ bit ≤ 9223372036854775807 := by simpa [Lit.wf, IntKind.min, IntKind.max, IntKind.signed, IntKind.bits] using hb
  exact back_any A1 c1 l cut bit w h1 hc1 rb.2

end Go.Proofs.Ytboihdhmahgggaa
