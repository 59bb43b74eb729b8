/- NetTake: the walks of Take, Drop, Double, Clear. -/
import Derived.Test.YtbmhchfjapdicaaNetDel
set_option linter.unusedVariables false
set_option linter.unusedSimpArgs false
set_option maxRecDepth 100000
namespace Go.Proofs.Ytbmhchfjapdicaa
open Go.RowKit Go.Proofs.YtbmhchfjapdicaaW.PrintWords Go.Proofs.YtbmhchfjapdicaaW.PrintLast

/-- What Take does and answers. -/
def tk (n : Nat) (S : Nat → List (List UInt8)) (f t a : Int) : (Nat → List (List UInt8)) × List UInt8 × Bool := match way n f t with
  | none => (S, [], false)
  | some k => if 0 ≤ a ∧ a < (S k).length then (updV S k ((S k).eraseIdx a.toNat), (S k).getD a.toNat [], true) else (S, [], false)
theorem hasp_none {g n : Nat} {L : Nat → List Ent} {f t a : Int} (h : way n f t = none) : hasp g n L f t a = .pointer none := by rw [hasp, h]
theorem hasp_out {g n k : Nat} {L : Nat → List Ent} {f t a : Int} (h : way n f t = some k) (h2 : ¬ (0 ≤ a ∧ a < (L k).length)) : hasp g n L f t a = .pointer none := by simp only [hasp, h, if_neg h2]
theorem hasp_in {g n k : Nat} {L : Nat → List Ent} {f t a : Int} (h : way n f t = some k) (h2 : 0 ≤ a ∧ a < (L k).length) : hasp g n L f t a = .pointer (some ⟨g, 1 + k, none⟩) := by simp only [hasp, h, if_pos h2]

set_option maxHeartbeats 1600000 in
theorem take_any (g n : Nat) (V : Nat → Value) (L : Nat → List Ent) (S : Nat → List (List UInt8)) (f t a : Int) (w : World) (h : Net w 50 g n V L) (hS : Holds L S) (hn : n ≤ 7) :
    Calls Try.prog 10 #[.pointer (some ⟨g, 0, none⟩), .int .i64 f, .int .i64 t, .int .i64 a] w fun e w' => ∃ A c, e = .returned (.tuple #[.slice A (tk n S f t a).2.1.length c, .bool (tk n S f t a).2.2]) ∧ (tk n S f t a).2.1.length ≤ c ∧ Bs w' A (tk n S f t a).2.1 ∧ InB w' (A, c, (tk n S f t a).2.1) ∧ After w w' 50 g n V (tk n S f t a).1 := by
  go_enter Try.func10, Try.ntmps10
  go_wp2_with fail
  refine (has_any g n V L f t a w h hn).mono ?_
  rintro e w' ⟨rfl, hw⟩
  obtain rfl := hw
  cases hk : way n f t with
  | none =>
    have hres : tk n S f t a = (S, [], false) := by rw [tk, hk]
    rw [hasp_none hk]
    have Hres := Lib.hid hres
    clear hres
    go_wp2
    go_ret2
    exact ⟨none, 0, by rw [Hres.out]; rfl, by rw [Hres.out]; exact Nat.le_refl _, by rw [Hres.out]; exact Bs.nil _, by rw [Hres.out]; exact fun h => absurd rfl h, by rw [Hres.out]; exact After.same h hS⟩
  | some k =>
    have hk49 := way_lt hk hn
    have hSm : (S k).length = (L k).length := by rw [← hS k hk49, List.length_map]
    by_cases c1 : 0 ≤ a ∧ a < (L k).length
    case neg =>
      have hres : tk n S f t a = (S, [], false) := by simp only [tk, hk]; rw [if_neg (by rw [hSm]; exact c1)]
      rw [hasp_out hk c1]
      have Hres := Lib.hid hres
      clear hres c1 hSm
      go_wp2
      go_ret2
      exact ⟨none, 0, by rw [Hres.out]; rfl, by rw [Hres.out]; exact Nat.le_refl _, by rw [Hres.out]; exact Bs.nil _, by rw [Hres.out]; exact fun h => absurd rfl h, by rw [Hres.out]; exact After.same h hS⟩
    rw [hasp_in hk c1]
    obtain ⟨i, rfl⟩ := Int.eq_ofNat_of_zero_le c1.1
    have hi : i < (L k).length := by omega
    have hix : (L k)[i]? = some (L k)[i] := List.getElem?_eq_getElem hi
    obtain ⟨x, Hx⟩ : ∃ x, Hid ((L k)[i] = x) := ⟨_, Lib.hid rfl⟩
    rw [Hx.out] at hix
    have hel := (h.bag k hk49).el x (List.mem_of_getElem? hix)
    have hgx : (S k).getD i [] = x.2.2 := by
      rw [← hS k hk49]
      simp [hix]
    have hres : tk n S f t (i : Int) = (updV S k ((S k).eraseIdx i), x.2.2, true) := by
      simp only [tk, hk]
      rw [if_pos (by rw [hSm]; exact c1), Int.toNat_natCast, hgx]
    have Hres := Lib.hid hres
    have hc := h.blk.cell k hk49
    have hbag := h.bag k hk49
    obtain ⟨A0, c0, hV, hlc, hmx, hsh⟩ := hbag.shape
    obtain ⟨r, cur, rfl, hr, hsz, htk⟩ := hsh (by intro he; rw [he] at hi; simp at hi)
    rw [hV] at hbag
    obtain ⟨r', he, hcx⟩ := hbag.at i x hix
    injection he with he
    injection he with he
    subst he
    obtain ⟨m, Hm⟩ : ∃ m, Hid ((L k).length = m) := ⟨_, Lib.hid rfl⟩
    have hgr : r ≠ g := fun he => h.ne k hk49 (by rw [hV, ← he]; rfl)
    have hfz := h.blk.free (1 + k)
    have hcm : c0 ≤ 9223372036854775807 := by
      rcases hbag.row.2 with ⟨h1, _⟩ | ⟨g1, cap1, cur1, h1, _, _, _, h2, _⟩
      · cases h1
      · injection h1 with _ _ h3
        subst h3
        simpa only [maxLen] using h2
    have hdel := del_any r m c0 i (L k) w cur hr hsz (by rw [← Hm.out]; exact htk) Hm.out.symm (by rw [← Hm.out]; exact hlc) hcm (by rw [← Hm.out]; exact hi)
    rw [hV, Hm.out] at hc
    rw [Hm.out] at hi hlc hmx
    unfold entV at hcx
    have HV := Lib.hid hV
    have Hhel := Lib.hid hel
    have Htk := Lib.hid htk
    clear hres c1 hSm hgx hV hbag hsh htk hr hel hix
    go_wp2_with fail
    refine hdel.mono ?_
    rintro e w2 ⟨rfl, hk2, cur', hr2, hsz2, htk2⟩
    have hg2 : w2.heap[g]? = w.heap[g]? := hk2.block g h.blk.lt (Ne.symm hgr)
    have hN2 := h.blk.keep hg2
    have hc2 := hN2.cell k hk49
    have hf2 := hN2.free (1 + k)
    rw [HV.out, Hm.out] at hc2
    have hel2 : ((L k).eraseIdx i).length = m - 1 := by rw [List.length_eraseIdx_of_lt (by rw [Hm.out]; exact hi), Hm.out]
    have hnor : ∀ b, b = r → NoB w b := by
      rintro b rfl
      exact h.noB b (Or.inr ⟨k, hk49, by rw [HV.out]; rfl⟩)
    have hK : Keep (fun b => (V k).ownBlock = some b) w w2 := hk2.mono (fun b hb => by subst hb; rw [HV.out]; rfl)
    have hbag2 : Bag w2 (.slice (some ⟨r, 0, none⟩) (m - 1) c0) ((L k).eraseIdx i) := by
      refine ⟨⟨by rw [List.length_map, Nat.mul_one], Or.inr ⟨r, c0, cur', by rw [hel2], Nat.zero_le _, hr2, by rw [hel2]; omega, hcm, by rw [hsz2, Nat.mul_one], by rw [hel2, Nat.mul_one]; exact htk2⟩⟩, fun y hy => ?_⟩
      have hy' := (h.bag k hk49).el y (List.mem_of_mem_eraseIdx hy)
      exact ⟨hy'.1, ent_keep hy'.2.1 hy'.2.2 hk2 hnor⟩
    obtain ⟨s1, s2, s3⟩ := h.store k hk49 hK _ _ hbag2 (Or.inl (by rw [HV.out]; rfl))
    have hx2 := ent_keep Hhel.out.2.1 Hhel.out.2.2 s2 h.noB
    clear hel2
    go_wp2
    go_ret2
    refine ⟨x.1, x.2.1, by rw [Hres.out]; rfl, by rw [Hres.out]; exact Hhel.out.1, by rw [Hres.out]; exact hx2.1, by rw [Hres.out]; exact hx2.2, _, _, s1, ?_, s2, s3⟩
    rw [Hres.out]
    refine hS.upd k _ _ ?_
    rw [← hS k hk49]
    simp [List.eraseIdx_eq_take_drop_succ]

/-- What Double does and answers. -/
def dbl (n : Nat) (S : Nat → List (List UInt8)) (f t a : Int) : (Nat → List (List UInt8)) × Int := match way n f t with
  | none => (S, 4)
  | some k => if 0 ≤ a ∧ a < (S k).length then snd n S f t ((S k).getD a.toNat []) else (S, 4)

set_option maxHeartbeats 1600000 in
theorem double_any (g n : Nat) (V : Nat → Value) (L : Nat → List Ent) (S : Nat → List (List UInt8)) (f t a : Int) (w : World) (h : Net w 50 g n V L) (hS : Holds L S) (hn : n ≤ 7) :
    Calls Try.prog 9 #[.pointer (some ⟨g, 0, none⟩), .int .i64 f, .int .i64 t, .int .i64 a] w fun e w' => e = .returned (.int .i64 (dbl n S f t a).2) ∧ After w w' 50 g n V (dbl n S f t a).1 := by
  go_enter Try.func9, Try.ntmps9
  go_wp2_with fail
  refine (has_any g n V L f t a w h hn).mono ?_
  rintro e w' ⟨rfl, hw⟩
  obtain rfl := hw
  cases hk : way n f t with
  | none =>
    have hres : dbl n S f t a = (S, 4) := by rw [dbl, hk]
    rw [hasp_none hk]
    have Hres := Lib.hid hres
    clear hres
    go_wp2
    go_ret
    exact ⟨by rw [Hres.out]; rfl, by rw [Hres.out]; exact After.same h hS⟩
  | some k =>
    have hk49 := way_lt hk hn
    have hSm : (S k).length = (L k).length := by rw [← hS k hk49, List.length_map]
    by_cases c1 : 0 ≤ a ∧ a < (L k).length
    case neg =>
      have hres : dbl n S f t a = (S, 4) := by simp only [dbl, hk]; rw [if_neg (by rw [hSm]; exact c1)]
      rw [hasp_out hk c1]
      have Hres := Lib.hid hres
      clear hres c1 hSm
      go_wp2
      go_ret
      exact ⟨by rw [Hres.out]; rfl, by rw [Hres.out]; exact After.same h hS⟩
    rw [hasp_in hk c1]
    obtain ⟨i, rfl⟩ := Int.eq_ofNat_of_zero_le c1.1
    have hi : i < (L k).length := by omega
    have hix : (L k)[i]? = some (L k)[i] := List.getElem?_eq_getElem hi
    obtain ⟨x, Hx⟩ : ∃ x, Hid ((L k)[i] = x) := ⟨_, Lib.hid rfl⟩
    rw [Hx.out] at hix
    have hel := (h.bag k hk49).el x (List.mem_of_getElem? hix)
    have hgx : (S k).getD i [] = x.2.2 := by
      rw [← hS k hk49]
      simp [hix]
    have hres : dbl n S f t (i : Int) = snd n S f t x.2.2 := by
      simp only [dbl, hk]
      rw [if_pos (by rw [hSm]; exact c1), Int.toNat_natCast, hgx]
    have Hres := Lib.hid hres
    have hc := h.blk.cell k hk49
    have hbag := h.bag k hk49
    obtain ⟨A0, c0, hV, hlc, hmx, hsh⟩ := hbag.shape
    rw [hV] at hbag
    obtain ⟨r, rfl, hcx⟩ := hbag.at i x hix
    obtain ⟨m, Hm⟩ : ∃ m, Hid ((L k).length = m) := ⟨_, Lib.hid rfl⟩
    rw [hV, Hm.out] at hc
    rw [Hm.out] at hi hmx
    unfold entV at hcx
    have Hhel := Lib.hid hel
    have hsnd := send_any g n V L S f t x.1 x.2.2.length x.2.1 x.2.2 w h hS hn hel.2.1 rfl
    clear hres c1 hSm hgx hV hbag hsh hel hix hk
    go_wp2_with fail
    refine hsnd.mono ?_
    rintro e w2 ⟨rfl, ha⟩
    go_wp2
    go_ret
    exact ⟨by rw [Hres.out]; rfl, by rw [Hres.out]; exact ha⟩

theorem drop_any (g n : Nat) (V : Nat → Value) (L : Nat → List Ent) (S : Nat → List (List UInt8)) (f t a : Int) (w : World) (h : Net w 50 g n V L) (hS : Holds L S) (hn : n ≤ 7) :
    Calls Try.prog 12 #[.pointer (some ⟨g, 0, none⟩), .int .i64 f, .int .i64 t, .int .i64 a] w fun e w' => e = .returned (.bool (tk n S f t a).2.2) ∧ After w w' 50 g n V (tk n S f t a).1 := by
  go_enter Try.func12, Try.ntmps12
  go_wp2_with fail
  refine (take_any g n V L S f t a w h hS hn).mono ?_
  rintro e w2 ⟨A, c, rfl, hl, hB, _, ha⟩
  go_wp2
  go_ret
  exact ⟨rfl, ha⟩

end Go.Proofs.Ytbmhchfjapdicaa
