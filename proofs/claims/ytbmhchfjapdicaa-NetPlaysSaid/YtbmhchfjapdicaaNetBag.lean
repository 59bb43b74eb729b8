/- NetBag: the walks of net.New, bag, has, Len, All, Clear. -/
import Derived.Test.YtbmhchfjapdicaaNet
set_option linter.unusedVariables false
set_option linter.unusedSimpArgs false
set_option maxRecDepth 100000
namespace Go.Proofs.Ytbmhchfjapdicaa
open Go.RowKit Go.Proofs.YtbmhchfjapdicaaW.PrintWords

def bagp (g n : Nat) (f t : Int) : Value := .pointer ((way n f t).map fun k => ⟨g, 1 + k, none⟩)

set_option maxHeartbeats 1600000 in
theorem bag_any (g n : Nat) (V : Nat → Value) (f t : Int) (w : World) (h : NetB w 50 g n V) (hn : n ≤ 7) :
    Calls Try.prog 21 #[.pointer (some ⟨g, 0, none⟩), .int .i64 f, .int .i64 t] w fun e w' => e = .returned (bagp g n f t) ∧ w = w' := by
  have hd := h.head
  go_enter Try.func21, Try.ntmps21
  by_cases c : 0 ≤ f ∧ f < n ∧ 0 ≤ t ∧ t < n ∧ f ≠ t
  case neg =>
    have hres : bagp g n f t = .pointer none := by rw [bagp, way, if_neg c]; rfl
    rw [hres]
    by_cases c1 : f < 0
    · clear c
      go_wp2
      go_ret
      exact ⟨rfl, rfl⟩
    by_cases c2 : (n : Int) ≤ f
    · clear c
      go_wp2
      go_ret
      exact ⟨rfl, rfl⟩
    by_cases c3 : t < 0
    · clear c
      go_wp2
      go_ret
      exact ⟨rfl, rfl⟩
    by_cases c4 : (n : Int) ≤ t
    · clear c
      go_wp2
      go_ret
      exact ⟨rfl, rfl⟩
    obtain rfl : f = t := by omega
    clear c
    go_wp2
    go_ret
    exact ⟨rfl, rfl⟩
  case pos =>
    have hres : bagp g n f t = .pointer (some ⟨g, 1 + (f.toNat * 7 + t.toNat), none⟩) := by rw [bagp, way, if_pos c]; rfl
    rw [hres]
    obtain ⟨a, rfl⟩ := Int.eq_ofNat_of_zero_le c.1
    obtain ⟨b, rfl⟩ := Int.eq_ofNat_of_zero_le c.2.2.1
    have c1 : ¬ ((n : Int) ≤ (a : Int)) := by omega
    have c2 : ¬ ((n : Int) ≤ (b : Int)) := by omega
    have c3 : ((a : Int) == (b : Int)) = false := by
      have := c.2.2.2.2
      simp; omega
    have c4 : (a : Int) < 7 := by omega
    have c5 : (b : Int) < 7 := by omega
    clear c hres
    go_wp2
    go_ret
    exact ⟨by rw [Nat.add_assoc]; rfl, rfl⟩

theorem bagp_none {g n : Nat} {f t : Int} (h : way n f t = none) : bagp g n f t = .pointer none := by rw [bagp, h]; rfl
theorem bagp_some {g n k : Nat} {f t : Int} (h : way n f t = some k) : bagp g n f t = .pointer (some ⟨g, 1 + k, none⟩) := by rw [bagp, h]; rfl

/-- What has answers. -/
def hasp (g n : Nat) (V : Nat → List Ent) (f t a : Int) : Value := .pointer (match way n f t with
  | some k => if 0 ≤ a ∧ a < (V k).length then some ⟨g, 1 + k, none⟩ else none
  | none => none)

set_option maxHeartbeats 1600000 in
theorem has_any (g n : Nat) (V : Nat → Value) (L : Nat → List Ent) (f t a : Int) (w : World) (h : Net w 50 g n V L) (hn : n ≤ 7) :
    Calls Try.prog 23 #[.pointer (some ⟨g, 0, none⟩), .int .i64 f, .int .i64 t, .int .i64 a] w fun e w' => e = .returned (hasp g n L f t a) ∧ w = w' := by
  go_enter Try.func23, Try.ntmps23
  go_wp2_with fail
  refine (bag_any g n V f t w h.blk hn).mono ?_
  rintro e w' ⟨rfl, hw⟩
  obtain rfl := hw
  cases hk : way n f t with
  | none =>
    have hres : hasp g n L f t a = .pointer none := by rw [hasp, hk]
    rw [bagp_none hk]
    have Hres := Lib.hid hres
    clear hres
    go_wp2
    go_ret
    exact ⟨by rw [Hres.out]; rfl, rfl⟩
  | some k =>
    have hk49 := way_lt hk hn
    rw [bagp_some hk]
    have hc := h.blk.cell k hk49
    obtain ⟨A, c, hV, hlc, hmx, _⟩ := (h.bag k hk49).shape
    rw [hV] at hc
    obtain ⟨m, Hm⟩ : ∃ m, Hid ((L k).length = m) := ⟨_, Lib.hid rfl⟩
    rw [Hm.out] at hc hmx
    by_cases c1 : 0 ≤ a ∧ a < m
    · have hres : hasp g n L f t a = .pointer (some ⟨g, 1 + k, none⟩) := by simp only [hasp, hk, Hm.out, if_pos c1]
      have Hres := Lib.hid hres
      have c2 : ¬ (a < 0) := by omega
      have c3 : ¬ ((m : Int) ≤ a) := by omega
      clear hres c1
      go_wp2
      go_ret
      exact ⟨by rw [Hres.out]; rfl, rfl⟩
    · have hres : hasp g n L f t a = .pointer none := by simp only [hasp, hk, Hm.out, if_neg c1]
      have Hres := Lib.hid hres
      by_cases c2 : a < 0
      · clear hres c1
        go_wp2
        go_ret
        exact ⟨by rw [Hres.out]; rfl, rfl⟩
      · have c3 : (m : Int) ≤ a := by omega
        clear hres c1
        go_wp2
        go_ret
        exact ⟨by rw [Hres.out]; rfl, rfl⟩

/-- What Len answers. -/
def lenp (n : Nat) (L : Nat → List Ent) (f t : Int) : Nat := match way n f t with
  | some k => (L k).length
  | none => 0
theorem len_any (g n : Nat) (V : Nat → Value) (L : Nat → List Ent) (f t : Int) (w : World) (h : Net w 50 g n V L) (hn : n ≤ 7) :
    Calls Try.prog 14 #[.pointer (some ⟨g, 0, none⟩), .int .i64 f, .int .i64 t] w fun e w' => e = .returned (.int .i64 (lenp n L f t : Nat)) ∧ w = w' := by
  go_enter Try.func14, Try.ntmps14
  go_wp2_with fail
  refine (bag_any g n V f t w h.blk hn).mono ?_
  rintro e w' ⟨rfl, hw⟩
  obtain rfl := hw
  cases hk : way n f t with
  | none =>
    have hres : lenp n L f t = 0 := by rw [lenp, hk]
    rw [bagp_none hk]
    have Hres := Lib.hid hres
    clear hres
    go_wp2
    go_ret
    exact ⟨by rw [Hres.out]; rfl, rfl⟩
  | some k =>
    have hk49 := way_lt hk hn
    have hres : lenp n L f t = (L k).length := by rw [lenp, hk]
    rw [bagp_some hk]
    have Hres := Lib.hid hres
    have hc := h.blk.cell k hk49
    obtain ⟨A, c, hV, hlc, hmx, _⟩ := (h.bag k hk49).shape
    rw [hV] at hc
    clear hres
    go_wp2
    go_ret
    exact ⟨by rw [Hres.out]; rfl, rfl⟩

/-- The sum of the first rows' lengths. -/
def sumTo (L : Nat → List Ent) : Nat → Nat
  | 0 => 0
  | k + 1 => sumTo L k + (L k).length
/-- The sum over the square of the first n. -/
def sumRow (L : Nat → List Ent) (f : Nat) : Nat → Nat
  | 0 => 0
  | t + 1 => sumRow L f t + (L (f * 7 + t)).length
def sumSq (L : Nat → List Ent) (n : Nat) : Nat → Nat
  | 0 => 0
  | f + 1 => sumSq L n f + sumRow L f n

theorem sumRow_le {L : Nat → List Ent} {f : Nat} (hf : f < 7) (hb : ∀ k, k < 49 → (L k).length ≤ 64) : ∀ t, t ≤ 7 → sumRow L f t ≤ 64 * t
  | 0, _ => Nat.le_refl _
  | t + 1, h => by
    have h1 := sumRow_le hf hb t (by omega)
    have h2 := hb (f * 7 + t) (by omega)
    simp only [sumRow]
    omega
theorem sumSq_le {L : Nat → List Ent} {n : Nat} (hn : n ≤ 7) (hb : ∀ k, k < 49 → (L k).length ≤ 64) : ∀ f, f ≤ n → sumSq L n f ≤ 448 * f
  | 0, _ => Nat.le_refl _
  | f + 1, h => by
    have h1 := sumSq_le hn hb f (by omega)
    have h2 := sumRow_le (L := L) (f := f) (by omega) hb n hn
    simp only [sumSq]
    omega

set_option maxHeartbeats 1600000 in
theorem all_any (g n : Nat) (V : Nat → Value) (L : Nat → List Ent) (w : World) (h : Net w 50 g n V L) (hn : n ≤ 7) (hb : ∀ k, k < 49 → (L k).length ≤ 64) :
    Calls Try.prog 11 #[.pointer (some ⟨g, 0, none⟩)] w fun e w' => e = .returned (.int .i64 (sumSq L n n : Nat)) ∧ w = w' := by
  have hd := h.blk.head
  go_enter Try.func11, Try.ntmps11
  go_wp2
  go_loop [3, 10] (fun s i => ∃ f : Nat, f ≤ n ∧ i = .int .i64 f ∧ s = .int .i64 (sumSq L n f : Nat)) (fun _ i => n - (intOf i).toNat)
  case atStart => exact ⟨0, Nat.zero_le _, rfl, rfl⟩
  case round =>
    obtain ⟨f, hf, rfl, rfl⟩ := hrel
    by_cases hlt : f < n
    · have hsq := sumSq_le hn hb f hf
      obtain ⟨S, HS⟩ : ∃ S, Hid (sumSq L n f = S) := ⟨_, Lib.hid rfl⟩
      rw [HS.out] at hsq ⊢
      go_wp2
      go_loop [3, 17] (fun s i => ∃ t : Nat, t ≤ n ∧ i = .int .i64 t ∧ s = .int .i64 ((S + sumRow L f t : Nat) : Int)) (fun _ i => n - (intOf i).toNat)
      case atStart => exact ⟨0, Nat.zero_le _, rfl, rfl⟩
      case round =>
        obtain ⟨t, ht, rfl, rfl⟩ := hrel
        by_cases htl : t < n
        · have hk : f * 7 + t < 49 := by omega
          have hc := h.blk.cell (f * 7 + t) hk
          obtain ⟨A, c, hV, hlc, hmx, _⟩ := (h.bag (f * 7 + t) hk).shape
          have hbk := hb _ hk
          have hrow := sumRow_le (L := L) (f := f) (by omega) hb t (by omega)
          rw [hV] at hc
          have hf7 : (f : Int) < 7 := by omega
          have ht7 : (t : Int) < 7 := by omega
          rw [← Nat.add_assoc] at hc
          obtain ⟨m, Hm⟩ : ∃ m, Hid ((L (f * 7 + t)).length = m) := ⟨_, Lib.hid rfl⟩
          obtain ⟨R, HR⟩ : ∃ R, Hid (sumRow L f t = R) := ⟨_, Lib.hid rfl⟩
          rw [Hm.out] at hc hbk
          rw [HR.out] at hrow ⊢
          clear hV hlc hmx
          go_wp2
          go_round
          case rel => exact ⟨t + 1, by omega, by go_num, by rw [sumRow, HR.out, Hm.out]; go_num⟩
          case measure => simp [intOf]; omega
        · have htn : t = n := by omega
          subst htn
          go_wp2
          go_round
          case rel => exact ⟨f + 1, by omega, by go_num, by rw [sumSq, HS.out]⟩
          case measure => simp [intOf]; omega
    · have hfn : f = n := by omega
      subst hfn
      go_wp2
      go_ret
      exact ⟨rfl, rfl⟩

end Go.Proofs.Ytbmhchfjapdicaa
