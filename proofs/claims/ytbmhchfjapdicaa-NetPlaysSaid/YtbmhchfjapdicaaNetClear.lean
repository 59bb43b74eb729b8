/- NetClear: the walk of Clear. -/
import Derived.Test.YtbmhchfjapdicaaNetTake
set_option linter.unusedVariables false
set_option linter.unusedSimpArgs false
set_option maxRecDepth 100000
namespace Go.Proofs.Ytbmhchfjapdicaa
open Go.RowKit Go.Proofs.YtbmhchfjapdicaaW.PrintWords Go.Proofs.YtbmhchfjapdicaaW.PrintLast

theorem After.bind {a b c : World} {T : TypeId} {g n : Nat} {V : Nat → Value} {S1 S2 : Nat → List (List UInt8)} (h : After a b T g n V S1) (k : ∀ V' L', Net b T g n V' L' → Holds L' S1 → After b c T g n V' S2) : After a c T g n V S2 := by
  obtain ⟨V1, L1, hN, hS, hK, hf⟩ := h
  obtain ⟨V2, L2, hN2, hS2, hK2, hf2⟩ := k V1 L1 hN hS
  refine ⟨V2, L2, hN2, hS2, hK.trans hK2 hf, fun x hx => ?_⟩
  rcases hf2 x hx with h1 | h1
  · exact hf x h1
  · exact Or.inr (Nat.le_trans hK.size h1)
theorem After.comp {a b c : World} {T : TypeId} {g n : Nat} {V V1 : Nat → Value} {S2 : Nat → List (List UInt8)} (hK : Keep (foot V g) a b) (hf : ∀ x, foot V1 g x → foot V g x ∨ a.heap.size ≤ x) (k : After b c T g n V1 S2) : After a c T g n V S2 := by
  obtain ⟨V2, L2, hN2, hS2, hK2, hf2⟩ := k
  refine ⟨V2, L2, hN2, hS2, hK.trans hK2 hf, fun x hx => ?_⟩
  rcases hf2 x hx with h1 | h1
  · exact hf x h1
  · exact Or.inr (Nat.le_trans hK.size h1)
theorem After.ext {a b c : World} {T : TypeId} {g n : Nat} {V : Nat → Value} {S : Nat → List (List UInt8)} (h : After a b T g n V S) (hx : Ext b c) : After a c T g n V S :=
  h.bind fun V' L' hN hS => ⟨V', L', hN.ext hx, hS, Keep.of_ext hx, fun x hx => Or.inl hx⟩
theorem After.store {w : World} {T : TypeId} {g n : Nat} {V : Nat → Value} {L : Nat → List Ent} {S : Nat → List (List UInt8)} (h : Net w T g n V L) (hS : Holds L S) (k : Nat) (hk : k < 49) : After w (w.setCell ⟨g, 1 + k, none⟩ (.slice none 0 0)) T g n V (updV S k []) := by
  obtain ⟨s1, s2, s3⟩ := h.store k hk (Keep.refl _ _) (.slice none 0 0) [] (Bag.nil w) (Or.inr fun b hb => by cases hb)
  exact ⟨_, _, s1, hS.upd k _ _ rfl, s2, s3⟩

/-- Emptied are the ways from the first f to rep. -/
def clr (n : Nat) (rep : Int) (S : Nat → List (List UInt8)) : Nat → Nat → List (List UInt8)
  | 0 => S
  | f + 1 => match way n (f : Int) rep with
    | some k => updV (clr n rep S f) k []
    | none => clr n rep S f

set_option maxHeartbeats 1600000 in
theorem clear_any (g n : Nat) (V : Nat → Value) (L : Nat → List Ent) (S : Nat → List (List UInt8)) (rep : Int) (w : World) (h : Net w 50 g n V L) (hS : Holds L S) (hn : n ≤ 7) :
    Calls Try.prog 13 #[.pointer (some ⟨g, 0, none⟩), .int .i64 rep] w fun e w' => e = .returned (.tuple #[]) ∧ After w w' 50 g n V (clr n rep S n) := by
  have hd := h.blk.head
  go_enter Try.func13, Try.ntmps13
  go_wp2
  go_loopw [10] (fun i wr => ∃ f : Nat, f ≤ n ∧ i = .int .i64 f ∧ After w wr 50 g n V (clr n rep S f)) (fun i _ => n - (intOf i).toNat)
  case atStart => exact ⟨0, Nat.zero_le _, rfl, After.same h hS⟩
  case round =>
    obtain ⟨f, hf, rfl, ha⟩ := hrel
    by_cases hlt : f < n
    · obtain ⟨V1, L1, hN1, hS1, hK1, hf1⟩ := ha
      go_wp2_with fail
      refine (bag_any g n V1 (f : Int) rep wr hN1.blk hn).mono ?_
      rintro e w' ⟨rfl, hw⟩
      obtain rfl := hw
      cases hk : way n (f : Int) rep with
      | none =>
        rw [bagp_none hk]
        have hres : clr n rep S (f + 1) = clr n rep S f := by simp only [clr, hk]
        have Hres := Lib.hid hres
        clear hres
        go_wp2
        go_roundw
        case rel => exact ⟨f + 1, by omega, by go_num, by rw [Hres.out]; exact ⟨V1, L1, hN1, hS1, hK1, hf1⟩⟩
        case measure => simp [intOf]; omega
      | some k =>
        rw [bagp_some hk]
        have hk49 := way_lt hk hn
        have hres : clr n rep S (f + 1) = updV (clr n rep S f) k [] := by simp only [clr, hk]
        have Hres := Lib.hid hres
        have hst := After.store hN1 hS1 k hk49
        have hc := hN1.blk.cell k hk49
        have hfz := hN1.blk.free (1 + k)
        obtain ⟨A0, c0, hV, hlc, hmx, _⟩ := (hN1.bag k hk49).shape
        rw [hV] at hc
        clear hres hV
        go_wp2
        go_roundw
        case rel => exact ⟨f + 1, by omega, by go_num, by rw [Hres.out]; exact After.comp hK1 hf1 hst⟩
        case measure => simp [intOf]; omega
    · have hfn : f = n := by omega
      subst hfn
      go_wp2
      refine bodyPost_end (v := .tuple #[]) (results_none rfl _ _ _) rfl ⟨rfl, ha⟩

end Go.Proofs.Ytbmhchfjapdicaa
