/- NetAwake: the walk of awake of layer 15. -/
import Derived.Test.YtbmhchfjapdicaaNetClear
import Derived.Lib.SlBytesConst
set_option linter.unusedVariables false
set_option linter.unusedSimpArgs false
set_option maxRecDepth 100000
namespace Go.Proofs.Ytbmhchfjapdicaa
open Go.RowKit Go.Proofs.YtbmhchfjapdicaaW.PrintWords Go.Proofs.YtbmhchfjapdicaaW.PrintLast

def rowS (S : Nat → List (List UInt8)) (f : Nat) : Nat → Nat
  | 0 => 0
  | t + 1 => rowS S f t + (S (f * 7 + t)).length
/-- How many there are in all. -/
def sqS (S : Nat → List (List UInt8)) (n : Nat) : Nat → Nat
  | 0 => 0
  | f + 1 => sqS S n f + rowS S f n
theorem holds_len {L : Nat → List Ent} {S : Nat → List (List UInt8)} (h : Holds L S) (k : Nat) (hk : k < 49) : (L k).length = (S k).length := by rw [← h k hk, List.length_map]
theorem row_eq {L : Nat → List Ent} {S : Nat → List (List UInt8)} (h : Holds L S) (f : Nat) (hf : f < 7) : ∀ t, t ≤ 7 → sumRow L f t = rowS S f t
  | 0, _ => rfl
  | t + 1, ht => by
    have h1 := row_eq h f hf t (by omega)
    have h2 := holds_len h (f * 7 + t) (by omega)
    simp only [sumRow, rowS, h1, h2]
theorem sq_eq {L : Nat → List Ent} {S : Nat → List (List UInt8)} (h : Holds L S) (n : Nat) (hn : n ≤ 7) : ∀ f, f ≤ n → sumSq L n f = sqS S n f
  | 0, _ => rfl
  | f + 1, hf => by
    have h1 := sq_eq h n hn f (by omega)
    have h2 := row_eq h f (by omega) n hn
    simp only [sumSq, sqS, h1, h2]
theorem alls_any (g n : Nat) (V : Nat → Value) (L : Nat → List Ent) (S : Nat → List (List UInt8)) (w : World) (h : Net w 50 g n V L) (hS : Holds L S) (hn : n ≤ 7) (hb : ∀ k, k < 49 → (S k).length ≤ 64) :
    Calls Try.prog 11 #[.pointer (some ⟨g, 0, none⟩)] w fun e w' => e = .returned (.int .i64 (sqS S n n : Nat)) ∧ w = w' := by
  have h1 := all_any g n V L w h hn (fun k hk => by rw [holds_len hS k hk]; exact hb k hk)
  rw [sq_eq hS n hn n (Nat.le_refl _)] at h1
  exact h1
/-- What Len answers. -/
def lenS (n : Nat) (S : Nat → List (List UInt8)) (f t : Int) : Nat := match way n f t with
  | some k => (S k).length
  | none => 0
theorem lens_any (g n : Nat) (V : Nat → Value) (L : Nat → List Ent) (S : Nat → List (List UInt8)) (f t : Int) (w : World) (h : Net w 50 g n V L) (hS : Holds L S) (hn : n ≤ 7) :
    Calls Try.prog 14 #[.pointer (some ⟨g, 0, none⟩), .int .i64 f, .int .i64 t] w fun e w' => e = .returned (.int .i64 (lenS n S f t : Nat)) ∧ w = w' := by
  have h1 := len_any g n V L f t w h hn
  have e : lenp n L f t = lenS n S f t := by
    unfold lenp lenS
    cases hk : way n f t with
    | none => rfl
    | some k => exact holds_len hS k (way_lt hk hn)
  rw [e] at h1
  exact h1
theorem After.out {w a b : World} {T : TypeId} {g n : Nat} {V : Nat → Value} {S : Nat → List (List UInt8)} (hx : Ext w a) (hf : ∀ x, foot V g x → w.heap.size ≤ x) (h : After a b T g n V S) : Ext w b := by
  obtain ⟨V1, L1, hN, hS, hK, hf1⟩ := h
  exact hx.keep hK hf
theorem foot_noV {w : World} {g : Nat} (hg : w.heap.size ≤ g) : ∀ x, foot noV g x → w.heap.size ≤ x := fun x hx => by rw [foot_new g x hx]; exact hg

def P1 : List (List UInt8) := [[112]]
def S1 : Nat → List (List UInt8) := updV noS 1 [[112]]
def S2 : Nat → List (List UInt8) := updV S1 1 [[112], [112]]
def S3 : Nat → List (List UInt8) := updV S2 1 [[112]]
def S4 : Nat → List (List UInt8) := updV S3 1 []
theorem a1 : snd 2 noS 0 1 [112] = (S1, 0) := rfl
theorem a2 : dbl 2 S1 0 1 0 = (S2, 0) := rfl
theorem a3 : tk 2 S2 0 1 1 = (S3, [112], true) := rfl
theorem a4 : tk 2 S3 0 1 0 = (S4, [112], true) := rfl
theorem a5 : sqS S4 2 2 = 0 := rfl
theorem a6 : ∀ k, k < 49 → (S4 k).length ≤ 64 := by
  intro k _
  unfold S4 S3 S2 S1 updV
  split
  · exact Nat.zero_le _
  · exact Nat.zero_le _

set_option maxHeartbeats 1600000 in
theorem awake15_any (w : World) : Calls Try.prog 6 #[] w fun e w' => e = .returned (.bool true) ∧ Ext w w' := by
  have hc := fun (W : World) (C : Array Value) (n c : Nat) => Lib.run_convert_bytes_const (P := Try.prog) W 30 5 C n c Try.underlying30 Try.underlying5
  go_enter Try.func6, Try.ntmps6
  go_wp2_with fail
  refine (new_ok 2 w (by omega) (by omega)).mono ?_
  rintro e w1 ⟨rfl, hN1, hx1⟩
  have hfn := foot_noV (w := w) (g := w.heap.size) (Nat.le_refl _)
  obtain ⟨g, Hg⟩ : ∃ g, Hid (w.heap.size = g) := ⟨_, Lib.hid rfl⟩
  rw [Hg.out] at hN1 hfn ⊢
  go_wp2_with fail
  refine (send_any g 2 noV noL noS 0 1 _ 1 1 [112] _ (hN1.ext ((Ext.refl _).alloc _)) holds_new (by omega) (Bs.alloc _ [112] (by decide) _ rfl _ _) rfl).mono ?_
  rintro e w2 ⟨rfl, ha⟩
  rw [a1] at ha ⊢
  have ha := After.comp (Keep.of_ext ((Ext.refl w1).alloc _)) (fun x hx => Or.inl hx) ha
  dsimp only at ha ⊢
  obtain ⟨V1, L1, hN2, hS2, hK2, hf2⟩ := ha
  go_wp2_with fail
  refine (double_any g 2 V1 L1 S1 0 1 0 w2 hN2 hS2 (by omega)).mono ?_
  rintro e w3 ⟨rfl, ha⟩
  rw [a2] at ha ⊢
  have ha := After.comp hK2 hf2 ha
  clear hN2 hS2 hK2 hf2
  dsimp only at ha ⊢
  obtain ⟨V1, L1, hN2, hS2, hK2, hf2⟩ := ha
  go_wp2_with fail
  refine (take_any g 2 V1 L1 S2 0 1 1 w3 hN2 hS2 (by omega)).mono ?_
  rintro e w4 ⟨A4, c4, rfl, hl4, hB4, hI4, ha4⟩
  rw [a3] at ha4 hl4 hB4 hI4 ⊢
  have ha := After.comp hK2 hf2 ha4
  clear hN2 hS2 hK2 hf2
  dsimp only at ha hl4 hB4 hI4 ⊢
  obtain ⟨V1, L1, hN2, hS2, hK2, hf2⟩ := ha
  go_wp2_with fail
  refine (take_any g 2 V1 L1 S3 0 1 0 w4 hN2 hS2 (by omega)).mono ?_
  rintro e w5 ⟨A5, c5, rfl, hl5, hB5, hI5, ha5⟩
  rw [a4] at ha5 hl5 hB5 ⊢
  have hB4' : Bs w5 A4 [112] := by
    obtain ⟨_, _, _, _, hk, _⟩ := ha5
    exact (ent_keep (x := (A4, c4, [112])) hB4 hI4 hk hN2.noB).1
  have ha := After.comp hK2 hf2 ha5
  clear hN2 hS2 hK2 hf2
  dsimp only at ha hl5 hB5 ⊢
  have hx5 := After.out hx1 (fun x hx => by rw [Hg.out]; exact hfn x hx) ha
  obtain ⟨V1, L1, hN2, hS2, hK2, hf2⟩ := ha
  have hall := alls_any g 2 V1 L1 S4 w5 hN2 hS2 (by omega) a6
  rw [a5] at hall
  have hS := Str_toList
  simp only [List.length_cons, List.length_nil, Nat.zero_add] at hl4 hl5 ⊢
  have hv4 := hB4'.string 1 c4 rfl
  have hv5 := hB5.string 1 c5 rfl
  go_wp2_with fail
  refine hall.mono ?_
  rintro e w6 ⟨rfl, hw6⟩
  obtain rfl := hw6
  go_wp2
  go_ret
  exact ⟨rfl, hx5⟩

end Go.Proofs.Ytbmhchfjapdicaa
