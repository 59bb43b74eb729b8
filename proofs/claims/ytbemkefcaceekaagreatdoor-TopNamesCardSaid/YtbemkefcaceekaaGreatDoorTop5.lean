/- Top5: script.show; the reader's word, number, num, dot. -/
import Derived.Test.YtbemkefcaceekaaGreatDoorTop4
set_option linter.unusedVariables false
set_option linter.unusedSimpArgs false
set_option maxRecDepth 100000
namespace Go.Proofs.YtbemkefcaceekaaGreatDoor
open Go.RowKit Go.Lib Go.Proofs.YtbemkefcaceekaaGreatDoorW.PrintWords Go.Proofs.YtbemkefcaceekaaGreatDoorW.PrintLast

/-- How a dot is shown. -/
def showL (r n : Nat) : ByteArray := (⟨(Lib.decDigits r).toArray⟩ ++ ⟨#[46]⟩) ++ ⟨(Lib.decDigits n).toArray⟩
theorem dec_small (i : Nat) (hi : i < 100) : (Lib.decDigits i).length ≤ 2 := by
  have h : ∀ k : Fin 100, (Lib.decDigits k.1).length ≤ 2 := by decide +kernel
  exact h ⟨i, hi⟩
theorem show_any (r n : Nat) (hr : r < 100) (hn : n < 100) (w : World) : Calls Tryz.prog 49 #[dotv r n] w fun e w' => e = .returned (.string (showL r n)) ∧ Ext w w' := by
  obtain ⟨g, Hg⟩ : ∃ h, Hid (w.heap.size = h) := ⟨_, Lib.hid rfl⟩
  obtain ⟨w1, H1, S1, hx1, ⟨d0, d1⟩, -, -⟩ := alloc2 w r n 64 g Hg.out
  have hh := Hg.out
  have h1 := H1.out
  have hs1 := dec_small r hr
  have hs2 := dec_small n hn
  have xT := Ext.refl w1
  have r0 : ∀ W, Ext w1 W → W.cell? ⟨g, 0, none⟩ = some (.int .i64 r) := fun W x => x.cell d0
  have r1 : ∀ W, Ext w1 W → W.cell? ⟨g, 1, none⟩ = some (.int .i64 n) := fun W x => x.cell d1
  have q1 : ¬ 9223372036854775807 < (ByteArray.mk (Lib.decDigits r).toArray).size + (ByteArray.mk #[46]).size := by
    show ¬ _ < (Lib.decDigits r).toArray.size + 1
    rw [List.size_toArray]
    omega
  have q2 : ¬ 9223372036854775807 < ((ByteArray.mk (Lib.decDigits r).toArray) ++ (ByteArray.mk #[46])).size + (ByteArray.mk (Lib.decDigits n).toArray).size := by
    rw [ByteArray.size_append]
    show ¬ _ < ((Lib.decDigits r).toArray.size + 1) + (Lib.decDigits n).toArray.size
    rw [List.size_toArray, List.size_toArray]
    omega
  obtain ⟨A, hA⟩ : ∃ A, Hid (A = ByteArray.mk (Lib.decDigits r).toArray) := ⟨_, Lib.hid rfl⟩
  obtain ⟨B, hB⟩ : ∃ B, Hid (B = ByteArray.mk (Lib.decDigits n).toArray) := ⟨_, Lib.hid rfl⟩
  have ki := fun W => Tryz.strconv_Itoa_small r hr W
  have kf := fun W => Tryz.strconv_FormatInt_10_small n hn W
  rw [← hA.out] at q1 q2 ki
  rw [← hB.out] at q2 kf
  have q1' : ¬ 9223372036854775807 < A.size + 1 := q1
  have q2' : ¬ 9223372036854775807 < A.size + 1 + B.size := by
    rw [ByteArray.size_append] at q2
    exact q2
  clear hs1 hs2 d0 d1
  unfold dotv
  go_enter Tryz.func49, Tryz.ntmps49
  go_wp2_with fail
  clear hh h1
  refine start_ (n := 9) (S := (fun W => Ext w1 W)) (ds := []) #[false, false, false, false, false, false, false, false, false] (by kernel_rfl) (by kernel_rfl) (by kernel_rfl) (xT.drew) (fun hHeld => ?_)
  refine take_ (i := 0) (N := (some 3)) (v := ?_) (a' := ?_) #[true, false, false, false, false, false, false, false, false] rfl rfl (by kernel_rfl) (fun _ _ _ h => h) (Or.inl ⟨by rfl, ?_⟩) (by assumption) ?_ ?_
  rotate_left
  · intro w' hSw; (try dsimp only at hSw)
    go_simp
    try with_reducible rfl
  rotate_left
  · simp only [Act.put, List.setIfInBounds_toArray, List.set_cons_zero, List.set_cons_succ]
    rfl
  refine take_ (i := 1) (N := (some 4)) (v := ?_) (a' := ?_) #[true, true, false, false, false, false, false, false, false] rfl rfl (by kernel_rfl) (fun _ _ _ h => h) (Or.inl ⟨by rfl, ?_⟩) (by assumption) ?_ ?_
  rotate_left
  · intro w' hSw; (try dsimp only at hSw)
    go_simp
    try with_reducible rfl
  rotate_left
  · simp only [Act.put, List.setIfInBounds_toArray, List.set_cons_zero, List.set_cons_succ]
    rfl
  refine take_ (i := 4) (N := (some 7)) (v := ?_) (a' := ?_) #[true, true, false, false, true, false, false, false, false] rfl rfl (by kernel_rfl) (fun _ _ _ h => h) (Or.inl ⟨by rfl, ?_⟩) (by assumption) ?_ ?_
  rotate_left
  · intro w' hSw; (try dsimp only at hSw)
    go_simp
    try with_reducible rfl
  rotate_left
  · simp only [Act.put, List.setIfInBounds_toArray, List.set_cons_zero, List.set_cons_succ]
    rfl
  refine take_ (i := 5) (N := (some 8)) (v := ?_) (a' := ?_) #[true, true, false, false, true, true, false, false, false] rfl rfl (by kernel_rfl) (fun _ _ _ h => h) (Or.inl ⟨by rfl, ?_⟩) (by assumption) ?_ ?_
  rotate_left
  · intro w' hSw; (try dsimp only at hSw)
    go_simp
    try with_reducible rfl
  rotate_left
  · simp only [Act.put, List.setIfInBounds_toArray, List.set_cons_zero, List.set_cons_succ]
    rfl
  refine one_ (i := 2) (N := (some 5)) #[true, true, true, false, true, true, false, false, false] rfl rfl (by kernel_rfl) (by simp) (fun K hK => ?_)
  go_simp
  refine (ki _).mono ?_
  rintro e w4 ⟨rfl, rfl⟩
  refine hK.out _ _ ?_ (fun hHeld => ?_)
  · first | assumption | exact hHeld.trans (by assumption)
  clear hK K
  (try simp only [Act.put, List.setIfInBounds_toArray, List.set_cons_zero, List.set_cons_succ])
  refine take_ (i := 3) (N := (some 6)) (v := ?_) (a' := ?_) #[true, true, true, true, true, true, false, false, false] rfl rfl (by kernel_rfl) (fun _ _ _ h => h) (Or.inl ⟨by rfl, ?_⟩) (by assumption) ?_ ?_
  rotate_left
  · intro w' hSw; (try dsimp only at hSw)
    go_simp
    try with_reducible rfl
  rotate_left
  · simp only [Act.put, List.setIfInBounds_toArray, List.set_cons_zero, List.set_cons_succ]
    rfl
  refine one_ (i := 6) (N := (some 9)) #[true, true, true, true, true, true, true, false, false] rfl rfl (by kernel_rfl) (by simp) (fun K hK => ?_)
  go_simp
  refine (kf _).mono ?_
  rintro e w5 ⟨rfl, rfl⟩
  refine hK.out _ _ ?_ (fun hHeld => ?_)
  · first | assumption | exact hHeld.trans (by assumption)
  clear hK K
  (try simp only [Act.put, List.setIfInBounds_toArray, List.set_cons_zero, List.set_cons_succ])
  refine take_ (i := 7) (N := (some 10)) (v := ?_) (a' := ?_) #[true, true, true, true, true, true, true, true, false] rfl rfl (by kernel_rfl) (fun _ _ _ h => h) (Or.inl ⟨by rfl, ?_⟩) (by assumption) ?_ ?_
  rotate_left
  · intro w' hSw; (try dsimp only at hSw)
    go_simp
    try with_reducible rfl
  rotate_left
  · simp only [Act.put, List.setIfInBounds_toArray, List.set_cons_zero, List.set_cons_succ]
    rfl
  refine take_ (i := 8) (N := (some 2)) (v := ?_) (a' := ?_) #[true, true, true, true, true, true, true, true, true] rfl rfl (by kernel_rfl) (fun _ _ _ h => h) (Or.inl ⟨by rfl, ?_⟩) (by assumption) ?_ ?_
  rotate_left
  · intro w' hSw; (try dsimp only at hSw)
    go_simp
    try with_reducible rfl
  rotate_left
  · simp only [Act.put, List.setIfInBounds_toArray, List.set_cons_zero, List.set_cons_succ]
    rfl
  refine done_ (by kernel_rfl) ?_
  go_wp2
  go_ret
  exact ⟨by rw [showL, ← hA.out, ← hB.out]; rfl, hx1.trans hHeld⟩

/-- Nothing is turned but these blocks. -/
structure Chg (l : List Nat) (w w' : World) : Prop where
  os : w'.os = w.os
  tape : w'.tape = w.tape
  output : w'.output = w.output
  size : w.heap.size ≤ w'.heap.size
  block : ∀ k, k < w.heap.size → k ∉ l → w'.heap[k]? = w.heap[k]?
theorem Chg.refl (l : List Nat) (w : World) : Chg l w w := ⟨rfl, rfl, rfl, Nat.le_refl _, fun _ _ _ => rfl⟩
theorem Chg.trans {l : List Nat} {a b c : World} (h : Chg l a b) (k : Chg l b c) : Chg l a c :=
  ⟨k.os.trans h.os, k.tape.trans h.tape, k.output.trans h.output, Nat.le_trans h.size k.size, fun i hi hg => (k.block i (Nat.lt_of_lt_of_le hi h.size) hg).trans (h.block i hi hg)⟩
theorem Chg.of_ext {l : List Nat} {a b : World} (k : Ext a b) : Chg l a b := ⟨k.out.os, k.out.tape, k.out.output, k.size, fun i hi _ => k.out.block i hi⟩
theorem Chg.ext {l : List Nat} {a b c : World} (h : Chg l a b) (k : Ext b c) : Chg l a c := h.trans (Chg.of_ext k)
theorem Chg.mono {l l' : List Nat} {a b : World} (h : Chg l a b) (hl : ∀ k ∈ l, k ∈ l') : Chg l' a b := ⟨h.os, h.tape, h.output, h.size, fun k hk hn => h.block k hk (fun hm => hn (hl k hm))⟩
theorem Chg.set {l : List Nat} {a b : World} (h : Chg l a b) (g o : Nat) (v : Value) (hg : g ∈ l) : Chg l a (b.setCell ⟨g, o, none⟩ v) :=
  h.trans ⟨rfl, rfl, rfl, by simp, fun k hk hn => by
    have hne : g ≠ k := fun e => hn (e ▸ hg)
    simp [World.setCell, Array.getElem?_modify, hne]⟩
theorem Chg.toExt {l : List Nat} {w0 a b : World} (h : Chg l a b) (x : Ext w0 a) (hl : ∀ k ∈ l, w0.heap.size ≤ k) : Ext w0 b :=
  ⟨h.os.trans x.out.os, h.tape.trans x.out.tape, h.output.trans x.out.output, Nat.le_trans x.size h.size, fun k hk => (h.block k (Nat.lt_of_lt_of_le hk x.size) (fun hm => by have := hl k hm; omega)).trans (x.out.block k hk)⟩
theorem range_chg {l : List Nat} {w w' : World} {b o : Nat} {cs : List Value} (h : w.rangeAt b o cs) (x : Chg l w w') (hb : b ∉ l) : w'.rangeAt b o cs := fun j v hv => by
  have hc := h j v hv
  have hlt : b < w.heap.size := World.block_lt_of_cell? _ _ hc
  rw [← hc]
  exact World.cell?_of_block (x.block b hlt hb)
end Go.Proofs.YtbemkefcaceekaaGreatDoor
