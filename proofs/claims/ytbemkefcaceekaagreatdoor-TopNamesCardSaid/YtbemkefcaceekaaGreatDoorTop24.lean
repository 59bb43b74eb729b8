/- Top24: a script's house; take. -/
import Derived.Test.YtbemkefcaceekaaGreatDoorTop23
set_option linter.unusedVariables false
set_option linter.unusedSimpArgs false
set_option maxRecDepth 100000
namespace Go.Proofs.YtbemkefcaceekaaGreatDoor
open Go.RowKit Go.Lib Go.Shelf Go.Proofs.YtbemkefcaceekaaGreatDoorW.PrintWords Go.Proofs.YtbemkefcaceekaaGreatDoorW.PrintLast

/-- Objects that a house is made of; objects that a builder is made of. -/
def Hs (o : Obj) : Prop := (∃ es c, o = .map es c) ∨ (∃ cs fr, o = .cells cs 60 fr) ∨ (∃ cs fr, o = .cells cs 86 fr)
def By (o : Obj) : Prop := (∃ cs fr, o = .cells cs 42 fr) ∨ (∃ cs fr, o = .cells cs 5 fr)
theorem Hs.notBy {o : Obj} (h : Hs o) : ¬ By o := by
  rintro (⟨cs, fr, rfl⟩ | ⟨cs, fr, rfl⟩) <;> rcases h with ⟨es, c, h⟩ | ⟨cs', fr', h⟩ | ⟨cs', fr', h⟩ <;> simp at h
theorem HAt.kinds {w : World} {base bm um dm cm hb : Nat} {H : Hse} (h : HAt w base bm um dm cm hb H) : ∀ k ∈ hb :: bm :: um :: dm :: cm :: redB H.red, ∃ o, w.heap[k]? = some o ∧ Hs o := by
  intro k hk
  simp only [List.mem_cons] at hk
  rcases hk with rfl | rfl | rfl | rfl | rfl | hk
  · exact ⟨_, h.all, Or.inr (Or.inl ⟨_, _, rfl⟩)⟩
  · exact ⟨_, h.blue, Or.inl ⟨_, _, rfl⟩⟩
  · exact ⟨_, h.users, Or.inl ⟨_, _, rfl⟩⟩
  · exact ⟨_, h.drawn, Or.inl ⟨_, _, rfl⟩⟩
  · exact ⟨_, h.closed, Or.inl ⟨_, _, rfl⟩⟩
  · obtain ⟨xs, hx⟩ := h.red
    rcases hx.2 with ⟨e, -⟩ | ⟨g, cap, cur, e, -, hh, -⟩
    · rw [e] at hk; simp [redB] at hk
    · rw [e] at hk
      obtain rfl : k = g := by simpa [redB] using hk
      exact ⟨_, hh, Or.inr (Or.inr ⟨_, _, rfl⟩)⟩
theorem HAt.through {w w' : World} {base bm um dm cm hb : Nat} {H : Hse} (h : HAt w base bm um dm cm hb H) (q : ∀ (k : Nat) (o : Obj), w.heap[k]? = some o → Hs o → w'.heap[k]? = some o) : HAt w' base bm um dm cm hb H := by
  refine ⟨q _ _ h.all (Or.inr (Or.inl ⟨_, _, rfl⟩)), q _ _ h.blue (Or.inl ⟨_, _, rfl⟩), q _ _ h.users (Or.inl ⟨_, _, rfl⟩), q _ _ h.drawn (Or.inl ⟨_, _, rfl⟩), q _ _ h.closed (Or.inl ⟨_, _, rfl⟩), ?_, h.nd, h.lt⟩
  obtain ⟨xs, hx⟩ := h.red
  refine ⟨xs, hx.1, ?_⟩
  rcases hx.2 with h1 | ⟨g, cap, cur, hv, hg, hh, hr⟩
  · exact Or.inl h1
  · exact Or.inr ⟨g, cap, cur, hv, hg, q _ _ hh (Or.inr (Or.inr ⟨_, _, rfl⟩)), hr⟩
structure Kept (w w' : World) : Prop where
  os : w'.os = w.os
  tape : w'.tape = w.tape
  output : w'.output = w.output
  size : w.heap.size ≤ w'.heap.size
  block : ∀ (k : Nat) (o : Obj), w.heap[k]? = some o → By o → w'.heap[k]? = some o
theorem Kept.of_ext {w w' : World} (h : Ext w w') : Kept w w' := ⟨h.out.os, h.out.tape, h.out.output, h.size, fun k o ho _ => (h.out.block _ (Array.getElem?_eq_some_iff.1 ho).1).trans ho⟩
theorem Kept.trans {a b c : World} (h : Kept a b) (k : Kept b c) : Kept a c := ⟨k.os.trans h.os, k.tape.trans h.tape, k.output.trans h.output, Nat.le_trans h.size k.size, fun i o ho hb => k.block i o (h.block i o ho hb) hb⟩
theorem Kept.of_chg {l : List Nat} {w w' : World} (k : Chg l w w') (hl : ∀ k ∈ l, ∀ o : Obj, w.heap[k]? = some o → ¬ By o) : Kept w w' :=
  ⟨k.os, k.tape, k.output, k.size, fun i o ho hb => (k.block i (Array.getElem?_eq_some_iff.1 ho).1 (fun hm => hl i hm o ho hb)).trans ho⟩
theorem builder_kept {B b : Nat} {p : Value} {bs : List Value} {w w' : World} (h : Lib.BuilderAtF 42 5 B b p bs w) (k : Kept w w') : Lib.BuilderAtF 42 5 B b p bs w' := by
  obtain ⟨hB, v, hv, hown, hne⟩ := h
  refine ⟨hB, v, k.block _ _ hv (Or.inl ⟨_, _, rfl⟩), ⟨hown.1, ?_⟩, hne⟩
  rcases hown.2 with h1 | ⟨g, cap, cur, fz, hv, hg, hh, hr⟩
  · exact Or.inl h1
  · exact Or.inr ⟨g, cap, cur, fz, hv, hg, k.block _ _ hh (Or.inr ⟨_, _, rfl⟩), hr⟩
def shL (hb : Nat) (R : V7) : List Value := .pointer (some ⟨hb, 0, none⟩) :: vL R
structure Sh (w0 w : World) (base bm um dm cm hb sb : Nat) (H : Hse) (R : V7) : Prop where
  ext : Ext w0 w
  hat : HAt w base bm um dm cm hb H
  blk : w.heap[sb]? = some (.cells (shL hb R).toArray 38)
  bs : base ≤ w.heap.size
  lob : w0.heap.size ≤ base
  lo : ∀ k ∈ [sb, hb, bm, um, dm, cm], w0.heap.size ≤ k
section
variable {w0 w w' : World} {base bm um dm cm hb sb : Nat} {H : Hse} {R : V7}
theorem Sh.extend (h : Sh w0 w base bm um dm cm hb sb H R) (x : Ext w w') : Sh w0 w' base bm um dm cm hb sb H R :=
  ⟨h.ext.trans x, h.hat.ext x, (x.out.block _ (Array.getElem?_eq_some_iff.1 h.blk).1).trans h.blk, Nat.le_trans h.bs x.size, h.lob, h.lo⟩
theorem Sh.sb_not (h : Sh w0 w base bm um dm cm hb sb H R) : sb ∉ hb :: bm :: um :: dm :: cm :: redB H.red := fun hm => by
  obtain ⟨o, ho, hs⟩ := h.hat.kinds _ hm
  rw [h.blk] at ho
  obtain rfl := Option.some.inj ho
  rcases hs with ⟨es, c, e⟩ | ⟨cs', fr', e⟩ | ⟨cs', fr', e⟩ <;> simp at e
theorem Sh.low (h : Sh w0 w base bm um dm cm hb sb H R) : ∀ k ∈ sb :: hb :: bm :: um :: dm :: cm :: redB H.red, w0.heap.size ≤ k := by
  intro k hk
  have hr := h.hat.red_lt
  have hl := h.lo
  simp only [List.mem_cons, List.not_mem_nil, or_false] at hk hl
  rcases hk with rfl | rfl | rfl | rfl | rfl | rfl | hk
  · exact hl _ (by simp)
  · exact hl _ (by simp)
  · exact hl _ (by simp)
  · exact hl _ (by simp)
  · exact hl _ (by simp)
  · exact hl _ (by simp)
  · exact Nat.le_trans h.lob (hr k hk).1
theorem Sh.lt (h : Sh w0 w base bm um dm cm hb sb H R) : ∀ k ∈ sb :: hb :: bm :: um :: dm :: cm :: redB H.red, k < w.heap.size := by
  intro k hk
  rcases List.mem_cons.1 hk with rfl | hk
  · exact (Array.getElem?_eq_some_iff.1 h.blk).1
  · obtain ⟨o, ho, -⟩ := h.hat.kinds k hk
    exact (Array.getElem?_eq_some_iff.1 ho).1
theorem Sh.chg {l : List Nat} {H' : Hse} {R' : V7} (h : Sh w0 w base bm um dm cm hb sb H R) (k : Chg l w w') (hl : ∀ k ∈ l, k ∈ sb :: hb :: bm :: um :: dm :: cm :: redB H.red) (hat' : HAt w' base bm um dm cm hb H') (blk' : w'.heap[sb]? = some (.cells (shL hb R').toArray 38)) :
    Sh w0 w' base bm um dm cm hb sb H' R' ∧ Kept w w' := by
  refine ⟨⟨k.toExt h.ext (fun i hi => h.low i (hl i hi)), hat', blk', Nat.le_trans h.bs k.size, h.lob, h.lo⟩, Kept.of_chg k (fun i hi o ho hb' => ?_)⟩
  rcases List.mem_cons.1 (hl i hi) with rfl | hm
  · rw [h.blk] at ho
    obtain rfl := Option.some.inj ho
    rcases hb' with ⟨cs', fr', e⟩ | ⟨cs', fr', e⟩ <;> simp at e
  · obtain ⟨o', ho', hs⟩ := h.hat.kinds i hm
    rw [ho] at ho'
    obtain rfl := Option.some.inj ho'
    exact hs.notBy hb'
theorem Sh.cell (h : Sh w0 w base bm um dm cm hb sb H R) (i : Nat) (v : Value) (hv : (shL hb R)[i]? = some v) : w.cell? ⟨sb, i, none⟩ = some v := by
  simp only [World.cell?, h.blk]
  simpa using hv
theorem Sh.fr (h : Sh w0 w base bm um dm cm hb sb H R) (i : Nat) : w.frozen? ⟨sb, i, none⟩ = false := by
  simp [World.frozen?, h.blk]
end
theorem showL_size (r n : Nat) (hr : r < 100) (hn : n < 100) : (showL r n).size ≤ 5 := by
  have hs1 := dec_small r hr
  have hs2 := dec_small n hn
  unfold showL
  rw [ByteArray.size_append, ByteArray.size_append]
  show (Lib.decDigits r).toArray.size + 1 + (Lib.decDigits n).toArray.size ≤ 5
  rw [List.size_toArray, List.size_toArray]
  omega
def doneT : ByteArray := ⟨#[32, 100, 111, 110, 101]⟩
set_option maxHeartbeats 4000000 in
theorem take_red (w0 w : World) (base bm um dm cm hb sb : Nat) (H : Hse) (R : V7) (hS : Sh w0 w base bm um dm cm hb sb H R) (s : Stp) (n : Nat) (hn : n < 100) (hrep : s.dot.rep = 0) (hdn : s.dot.n = n) (hred : (decide (5 ≤ s.kind) && decide (s.kind ≤ 7)) = true)
    (H' : Nat → Nat → Hse) (x : Nat) (hx : x = um ∨ x = cm) (hR0 : 0 ≤ R 0) (hR1 : R 0 ≤ 1000)
    (hDo : ∀ W, Sh w0 W base bm um dm cm hb sb H R → Calls Tryz.prog 68 #[.pointer (some ⟨hb, 0, none⟩), .agg s.L.toArray] W fun e w' => ∃ g cap, e = .returned (.tuple #[.bool true, .int .i64 0]) ∧ HAt w' base bm um dm cm hb (H' g cap) ∧ Chg (hb :: x :: redB H.red) W w') :
    Calls Tryz.prog 43 #[.pointer (some ⟨sb, 0, none⟩), .agg s.L.toArray] w fun e w' => e = .returned (.string (showL 0 n ++ doneT)) ∧ (∃ g cap, Sh w0 w' base bm um dm cm hb sb (H' g cap) (upd R 0 (R 0 + 1))) ∧ Kept w w' := by
  obtain ⟨g, Hg⟩ : ∃ h, Hid (w.heap.size = h) := ⟨_, Lib.hid rfl⟩
  obtain ⟨w1, H1⟩ : ∃ x, Hid (w.alloc (.cells s.L.toArray 86) = x) := ⟨_, Lib.hid rfl⟩
  have x1 : Ext w w1 := by rw [← H1.out]; exact (Ext.refl w).alloc _
  have S1 : StAt w1 g s := by rw [← H1.out, ← Hg.out]; exact StAt.new w s
  obtain ⟨RL, hRL⟩ : ∃ l, Hid (hb :: x :: redB H.red = l) := ⟨_, Lib.hid rfl⟩
  have sub : ∀ k ∈ RL, k ∈ sb :: hb :: bm :: um :: dm :: cm :: redB H.red := by
    rw [← hRL.out]
    intro k hk
    simp only [List.mem_cons] at hk ⊢
    rcases hk with rfl | rfl | hk
    · simp
    · rcases hx with rfl | rfl <;> simp
    · simp [hk]
  have hgl : g ∉ sb :: RL := fun hm => by
    have := Hg.out
    rcases List.mem_cons.1 hm with rfl | hm
    · have := hS.lt g (by simp); omega
    · have := hS.lt g (sub g hm); omega
  have hsl : sb ∉ RL := by
    rw [← hRL.out]
    have := hS.sb_not
    simp only [List.mem_cons, not_or] at this ⊢
    refine ⟨this.1, ?_, this.2.2.2.2.2⟩
    rcases hx with rfl | rfl
    · exact this.2.2.1
    · exact this.2.2.2.2.1
  have hh := Hg.out
  have q1 := H1.out
  have hsz := showL_size 0 n (by omega) hn
  have hcat : ¬ 9223372036854775807 < (showL 0 n).size + (ByteArray.mk #[32, 100, 111, 110, 101]).size := by
    show ¬ _ < (showL 0 n).size + 5
    omega
  have HD := Lib.hid hDo
  have Hred := Lib.hid hred
  have Hrep := Lib.hid hrep
  have Hdn := Lib.hid hdn
  have Hcat := Lib.hid hcat
  clear hDo hred hrep hdn hcat hsz hx
  go_enter Tryz.func43, Tryz.ntmps43
  go_wp2_with ((with_reducible refine gate_dst (N := 8) rfl ?_); refine halt ?_)
  clear hh q1
  refine unhalt (wpList_load_mid rfl 86 _ rfl g 0 rfl s.L _ S1.all Tryz.underlying86 rfl (by kernel_rfl) ?_)
  go_wp2_with fail
  refine (red_any s _).mono ?_
  rintro e w2 ⟨rfl, x2⟩
  rw [Hred.out]
  have h2 := hS.extend (x1.trans x2)
  have S2 := S1.ext x2
  have c0 : ∀ W, Chg RL w2 W → W.cell? ⟨sb, 0, none⟩ = some (.pointer (some ⟨hb, 0, none⟩)) := fun W k => by
    have b := (k.block sb (Array.getElem?_eq_some_iff.1 h2.blk).1 hsl).trans h2.blk
    simp [World.cell?, b, shL]
  have hgl' : g ∉ RL := fun hm => hgl (List.mem_cons.2 (Or.inr hm))
  have cT : Chg RL w2 w2.drew := Chg.of_ext (Ext.refl w2).drew
  go_wp2_with fail
  refine start_ (n := 11) (S := (fun W => Chg RL w2 W)) (ds := []) #[false, false, false, false, false, false, false, false, false, false, false] (by kernel_rfl) (by kernel_rfl) (by kernel_rfl) (cT) (fun hHeld => ?_)
  refine take_ (i := 0) (N := (some 25)) (v := ?_) (a' := ?_) #[true, false, false, false, false, false, false, false, false, false, false] rfl rfl (by kernel_rfl) (fun _ _ _ h => h) (Or.inl ⟨by rfl, ?_⟩) (by assumption) ?_ ?_
  rotate_left
  · intro w' hSw; (try dsimp only at hSw)
    go_simp
    try with_reducible rfl
  rotate_left
  · simp only [Act.put, List.setIfInBounds_toArray, List.set_cons_zero, List.set_cons_succ]
    rfl
  refine take_ (i := 1) (N := (some 26)) (v := ?_) (a' := ?_) #[true, true, false, false, false, false, false, false, false, false, false] rfl rfl (by kernel_rfl) (fun _ _ _ h => h) (Or.inl ⟨by rfl, ?_⟩) (by assumption) ?_ ?_
  rotate_left
  · intro w' hSw; (try dsimp only at hSw)
    go_simp
    try with_reducible rfl
  rotate_left
  · simp only [Act.put, List.setIfInBounds_toArray, List.set_cons_zero, List.set_cons_succ]
    rfl
  refine take_ (i := 2) (N := (some 27)) (v := ?_) (a' := ?_) #[true, true, true, false, false, false, false, false, false, false, false] rfl rfl (by kernel_rfl) (fun _ _ _ h => h) (Or.inl ⟨by rfl, ?_⟩) (by assumption) ?_ ?_
  rotate_left
  · intro w' hSw; (try dsimp only at hSw)
    go_simp
    try with_reducible rfl
  rotate_left
  · simp only [Act.put, List.setIfInBounds_toArray, List.set_cons_zero, List.set_cons_succ]
    rfl
  refine take_ (i := 3) (N := (some 28)) (v := ?_) (a' := ?_) #[true, true, true, true, false, false, false, false, false, false, false] rfl rfl (by kernel_rfl) (fun _ _ _ h => h) (Or.inl ⟨by rfl, ?_⟩) (by assumption) ?_ ?_
  rotate_left
  · intro w' hSw; (try dsimp only at hSw)
    go_simp
    try with_reducible rfl
  rotate_left
  · simp only [Act.put, List.setIfInBounds_toArray, List.set_cons_zero, List.set_cons_succ]
    rfl
  refine take_ (i := 4) (N := (some 29)) (v := .agg (s.L).toArray) (a' := ?_) #[true, true, true, true, true, false, false, false, false, false, false] rfl rfl (by kernel_rfl) (fun _ _ _ h => h) (yieldsIf_load_mid (by rfl) 86 _ rfl g 0 rfl (s.L) _ (fun W hW => range_chg S2.all hW hgl') Tryz.underlying86 rfl (by kernel_rfl)) (by assumption) ?_ ?_
  rotate_left
  · simp only [Act.put, List.setIfInBounds_toArray, List.set_cons_zero, List.set_cons_succ]
    rfl
  refine one_ (i := 5) (N := (some 30)) #[true, true, true, true, true, true, false, false, false, false, false] rfl rfl (by kernel_rfl) (by simp) (fun K hK => ?_)
  go_simp
  refine (HD.out _ (h2.extend (Ext.refl _).drew)).mono ?_
  rintro e w3 ⟨g3, cap3, rfl, hat3, k23⟩
  rw [hRL.out] at k23
  refine hK.out _ _ ?_ (fun hHeld => ?_)
  · first | assumption | exact hHeld.trans (by assumption)
  clear hK K
  (try simp only [Act.put, List.setIfInBounds_toArray, List.set_cons_zero, List.set_cons_succ])
  refine take_ (i := 6) (N := (some 24)) (v := ?_) (a' := ?_) #[true, true, true, true, true, true, true, false, false, false, false] rfl rfl (by kernel_rfl) (fun _ _ _ h => h) (Or.inl ⟨by rfl, ?_⟩) (by assumption) ?_ ?_
  rotate_left
  · intro w' hSw; (try dsimp only at hSw)
    go_simp
    try with_reducible rfl
  rotate_left
  · simp only [Act.put, List.setIfInBounds_toArray, List.set_cons_zero, List.set_cons_succ]
    rfl
  refine take_ (i := 7) (N := (some 31)) (v := ?_) (a' := ?_) #[true, true, true, true, true, true, true, true, false, false, false] rfl rfl (by kernel_rfl) (fun _ _ _ h => h) (Or.inl ⟨by rfl, ?_⟩) (by assumption) ?_ ?_
  rotate_left
  · intro w' hSw; (try dsimp only at hSw)
    go_simp
    try with_reducible rfl
  rotate_left
  · simp only [Act.put, List.setIfInBounds_toArray, List.set_cons_zero, List.set_cons_succ]
    rfl
  refine take_ (i := 8) (N := (some 32)) (v := ?_) (a' := ?_) #[true, true, true, true, true, true, true, true, true, false, false] rfl rfl (by kernel_rfl) (fun _ _ _ h => h) (Or.inl ⟨by rfl, ?_⟩) (by assumption) ?_ ?_
  rotate_left
  · intro w' hSw; (try dsimp only at hSw)
    go_simp
    try with_reducible rfl
  rotate_left
  · simp only [Act.put, List.setIfInBounds_toArray, List.set_cons_zero, List.set_cons_succ]
    rfl
  refine take_ (i := 9) (N := (some 6)) (v := ?_) (a' := ?_) #[true, true, true, true, true, true, true, true, true, true, false] rfl rfl (by kernel_rfl) (fun _ _ _ h => h) (Or.inl ⟨by rfl, ?_⟩) (by assumption) ?_ ?_
  rotate_left
  · intro w' hSw; (try dsimp only at hSw)
    go_simp
    try with_reducible rfl
  rotate_left
  · simp only [Act.put, List.setIfInBounds_toArray, List.set_cons_zero, List.set_cons_succ]
    rfl
  refine take_ (i := 10) (N := (some 7)) (v := ?_) (a' := ?_) #[true, true, true, true, true, true, true, true, true, true, true] rfl rfl (by kernel_rfl) (fun _ _ _ h => h) (Or.inl ⟨by rfl, ?_⟩) (by assumption) ?_ ?_
  rotate_left
  · intro w' hSw; (try dsimp only at hSw)
    go_simp
    try with_reducible rfl
  rotate_left
  · simp only [Act.put, List.setIfInBounds_toArray, List.set_cons_zero, List.set_cons_succ]
    rfl
  refine done_ (by kernel_rfl) ?_
  clear c0
  have k13 := hHeld
  have b3 := (k13.block sb (Array.getElem?_eq_some_iff.1 h2.blk).1 hsl).trans h2.blk
  obtain ⟨h3, kp3⟩ := h2.chg k13 sub hat3 b3
  have S3 : StAt w3 g s := ⟨range_chg S2.all k13 hgl'⟩
  have r0 : ∀ W, Ext w3 W → W.cell? ⟨g, 1, none⟩ = some (.int .i64 0) := fun W y => by rw [← Hrep.out]; exact (S3.ext y).cell 1 _ rfl
  have r1 : ∀ W, Ext w3 W → W.cell? ⟨sb, 1, none⟩ = some (.int .i64 (R 0)) := fun W y => (h3.extend y).cell 1 _ rfl
  have hwm : IntKind.i64.wrap (R 0 + 1) = R 0 + 1 := by simp (disch := omega) only [IntWalk.i64_in]
  have f1 := h3.fr 1
  have cc1 := h3.cell 1 _ rfl
  obtain ⟨u, U⟩ : ∃ x, Hid (w3.setCell ⟨sb, 1, none⟩ (.int .i64 (R 0 + 1)) = x) := ⟨_, Lib.hid rfl⟩
  have ru := U.out
  have xT := Ext.refl w3
  go_wp2_with fail
  refine start_ (n := 13) (S := (fun W => Ext w3 W)) (ds := [12]) #[false, false, false, false, false, false, false, false, false, false, false, false, false] (by kernel_rfl) (by kernel_rfl) (by kernel_rfl) (xT.drew) (fun hHeld => ?_)
  refine take_ (i := 0) (N := (some 37)) (v := ?_) (a' := ?_) #[true, false, false, false, false, false, false, false, false, false, false, false, false] rfl rfl (by kernel_rfl) (fun _ _ _ h => h) (Or.inl ⟨by rfl, ?_⟩) (by assumption) ?_ ?_
  rotate_left
  · intro w' hSw; (try dsimp only at hSw)
    go_simp
    try with_reducible rfl
  rotate_left
  · simp only [Act.put, List.setIfInBounds_toArray, List.set_cons_zero, List.set_cons_succ]
    rfl
  refine take_ (i := 1) (N := (some 38)) (v := ?_) (a' := ?_) #[true, true, false, false, false, false, false, false, false, false, false, false, false] rfl rfl (by kernel_rfl) (fun _ _ _ h => h) (Or.inl ⟨by rfl, ?_⟩) (by assumption) ?_ ?_
  rotate_left
  · intro w' hSw; (try dsimp only at hSw)
    go_simp
    try with_reducible rfl
  rotate_left
  · simp only [Act.put, List.setIfInBounds_toArray, List.set_cons_zero, List.set_cons_succ]
    rfl
  refine take_ (i := 2) (N := (some 39)) (v := ?_) (a' := ?_) #[true, true, true, false, false, false, false, false, false, false, false, false, false] rfl rfl (by kernel_rfl) (fun _ _ _ h => h) (Or.inl ⟨by rfl, ?_⟩) (by assumption) ?_ ?_
  rotate_left
  · intro w' hSw; (try dsimp only at hSw)
    go_simp
    try with_reducible rfl
  rotate_left
  · simp only [Act.put, List.setIfInBounds_toArray, List.set_cons_zero, List.set_cons_succ]
    rfl
  refine take_ (i := 3) (N := (some 40)) (v := ?_) (a' := ?_) #[true, true, true, true, false, false, false, false, false, false, false, false, false] rfl rfl (by kernel_rfl) (fun _ _ _ h => h) (Or.inl ⟨by rfl, ?_⟩) (by assumption) ?_ ?_
  rotate_left
  · intro w' hSw; (try dsimp only at hSw)
    go_simp
    try with_reducible rfl
  rotate_left
  · simp only [Act.put, List.setIfInBounds_toArray, List.set_cons_zero, List.set_cons_succ]
    rfl
  refine take_ (i := 4) (N := (some 41)) (v := ?_) (a' := ?_) #[true, true, true, true, true, false, false, false, false, false, false, false, false] rfl rfl (by kernel_rfl) (fun _ _ _ h => h) (Or.inl ⟨by rfl, ?_⟩) (by assumption) ?_ ?_
  rotate_left
  · intro w' hSw; (try dsimp only at hSw)
    go_simp
    try with_reducible rfl
  rotate_left
  · simp only [Act.put, List.setIfInBounds_toArray, List.set_cons_zero, List.set_cons_succ]
    rfl
  refine take_ (i := 5) (N := (some 42)) (v := ?_) (a' := ?_) #[true, true, true, true, true, true, false, false, false, false, false, false, false] rfl rfl (by kernel_rfl) (fun _ _ _ h => h) (Or.inl ⟨by rfl, ?_⟩) (by assumption) ?_ ?_
  rotate_left
  · intro w' hSw; (try dsimp only at hSw)
    go_simp
    try with_reducible rfl
  rotate_left
  · simp only [Act.put, List.setIfInBounds_toArray, List.set_cons_zero, List.set_cons_succ]
    rfl
  refine take_ (i := 6) (N := (some 43)) (v := ?_) (a' := ?_) #[true, true, true, true, true, true, true, false, false, false, false, false, false] rfl rfl (by kernel_rfl) (fun _ _ _ h => h) (Or.inl ⟨by rfl, ?_⟩) (by assumption) ?_ ?_
  rotate_left
  · intro w' hSw; (try dsimp only at hSw)
    go_simp
    try with_reducible rfl
  rotate_left
  · simp only [Act.put, List.setIfInBounds_toArray, List.set_cons_zero, List.set_cons_succ]
    rfl
  refine take_ (i := 7) (N := (some 44)) (v := ?_) (a' := ?_) #[true, true, true, true, true, true, true, true, false, false, false, false, false] rfl rfl (by kernel_rfl) (fun _ _ _ h => h) (Or.inl ⟨by rfl, ?_⟩) (by assumption) ?_ ?_
  rotate_left
  · intro w' hSw; (try dsimp only at hSw)
    go_simp
    try with_reducible rfl
  rotate_left
  · simp only [Act.put, List.setIfInBounds_toArray, List.set_cons_zero, List.set_cons_succ]
    rfl
  refine take_ (i := 8) (N := (some 45)) (v := ?_) (a' := ?_) #[true, true, true, true, true, true, true, true, true, false, false, false, false] rfl rfl (by kernel_rfl) (fun _ _ _ h => h) (Or.inl ⟨by rfl, ?_⟩) (by assumption) ?_ ?_
  rotate_left
  · intro w' hSw; (try dsimp only at hSw)
    go_simp
    try with_reducible rfl
  rotate_left
  · simp only [Act.put, List.setIfInBounds_toArray, List.set_cons_zero, List.set_cons_succ]
    rfl
  refine take_ (i := 9) (N := (some 46)) (v := ?_) (a' := ?_) #[true, true, true, true, true, true, true, true, true, true, false, false, false] rfl rfl (by kernel_rfl) (fun _ _ _ h => h) (Or.inl ⟨by rfl, ?_⟩) (by assumption) ?_ ?_
  rotate_left
  · intro w' hSw; (try dsimp only at hSw)
    go_simp
    try with_reducible rfl
  rotate_left
  · simp only [Act.put, List.setIfInBounds_toArray, List.set_cons_zero, List.set_cons_succ]
    rfl
  refine take_ (i := 10) (N := (some 47)) (v := ?_) (a' := ?_) #[true, true, true, true, true, true, true, true, true, true, true, false, false] rfl rfl (by kernel_rfl) (fun _ _ _ h => h) (Or.inl ⟨by rfl, ?_⟩) (by assumption) ?_ ?_
  rotate_left
  · intro w' hSw; (try dsimp only at hSw)
    go_simp
    try with_reducible rfl
  rotate_left
  · simp only [Act.put, List.setIfInBounds_toArray, List.set_cons_zero, List.set_cons_succ]
    rfl
  refine take_ (i := 11) (N := (some 48)) (v := ?_) (a' := ?_) #[true, true, true, true, true, true, true, true, true, true, true, true, false] rfl rfl (by kernel_rfl) (fun _ _ _ h => h) (Or.inl ⟨by rfl, ?_⟩) (by assumption) ?_ ?_
  rotate_left
  · intro w' hSw; (try dsimp only at hSw)
    go_simp
    try with_reducible rfl
  rotate_left
  · simp only [Act.put, List.setIfInBounds_toArray, List.set_cons_zero, List.set_cons_succ]
    rfl
  refine last_ (i := 12) (N := none) #[true, true, true, true, true, true, true, true, true, true, true, true, true] rfl rfl (by kernel_rfl) (by simp) (fun K hK => ?_)
  go_simp
  clear ru
  refine hK.out _ _ ?_
  clear hK K
  (try simp only [Act.put, List.setIfInBounds_toArray, List.set_cons_zero, List.set_cons_succ])
  refine done_ (by kernel_rfl) ?_
  have ku : Chg [sb] w3 u := by rw [← U.out]; exact (Chg.refl _ _).set sb 1 _ (by simp)
  have bu : u.heap[sb]? = some (.cells (shL hb (upd R 0 (R 0 + 1))).toArray 38) := by
    rw [← U.out, blk_set h3.blk 1 _]
    simp [shL, vL, upd]
  have hatu : HAt u base bm um dm cm hb (H' g3 cap3) := hat3.through (fun k o ho hs => (ku.block k (Array.getElem?_eq_some_iff.1 ho).1 (fun hm => by
    obtain rfl : k = sb := by simpa using hm
    rw [h3.blk] at ho
    obtain rfl := Option.some.inj ho
    rcases hs with ⟨es, c, e⟩ | ⟨cs', fr', e⟩ | ⟨cs', fr', e⟩ <;> simp at e)).trans ho)
  obtain ⟨hu, kpu⟩ := h3.chg ku (by simp) hatu bu
  have hgs : g ∉ [sb] := fun hm => hgl (by
    simp only [List.mem_cons, List.not_mem_nil, or_false] at hm ⊢
    exact Or.inl hm)
  have Su : StAt u.drew g s := (StAt.mk (range_chg S3.all ku hgs)).ext (Ext.refl u).drew
  have t1 : u.drew.cell? ⟨g, 1, none⟩ = some (.int .i64 0) := by rw [← Hrep.out]; exact Su.cell 1 _ rfl
  have t2 : u.drew.cell? ⟨g, 2, none⟩ = some (.int .i64 (n : Int)) := by rw [← Hdn.out]; exact Su.cell 2 _ rfl
  have kp := ((Kept.of_ext (x1.trans x2)).trans kp3).trans kpu
  clear r0 r1 f1 cc1 ku bu hatu Su S3
  go_wp2_with fail
  refine (show_any 0 n (by omega) hn _).mono ?_
  rintro e w5 ⟨rfl, x5⟩
  have hcat := Hcat.out
  have hs5 := hu.extend ((Ext.refl u).drew.trans x5)
  have kp5 := kp.trans (Kept.of_ext ((Ext.refl u).drew.trans x5))
  go_wp2
  go_ret
  exact ⟨rfl, ⟨g3, cap3, hs5⟩, kp5⟩
end Go.Proofs.YtbemkefcaceekaaGreatDoor
