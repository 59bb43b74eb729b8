/- Top6: the reader's word, number, num, dot. -/
import Derived.Test.YtbemkefcaceekaaGreatDoorTop5
set_option linter.unusedVariables false
set_option linter.unusedSimpArgs false
set_option maxRecDepth 100000
namespace Go.Proofs.YtbemkefcaceekaaGreatDoor
open Go.RowKit Go.Lib Go.Shelf Go.Proofs.YtbemkefcaceekaaGreatDoorW.PrintWords Go.Proofs.YtbemkefcaceekaaGreatDoorW.PrintLast

/-- A reader in block rb with these words before it, in block blk. -/
structure RdAt (w : World) (rb blk off c : Nat) (ws : List ByteArray) : Prop where
  all : ∃ a, w.heap[rb]? = some (.cells #[.slice (some a) ws.length c, .bool false] 51) ∧ (ws ≠ [] → a = ⟨blk, off, none⟩)
  row : w.rangeAt blk off (ws.map .string)
  cap : ws.length ≤ c
  big : c ≤ 9223372036854775807
  ne : blk ≠ rb
  lt : blk < w.heap.size
theorem RdAt.ext {w w' : World} {rb blk off c : Nat} {ws : List ByteArray} (h : RdAt w rb blk off c ws) (x : Ext w w') : RdAt w' rb blk off c ws := by
  obtain ⟨a, h1, h2⟩ := h.all
  exact ⟨⟨a, (x.out.block _ (Array.getElem?_eq_some_iff.1 h1).1).trans h1, h2⟩, rangeAt_ext h.row x, h.cap, h.big, h.ne, Nat.lt_of_lt_of_le h.lt x.size⟩
theorem RdAt.chg {w w' : World} {rb blk off c : Nat} {ws : List ByteArray} {l : List Nat} (h : RdAt w rb blk off c ws) (x : Chg l w w') (h1 : rb ∉ l) (h2 : blk ∉ l) : RdAt w' rb blk off c ws := by
  obtain ⟨a, q1, q2⟩ := h.all
  exact ⟨⟨a, (x.block _ (Array.getElem?_eq_some_iff.1 q1).1 h1).trans q1, q2⟩, range_chg h.row x h2, h.cap, h.big, h.ne, Nat.lt_of_lt_of_le h.lt x.size⟩
theorem RdAt.lt' {w : World} {rb blk off c : Nat} {ws : List ByteArray} (h : RdAt w rb blk off c ws) : rb < w.heap.size := by
  obtain ⟨a, q1, q2⟩ := h.all
  exact (Array.getElem?_eq_some_iff.1 q1).1
theorem RdAt.cells {w : World} {rb blk off c : Nat} {x : ByteArray} {ws : List ByteArray} (h : RdAt w rb blk off c (x :: ws)) : w.cell? ⟨rb, 0, none⟩ = some (.slice (some ⟨blk, off, none⟩) (ws.length + 1) c) ∧ w.cell? ⟨rb, 1, none⟩ = some (.bool false) ∧ w.frozen? ⟨rb, 0, none⟩ = false ∧ w.cell? ⟨blk, off, none⟩ = some (.string x) := by
  obtain ⟨a, h1, h2⟩ := h.all
  obtain rfl := h2 (by simp)
  exact ⟨by simp [World.cell?, h1], by simp [World.cell?, h1], by simp [World.frozen?, h1], by have := h.row 0 (.string x) rfl; rwa [Nat.add_zero] at this⟩
theorem RdAt.next {w : World} {rb blk off c : Nat} {x : ByteArray} {ws : List ByteArray} (h : RdAt w rb blk off c (x :: ws)) (a : Addr) (ha : ws ≠ [] → a = ⟨blk, off + 1, none⟩) :
    RdAt (w.setCell ⟨rb, 0, none⟩ (.slice (some a) ws.length (c - 1))) rb blk (off + 1) (c - 1) ws ∧ Chg [rb] w (w.setCell ⟨rb, 0, none⟩ (.slice (some a) ws.length (c - 1))) := by
  obtain ⟨a0, h1, h2⟩ := h.all
  have hc := h.cap
  rw [List.length_cons] at hc
  have hb := h.big
  have hx := (Chg.refl [rb] w).set rb 0 (.slice (some a) ws.length (c - 1)) (by simp)
  refine ⟨⟨⟨a, ?_, ha⟩, ?_, by omega, by omega, h.ne, Nat.lt_of_lt_of_le h.lt hx.size⟩, hx⟩
  · have := Joins.block_setCell h1 (i := 0) (.slice (some a) ws.length (c - 1))
    simpa using this
  · refine range_chg ?_ hx (by simpa using h.ne)
    exact rangeAt_sub h.row 1 _ (fun j v hv => by rw [Nat.add_comm]; simpa using hv)
theorem rword_any (w : World) (rb blk off c : Nat) (x : ByteArray) (ws : List ByteArray) (h : RdAt w rb blk off c (x :: ws)) :
    Calls Tryz.prog 13 #[.pointer (some ⟨rb, 0, none⟩)] w fun e w' => e = .returned (.string x) ∧ RdAt w' rb blk (off + 1) (c - 1) ws ∧ Chg [rb] w w' := by
  obtain ⟨c0, c1, f0, hx⟩ := h.cells
  have hc := h.cap
  have hb := h.big
  rw [List.length_cons] at hc
  by_cases e1 : c = 1
  · have e2 : ws = [] := List.eq_nil_of_length_eq_zero (by omega)
    subst e1 e2
    have hn := h.next ⟨blk, off, none⟩ (fun e => absurd rfl e)
    have Hn := Lib.hid hn
    clear hn
    go_enter Tryz.func13, Tryz.ntmps13
    go_wp2
    go_ret
    exact ⟨rfl, Hn.out⟩
  · have hn := h.next ⟨blk, off + 1, none⟩ (fun _ => rfl)
    have Hn := Lib.hid hn
    clear hn
    go_enter Tryz.func13, Tryz.ntmps13
    go_wp2
    go_ret
    exact ⟨rfl, Hn.out⟩

/-- What a text spells. -/
structure Spells (x : ByteArray) (v : Int) : Prop where
  parse : Lib.parseIntB 64 x.data.toList = .ok v
  n1 : 1 ≤ x.size
  n12 : x.size ≤ 12
  trim : Lib.trimS x.data.toList [48, 49, 50, 51, 52, 53, 54, 55, 56, 57] = []
theorem trim_any (x : ByteArray) (w : World) (hs : x.size ≤ 12) :
    Calls Tryz.prog 61 #[.string x, .string ⟨#[48, 49, 50, 51, 52, 53, 54, 55, 56, 57]⟩] w fun e w' => e = .returned (.string ⟨(Lib.trimS x.data.toList [48, 49, 50, 51, 52, 53, 54, 55, 56, 57]).toArray⟩) ∧ Below w.heap.size w w' :=
  Any.strings_Trim_laid Tryz.lays160 (by kernel_rfl) x ⟨#[48, 49, 50, 51, 52, 53, 54, 55, 56, 57]⟩ w (by omega) (by decide) (ascii_of_all (by decide))
theorem number_any (w : World) (rb : Nat) (x : ByteArray) (v : Int) (h : Spells x v) :
    Calls Tryz.prog 36 #[.pointer (some ⟨rb, 0, none⟩), .string x] w fun e w' => e = .returned (.int .i64 v) ∧ Ext w w' := by
  have n1 := h.n1
  have n12 := h.n12
  have kp := fun W => Tryz.strconv_ParseInt_10_at64_ok x (by omega) v h.parse W
  have kt := fun W => trim_any x W h.n12
  rw [h.trim] at kt
  go_enter Tryz.func36, Tryz.ntmps36
  go_wp2_with fail
  refine (kp _).mono ?_
  rintro e w1 ⟨rfl, x1⟩
  have x1 : Ext w w1 := by
    rcases x1 with rfl | ⟨t, rfl⟩
    · exact Ext.refl _
    · exact (Ext.refl w).bytes _ _
  go_wp2_with fail
  refine (kt _).mono ?_
  rintro e w2 ⟨rfl, x2⟩
  go_wp2
  go_ret
  exact ⟨rfl, x1.trans (Ext.of x2)⟩
theorem num_any (w : World) (rb blk off c : Nat) (x : ByteArray) (ws : List ByteArray) (v : Int) (h : RdAt w rb blk off c (x :: ws)) (hv : Spells x v) :
    Calls Tryz.prog 18 #[.pointer (some ⟨rb, 0, none⟩)] w fun e w' => e = .returned (.int .i64 v) ∧ RdAt w' rb blk (off + 1) (c - 1) ws ∧ Chg [rb] w w' := by
  go_enter Tryz.func18, Tryz.ntmps18
  go_wp2_with fail
  refine (rword_any w rb blk off c x ws h).mono ?_
  rintro e w1 ⟨rfl, R1, k1⟩
  go_wp2_with fail
  refine (number_any w1 rb x v hv).mono ?_
  rintro e w2 ⟨rfl, x2⟩
  go_wp2
  go_ret
  exact ⟨rfl, R1.ext x2, k1.ext x2⟩
theorem dot_read (w : World) (rb blk off c : Nat) (x a b : ByteArray) (ws : List ByteArray) (r n m : Int) (h : RdAt w rb blk off c (x :: ws)) (hm : w.cell? ⟨0, 0, none⟩ = some (.int .i64 m)) (hrb : rb ≠ 0)
    (hs : x.size < 4294967281) (hc : Lib.cut x.data.toList [46] = (a.data.toList, b.data.toList, true)) (ha : Spells a r) (hb : Spells b n) :
    Calls Tryz.prog 19 #[.pointer (some ⟨rb, 0, none⟩)] w fun e w' => e = .returned (dotv r n) ∧ RdAt w' rb blk (off + 1) (c - 1) ws ∧ Chg [rb] w w' := by
  obtain ⟨g, Hg⟩ : ∃ h, Hid (w.heap.size = h) := ⟨_, Lib.hid rfl⟩
  obtain ⟨w1, H1, S1, hx1, hd1, fd1, -⟩ := alloc2 w 0 0 64 g Hg.out
  have kc := fun m W hm => Tryz.strings_Cut x ⟨#[46]⟩ m W hs hm
  rw [show (ByteArray.mk #[46]).data.toList = [46] from rfl, hc] at kc
  have hh := Hg.out
  have h1 := H1.out
  go_enter Tryz.func19, Tryz.ntmps19
  go_wp2_with fail
  clear hh h1
  refine (rword_any w1 rb blk off c x ws (h.ext hx1)).mono ?_
  rintro e w2 ⟨rfl, R2, k2⟩
  have hm2 : w2.cell? ⟨0, 0, none⟩ = some (.int .i64 m) := by
    have := hx1.cell hm
    have hlt : 0 < w1.heap.size := World.block_lt_of_cell? _ _ this
    rw [← this]
    exact World.cell?_of_block (k2.block 0 hlt (by simpa using hrb.symm))
  go_wp2_with fail
  refine (kc m _ hm2).mono ?_
  rintro e w3 ⟨rfl, q, rfl⟩
  have x3 : Ext w2 (w2.drewN q) := (Ext.refl _).drewN q
  go_wp2_with fail
  refine (number_any _ rb a r ha).mono ?_
  rintro e w4 ⟨rfl, x4⟩
  go_wp2_with fail
  refine (number_any _ rb b n hb).mono ?_
  rintro e w5 ⟨rfl, x5⟩
  have hb1 : w1.heap[g]? = some (.cells #[.int .i64 0, .int .i64 0] 64) := by
    rw [← H1.out, ← Hg.out]; exact Array.getElem?_push_size
  have hlt : rb < w.heap.size := by obtain ⟨a0, q1, -⟩ := h.all; exact (Array.getElem?_eq_some_iff.1 q1).1
  have hne : g ≠ rb := by have := Hg.out; omega
  have hg1 : g < w1.heap.size := (Array.getElem?_eq_some_iff.1 hb1).1
  have hb2 : w2.heap[g]? = some (.cells #[.int .i64 0, .int .i64 0] 64) := (k2.block g hg1 (by simpa using hne)).trans hb1
  have X5 : Ext w2 w5 := x3.trans (x4.trans x5)
  have hb5 : w5.heap[g]? = some (.cells #[.int .i64 0, .int .i64 0] 64) := (X5.out.block g (Array.getElem?_eq_some_iff.1 hb2).1).trans hb2
  have d0 : w5.cell? ⟨g, 0, none⟩ = some (.int .i64 0) := by simp [World.cell?, hb5]
  have d1 : w5.cell? ⟨g, 1, none⟩ = some (.int .i64 0) := by simp [World.cell?, hb5]
  have f0 : w5.frozen? ⟨g, 0, none⟩ = false := by simp [World.frozen?, hb5]
  have f1 : w5.frozen? ⟨g, 1, none⟩ = false := by simp [World.frozen?, hb5]
  obtain ⟨w6, H6, ⟨e0, e1⟩, k6, -⟩ := put2 w5 g 0 0 r n ⟨d0, d1⟩
  have h6 := H6.out
  have kX : Chg [rb] w w5 := ((Chg.of_ext hx1).trans k2).ext X5
  have kG : Chg [g] w5 w6 := by rw [← H6.out]; exact ((Chg.refl [g] w5).set g 0 _ (by simp)).set g 1 _ (by simp)
  have hgw : g = w.heap.size := Hg.out.symm
  have k7 : Chg [rb] w w6 := ⟨kG.os.trans kX.os, kG.tape.trans kX.tape, kG.output.trans kX.output, Nat.le_trans kX.size kG.size, fun k hk hn => (kG.block k (Nat.lt_of_lt_of_le hk kX.size) (by simp; omega)).trans (kX.block k hk hn)⟩
  have R6 : RdAt w6 rb blk (off + 1) (c - 1) ws := by
    have R5 := R2.ext X5
    obtain ⟨a0, q1, q2⟩ := R5.all
    refine ⟨⟨a0, (kG.block rb (Array.getElem?_eq_some_iff.1 q1).1 (by simpa using hne.symm)).trans q1, q2⟩, ?_, R5.cap, R5.big, R5.ne, Nat.lt_of_lt_of_le R5.lt kG.size⟩
    by_cases hws : ws = []
    · subst hws
      intro j v hv
      simp at hv
    · refine range_chg R5.row kG ?_
      obtain ⟨c0', -, -, hx'⟩ := h.cells
      have : blk < w.heap.size := World.block_lt_of_cell? _ _ hx'
      simp
      omega
  have Hk := Lib.hid k7
  have HR := Lib.hid R6
  clear k7 kX kG R6 hgw hne hg1 hlt hm2 hd1
  go_wp2
  refine bodyPost_ret (v := dotv r n) (by simp [results, Tryz.results19, go_sem, dotv, e0, e1]) rfl ⟨rfl, HR.out, Hk.out⟩
end Go.Proofs.YtbemkefcaceekaaGreatDoor
