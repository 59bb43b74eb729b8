/- name's other, Good, Fold: over the tables. -/
import Derived.Test.YtbemkefcaceekaaGreatDoorName1
import Derived.Test.YtbemkefcaceekaaGreatDoorBuilder
import Derived.BigCall
set_option linter.unusedVariables false
namespace Go.Proofs.YtbemkefcaceekaaGreatDoor
open Go.RowKit Go.Lib Go.Shelf Go.Proofs.YtbemkefcaceekaaGreatDoorW.PrintWords
set_option maxHeartbeats 4000000
set_option maxRecDepth 100000

/-- The library's tables, as their initialisers lay them. -/
def Tabs (w : World) : Prop := Lib.TabIs Tryz.prog w "unicode.properties" .u8 Lib.propertiesTab ∧ RVar (Tryz.lays200_ren.g 8) letterT w ∧ RVar (Tryz.lays198_ren.g 5) digitT w ∧ CaseVar (Tryz.lays204_ren.g 13) caseA w
theorem caseVar_below {g : Nat} {T : Array CaseRow} {w w' : World} (h : CaseVar g T w) (hb : Below w.heap.size w w') : CaseVar g T w' := by
  have k : ∀ {a : Addr} {v : Value}, w.cell? a = some v → w'.cell? a = some v := fun {a v} hc => pw_cell_below hb hc
  obtain ⟨R, oR, cap, h1, h2⟩ := h
  exact ⟨R, oR, cap, k h1, fun i hi => ⟨k (h2 i hi).1, k (h2 i hi).2.1, k (h2 i hi).2.2.1, k (h2 i hi).2.2.2.1, k (h2 i hi).2.2.2.2⟩⟩
theorem gProps : Tryz.prog.globalNamed "unicode.properties" = some (Tryz.lays200_ren.g 7) := by kernel_rfl
theorem Tabs.below {w w' : World} (h : Tabs w) (hb : Below w.heap.size w w') : Tabs w' :=
  ⟨TabIs_below gProps h.1 hb, RVar_below h.2.1 hb, RVar_below h.2.2.1 hb, caseVar_below h.2.2.2 hb⟩
theorem Tabs.ext {w w' : World} (h : Tabs w) (hb : Ext w w') : Tabs w' := h.below hb

theorem letter_any (r : Int) (w : World) (hlo : -2147483648 ≤ r) (hhi : r ≤ 2147483647) (ht : Tabs w) :
    Calls Tryz.prog 188 #[.int .i32 r] w fun e w' => e = .returned (.bool (isLetterU r)) ∧ Below w.heap.size w w' := Tryz.unicode_IsLetter_all r w hlo hhi ht.1 ht.2.1
theorem digit_any (r : Int) (w : World) (hlo : -2147483648 ≤ r) (hhi : r ≤ 2147483647) (ht : Tabs w) :
    Calls Tryz.prog 189 #[.int .i32 r] w fun e w' => e = .returned (.bool (isDigitU r)) ∧ Below w.heap.size w w' := Tryz.unicode_IsDigit_all r w hlo hhi ht.2.2.1
theorem lower_any (r : Int) (w : World) (ht : Tabs w) :
    Calls Tryz.prog 55 #[.int .i32 r] w fun e w' => e = .returned (.int .i32 (toLowerU r)) ∧ ∃ q, w' = w.drewN q := Tryz.unicode_ToLower_laid r w ht.2.2.2

/-- May a rune stand in a name? -/
def okR (r : Int) (first : Bool) : Bool := isLetterU r || (!first && (isDigitU r || r == 45))
theorem other_any (r : Int) (b : Bool) (w : World) (hlo : -2147483648 ≤ r) (hhi : r ≤ 2147483647) (ht : Tabs w) :
    Calls Tryz.prog 178 #[.int .i32 r, .bool b] w fun e w' => e = .returned (.bool (okR r b)) ∧ Ext w w' := by
  go_enter Tryz.func178, Tryz.ntmps178
  go_wp2_with (go_at_call 188; refine (letter_any r _ hlo hhi ht).mono ?_)
  rintro e w1 ⟨rfl, b1⟩
  have t1 := ht.below b1
  have x1 : Ext w w1 := b1
  cases hL : isLetterU r
  · cases b
    · go_wp2_with (go_at_call 189; refine (digit_any r _ hlo hhi t1).mono ?_)
      rintro e w2 ⟨rfl, b2⟩
      have x2 : Ext w w2 := x1.trans (Ext.of b2)
      cases hD : isDigitU r
      · go_wp2
        go_ret
        exact ⟨by simp [okR, hL, hD], x2⟩
      · go_wp2
        go_ret
        exact ⟨by simp [okR, hL, hD], x2⟩
    · go_wp2
      go_ret
      exact ⟨by simp [okR, hL], x1⟩
  · go_wp2
    go_ret
    exact ⟨by simp [okR, hL], x1⟩

/-- May a text be a name? -/
def goodL (l : List (List UInt8 × Nat)) : Bool := (match l with | [] => true | c :: t => okR c.2 true && t.all fun d => okR d.2 false) && (decide (1 ≤ l.length) && decide (l.length ≤ 20))
def restOk (pos : Nat) (l : List (List UInt8 × Nat)) : Bool := match l with | [] => true | c :: t => okR c.2 (pos == 0) && t.all fun d => okR d.2 false
theorem restOk_step (pos : Nat) (c : List UInt8 × Nat) (t : List (List UInt8 × Nat)) (pos' : Nat) (h : 0 < pos') : restOk pos (c :: t) = (okR c.2 (pos == 0) && restOk pos' t) := by
  cases t with
  | nil => simp [restOk]
  | cons d t =>
    have : (pos' == 0) = false := by simp; omega
    simp [restOk, this]
theorem ngood_any (s : ByteArray) (w : World) (hs : s.size ≤ 140737488351232) (ht : Tabs w) :
    Calls Tryz.prog 145 #[.string s] w fun e w' => e = .returned (.bool (goodL (CH s))) ∧ Ext w w' := by
  go_enter Tryz.func145, Tryz.ntmps145
  go_wp2
  go_loopw [3, 4, 5] (fun n _ _ wr => ∃ (pos k : Nat), n = Value.int .i64 k ∧ wr.heap[w.heap.size]? = some (.stringIter s pos) ∧ Ext w wr ∧ k + (rest s pos).length = (CH s).length ∧ k ≤ pos ∧ pos ≤ s.size ∧ goodL (CH s) = (restOk pos (rest s pos) && (decide (1 ≤ (CH s).length) && decide ((CH s).length ≤ 20)))) (fun _ _ _ wr => s.size - wr.iterPos w.heap.size)
  case atStart =>
    refine ⟨0, 0, rfl, ?_, (Ext.refl w).alloc _, by rw [rest_zero, Nat.zero_add], Nat.le_refl _, Nat.zero_le _, ?_⟩
    · have := World.iter_heap w s 0
      simpa using this
    · rw [rest_zero]; cases CH s <;> rfl
  case round =>
    obtain ⟨pos, k, rfl, hit, hbw, hacc, hk, hps, hgd⟩ := hrel
    by_cases hp : pos < s.size
    · have hnx : ∀ ty, (Instr.next (.pointer (some ⟨w.heap.size, 0, none⟩)) true ty).run Tryz.prog wr = _ := fun ty => Lib.run_next_any_at wr w.heap.size s pos ty hit hp
      have hwd := width s pos hp
      have hwl := width_le s pos hp
      have hrl := rune_le s pos
      have hit2 := Lib.iterAt_heap wr w.heap.size s pos (pos + (Utf8.decode s pos).2) hit
      have hbw2 : Ext w (wr.iterAt w.heap.size s (pos + (Utf8.decode s pos).2)) := Lib.below_iterAt hbw (k := w.heap.size) (Nat.le_refl _) s (pos + (Utf8.decode s pos).2)
      rw [rest_step s pos hp, List.length_cons] at hacc
      rw [rest_step s pos hp, restOk_step pos _ _ (pos + (Utf8.decode s pos).2) (by omega)] at hgd
      have ht2 := ht.ext hbw2
      go_wp2_with (go_at_call 178; refine (other_any ((Utf8.decode s pos).1 : Int) _ _ (by omega) (by omega) ht2).mono ?_)
      rintro e w2 rfl bb
      have hlt2 : w.heap.size < (wr.iterAt w.heap.size s (pos + (Utf8.decode s pos).2)).heap.size := (Array.getElem?_eq_some_iff.1 hit2).1
      have hit3 : w2.heap[w.heap.size]? = some (.stringIter s (pos + (Utf8.decode s pos).2)) := (bb.out.block _ hlt2).trans hit2
      have hb3 : Ext w w2 := hbw2.trans bb
      rw [show ((pos : Int) == 0) = (pos == 0) from by rw [Bool.eq_iff_iff, beq_iff_eq, beq_iff_eq]; omega]
      cases ho : okR ((Utf8.decode s pos).1 : Int) (pos == 0)
      · go_wp2
        go_ret
        refine ⟨?_, hb3⟩
        have hg0 : goodL (CH s) = false := by rw [hgd, ho]; rfl
        rw [hg0]; rfl
      · go_wp2
        go_roundw
        case rel =>
          refine ⟨pos + (Utf8.decode s pos).2, k + 1, by simp, hit3, hb3, by omega, by omega, hwl, ?_⟩
          rw [hgd, ho, Bool.true_and]
        case measure =>
          simp only [World.iterPos, hit3, hit]
          omega
    · have hnx : ∀ ty, (Instr.next (.pointer (some ⟨w.heap.size, 0, none⟩)) true ty).run Tryz.prog wr = _ := fun ty => Lib.run_next_end_at wr w.heap.size s pos ty hit hp
      rw [rest_end s pos hp, List.length_nil] at hacc
      rw [rest_end s pos hp] at hgd
      have hk2 : k = (CH s).length := by omega
      go_wp2
      all_goals go_ret
      all_goals refine ⟨?_, hbw⟩
      all_goals have hg2 : goodL (CH s) = (decide (1 ≤ (CH s).length) && decide ((CH s).length ≤ 20)) := by rw [hgd]; rfl
      all_goals (try rw [hg2])
      all_goals simp [restOk]
      all_goals first | omega | (rw [Bool.eq_iff_iff]; simp; omega)

/-- What Fold gives. -/
def foldL (l : List (List UInt8 × Nat)) : List UInt8 := l.flatMap fun c => encodeRune (toLowerU c.2)
theorem lower_fits (r : Int) (h0 : 0 ≤ r) (h1 : r ≤ 1114111) : -2147483648 ≤ toLowerU r ∧ toLowerU r ≤ 2147483647 := by
  rw [← toLowerW_caseA]
  unfold Lib.toLowerW
  split
  · split <;> omega
  · unfold toW
    split
    · unfold wrap32; omega
    · omega
theorem fold_any (s : ByteArray) (w : World) (hs : s.size ≤ 1048576) (ht : Tabs w) :
    Calls Tryz.prog 30 #[.string s] w fun e w' => e = .returned (.string ⟨(foldL (CH s)).toArray⟩) ∧ Ext w w' := by
  go_enter Tryz.func30, Tryz.ntmps30
  go_wp2
  go_loopw [5] (fun _ wr => ∃ (pos : Nat) (acc : List UInt8), Lib.IsBuilderF 42 5 w.heap.size w.heap.size (Lib.byteCells acc) wr ∧ wr.heap[w.heap.size + 1]? = some (.stringIter s pos) ∧ Ext w wr ∧ acc ++ foldL (rest s pos) = foldL (CH s) ∧ acc.length ≤ 4 * pos ∧ pos ≤ s.size) (fun _ wr => s.size - wr.iterPos (w.heap.size + 1))
  case atStart =>
    refine ⟨0, [], (Lib.IsBuilderF.of (Lib.fresh_isBuilder 42 5 w)).alloc _, ?_, ((Ext.refl w).alloc _).alloc _, by rw [rest_zero, List.nil_append], by simp, Nat.zero_le _⟩
    have := World.iter_heap (w.alloc (.cells #[.pointer none, .slice none 0 0] 42)) s 0
    simpa using this
  case round =>
    obtain ⟨pos, acc, hI, hit, hbw, hacc, hal, hps⟩ := hrel
    have hsz : w.heap.size + 1 < wr.heap.size := (Array.getElem?_eq_some_iff.1 hit).1
    by_cases hp : pos < s.size
    · have hnx : ∀ ty, (Instr.next (.pointer (some ⟨w.heap.size + 1, 0, none⟩)) true ty).run Tryz.prog wr = _ := fun ty => Lib.run_next_any_at wr (w.heap.size + 1) s pos ty hit hp
      have hwd := width s pos hp
      have hwl := width_le s pos hp
      have hrl := rune_le s pos
      have hI2 := hI.iterAt hit (pos + (Utf8.decode s pos).2)
      have hit2 := Lib.iterAt_heap wr (w.heap.size + 1) s pos (pos + (Utf8.decode s pos).2) hit
      have hbw2 : Ext w (wr.iterAt (w.heap.size + 1) s (pos + (Utf8.decode s pos).2)) := Lib.below_iterAt hbw (k := w.heap.size + 1) (by omega) s (pos + (Utf8.decode s pos).2)
      have hsz2 : w.heap.size ≤ (wr.iterAt (w.heap.size + 1) s (pos + (Utf8.decode s pos).2)).heap.size := by rw [Lib.iterAt_size]; omega
      have ht2 := ht.ext hbw2
      obtain ⟨hlo, hhi⟩ := lower_fits (Utf8.decode s pos).1 (by omega) (by omega)
      rw [rest_step s pos hp] at hacc
      go_wp2_with (go_at_call 55; refine (lower_any ((Utf8.decode s pos).1 : Int) _ ht2).mono ?_)
      rintro e w2 ⟨rfl, q, rfl⟩
      have hI3 : Lib.IsBuilderF 42 5 w.heap.size w.heap.size (Lib.byteCells acc) ((wr.iterAt (w.heap.size + 1) s (pos + (Utf8.decode s pos).2)).drewN q) := hI2
      have hit3 : ((wr.iterAt (w.heap.size + 1) s (pos + (Utf8.decode s pos).2)).drewN q).heap[w.heap.size + 1]? = some (.stringIter s (pos + (Utf8.decode s pos).2)) := hit2
      have hsz3 : w.heap.size ≤ ((wr.iterAt (w.heap.size + 1) s (pos + (Utf8.decode s pos).2)).drewN q).heap.size := hsz2
      have hbw3 := hbw2.drewN q
      go_wp2_with (go_at_call 54; refine (Tryz.writeRune_k w.heap.size w.heap.size _ _ hlo hhi _ hI3 (by rw [Lib.byteCells_length]; omega) hsz3).mono ?_)
      rintro e W1 ⟨rfl, h1, b1, k1⟩
      have hit4 := k1.iter hit3 (by omega)
      go_wp2
      go_roundw
      case rel =>
        have hl4 := enc_length (toLowerU ((Utf8.decode s pos).1 : Int))
        refine ⟨pos + (Utf8.decode s pos).2, acc ++ Lib.encodeRune (toLowerU ((Utf8.decode s pos).1 : Int)), ?_, hit4, hbw3.out.trans b1, ?_, by rw [List.length_append]; omega, hwl⟩
        · rw [Lib.byteCells_append, Lib.byteCells_encodeRune]; exact h1
        · rw [← hacc, List.append_assoc]; simp [foldL]
      case measure =>
        simp only [World.iterPos, hit4, hit]
        omega
    · have hnx : ∀ ty, (Instr.next (.pointer (some ⟨w.heap.size + 1, 0, none⟩)) true ty).run Tryz.prog wr = _ := fun ty => Lib.run_next_end_at wr (w.heap.size + 1) s pos ty hit hp
      go_wp2_with (go_at_call 11; refine (Tryz.Builder_String_any_k w.heap.size w.heap.size acc _ hI (by omega)).mono ?_)
      rintro e W1 ⟨rfl, _, b1, _⟩
      go_wp2
      go_ret
      rw [rest_end s pos hp] at hacc
      have hz : acc = foldL (CH s) := by rw [← hacc]; simp [foldL]
      subst hz
      exact ⟨rfl, hbw.out.trans b1⟩
end Go.Proofs.YtbemkefcaceekaaGreatDoor
