/- name's other, Good: over the tables (a seat without Fold). -/
import Derived.Test.YtlffbappgfimeaaDoorName1
import Derived.Test.YtlffbappgfimeaaDoorShelf
import Derived.BigCall
set_option linter.unusedVariables false
namespace Go.Proofs.YtlffbappgfimeaaDoor
open Go.RowKit Go.Lib Go.Shelf Go.Proofs.YtlffbappgfimeaaDoorW.PrintWords
set_option maxHeartbeats 4000000
set_option maxRecDepth 100000

/-- The library's tables, as their initialisers lay them. -/
def Tabs (w : World) : Prop := Lib.TabIs Tryd.prog w "unicode.properties" .u8 Lib.propertiesTab ∧ RVar (Tryd.lays200_ren.g 8) letterT w ∧ RVar (Tryd.lays198_ren.g 5) digitT w
theorem gProps : Tryd.prog.globalNamed "unicode.properties" = some (Tryd.lays200_ren.g 7) := by kernel_rfl
theorem Tabs.below {w w' : World} (h : Tabs w) (hb : Below w.heap.size w w') : Tabs w' :=
  ⟨TabIs_below gProps h.1 hb, RVar_below h.2.1 hb, RVar_below h.2.2 hb⟩
theorem Tabs.ext {w w' : World} (h : Tabs w) (hb : Ext w w') : Tabs w' := h.below hb

theorem letter_any (r : Int) (w : World) (hlo : -2147483648 ≤ r) (hhi : r ≤ 2147483647) (ht : Tabs w) :
    Calls Tryd.prog 52 #[.int .i32 r] w fun e w' => e = .returned (.bool (isLetterU r)) ∧ Below w.heap.size w w' := Tryd.unicode_IsLetter_all r w hlo hhi ht.1 ht.2.1
theorem digit_any (r : Int) (w : World) (hlo : -2147483648 ≤ r) (hhi : r ≤ 2147483647) (ht : Tabs w) :
    Calls Tryd.prog 54 #[.int .i32 r] w fun e w' => e = .returned (.bool (isDigitU r)) ∧ Below w.heap.size w w' := Tryd.unicode_IsDigit_all r w hlo hhi ht.2.2
/-- May a rune stand in a name? -/
def okR (r : Int) (first : Bool) : Bool := isLetterU r || (!first && (isDigitU r || r == 45))
theorem other_any (r : Int) (b : Bool) (w : World) (hlo : -2147483648 ≤ r) (hhi : r ≤ 2147483647) (ht : Tabs w) :
    Calls Tryd.prog 49 #[.int .i32 r, .bool b] w fun e w' => e = .returned (.bool (okR r b)) ∧ Ext w w' := by
  go_enter Tryd.func49, Tryd.ntmps49
  go_wp2_with (go_at_call 52; refine (letter_any r _ hlo hhi ht).mono ?_)
  rintro e w1 ⟨rfl, b1⟩
  have t1 := ht.below b1
  have x1 : Ext w w1 := b1
  cases hL : isLetterU r
  · cases b
    · go_wp2_with (go_at_call 54; refine (digit_any r _ hlo hhi t1).mono ?_)
      rintro e w2 ⟨rfl, b2⟩
      have x2 : Ext w w2 := x1.trans (Ext.of b2)
      cases hD : isDigitU r
      · go_wp2
        go_ret
        exact ⟨by simp [okR, hL, hD], x2⟩
      · go_wp2
        go_ret
        exact ⟨by simp [okR, hL, hD], x2⟩
    · go_wp2
      go_ret
      exact ⟨by simp [okR, hL], x1⟩
  · go_wp2
    go_ret
    exact ⟨by simp [okR, hL], x1⟩

/-- May a text be a name? -/
def goodL (l : List (List UInt8 × Nat)) : Bool := (match l with | [] => true | c :: t => okR c.2 true && t.all fun d => okR d.2 false) && (decide (1 ≤ l.length) && decide (l.length ≤ 20))
def restOk (pos : Nat) (l : List (List UInt8 × Nat)) : Bool := match l with | [] => true | c :: t => okR c.2 (pos == 0) && t.all fun d => okR d.2 false
theorem restOk_step (pos : Nat) (c : List UInt8 × Nat) (t : List (List UInt8 × Nat)) (pos' : Nat) (h : 0 < pos') : restOk pos (c :: t) = (okR c.2 (pos == 0) && restOk pos' t) := by
  cases t with
  | nil => simp [restOk]
  | cons d t =>
    have : (pos' == 0) = false := by simp; omega
    simp [restOk, this]
theorem ngood_any (s : ByteArray) (w : World) (hs : s.size ≤ 140737488351232) (ht : Tabs w) :
    Calls Tryd.prog 29 #[.string s] w fun e w' => e = .returned (.bool (goodL (CH s))) ∧ Ext w w' := by
  go_enter Tryd.func29, Tryd.ntmps29
  go_wp2
  go_loopw [3, 4, 5] (fun n _ _ wr => ∃ (pos k : Nat), n = Value.int .i64 k ∧ wr.heap[w.heap.size]? = some (.stringIter s pos) ∧ Ext w wr ∧ k + (rest s pos).length = (CH s).length ∧ k ≤ pos ∧ pos ≤ s.size ∧ goodL (CH s) = (restOk pos (rest s pos) && (decide (1 ≤ (CH s).length) && decide ((CH s).length ≤ 20)))) (fun _ _ _ wr => s.size - wr.iterPos w.heap.size)
  case atStart =>
    refine ⟨0, 0, rfl, ?_, (Ext.refl w).alloc _, by rw [rest_zero, Nat.zero_add], Nat.le_refl _, Nat.zero_le _, ?_⟩
    · have := World.iter_heap w s 0
      simpa using this
    · rw [rest_zero]; cases CH s <;> rfl
  case round =>
    obtain ⟨pos, k, rfl, hit, hbw, hacc, hk, hps, hgd⟩ := hrel
    by_cases hp : pos < s.size
    · have hnx : ∀ ty, (Instr.next (.pointer (some ⟨w.heap.size, 0, none⟩)) true ty).run Tryd.prog wr = _ := fun ty => Lib.run_next_any_at wr w.heap.size s pos ty hit hp
      have hwd := width s pos hp
      have hwl := width_le s pos hp
      have hrl := rune_le s pos
      have hit2 := Lib.iterAt_heap wr w.heap.size s pos (pos + (Utf8.decode s pos).2) hit
      have hbw2 : Ext w (wr.iterAt w.heap.size s (pos + (Utf8.decode s pos).2)) := Lib.below_iterAt hbw (k := w.heap.size) (Nat.le_refl _) s (pos + (Utf8.decode s pos).2)
      rw [rest_step s pos hp, List.length_cons] at hacc
      rw [rest_step s pos hp, restOk_step pos _ _ (pos + (Utf8.decode s pos).2) (by omega)] at hgd
      have ht2 := ht.ext hbw2
      go_wp2_with (go_at_call 49; refine (other_any ((Utf8.decode s pos).1 : Int) _ _ (by omega) (by omega) ht2).mono ?_)
      rintro e w2 rfl bb
      have hlt2 : w.heap.size < (wr.iterAt w.heap.size s (pos + (Utf8.decode s pos).2)).heap.size := (Array.getElem?_eq_some_iff.1 hit2).1
      have hit3 : w2.heap[w.heap.size]? = some (.stringIter s (pos + (Utf8.decode s pos).2)) := (bb.out.block _ hlt2).trans hit2
      have hb3 : Ext w w2 := hbw2.trans bb
      rw [show ((pos : Int) == 0) = (pos == 0) from by rw [Bool.eq_iff_iff, beq_iff_eq, beq_iff_eq]; omega]
      cases ho : okR ((Utf8.decode s pos).1 : Int) (pos == 0)
      · go_wp2
        go_ret
        refine ⟨?_, hb3⟩
        have hg0 : goodL (CH s) = false := by rw [hgd, ho]; rfl
        rw [hg0]; rfl
      · go_wp2
        go_roundw
        case rel =>
          refine ⟨pos + (Utf8.decode s pos).2, k + 1, by simp, hit3, hb3, by omega, by omega, hwl, ?_⟩
          rw [hgd, ho, Bool.true_and]
        case measure =>
          simp only [World.iterPos, hit3, hit]
          omega
    · have hnx : ∀ ty, (Instr.next (.pointer (some ⟨w.heap.size, 0, none⟩)) true ty).run Tryd.prog wr = _ := fun ty => Lib.run_next_end_at wr w.heap.size s pos ty hit hp
      rw [rest_end s pos hp, List.length_nil] at hacc
      rw [rest_end s pos hp] at hgd
      have hk2 : k = (CH s).length := by omega
      go_wp2
      all_goals go_ret
      all_goals refine ⟨?_, hbw⟩
      all_goals have hg2 : goodL (CH s) = (decide (1 ≤ (CH s).length) && decide ((CH s).length ≤ 20)) := by rw [hgd]; rfl
      all_goals (try rw [hg2])
      all_goals simp [restOk]
      all_goals first | omega | (rw [Bool.eq_iff_iff]; simp; omega)

end Go.Proofs.YtlffbappgfimeaaDoor
