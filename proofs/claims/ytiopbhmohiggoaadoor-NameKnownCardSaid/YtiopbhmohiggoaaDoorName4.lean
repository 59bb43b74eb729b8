/- name's Split: a text in parts. -/
import Derived.Test.YtiopbhmohiggoaaDoorName1
import Derived.Deep.OwnRows
set_option linter.unusedVariables false
namespace Go.Proofs.YtiopbhmohiggoaaDoor
open Go.RowKit Go.Lib Go.Proofs.YtiopbhmohiggoaaDoorW.PrintWords
set_option maxHeartbeats 4000000
set_option maxRecDepth 100000

/-- A row of texts of the call's own. -/
def So (w : World) (base : Nat) (v : Value) (l : List ByteArray) : Prop := w.ownsRow base 9 1 v l.length (l.map Value.string)
theorem So.nil (w : World) (base : Nat) : So w base (.slice none 0 0) [] := World.ownsRow_nil w base _ 1
theorem So.ext {w w1 : World} {base : Nat} {v : Value} {l : List ByteArray} (h : So w base v l) (hb : Ext w w1) : So w1 base v l := pw_own_below h hb
theorem So.lower {w : World} {base base' : Nat} {v : Value} {l : List ByteArray} (h : So w base v l) (hb : base' ≤ base) : So w base' v l := own_weaken h hb
theorem ext_own {w W w1 : World} {base : Nat} {v : Value} {n : Nat} {e : TypeId} {xs : List Value} (h : Ext w W) (hO : W.ownsRow base e 1 v n xs) (hb : w.heap.size ≤ base) (hg : W.grownBy w1 v.ownBlock) : Ext w w1 :=
  Below.grown h hg h.size (fun k hk => Nat.le_trans hb (own_base hO k hk))
theorem info_str : (Tryd.prog.info? 9).map (fun i => (i.zero, i.size, i.bytes)) = some (some (.string ⟨#[]⟩), 1, 16) := by kernel_rfl

/-- A text's parts. -/
def splitC (c : Int) : List UInt8 → List (List UInt8 × Nat) → List (List UInt8)
  | cur, [] => [cur]
  | cur, p :: t => if (p.2 : Int) = c then cur :: splitC c [] t else splitC c (cur ++ p.1) t
theorem piece_grow (l : List UInt8) (fr pos k : Nat) (h : fr ≤ pos) : (l.drop fr).take (pos - fr) ++ (l.drop pos).take k = (l.drop fr).take (pos + k - fr) := by
  have h1 : l.drop pos = (l.drop fr).drop (pos - fr) := by rw [List.drop_drop]; congr 1; omega
  rw [h1, show pos + k - fr = (pos - fr) + k from by omega, List.take_add]
theorem iter_own {w : World} {base : Nat} {v : Value} {n : Nat} {xs : List Value} {e : TypeId} (h : w.ownsRow base e 1 v n xs) {k : Nat} {s : ByteArray} {pos : Nat} (hk : w.heap[k]? = some (.stringIter s pos)) (pos' : Nat) : (w.iterAt k s pos').ownsRow base e 1 v n xs := by
  refine ⟨h.1, ?_⟩
  rcases h.2 with h1 | ⟨g, cap, cur, hv, hg, hh, hn, hm, hs, hc⟩
  · exact Or.inl h1
  · refine Or.inr ⟨g, cap, cur, hv, hg, ?_, hn, hm, hs, hc⟩
    rw [Lib.iterAt_other w k g s pos' (by
      intro e1
      rw [e1, hk] at hh
      cases hh)]
    exact hh

theorem split_app {w W2 w2 : World} {L : List ByteArray} {v v' : Value} {x s : ByteArray} {pos' : Nat} {T : TypeId} (hL2 : So W2 (w.heap.size + 1) v L) (hit2 : W2.heap[w.heap.size]? = some (.stringIter s pos')) (hx : Ext w W2)
    (hown : w2.ownsRow (w.heap.size + 1) 9 1 v' (L.length + 1) (L.map Value.string ++ [.string x])) (hg : (W2.alloc (.cells #[.string x] T)).grownBy w2 v.ownBlock) :
    So w2 (w.heap.size + 1) v' (L ++ [x]) ∧ w2.heap[w.heap.size]? = some (.stringIter s pos') ∧ Ext w w2 := by
  have hlt := (Array.getElem?_eq_some_iff.1 hit2).1
  have hO := hL2.ext ((Ext.refl W2).alloc (.cells #[.string x] T))
  refine ⟨by rw [So, List.length_append, List.map_append]; exact hown, ?_, ext_own (hx.alloc _) hO (Nat.le_succ _) hg⟩
  rw [hg.block w.heap.size (by simp; omega) (fun e => by
    have := own_base hO w.heap.size e.symm
    omega), Lib.alloc_old W2 _ w.heap.size hlt]
  exact hit2
theorem split_any (s : ByteArray) (c : Int) (w : World) (hs : s.size ≤ 1048576) :
    Calls Tryd.prog 15 #[.string s, .int .i32 c] w fun e w' => ∃ v L, e = .returned v ∧ So w' w.heap.size v L ∧ L.map (fun x => x.data.toList) = splitC c [] (CH s) ∧ Ext w w' := by
  obtain ⟨i0, hi, hz0, hz1, hz2⟩ := info_parts info_str
  go_enter Tryd.func15, Tryd.ntmps15
  go_wp2
  go_loopw [5, 6, 7] (fun lv fv bv wr => ∃ (pos fr : Nat) (b : Int) (L : List ByteArray), So wr (w.heap.size + 1) lv L ∧ fv = Value.int .i64 fr ∧ bv = Value.int .i64 b ∧ wr.heap[w.heap.size]? = some (.stringIter s pos) ∧ Ext w wr ∧ pos ≤ s.size ∧ fr ≤ pos ∧ L.length ≤ pos ∧ -1 ≤ b ∧ L.map (fun x => x.data.toList) ++ splitC c (if b < 0 then (s.data.toList.drop fr).take (pos - fr) else []) (rest s pos) = splitC c [] (CH s)) (fun _ _ _ wr => s.size - wr.iterPos w.heap.size)
  case atStart =>
    refine ⟨0, 0, -1, [], So.nil _ _, rfl, rfl, ?_, (Ext.refl w).alloc _, Nat.zero_le _, Nat.le_refl _, Nat.le_refl _, by omega, ?_⟩
    · have := World.iter_heap w s 0
      simpa using this
    · rw [rest_zero]; rfl
  case round =>
    obtain ⟨pos, fr, b, L, hL, rfl, rfl, hit, hbw, hps, hfr, hLp, hb1, hsp⟩ := hrel
    by_cases hp : pos < s.size
    · have hnx : ∀ ty, (Instr.next (.pointer (some ⟨w.heap.size, 0, none⟩)) true ty).run Tryd.prog wr = _ := fun ty => Lib.run_next_any_at wr w.heap.size s pos ty hit hp
      have hwd := width s pos hp
      have hwl := width_le s pos hp
      have hit2 := Lib.iterAt_heap wr w.heap.size s pos (pos + (Utf8.decode s pos).2) hit
      have hbw2 : Ext w (wr.iterAt w.heap.size s (pos + (Utf8.decode s pos).2)) := Lib.below_iterAt hbw (k := w.heap.size) (Nat.le_refl _) s (pos + (Utf8.decode s pos).2)
      have hL2 : So (wr.iterAt w.heap.size s (pos + (Utf8.decode s pos).2)) (w.heap.size + 1) _ L := iter_own hL hit _
      rw [rest_step s pos hp] at hsp
      have Hsp := Lib.hid hsp
      clear hsp
      by_cases hb : 0 ≤ b
      · have hif : ¬ (b < 0) := by omega
        have Hsp : Hid (L.map (fun x => x.data.toList) ++ splitC c [] (((s.data.toList.drop pos).take (Utf8.decode s pos).2, (Utf8.decode s pos).1) :: rest s (pos + (Utf8.decode s pos).2)) = splitC c [] (CH s)) := Lib.hid (by have h := Hsp.out; rw [if_neg hif] at h; exact h)
        by_cases hc : ((Utf8.decode s pos).1 : Int) = c
        · go_wp2_with ((with_reducible refine gate_dst (N := 28) rfl ?_); refine halt ?_)
          refine unhalt (wpList_append_own _ rfl _ _ 31 rfl (w.heap.size + 1) 9 i0 (.string ⟨#[]⟩) 1 16 Tryd.underlying31 hi hz0 hz1 hz2 rfl (by decide) _ L.length (L.map Value.string) rfl (hL2.ext ((Ext.refl _).alloc _)) ⟨(wr.iterAt w.heap.size s (pos + (Utf8.decode s pos).2)).heap.size, 0, none⟩ 1 1 [.string (ByteArray.empty)] rfl rfl ?c1 ?c2 ?c3 ?c4 ?c5 ?_)
          case c1 =>
            intro j u hj
            match j, hj with
            | 0, hj => simp at hj; subst hj; simp [Addr.add]
            | (j + 1), hj => simp at hj
          case c2 => intro u hu; simp at hu; subst hu; rfl
          case c3 => unfold maxLen; omega
          case c4 => omega
          case c5 =>
            have h1 := (Array.getElem?_eq_some_iff.1 hit2).1
            simp
            omega
          intro v' w2 hown' hgrow _
          obtain ⟨a1, a2, a3⟩ := split_app hL2 hit2 hbw2 hown' hgrow
          go_wp2_with fail
          go_roundw
          case rel =>
            refine ⟨pos + (Utf8.decode s pos).2, pos, pos, L ++ [ByteArray.empty], a1, rfl, rfl, a2, a3, hwl, by omega, by rw [List.length_append]; simp; omega, by omega, ?_⟩
            rw [← Hsp.out, List.map_append, List.append_assoc, if_neg (by omega : ¬ ((pos : Int) < 0)), splitC, if_pos hc]
            rfl
          case measure =>
            simp only [World.iterPos, a2, hit]
            omega
        · go_wp2_with fail
          go_roundw
          case rel =>
            refine ⟨pos + (Utf8.decode s pos).2, pos, -1, L, hL2, rfl, rfl, hit2, hbw2, hwl, by omega, by omega, by omega, ?_⟩
            rw [← Hsp.out, if_pos (by decide : (-1 : Int) < 0), splitC, if_neg hc]
            rw [List.nil_append, Nat.add_sub_cancel_left]
          case measure =>
            simp only [World.iterPos, hit2, hit]
            omega
      · have hif : b < 0 := by omega
        have hb2 : b = -1 := by omega
        subst hb2
        have Hsp : Hid (L.map (fun x => x.data.toList) ++ splitC c ((s.data.toList.drop fr).take (pos - fr)) (((s.data.toList.drop pos).take (Utf8.decode s pos).2, (Utf8.decode s pos).1) :: rest s (pos + (Utf8.decode s pos).2)) = splitC c [] (CH s)) := Lib.hid (by have h := Hsp.out; rw [if_pos hif] at h; exact h)
        by_cases hc : ((Utf8.decode s pos).1 : Int) = c
        · go_wp2_with ((with_reducible refine gate_dst (N := 28) rfl ?_); refine halt ?_)
          refine unhalt (wpList_append_own _ rfl _ _ 31 rfl (w.heap.size + 1) 9 i0 (.string ⟨#[]⟩) 1 16 Tryd.underlying31 hi hz0 hz1 hz2 rfl (by decide) _ L.length (L.map Value.string) rfl (hL2.ext ((Ext.refl _).alloc _)) ⟨(wr.iterAt w.heap.size s (pos + (Utf8.decode s pos).2)).heap.size, 0, none⟩ 1 1 [.string (s.extract fr pos)] rfl rfl ?c1 ?c2 ?c3 ?c4 ?c5 ?_)
          case c1 =>
            intro j u hj
            match j, hj with
            | 0, hj => simp at hj; subst hj; simp [Addr.add]
            | (j + 1), hj => simp at hj
          case c2 => intro u hu; simp at hu; subst hu; rfl
          case c3 => unfold maxLen; omega
          case c4 => omega
          case c5 =>
            have h1 := (Array.getElem?_eq_some_iff.1 hit2).1
            simp
            omega
          intro v' w2 hown' hgrow _
          obtain ⟨a1, a2, a3⟩ := split_app hL2 hit2 hbw2 hown' hgrow
          go_wp2_with fail
          go_roundw
          case rel =>
            refine ⟨pos + (Utf8.decode s pos).2, fr, pos, L ++ [s.extract fr pos], a1, rfl, rfl, a2, a3, hwl, by omega, by rw [List.length_append]; simp; omega, by omega, ?_⟩
            rw [← Hsp.out, List.map_append, List.append_assoc, if_neg (by omega : ¬ ((pos : Int) < 0)), splitC, if_pos hc]
            rw [← extract_list s fr pos]; rfl
          case measure =>
            simp only [World.iterPos, a2, hit]
            omega
        · go_wp2_with fail
          go_roundw
          case rel =>
            refine ⟨pos + (Utf8.decode s pos).2, fr, -1, L, hL2, rfl, rfl, hit2, hbw2, hwl, by omega, by omega, by omega, ?_⟩
            rw [← Hsp.out, if_pos (by decide : (-1 : Int) < 0), splitC, if_neg hc]
            rw [piece_grow _ _ _ _ hfr]
          case measure =>
            simp only [World.iterPos, hit2, hit]
            omega
    · have hnx : ∀ ty, (Instr.next (.pointer (some ⟨w.heap.size, 0, none⟩)) true ty).run Tryd.prog wr = _ := fun ty => Lib.run_next_end_at wr w.heap.size s pos ty hit hp
      rw [rest_end s pos hp] at hsp
      have Hsp := Lib.hid hsp
      clear hsp
      have hpe : pos = s.size := by omega
      by_cases hb : 0 ≤ b
      · go_wp2_with ((with_reducible refine gate_dst (N := 39) rfl ?_); refine halt ?_)
        refine unhalt (wpList_append_own _ rfl _ _ 31 rfl (w.heap.size + 1) 9 i0 (.string ⟨#[]⟩) 1 16 Tryd.underlying31 hi hz0 hz1 hz2 rfl (by decide) _ L.length (L.map Value.string) rfl (hL.ext ((Ext.refl _).alloc _)) ⟨wr.heap.size, 0, none⟩ 1 1 [.string (ByteArray.empty)] rfl rfl ?c1 ?c2 ?c3 ?c4 ?c5 ?_)
        case c1 =>
          intro j u hj
          match j, hj with
          | 0, hj => simp at hj; subst hj; simp [Addr.add]
          | (j + 1), hj => simp at hj
        case c2 => intro u hu; simp at hu; subst hu; rfl
        case c3 => unfold maxLen; omega
        case c4 => omega
        case c5 =>
          have h1 := (Array.getElem?_eq_some_iff.1 hit).1
          simp
          omega
        intro v' w2 hown' hgrow _
        obtain ⟨a1, a2, a3⟩ := split_app hL hit hbw hown' hgrow
        go_wp2_with fail
        go_ret
        refine ⟨_, L ++ [ByteArray.empty], rfl, a1.lower (Nat.le_succ _), ?_, a3⟩
        rw [← Hsp.out, List.map_append, if_neg (by omega : ¬ (b < 0)), splitC]
        rfl
      · go_wp2_with ((with_reducible refine gate_dst (N := 39) rfl ?_); refine halt ?_)
        refine unhalt (wpList_append_own _ rfl _ _ 31 rfl (w.heap.size + 1) 9 i0 (.string ⟨#[]⟩) 1 16 Tryd.underlying31 hi hz0 hz1 hz2 rfl (by decide) _ L.length (L.map Value.string) rfl (hL.ext ((Ext.refl _).alloc _)) ⟨wr.heap.size, 0, none⟩ 1 1 [.string (s.extract fr s.size)] rfl rfl ?c1 ?c2 ?c3 ?c4 ?c5 ?_)
        case c1 =>
          intro j u hj
          match j, hj with
          | 0, hj => simp at hj; subst hj; simp [Addr.add]
          | (j + 1), hj => simp at hj
        case c2 => intro u hu; simp at hu; subst hu; rfl
        case c3 => unfold maxLen; omega
        case c4 => omega
        case c5 =>
          have h1 := (Array.getElem?_eq_some_iff.1 hit).1
          simp
          omega
        intro v' w2 hown' hgrow _
        obtain ⟨a1, a2, a3⟩ := split_app hL hit hbw hown' hgrow
        go_wp2_with fail
        go_ret
        refine ⟨_, L ++ [s.extract fr s.size], rfl, a1.lower (Nat.le_succ _), ?_, a3⟩
        rw [← Hsp.out, List.map_append, if_pos (by omega : b < 0), splitC]
        rw [List.map_cons, List.map_nil, extract_list, hpe]
end Go.Proofs.YtiopbhmohiggoaaDoor
