/- Top9: script.words, script.rows: a text cut. -/
import Derived.Test.YtbemkefcaceekaaGreatDoorTop8
import Derived.Deep.OwnRows
set_option linter.unusedVariables false
set_option linter.unusedSimpArgs false
set_option maxRecDepth 100000
namespace Go.Proofs.YtbemkefcaceekaaGreatDoor
open Go.RowKit Go.Lib Go.Shelf Go.Proofs.YtbemkefcaceekaaGreatDoorW.PrintWords Go.Proofs.YtbemkefcaceekaaGreatDoorW.PrintLast

/-- A row of texts of the call's own. -/
def So (w : World) (base : Nat) (v : Value) (l : List ByteArray) : Prop := w.ownsRow base 9 1 v l.length (l.map Value.string)
theorem So.nil (w : World) (base : Nat) : So w base (.slice none 0 0) [] := World.ownsRow_nil w base _ 1
theorem So.ext {w w1 : World} {base : Nat} {v : Value} {l : List ByteArray} (h : So w base v l) (hb : Ext w w1) : So w1 base v l := pw_own_below h hb
theorem So.lower {w : World} {base base' : Nat} {v : Value} {l : List ByteArray} (h : So w base v l) (hb : base' ≤ base) : So w base' v l := own_weaken h hb
theorem ext_own {w W w1 : World} {base : Nat} {v : Value} {n : Nat} {e : TypeId} {xs : List Value} (h : Ext w W) (hO : W.ownsRow base e 1 v n xs) (hb : w.heap.size ≤ base) (hg : W.grownBy w1 v.ownBlock) : Ext w w1 :=
  Below.grown h hg h.size (fun k hk => Nat.le_trans hb (own_base hO k hk))
theorem info_str : (Tryz.prog.info? 9).map (fun i => (i.zero, i.size, i.bytes)) = some (some (.string ⟨#[]⟩), 1, 16) := by kernel_rfl


/-- A text in its parts. -/
structure Parts (s sep : ByteArray) (ps : List ByteArray) : Prop where
  small : s.size < 4294967281
  cnt : Lib.countB s sep + 1 = ps.length
  cut : Lib.splitB sep 0 (Lib.countB s sep) s = ps
  few : ps.length ≤ 100
theorem split_parts (s sep : ByteArray) (ps : List ByteArray) (w : World) (m : Int) (hm : w.cell? ⟨0, 0, none⟩ = some (.int .i64 m)) (h1 : 1 ≤ sep.size) (h : Parts s sep ps) :
    Calls Tryz.prog 12 #[.string s, .string sep] w fun e w' => e = .returned (.slice (some ⟨w.heap.size, 0, none⟩) ps.length ps.length) ∧ w' = w.alloc (.cells (ps.map Value.string).toArray 9) := by
  have := Tryz.strings_Split s sep m w h.small hm h1
  rw [h.cnt, h.cut] at this
  exact this
set_option maxHeartbeats 4000000 in
theorem words_any (s : ByteArray) (ps : List ByteArray) (w : World) (m : Int) (hm : w.cell? ⟨0, 0, none⟩ = some (.int .i64 m)) (h : Parts s ⟨#[32]⟩ ps) (hne : ∀ x ∈ ps, 1 ≤ x.size) :
    Calls Tryz.prog 7 #[.string s] w fun e w' => ∃ v, e = .returned v ∧ So w' (w.heap.size + 1) v ps ∧ Ext w w' := by
  obtain ⟨i0, hi, hz0, hz1, hz2⟩ := info_parts info_str
  obtain ⟨g, Hg⟩ : ∃ h, Hid (w.heap.size = h) := ⟨_, Lib.hid rfl⟩
  have few := h.few
  have ks := fun W hm => split_parts s ⟨#[32]⟩ ps W m hm (by decide) h
  go_enter Tryz.func7, Tryz.ntmps7
  go_wp2_with fail
  refine (ks _ hm).mono ?_
  rintro e w1 ⟨rfl, e1⟩
  have hrow : w1.rangeAt g 0 (ps.map .string) := by rw [e1, ← Hg.out]; exact rangeAt_new w _ _
  have x1 : Ext w w1 := by rw [e1]; exact (Ext.refl w).alloc _
  have hsz : w1.heap.size = g + 1 := by rw [e1, ← Hg.out]; exact Array.size_push _
  clear e1
  have Hsz := Lib.hid hsz
  clear hsz
  rw [Hg.out]
  have key : ∀ i (hi : i < ps.length), w1.cell? ⟨g, i, none⟩ = some (.string ps[i]) := fun i hi => by
    have := hrow i (.string ps[i]) (by simp [hi])
    rwa [Nat.zero_add] at this
  clear hrow ks
  go_wp2_with fail
  go_loopw [3, 5, 9] (fun lv wv iv wr => ∃ i : Nat, iv = Value.int .i64 i ∧ i ≤ ps.length ∧ So wr (g + 1) lv (ps.take i) ∧ Ext w1 wr) (fun _ _ iv _ => (ps.length - intOf iv).toNat)
  case atStart =>
    exact ⟨0, rfl, Nat.zero_le _, So.nil _ _, Ext.refl _⟩
  case round =>
    obtain ⟨i, rfl, hi2, hS, xr⟩ := hrel
    by_cases hlt : i < ps.length
    · have hcell := xr.cell (key i hlt)
      obtain ⟨x, hx⟩ : ∃ x, Hid (ps[i] = x) := ⟨_, Lib.hid rfl⟩
      rw [hx.out] at hcell
      have hsz : 1 ≤ x.size := by rw [← hx.out]; exact hne _ (List.getElem_mem hlt)
      have hxe : x.toList.isEmpty = false := by
        rw [ByteArray.toList_eq, List.isEmpty_eq_false_iff]
        intro e
        have e1 : x.data.size = 0 := by rw [← Array.length_toList, e]; rfl
        have : x.size = 0 := e1
        omega
      have hltI : (i : Int) < (ps.length : Int) := by omega
      have hb : g + 1 ≤ wr.heap.size := by have := xr.size; have := Hsz.out; omega
      have Hb := Lib.hid hb
      clear hb
      go_wp2_with ((with_reducible refine gate_dst (N := 18) rfl ?_); refine halt ?_)
      refine unhalt (wpList_append_own _ rfl _ _ 26 rfl (g + 1) 9 i0 (.string ⟨#[]⟩) 1 16 Tryz.underlying26 hi hz0 hz1 hz2 rfl (by decide) _ (ps.take i).length ((ps.take i).map Value.string) rfl (hS.ext ((Ext.refl _).alloc _)) ⟨wr.heap.size, 0, none⟩ 1 1 [.string x] rfl rfl ?c1 ?c2 ?c3 ?c4 ?c5 ?_)
      case c1 =>
        intro j u hj
        match j, hj with
        | 0, hj => simp at hj; subst hj; simp [Addr.add]
        | (j + 1), hj => simp at hj
      case c2 => intro u hu; simp at hu; subst hu; rfl
      case c3 => rw [List.length_take]; unfold maxLen; omega
      case c4 => rw [List.length_take]; omega
      case c5 => have := Hb.out; simp; omega
      intro v' w2 hown hgr _
      have hO := hS.ext ((Ext.refl wr).alloc (.cells #[.string x] 9))
      have hX2 : Ext w1 w2 := ext_own (xr.alloc _) hO (by have := Hsz.out; omega) hgr
      have hS2 : So w2 (g + 1) v' (ps.take (i + 1)) := by
        rw [List.take_add_one, List.getElem?_eq_getElem hlt, hx.out, So, List.length_append, List.map_append]
        exact hown
      clear hown hgr
      go_wp2
      go_roundw
      case rel => exact ⟨i + 1, by simp, by omega, hS2, hX2⟩
      case measure => simp [intOf]; omega
    · have he : i = ps.length := by omega
      subst he
      rw [List.take_length] at hS
      go_wp2
      go_ret
      exact ⟨_, rfl, by rw [Hg.out]; exact hS, x1.trans xr⟩
/-- A text in lines; its last one is empty, or not. -/
theorem rows_any (s : ByteArray) (ps : List ByteArray) (w : World) (m : Int) (hm : w.cell? ⟨0, 0, none⟩ = some (.int .i64 m)) (h : Parts s ⟨#[10]⟩ ps) (n : Nat) (hn : ps.length = n + 1) (hlast : ∀ x, ps[n]? = some x → x.toList.isEmpty = false) :
    Calls Tryz.prog 6 #[.string s] w fun e w' => ∃ g, e = .returned (.slice (some ⟨g, 0, none⟩) ps.length ps.length) ∧ w'.rangeAt g 0 (ps.map .string) ∧ Ext w w' := by
  obtain ⟨g, Hg⟩ : ∃ h, Hid (w.heap.size = h) := ⟨_, Lib.hid rfl⟩
  have few := h.few
  have ks := fun W hm => split_parts s ⟨#[10]⟩ ps W m hm (by decide) h
  obtain ⟨x, hx⟩ : ∃ x, ps[n]? = some x := ⟨_, List.getElem?_eq_getElem (by omega)⟩
  have hxe := hlast x hx
  go_enter Tryz.func6, Tryz.ntmps6
  go_wp2_with fail
  refine (ks _ hm).mono ?_
  rintro e w1 ⟨rfl, e1⟩
  have hrow : w1.rangeAt g 0 (ps.map .string) := by rw [e1, ← Hg.out]; exact rangeAt_new w _ _
  have x1 : Ext w w1 := by rw [e1]; exact (Ext.refl w).alloc _
  have hc : w1.cell? ⟨g, n, none⟩ = some (.string x) := by
    have := hrow n (.string x) (by simp [hx])
    rwa [Nat.zero_add] at this
  clear e1 ks hx
  rw [Hg.out]
  have Hrow := Lib.hid hrow
  clear hrow hlast
  rw [hn] at few ⊢
  have Hn := Lib.hid hn
  clear hn h
  go_wp2
  go_ret
  exact ⟨g, by rw [Hn.out]; rfl, Hrow.out, x1⟩
end Go.Proofs.YtbemkefcaceekaaGreatDoor
