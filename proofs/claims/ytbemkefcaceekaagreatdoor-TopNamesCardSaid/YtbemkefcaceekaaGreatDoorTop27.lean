/- Top27: script.Run. -/
import Derived.Test.YtbemkefcaceekaaGreatDoorTop26
set_option linter.unusedVariables false
set_option linter.unusedSimpArgs false
set_option maxRecDepth 100000
namespace Go.Proofs.YtbemkefcaceekaaGreatDoor
open Go.RowKit Go.Lib Go.Shelf Go.Proofs.YtbemkefcaceekaaGreatDoorW.PrintWords Go.Proofs.YtbemkefcaceekaaGreatDoorW.PrintLast

theorem info_line : (Tryz.prog.info? 30).map (fun i => (i.zero, i.size, i.bytes)) = some (some .nilFunc, 1, 8) := by kernel_rfl
/-- All that is no row of lines is as it was. -/
def Thru (W W' : World) : Prop := ∀ (k : Nat) (o : Obj), W.heap[k]? = some o → (∀ cs fr, o ≠ .cells cs 30 fr) → W'.heap[k]? = some o
theorem Thru.of_ext {W W' : World} (h : Ext W W') : Thru W W' := fun k o ho _ => (h.out.block k (Array.getElem?_eq_some_iff.1 ho).1).trans ho
theorem Thru.trans {a b c : World} (h : Thru a b) (k : Thru b c) : Thru a c := fun i o ho hn => k i o (h i o ho hn) hn
theorem Thru.grown {W W' : World} {B n : Nat} {v : Value} {xs : List Value} (hO : W.ownsRow B 30 1 v n xs) (hg : W.grownBy W' v.ownBlock) : Thru W W' := fun k o ho hn => by
  refine (hg.block k (Array.getElem?_eq_some_iff.1 ho).1 (fun e => ?_)).trans ho
  rcases hO.2 with ⟨rfl, -⟩ | ⟨g, cap, cur, rfl, -, hh, -⟩
  · simp [Value.ownBlock] at e
  · obtain rfl : k = g := by simpa [Value.ownBlock] using e
    rw [ho] at hh
    exact hn _ _ (Option.some.inj hh)
/-- A line's text, its words and what it becomes. -/
structure Line (x : ByteArray) (ps : List ByteArray) (F : World → Value → Prop) (mx : Int) : Prop where
  parts : Parts x ⟨#[32]⟩ ps
  full : ∀ y ∈ ps, 1 ≤ y.size
  one : 1 ≤ ps.length
  read : ∀ (W : World) (blk c : Nat), W.cell? ⟨0, 0, none⟩ = some (.int .i64 mx) → W.rangeAt blk 0 (ps.map .string) → ps.length ≤ c → c ≤ 9223372036854775807 →
    Calls Tryz.prog 8 #[.slice (some ⟨blk, 0, none⟩) ps.length c] W fun e w' => ∃ v, e = .returned (.tuple #[v, .bool true]) ∧ F w' v ∧ Ext W w'
  func : ∀ W v, F W v → ∃ fn caps, v = .func fn #[] caps
  keep : ∀ W W' v, F W v → Thru W W' → F W' v
/-- A line's value is played on a house. -/
def Plays (v : Value) (W : World) (sb : Nat) (Q : Ending → World → Prop) : Prop :=
  (∃ p q, v = .func (.func 38) #[] #[.pointer (some ⟨p, 0, none⟩), .pointer (some ⟨q, 0, none⟩)] ∧ Calls Tryz.prog 38 #[.pointer (some ⟨sb, 0, none⟩), .pointer (some ⟨p, 0, none⟩), .pointer (some ⟨q, 0, none⟩)] W Q) ∨
  (∃ p, v = .func (.func 52) #[] #[.pointer (some ⟨p, 0, none⟩)] ∧ Calls Tryz.prog 52 #[.pointer (some ⟨sb, 0, none⟩), .pointer (some ⟨p, 0, none⟩)] W Q)
def outs (o : Nat → ByteArray) : Nat → List UInt8
  | 0 => []
  | n + 1 => outs o n ++ (o n ++ ⟨#[10]⟩).data.toList
theorem outs_length (o : Nat → ByteArray) (ho : ∀ i, (o i).size ≤ 100) : ∀ n, (outs o n).length ≤ 101 * n
  | 0 => by simp [outs]
  | n + 1 => by
    have h := outs_length o ho n
    have h2 := ho n
    have h3 : (o n ++ ⟨#[10]⟩).data.toList.length = (o n).size + 1 := by
      rw [Array.length_toList]
      show (o n ++ ⟨#[10]⟩).size = _
      rw [ByteArray.size_append]
      rfl
    rw [outs, List.length_append, h3]
    omega
theorem Sh.wrote {w0 W W' : World} {base bm um dm cm hb sb B bb : Nat} {H : Hse} {R : V7} (h : Sh w0 W base bm um dm cm hb sb H R) (hbb : ∃ cs fr, W.heap[bb]? = some (.cells cs 42 fr)) (b : Below B W W') (k : Lib.OthersKept 5 (some bb) W W') (hB : w0.heap.size ≤ B) :
    Sh w0 W' base bm um dm cm hb sb H R := by
  obtain ⟨cs, fr, hbb⟩ := hbb
  have q : ∀ (i : Nat) (o : Obj), W.heap[i]? = some o → Hs o → W'.heap[i]? = some o := fun i o ho hs => k i o ho (fun e => by
    obtain rfl := Option.some.inj e
    rw [hbb] at ho
    obtain rfl := Option.some.inj ho
    exact hs.notBy (Or.inl ⟨_, _, rfl⟩)) (fun c fz e => by
    subst e
    exact hs.notBy (Or.inr ⟨_, _, rfl⟩))
  have hx : Ext w0 W' := ⟨b.os.trans h.ext.out.os, b.tape.trans h.ext.out.tape, b.output.trans h.ext.out.output, Nat.le_trans h.ext.size b.size, fun i hi => (b.block i (Nat.lt_of_lt_of_le hi hB)).trans (h.ext.out.block i hi)⟩
  refine ⟨hx, h.hat.through q, k _ _ h.blk (fun e => ?_) (fun c fz e => by simp at e), Nat.le_trans h.bs b.size, h.lob, h.lo⟩
  obtain rfl := Option.some.inj e
  rw [h.blk] at hbb
  simp at hbb
theorem isB_kept {B b : Nat} {bs : List Value} {w w' : World} (h : Lib.IsBuilderF 42 5 B b bs w) (k : Kept w w') : Lib.IsBuilderF 42 5 B b bs w' :=
  h.elim (fun x => .inl (builder_kept x k)) (fun x => .inr (builder_kept x k))
theorem isB_block {B b : Nat} {bs : List Value} {w : World} (h : Lib.IsBuilderF 42 5 B b bs w) : ∃ cs fr, w.heap[b]? = some (.cells cs 42 fr) := by
  rcases h with h | h
  · obtain ⟨-, v, hv, -⟩ := h; exact ⟨_, _, hv⟩
  · obtain ⟨-, v, hv, -⟩ := h; exact ⟨_, _, hv⟩
set_option maxHeartbeats 8000000 in
theorem run_any (w : World) (text : ByteArray) (ls : List ByteArray) (hPl : Parts text ⟨#[10]⟩ ls) (n : Nat) (hn : ls.length = n + 1) (hlast : ∀ x, ls[n]? = some x → x.toList.isEmpty = false) (hts : text.size ≤ 16384) (mx : Int) (hm : w.cell? ⟨0, 0, none⟩ = some (.int .i64 mx)) (ht : Tabs w)
    (pss : Nat → List ByteArray) (F : Nat → World → Value → Prop) (hL : ∀ i x, ls[i]? = some x → Line x (pss i) (F i) mx) (o : Nat → ByteArray) (ho : ∀ i, (o i).size ≤ 100) (P : Nat → Hse → V7 → Prop) (hP0 : P 0 H0 (fun _ => 0))
    (hstep : ∀ w0 W base bm um dm cm hb sb H R i v, i < ls.length → Tabs w0 → F i W v → Sh w0 W base bm um dm cm hb sb H R → P i H R → Plays v W sb (fun e w' => e = .returned (.string (o i)) ∧ (∃ H' R', Sh w0 w' base bm um dm cm hb sb H' R' ∧ P (i + 1) H' R') ∧ Kept W w')) :
    Calls Tryz.prog 5 #[.string text] w fun e w' => e = .returned (.tuple #[.string ⟨(outs o ls.length).toArray⟩, .int .i64 0]) ∧ Ext w w' := by
  obtain ⟨i0, hi, hz0, hz1, hz2⟩ := info_parts info_line
  have few := hPl.few
  have Kr := Lib.hid (rows_any text ls w mx hm hPl n hn hlast)
  have HL := Lib.hid hL
  have Hstep := Lib.hid hstep
  have Hn := Lib.hid hn
  have Few := Lib.hid few
  obtain ⟨N, hN⟩ : ∃ N, Hid (ls.length = N) := ⟨_, Lib.hid rfl⟩
  have hN100 : N ≤ 100 := by rw [← hN.out]; exact few
  have Hm := Lib.hid hm
  clear hPl hn hlast hL hstep few hm
  have hts1 : ¬ ((16384 : Int) < (text.size : Int)) := by omega
  have hN1 : ¬ ((400 : Int) < (N : Int)) := by omega
  go_enter Tryz.func5, Tryz.ntmps5
  go_wp2_with fail
  refine Kr.out.mono ?_
  rintro e w1 ⟨g, rfl, hrow, x1⟩
  rw [hN.out]
  have key : ∀ i x, ls[i]? = some x → w1.cell? ⟨g, i, none⟩ = some (.string x) := fun i x hx => by
    have := hrow i (.string x) (by simp [hx])
    rwa [Nat.zero_add] at this
  have Key := Lib.hid key
  obtain ⟨B, hB⟩ : ∃ B, Hid (w1.heap.size = B) := ⟨_, Lib.hid rfl⟩
  clear hrow key
  go_wp2_with fail
  clear hts1 hN1
  go_loopw [5, 7, 8, 9, 10, 27] (fun lv _ _ _ _ iv wr => ∃ (i : Nat) (vs : List Value), iv = Value.int .i64 i ∧ i ≤ N ∧ vs.length = i ∧ Hid (wr.ownsRow B 30 1 lv i vs) ∧ Hid (∀ j v, vs[j]? = some v → F j wr v) ∧ Ext w1 wr) (fun _ _ _ _ _ iv _ => (N - intOf iv).toNat)
  case atStart =>
    exact ⟨0, [], rfl, Nat.zero_le _, rfl, Lib.hid (World.ownsRow_nil _ _ _ _), Lib.hid (by simp), Ext.refl _⟩
  case round =>
    obtain ⟨i, vs, rfl, hi2, hvs, hO, hF, xr⟩ := hrel
    by_cases hlt : i < N
    · obtain ⟨x, hx⟩ : ∃ x, ls[i]? = some x := ⟨_, List.getElem?_eq_getElem (by have := hN.out; omega)⟩
      have hcell := xr.cell (Key.out i x hx)
      have hLi := HL.out i x hx
      have Hw := Lib.hid (words_any x (pss i) wr mx ((x1.trans xr).cell Hm.out) hLi.parts hLi.full)
      have HLi := Lib.hid hLi
      have hlen := hLi.one
      obtain ⟨M, hM⟩ : ∃ M, Hid ((pss i).length = M) := ⟨_, Lib.hid rfl⟩
      rw [hM.out] at hlen
      have hltI : (i : Int) < (N : Int) := by omega
      have hM0 : ¬ ((M : Int) = 0) := by omega
      have Hx := Lib.hid hx
      have Hvs := Lib.hid hvs
      clear hLi hx hvs
      go_wp2_with fail
      refine Hw.out.mono ?_
      rintro e w2 ⟨v, rfl, hS, x2⟩
      obtain ⟨gi, ci, rfl, hci, hcb, hrow⟩ : ∃ gi ci, v = .slice (some ⟨gi, 0, none⟩) M ci ∧ M ≤ ci ∧ ci ≤ 9223372036854775807 ∧ w2.rangeAt gi 0 ((pss i).map .string) := by
        rcases hS.2 with ⟨-, h0⟩ | ⟨g, cap, cur, hv, hg, hh, hnc, hmc, hsz, htk⟩
        · have := hM.out; omega
        · refine ⟨g, cap, by rw [hv, hM.out], by rw [← hM.out]; exact hnc, by unfold maxLen at hmc; omega, fun j u hu => ?_⟩
          have hj : j < (pss i).length := by
            have := (List.getElem?_eq_some_iff.1 hu).1
            simpa using this
          have h2 := World.ownsRow.cells hS (g := g) (by rw [hv]; rfl) j u hu
          rw [Nat.zero_add]
          by_cases e : j = 0 <;> simpa [Addr.add, e] using h2
      have Hr := HLi.out.read w2 gi ci ((x1.trans (xr.trans x2)).cell Hm.out) hrow (by rw [hM.out]; exact hci) hcb
      rw [hM.out] at Hr
      have HR := Lib.hid Hr
      clear Hr hrow hS
      go_wp2_with fail
      refine HR.out.mono ?_
      rintro e w3 ⟨v, rfl, hFv, x3⟩
      obtain ⟨fn, caps, rfl⟩ := HLi.out.func w3 v hFv
      have HFv := Lib.hid hFv
      have hb : B ≤ w3.heap.size := by rw [← hB.out]; exact (xr.trans (x2.trans x3)).size
      have Hb := Lib.hid hb
      have hOr := row_chg hO.out (Chg.of_ext (l := []) (x2.trans x3)) (by simp)
      have HOr := Lib.hid hOr
      clear hFv hb hOr
      go_wp2_with ((with_reducible refine gate_dst (N := 46) rfl ?_); refine halt ?_)
      refine unhalt (wpList_append_own _ rfl _ _ 28 rfl B 30 i0 .nilFunc 1 8 Tryz.underlying28 hi hz0 hz1 hz2 rfl (by decide) _ i vs rfl (row_chg HOr.out (Chg.of_ext (l := []) ((Ext.refl _).alloc _)) (by simp)) ⟨w3.heap.size, 0, none⟩ 1 1 [.func fn #[] caps] rfl rfl ?c1 ?c2 ?c3 ?c4 ?c5 ?_)
      case c1 =>
        intro j u hj
        match j, hj with
        | 0, hj => simp at hj; subst hj; simp [Addr.add]
        | (j + 1), hj => simp at hj
      case c2 => intro u hu; simp at hu; subst hu; rfl
      case c3 => unfold maxLen; omega
      case c4 => omega
      case c5 => have := Hb.out; simp; omega
      intro v' w4 hown hgr _
      have hOa := row_chg HOr.out (Chg.of_ext (l := []) ((Ext.refl w3).alloc (.cells #[.func fn #[] caps] 30))) (by simp)
      have hX4 : Ext w1 w4 := ext_own ((xr.trans (x2.trans x3)).alloc _) hOa (Nat.le_of_eq hB.out) hgr
      have hT4 : Thru w3 w4 := (Thru.of_ext ((Ext.refl w3).alloc _)).trans (Thru.grown hOa hgr)
      have hF4 : ∀ j v, (vs ++ [.func fn #[] caps])[j]? = some v → F j w4 v := fun j v hj => by
        rcases Nat.lt_or_ge j vs.length with h' | h'
        · rw [List.getElem?_append_left h'] at hj
          obtain ⟨xj, hxj⟩ : ∃ x, ls[j]? = some x := ⟨_, List.getElem?_eq_getElem (by have := hN.out; have := Hvs.out; omega)⟩
          exact (HL.out j xj hxj).keep _ _ _ (hF.out j v hj) ((Thru.of_ext (x2.trans x3)).trans hT4)
        · rw [List.getElem?_append_right h'] at hj
          have hj0 : j - vs.length = 0 := by
            have := (List.getElem?_eq_some_iff.1 hj).1
            simp at this
            omega
          rw [hj0] at hj
          obtain rfl : Value.func fn #[] caps = v := by simpa using hj
          obtain rfl : j = i := by have := Hvs.out; omega
          exact HLi.out.keep _ _ _ HFv.out hT4
      have HO4 := Lib.hid hown
      have HF4 := Lib.hid hF4
      clear hown hgr hOa hF4 hT4
      go_wp2
      go_roundw
      case rel => exact ⟨i + 1, vs ++ [.func fn #[] caps], by simp, by omega, by have := Hvs.out; simp; omega, HO4, HF4, hX4⟩
      case measure => simp [intOf]; omega
    · obtain rfl : i = N := by omega
      obtain ⟨wa, rfl⟩ : ∃ wa : World, wa = wr := ⟨_, rfl⟩
      rcases hO.out.2 with ⟨-, h0⟩ | ⟨g2, cap2, cur, rfl, hg, hh, hnc, hmc, hsz, htk⟩
      · have := hN.out
        have := Hn.out
        omega
      have hcells : ∀ j v, vs[j]? = some v → wa.cell? ⟨g2, j, none⟩ = some v := fun j u hu => by
        have h2 := World.ownsRow.cells hO.out (g := g2) rfl j u hu
        by_cases e : j = 0 <;> simpa [Addr.add, e] using h2
      clear hg hh hnc hmc hsz htk
      have Hcells := Lib.hid hcells
      have Hvs := Lib.hid hvs
      clear hcells hvs hlt hi2
      go_wp2_with fail
      refine (new_any wa).mono ?_
      rintro e w5 ⟨bm, um, dm, cm, hb, rfl, l1, l2, l3, l4, l5, hat, x5⟩
      have y0 := Ext.refl w5
      obtain ⟨sb, Gsb⟩ : ∃ x, Hid ((World.heap w5).size = x) := ⟨_, Lib.hid rfl⟩
      obtain ⟨w6, Hw6⟩ : ∃ x, Hid ((World.alloc w5 (.cells #[.pointer (some ⟨hb, 0, none⟩), .int .i64 0, .int .i64 0, .int .i64 0, .int .i64 0, .int .i64 0, .int .i64 0, .int .i64 0] 38)) = x) := ⟨_, Lib.hid rfl⟩
      have bsb_w6 : w6.heap[sb]? = some (.cells #[.pointer (some ⟨hb, 0, none⟩), .int .i64 0, .int .i64 0, .int .i64 0, .int .i64 0, .int .i64 0, .int .i64 0, .int .i64 0] 38) := by rw [← Hw6.out, ← Gsb.out]; exact Array.getElem?_push_size
      have ew6 : Ext w5 w6 := by rw [← Hw6.out]; exact ((Ext.refl _).alloc _)
      have xw6 : Ext w5 w6 := Ext.trans (y0) ew6
      have lsb : (World.heap w5).size ≤ sb := Nat.le_trans (Ext.size (y0)) (Nat.le_of_eq Gsb.out)
      obtain ⟨bb, Gbb⟩ : ∃ x, Hid ((World.heap w6).size = x) := ⟨_, Lib.hid rfl⟩
      obtain ⟨w7, Hw7⟩ : ∃ x, Hid ((World.alloc w6 (.cells #[.pointer none, .slice none 0 0] 42)) = x) := ⟨_, Lib.hid rfl⟩
      have bbb_w7 : w7.heap[bb]? = some (.cells #[.pointer none, .slice none 0 0] 42) := by rw [← Hw7.out, ← Gbb.out]; exact Array.getElem?_push_size
      have ew7 : Ext w6 w7 := by rw [← Hw7.out]; exact ((Ext.refl _).alloc _)
      have xw7 : Ext w5 w7 := Ext.trans (xw6) ew7
      have lbb : (World.heap w5).size ≤ bb := Nat.le_trans (Ext.size (xw6)) (Nat.le_of_eq Gbb.out)
      have nsbbb : sb ≠ bb := Nat.ne_of_lt (Nat.lt_of_lt_of_eq (Array.getElem?_eq_some_iff.1 bsb_w6).1 Gbb.out)
      have bsb_w7 : w7.heap[sb]? = some (.cells #[.pointer (some ⟨hb, 0, none⟩), .int .i64 0, .int .i64 0, .int .i64 0, .int .i64 0, .int .i64 0, .int .i64 0, .int .i64 0] 38) := (ew7.out.block _ (Array.getElem?_eq_some_iff.1 bsb_w6).1).trans bsb_w6
      have eq_Gsb := Gsb.out
      have eq_Hw6 := Hw6.out
      have eq_Gbb := Gbb.out
      have eq_Hw7 := Hw7.out
      have lw := x5.size
      have hI7 : Lib.IsBuilderF 42 5 bb bb (Lib.byteCells []) w7 := by
        have := Lib.IsBuilderF.of (Lib.fresh_isBuilder 42 5 w6)
        rw [Gbb.out, Hw7.out] at this
        exact this
      have hS7 : Sh wa w7 w5.heap.size bm um dm cm hb sb H0 (fun _ => 0) := by
        refine ⟨x5.trans xw7, hat.ext xw7, bsb_w7, xw7.size, lw, ?_⟩
        intro k hk
        simp only [List.mem_cons, List.not_mem_nil, or_false] at hk
        rcases hk with rfl | rfl | rfl | rfl | rfl | rfl
        · exact Nat.le_trans lw lsb
        · exact l5
        · exact l1
        · exact l2
        · exact l3
        · exact l4
      have HI7 := Lib.hid hI7
      have HS7 := Lib.hid hS7
      have HP0 := Lib.hid hP0
      have lbb2 : wa.heap.size ≤ bb := Nat.le_trans lw lbb
      have Lbb2 := Lib.hid lbb2
      have Hho := Lib.hid ho
      clear hI7 hS7 hP0 lbb2 ho l1 l2 l3 l4 l5 lw lsb lbb nsbbb bsb_w6 bsb_w7 bbb_w7 hat
      have xaa := x1.trans xr
      go_wp2_with fail
      clear eq_Gsb eq_Hw6 eq_Gbb eq_Hw7
      go_loopw [14, 53] (fun _ iv wq => ∃ (k : Nat) (acc : List UInt8) (H : Hse) (R : V7), iv = Value.int .i64 k ∧ k ≤ i ∧ Hid (Lib.IsBuilderF 42 5 bb bb (Lib.byteCells acc) wq) ∧ Hid (Sh wa wq w5.heap.size bm um dm cm hb sb H R) ∧ Hid (P k H R) ∧ Hid (acc = outs o k)) (fun _ iv _ => (i - intOf iv).toNat)
      case atStart =>
        exact ⟨0, [], H0, fun _ => 0, rfl, Nat.zero_le _, HI7, HS7, HP0, Lib.hid rfl⟩
      case round =>
        obtain ⟨k, acc, H, R, rfl, hk2, hI, hS, hP, hacc⟩ := hrel
        by_cases hlt : k < i
        · obtain ⟨v, hv⟩ : ∃ v, vs[k]? = some v := ⟨_, List.getElem?_eq_getElem (by have := Hvs.out; omega)⟩
          have hcell := hS.out.ext.cell (Hcells.out k v hv)
          obtain ⟨x, hx⟩ : ∃ x, ls[k]? = some x := ⟨_, List.getElem?_eq_getElem (by have := hN.out; omega)⟩
          have hFk := (HL.out k x hx).keep _ _ _ (hF.out k v hv) (Thru.of_ext hS.out.ext)
          have hlen : acc.length ≤ 101 * k := by rw [hacc.out]; exact outs_length o Hho.out k
          have hok := Hho.out k
          have hcat : ¬ 9223372036854775807 < (o k).size + (ByteArray.mk #[10]).size := by show ¬ _ < (o k).size + 1; omega
          have hltI : (k : Int) < (i : Int) := by omega
          have Hlen := Lib.hid hlen
          clear hv hx hlen
          rcases Hstep.out wa wr w5.heap.size bm um dm cm hb sb H R k v (by have := hN.out; omega) (ht.ext xaa) hFk hS.out hP.out with ⟨p, q, rfl, hc⟩ | ⟨p, rfl, hc⟩
          · have Hc := Lib.hid hc
            clear hc hFk
            go_wp2_with fail
            refine Hc.out.mono ?_
            rintro e w8 ⟨rfl, ⟨H', R', hS', hP'⟩, hkp⟩
            have hI8 := isB_kept hI.out hkp
            have hbz : bb ≤ w8.heap.size := by
              obtain ⟨cs, fr, hbk⟩ := isB_block hI8
              exact Nat.le_of_lt (Array.getElem?_eq_some_iff.1 hbk).1
            have HS8 := Lib.hid hS'
            have HP8 := Lib.hid hP'
            have hbl : (Lib.byteCells acc).length + (o k ++ ⟨#[10]⟩).size ≤ 140737488355328 := by
              rw [Lib.byteCells_length, ByteArray.size_append]
              show acc.length + ((o k).size + 1) ≤ _
              have := Hlen.out
              omega
            have HI8 := Lib.hid hI8
            have HBL := Lib.hid hbl
            have HBZ := Lib.hid hbz
            clear hS' hP' hkp hI8 hbl hbz
            go_wp2_with (go_at_call 10; refine (Tryz.writeString_k bb bb _ _ _ HI8.out HBL.out HBZ.out).mono ?_)
            rintro e w9 ⟨rfl, h1, b1, k1⟩
            have HI9 : Hid (Lib.IsBuilderF 42 5 bb bb (Lib.byteCells (acc ++ (o k ++ ⟨#[10]⟩).data.toList)) w9) := Lib.hid (by
              rw [Lib.byteCells_append, ← Lib.strCells_eq]
              exact Or.inr h1)
            have HS9 := Lib.hid (HS8.out.wrote (isB_block HI8.out) b1 k1 Lbb2.out)
            clear h1 b1 k1
            go_wp2
            go_roundw
            case rel => exact ⟨k + 1, _, H', R', by simp, by omega, HI9, HS9, HP8, Lib.hid (by rw [outs, hacc.out])⟩
            case measure => simp [intOf]; omega
          · have Hc := Lib.hid hc
            clear hc hFk
            go_wp2_with fail
            refine Hc.out.mono ?_
            rintro e w8 ⟨rfl, ⟨H', R', hS', hP'⟩, hkp⟩
            have hI8 := isB_kept hI.out hkp
            have hbz : bb ≤ w8.heap.size := by
              obtain ⟨cs, fr, hbk⟩ := isB_block hI8
              exact Nat.le_of_lt (Array.getElem?_eq_some_iff.1 hbk).1
            have HS8 := Lib.hid hS'
            have HP8 := Lib.hid hP'
            have hbl : (Lib.byteCells acc).length + (o k ++ ⟨#[10]⟩).size ≤ 140737488355328 := by
              rw [Lib.byteCells_length, ByteArray.size_append]
              show acc.length + ((o k).size + 1) ≤ _
              have := Hlen.out
              omega
            have HI8 := Lib.hid hI8
            have HBL := Lib.hid hbl
            have HBZ := Lib.hid hbz
            clear hS' hP' hkp hI8 hbl hbz
            go_wp2_with (go_at_call 10; refine (Tryz.writeString_k bb bb _ _ _ HI8.out HBL.out HBZ.out).mono ?_)
            rintro e w9 ⟨rfl, h1, b1, k1⟩
            have HI9 : Hid (Lib.IsBuilderF 42 5 bb bb (Lib.byteCells (acc ++ (o k ++ ⟨#[10]⟩).data.toList)) w9) := Lib.hid (by
              rw [Lib.byteCells_append, ← Lib.strCells_eq]
              exact Or.inr h1)
            have HS9 := Lib.hid (HS8.out.wrote (isB_block HI8.out) b1 k1 Lbb2.out)
            clear h1 b1 k1
            go_wp2
            go_roundw
            case rel => exact ⟨k + 1, _, H', R', by simp, by omega, HI9, HS9, HP8, Lib.hid (by rw [outs, hacc.out])⟩
            case measure => simp [intOf]; omega
        · obtain rfl : k = i := by omega
          have hbz : bb ≤ wr.heap.size := by
            obtain ⟨cs, fr, hbk⟩ := isB_block hI.out
            exact Nat.le_of_lt (Array.getElem?_eq_some_iff.1 hbk).1
          go_wp2_with (go_at_call 11; refine (Tryz.Builder_String_any_k bb bb acc _ hI.out hbz).mono ?_)
          rintro e w9 ⟨rfl, _, b1, _⟩
          have hx9 : Ext wa w9 := ⟨b1.os.trans hS.out.ext.out.os, b1.tape.trans hS.out.ext.out.tape, b1.output.trans hS.out.ext.out.output, Nat.le_trans hS.out.ext.size b1.size, fun j hj => (b1.block j (Nat.lt_of_lt_of_le hj Lbb2.out)).trans (hS.out.ext.out.block j hj)⟩
          have hX9 := xaa.trans hx9
          clear b1 hx9
          go_wp2
          go_ret2
          exact ⟨by rw [hN.out, hacc.out]; rfl, hX9⟩
end Go.Proofs.YtbemkefcaceekaaGreatDoor
