/- The reference's Runes: a text's runes and where each begins, as two rows of the call's own. -/
import Derived.Test.YtlffbappgfimeaaDoorName3
import Derived.Deep.OwnRows
import Derived.Maps.AppendAt
set_option linter.unusedVariables false
namespace Go.Proofs.YtlffbappgfimeaaDoor
open Go.RowKit Go.Lib Go.Proofs.YtlffbappgfimeaaDoorW.PrintWords
set_option maxHeartbeats 4000000
set_option maxRecDepth 100000

/-- A row of numbers of the call's own. -/
def Rn (k : IntKind) (T : TypeId) (w : World) (base : Nat) (v : Value) (l : List Int) : Prop := w.ownsRow base T 1 v l.length (nums k l)
theorem Rn.nil (k : IntKind) (T : TypeId) (w : World) (base : Nat) : Rn k T w base (.slice none 0 0) [] := World.ownsRow_nil w base _ 1
theorem Rn.ext {k : IntKind} {T : TypeId} {w w1 : World} {base : Nat} {v : Value} {l : List Int} (h : Rn k T w base v l) (hb : Ext w w1) : Rn k T w1 base v l := pw_own_below h hb
theorem Rn.lower {k : IntKind} {T : TypeId} {w : World} {base base' : Nat} {v : Value} {l : List Int} (h : Rn k T w base v l) (hb : base' ≤ base) : Rn k T w base' v l := own_weaken h hb
theorem rn_ext_own {w W w1 : World} {base : Nat} {v : Value} {n : Nat} {e : TypeId} {xs : List Value} (h : Ext w W) (hO : W.ownsRow base e 1 v n xs) (hb : w.heap.size ≤ base) (hg : W.grownBy w1 v.ownBlock) : Ext w w1 :=
  Below.grown h hg h.size (fun k hk => Nat.le_trans hb (own_base hO k hk))
theorem Rn.shape {k : IntKind} {T : TypeId} {w : World} {base : Nat} {v : Value} {l : List Int} (h : Rn k T w base v l) : ∃ A c, v = .slice A l.length c ∧ l.length ≤ c ∧ l.length ≤ 9223372036854775807 := by
  rcases h.2 with ⟨rfl, h0⟩ | ⟨g, cap, cur, rfl, hg, hh, hn, hm, hc⟩
  · rw [h0]; exact ⟨none, 0, rfl, Nat.le_refl _, by decide⟩
  · exact ⟨_, _, rfl, hn, by simp only [maxLen] at hm; omega⟩
theorem Rn.at {k : IntKind} {T : TypeId} {w : World} {base : Nat} {A : Option Addr} {n c : Nat} {l : List Int} (h : Rn k T w base (.slice A n c) l) (j : Nat) (x : Int) (hx : l[j]? = some x) : ∃ g, A = some ⟨g, 0, none⟩ ∧ w.cell? ⟨g, j, none⟩ = some (.int k x) := by
  rcases h.2 with ⟨h1, h0⟩ | ⟨g, cap, cur, h1, hg, hh, hn, hm, hc⟩
  · have : l = [] := List.eq_nil_of_length_eq_zero h0
    subst this
    simp at hx
  · injection h1 with h1 h2 h3
    subst h1
    subst h3
    have hl : n = l.length := h2
    subst hl
    refine ⟨g, rfl, ?_⟩
    have := World.ownsRow.cells h (g := g) rfl j (.int k x) (by simp [nums, hx])
    rw [Addr.add_lit, Nat.zero_add] at this
    exact this
/-- Two rows in unlike blocks. -/
def Apart (v u : Value) : Prop := ∀ k, v.ownBlock = some k → u.ownBlock ≠ some k
theorem info_i32 : (Tryd.prog.info? 21).map (fun i => (i.zero, i.size, i.bytes)) = some (some (.int .i32 0), 1, 4) := by kernel_rfl
theorem info_i64 : (Tryd.prog.info? 3).map (fun i => (i.zero, i.size, i.bytes)) = some (some (.int .i64 0), 1, 8) := by kernel_rfl

section
variable {ops : Array Oper} {rest : List Oper} {o : Oper} {a : Act} {Q : Exit → Act → World → Prop}
/-- append of one number to a row of the call's own. -/
theorem wp_num {W : World} (hgd : o.guard = none) (s x : Operand) (k : IntKind) (b : Nat) (S E : TypeId) (hS : Tryd.prog.underlying S = some (.slice E)) (hE : (Tryd.prog.info? E).map (fun i => (i.zero, i.size, i.bytes)) = some (some (.int k 0), 1, b)) (hb : b ≤ 8)
    (ho : o.op = .call { callee := .builtin .append, args := #[s, x], argTypes := #[S, S] })
    (v : Value) (l : List Int) (hs : a.eval s = v) (y : Int) (c g : Nat) (hx : a.eval x = .slice (some ⟨g, 0, none⟩) 1 c) (hc : W.cell? ⟨g, 0, none⟩ = some (.int k y))
    (base : Nat) (HO : Rn k E W base v l) (hbase : base ≤ W.heap.size) (hl : l.length ≤ 2097152)
    (h : ∀ v1 w1, Rn k E w1 base v1 (l ++ [y]) → W.grownBy w1 v.ownBlock → (v1.ownBlock = v.ownBlock ∨ v1.ownBlock = some W.heap.size) → wpList Tryd.prog ops Q rest (a.put o.dst v1) w1) :
    wpList Tryd.prog ops Q (o :: rest) a W := by
  obtain ⟨i0, hi, hz0, hz1, hz2⟩ := info_parts hE
  refine wpList_append_own_at _ hgd _ _ S ho base E i0 (.int k 0) 1 b hS hi hz0 hz1 hz2 rfl (by decide) v l.length (nums k l) hs HO ⟨g, 0, none⟩ 1 c [.int k y] hx rfl ?_ ?_ ?_ ?_ hbase ?_
  · intro j u hj
    match j, hj with
    | 0, hj => simp at hj; subst hj; rw [Addr.add_lit, Nat.zero_add]; exact hc
    | (j + 1), hj => simp at hj
  · intro u hu; simp at hu; subst hu; rfl
  · unfold maxLen; omega
  · have := Nat.mul_le_mul_left (l.length + 1) hb
    omega
  · intro v1 w1 h1 h2 _ h3
    refine h v1 w1 ?_ h2 h3
    unfold Rn
    rw [List.length_append]
    simpa [nums] using h1
end

theorem rn_app {k1 k2 : IntKind} {T1 T2 T : TypeId} {w W w2 : World} {base it : Nat} {v v' u : Value} {l l' m : List Int} {x : Value} {o : Obj}
    (hv : Rn k1 T1 W base v l) (hu : Rn k2 T2 W base u m) (hd : Apart v u) (hx : Ext w W) (hw : w.heap.size ≤ base) (hit : it < base) (hI : W.heap[it]? = some o)
    (hown : Rn k1 T1 w2 base v' l') (hg : (W.alloc (.cells #[x] T)).grownBy w2 v.ownBlock)
    (hat : v'.ownBlock = v.ownBlock ∨ v'.ownBlock = some (W.alloc (.cells #[x] T)).heap.size) :
    Rn k2 T2 w2 base u m ∧ Apart v' u ∧ w2.heap[it]? = some o ∧ Ext w w2 := by
  have hlt := (Array.getElem?_eq_some_iff.1 hI).1
  have hO := hv.ext ((Ext.refl W).alloc (.cells #[x] T))
  have hU := hu.ext ((Ext.refl W).alloc (.cells #[x] T))
  refine ⟨own_other hU hg ?_, ?_, ?_, rn_ext_own (hx.alloc _) hO hw hg⟩
  · rcases hk : u.ownBlock with _ | k
    · exact Or.inl rfl
    · right
      intro he
      exact hd k he.symm hk
  · intro k hk
    rcases hat with h | h
    · rw [h] at hk; exact hd k hk
    · rw [h] at hk
      injection hk with hk
      intro he
      have := (World.ownsRow.lt hU k he).2
      omega
  · rw [hg.block it (by simp; omega) (fun e => by
      have := own_base hO it e.symm
      omega), Lib.alloc_old W _ it hlt]
    exact hI

theorem rn_iter {k : IntKind} {T : TypeId} {w : World} {base : Nat} {v : Value} {l : List Int} (h : Rn k T w base v l) {it : Nat} {s : ByteArray} {pos : Nat} (hk : w.heap[it]? = some (.stringIter s pos)) (pos' : Nat) : Rn k T (w.iterAt it s pos') base v l := by
  refine ⟨h.1, ?_⟩
  rcases h.2 with h1 | ⟨g, cap, cur, hv, hg, hh, hn, hm, hs, hc⟩
  · exact Or.inl h1
  · refine Or.inr ⟨g, cap, cur, hv, hg, ?_, hn, hm, hs, hc⟩
    rw [Lib.iterAt_other w it g s pos' (by
      intro e1
      rw [e1, hk] at hh
      cases hh)]
    exact hh

theorem rn_frozen {k : IntKind} {T : TypeId} {w : World} {base g n c : Nat} {l : List Int} (h : Rn k T w base (.slice (some ⟨g, 0, none⟩) n c) l) (i : Nat) : w.frozen? ⟨g, i, none⟩ = false := by
  rcases h.2 with ⟨h1, h0⟩ | ⟨g', cap, cur, h1, hg, hh, hn, hm, hc⟩
  · cases h1
  · injection h1 with h1 h2 h3
    injection h1 with h1
    injection h1 with h1 _ _
    subst h1
    simp [World.frozen?, hh]
theorem rn_store {k : IntKind} {T : TypeId} {W : World} {base g n cap : Nat} {l : List Int} (h : Rn k T W base (.slice (some ⟨g, 0, none⟩) n cap) l) (hn : l.length = n) (i : Nat) (x : Int) :
    Rn k T (W.setCell ⟨g, i, none⟩ (.int k x)) base (.slice (some ⟨g, 0, none⟩) n cap) (l.set i x) := by
  subst hn
  have hs := own_store h (i : Int) x
  unfold Rn
  rw [List.length_set]
  simpa using hs.1
/-- Where each piece begins; at last where they end. -/
def ofsF : Nat → List (List UInt8 × Nat) → List Int
  | p, [] => [(p : Int)]
  | p, c :: t => (p : Int) :: ofsF (p + c.1.length) t
def ofs (s : ByteArray) : List Int := ofsF 0 (CH s)
theorem piece_len (s : ByteArray) (pos : Nat) (h : pos < s.size) : ((s.data.toList.drop pos).take (Utf8.decode s pos).2).length = (Utf8.decode s pos).2 := by
  have := width_le s pos h
  rw [List.length_take, List.length_drop, slen]
  omega

theorem runes_any (s : ByteArray) (w : World) (hs : s.size ≤ 1048576) :
    Calls Tryd.prog 51 #[.string s] w fun e w' => ∃ v u, e = .returned (.tuple #[v, u]) ∧ Rn .i32 21 w' w.heap.size v (zr s) ∧ Rn .i64 3 w' w.heap.size u (ofs s) ∧ Ext w w' := by
  go_enter Tryd.func51, Tryd.ntmps51
  go_wp2
  go_loopw [4, 5] (fun lv av wr => ∃ (pos : Nat) (l m : List Int), Rn .i32 21 wr (w.heap.size + 1) lv l ∧ Rn .i64 3 wr (w.heap.size + 1) av m ∧ Apart lv av ∧ wr.heap[w.heap.size]? = some (.stringIter s pos) ∧ Ext w wr ∧ pos ≤ s.size ∧ l.length ≤ pos ∧ m.length ≤ pos ∧ l ++ (rest s pos).map (fun c => (c.2 : Int)) = zr s ∧ m ++ ofsF pos (rest s pos) = ofs s) (fun _ _ wr => s.size - wr.iterPos w.heap.size)
  case atStart =>
    refine ⟨0, [], [], Rn.nil _ _ _ _, Rn.nil _ _ _ _, (fun k h => by cases h), ?_, (Ext.refl w).alloc _, Nat.zero_le _, Nat.le_refl _, Nat.le_refl _, ?_, ?_⟩
    · have := World.iter_heap w s 0
      simpa using this
    · rw [rest_zero]; rfl
    · rw [rest_zero]; rfl
  case round =>
    obtain ⟨pos, l, m, hL, hM, hap, hit, hbw, hps, hLp, hMp, hl, hm⟩ := hrel
    by_cases hp : pos < s.size
    · have hnx : ∀ ty, (Instr.next (.pointer (some ⟨w.heap.size, 0, none⟩)) true ty).run Tryd.prog wr = _ := fun ty => Lib.run_next_any_at wr w.heap.size s pos ty hit hp
      have hwd := width s pos hp
      have hwl := width_le s pos hp
      have hit2 := Lib.iterAt_heap wr w.heap.size s pos (pos + (Utf8.decode s pos).2) hit
      have hbw2 : Ext w (wr.iterAt w.heap.size s (pos + (Utf8.decode s pos).2)) := Lib.below_iterAt hbw (k := w.heap.size) (Nat.le_refl _) s (pos + (Utf8.decode s pos).2)
      have hL2 : Rn .i32 21 (wr.iterAt w.heap.size s (pos + (Utf8.decode s pos).2)) (w.heap.size + 1) _ l := rn_iter hL hit _
      have hM2 : Rn .i64 3 (wr.iterAt w.heap.size s (pos + (Utf8.decode s pos).2)) (w.heap.size + 1) _ m := rn_iter hM hit _
      have hpl := piece_len s pos hp
      rw [rest_step s pos hp] at hl hm
      have Hl := Lib.hid hl
      have Hm := Lib.hid hm
      have Hpl := Lib.hid hpl
      clear hl hm hpl
      have hsz2 : w.heap.size + 1 ≤ (wr.iterAt w.heap.size s (pos + (Utf8.decode s pos).2)).heap.size := (Array.getElem?_eq_some_iff.1 hit2).1
      go_wp2_with ((with_reducible refine gate_dst (N := 17) rfl ?_); refine halt ?_)
      refine unhalt (wp_num rfl _ _ .i32 4 80 21 Tryd.underlying80 info_i32 (by decide) rfl _ l rfl ((Utf8.decode s pos).1 : Int) 1 (wr.iterAt w.heap.size s (pos + (Utf8.decode s pos).2)).heap.size rfl ?c1 (w.heap.size + 1) (hL2.ext ((Ext.refl _).alloc _)) ?c2 (by omega) ?_)
      case c1 => simp
      case c2 => simp; omega
      intro v1 w1 hown1 hg1 hat1
      obtain ⟨a1, a2, a3, a4⟩ := rn_app hL2 hM2 hap hbw2 (Nat.le_succ _) (Nat.lt_succ_self _) hit2 hown1 hg1 hat1
      have hsz3 : w.heap.size + 1 ≤ w1.heap.size := (Array.getElem?_eq_some_iff.1 a3).1
      clear hg1 hat1
      go_wp2_with ((with_reducible refine gate_dst (N := 21) rfl ?_); refine halt ?_)
      refine unhalt (wp_num rfl _ _ .i64 8 81 3 Tryd.underlying81 info_i64 (by decide) rfl _ m rfl (pos : Int) 1 w1.heap.size rfl ?c1 (w.heap.size + 1) (a1.ext ((Ext.refl _).alloc _)) ?c2 (by omega) ?_)
      case c1 => simp
      case c2 => simp; omega
      intro v2 w2 hown2 hg2 hat2
      obtain ⟨b1, b2, b3, b4⟩ := rn_app a1 hown1 (fun k h1 h2 => a2 k h2 h1) a4 (Nat.le_succ _) (Nat.lt_succ_self _) a3 hown2 hg2 hat2
      clear hg2 hat2
      go_wp2_with fail
      go_roundw
      case rel =>
        refine ⟨pos + (Utf8.decode s pos).2, l ++ [((Utf8.decode s pos).1 : Int)], m ++ [(pos : Int)], b1, hown2, fun k h1 h2 => b2 k h2 h1, b3, b4, hwl, by rw [List.length_append]; simp; omega, by rw [List.length_append]; simp; omega, ?_, ?_⟩
        · rw [← Hl.out, List.append_assoc]; rfl
        · rw [← Hm.out, List.append_assoc, ofsF, Hpl.out]; rfl
      case measure =>
        simp only [World.iterPos, b3, hit]
        omega
    · have hnx : ∀ ty, (Instr.next (.pointer (some ⟨w.heap.size, 0, none⟩)) true ty).run Tryd.prog wr = _ := fun ty => Lib.run_next_end_at wr w.heap.size s pos ty hit hp
      rw [rest_end s pos hp] at hl hm
      have hpe : pos = s.size := by omega
      subst hpe
      rw [List.map_nil, List.append_nil] at hl
      have Hl := Lib.hid hl
      have Hm := Lib.hid hm
      clear hl hm
      have hsz : w.heap.size + 1 ≤ wr.heap.size := (Array.getElem?_eq_some_iff.1 hit).1
      go_wp2_with ((with_reducible refine gate_dst (N := 27) rfl ?_); refine halt ?_)
      refine unhalt (wp_num rfl _ _ .i64 8 81 3 Tryd.underlying81 info_i64 (by decide) rfl _ m rfl (s.size : Int) 1 wr.heap.size rfl ?c1 (w.heap.size + 1) (hM.ext ((Ext.refl _).alloc _)) ?c2 (by omega) ?_)
      case c1 => simp
      case c2 => simp; omega
      intro v2 w2 hown2 hg2 hat2
      obtain ⟨b1, b2, b3, b4⟩ := rn_app hM hL (fun k h1 h2 => hap k h2 h1) hbw (Nat.le_succ _) (Nat.lt_succ_self _) hit hown2 hg2 hat2
      clear hg2 hat2
      go_wp2_with fail
      go_ret2
      refine ⟨_, _, rfl, ?_, ?_, b4⟩
      · rw [← Hl.out]; exact b1.lower (Nat.le_succ _)
      · rw [← Hm.out]; exact hown2.lower (Nat.le_succ _)
end Go.Proofs.YtlffbappgfimeaaDoor
