/- Rows: rows of rows of bytes, of the call's own. -/
import Derived.Test.YtbmhchfjapdicaaClone
set_option linter.unusedVariables false
set_option maxRecDepth 100000
namespace Go.Proofs.Ytbmhchfjapdicaa
open Go.RowKit Go.Proofs.YtbmhchfjapdicaaW.PrintWords

/-- What is not in a block that changed is as it was. -/
theorem Bs.block {w w1 : World} {A : Option Addr} {l : List UInt8} (h : Bs w A l) (hb : l ≠ [] → ∀ a, A = some a → w1.heap[a.block]? = w.heap[a.block]?) : Bs w1 A l := by
  refine ⟨h.1, h.2.1, fun hn => ?_⟩
  obtain ⟨ad, rfl, hc⟩ := h.2.2 hn
  have hne : l ≠ [] := by
    rintro rfl
    exact absurd hn (by simp)
  refine ⟨ad, rfl, fun j p hp => ?_⟩
  obtain ⟨cs, h1, h2, h3⟩ := hc j p hp
  refine ⟨cs, h1, h2, fun i u hu => ?_⟩
  have hbb : w1.heap[(ad.add (j * (Kd.int .u8).sz + i)).block]? = w.heap[(ad.add (j * (Kd.int .u8).sz + i)).block]? := by
    rw [show (ad.add (j * (Kd.int .u8).sz + i)).block = ad.block from by unfold Addr.add; split <;> rfl]
    exact hb hne ad rfl
  exact (World.cell?_of_block hbb).trans (h3 i u hu)
theorem Bs.lt {w : World} {a : Addr} {l : List UInt8} (h : Bs w (some a) l) (hne : l ≠ []) : a.block < w.heap.size := by
  obtain ⟨ad, e, hc⟩ := h.at 0 (List.length_pos_iff.2 hne)
  injection e with e
  subst e
  exact World.block_lt_of_cell? _ _ hc

theorem cell_new (w : World) (cs : Array Value) (T : TypeId) (j : Nat) {v : Value} (h : cs[j]? = some v) : (w.alloc (.cells cs T)).cell? ⟨w.heap.size, j, none⟩ = some v := by
  have e : (w.alloc (.cells cs T)).heap[w.heap.size]? = some (.cells cs T) := Array.getElem?_push_size
  simp only [World.cell?, e]
  simpa using h
/-- Where a row of bytes lies, its room, its bytes. -/
abbrev Ent := Option Addr × Nat × List UInt8
def entV (x : Ent) : Value := .slice x.1 x.2.2.length x.2.1
/-- A row of rows of bytes, of the call's own. -/
structure Oss (w : World) (base : Nat) (v : Value) (l : List Ent) : Prop where
  row : w.ownsRow base 30 1 v l.length (l.map entV)
  el : ∀ x ∈ l, x.2.2.length ≤ x.2.1 ∧ Bs w x.1 x.2.2
  far : ∀ x ∈ l, x.2.2 ≠ [] → ∀ a, x.1 = some a → v.ownBlock ≠ some a.block
theorem Oss.nil (w : World) (base : Nat) : Oss w base (.slice none 0 0) [] := ⟨World.ownsRow_nil w base _ 1, fun x hx => by simp at hx, fun x hx => by simp at hx⟩
theorem Oss.ext {w w1 : World} {base : Nat} {v : Value} {l : List Ent} (h : Oss w base v l) (hb : Ext w w1) : Oss w1 base v l :=
  ⟨pw_own_below h.row hb, fun x hx => ⟨(h.el x hx).1, (h.el x hx).2.ext hb⟩, h.far⟩
theorem Oss.lower {w : World} {base base' : Nat} {v : Value} {l : List Ent} (h : Oss w base v l) (hb : base' ≤ base) : Oss w base' v l := ⟨own_weaken h.row hb, h.el, h.far⟩
theorem Oss.len {w : World} {base : Nat} {v : Value} {l : List Ent} (h : Oss w base v l) : l.length ≤ 9223372036854775807 := by
  rcases h.row.2 with ⟨_, h0⟩ | ⟨g, cap, cur, _, _, _, hn, hm, _⟩
  · omega
  · simp only [maxLen] at hm; omega
theorem ext_row {w W w1 : World} {base : Nat} {v : Value} {n : Nat} {e : TypeId} {xs : List Value} (h : Ext w W) (hO : W.ownsRow base e 1 v n xs) (hb : w.heap.size ≤ base) (hg : W.grownBy w1 v.ownBlock) : Ext w w1 :=
  Below.grown h hg h.size (fun k hk => Nat.le_trans hb (own_base hO k hk))
/-- How it is read. -/
theorem Oss.reads {w : World} {base : Nat} {v : Value} {l : List Ent} (h : Oss w base v l) : ∃ A c, v = .slice A l.length c ∧ l.length ≤ c ∧ Bss w A (l.map (·.2.2)) := by
  rcases h.row.2 with ⟨rfl, h0⟩ | ⟨g, cap, cur, rfl, hg, hh, hn, hm, hc⟩
  · have : l = [] := List.eq_nil_of_length_eq_zero h0
    subst this
    exact ⟨none, 0, rfl, Nat.le_refl _, rfl, by decide, fun h => absurd h (by decide)⟩
  · refine ⟨some ⟨g, 0, none⟩, cap, rfl, hn, by simp, by simp only [maxLen] at hm; simp; omega, fun _ => ⟨_, rfl, fun j p hp => ?_⟩⟩
    simp only [List.map_map, List.getElem?_map, Option.map_eq_some_iff] at hp
    obtain ⟨x, hx, rfl⟩ := hp
    obtain ⟨h1, h2⟩ := h.el x (List.mem_of_getElem? hx)
    refine ⟨[.slice x.1 x.2.2.length x.2.1], rfl, ⟨x.1, x.2.1, by simp [B_length], by simpa [B_length] using h1, by simpa [Bs, B_length] using h2⟩, fun i u hu => ?_⟩
    cases i with
    | succ i => simp at hu
    | zero =>
      obtain rfl : Value.slice x.1 x.2.2.length x.2.1 = u := by simpa using hu
      have hj := World.ownsRow.cells h.row (g := g) rfl j (.slice x.1 x.2.2.length x.2.1) (by simp [hx, entV])
      simpa [Kd.slice] using hj
theorem info_bs : (Try.prog.info? 30).map (fun i => (i.zero, i.size, i.bytes)) = some (some (.slice none 0 0), 1, 24) := by kernel_rfl

set_option maxRecDepth 100000 in
theorem appends_run {W : World} {ty : TypeId} (v : Value) (l : List Ent) (ad : Addr) (x : Ent) (c : Nat) (base : Nat) (HO : Oss W base v l) (HC : W.cell? ad = some (entV x)) (h1 : x.2.2.length ≤ x.2.1) (hB : Bs W x.1 x.2.2)
    (hf : x.2.2 ≠ [] → ∀ a, x.1 = some a → v.ownBlock ≠ some a.block) (hbase : base ≤ W.heap.size) (hl : (l.length + 1) * 24 ≤ 140737488355328) :
    ∃ v1 w1, (Builtin.append_ #[22, 22] ty #[v, .slice (some ad) 1 c]).run Try.prog W = .ok v1 w1 ∧ Oss w1 base v1 (l ++ [x]) ∧ W.grownBy w1 v.ownBlock ∧ (v1.ownBlock = v.ownBlock ∨ v1.ownBlock = some W.heap.size) := by
  obtain ⟨i0, hi, hz0, hz1, hz2⟩ := info_parts info_bs
  obtain ⟨v1, w1, hr, h2, h3, _, h5⟩ := run_append_own_at (P := Try.prog) W base 22 ty 30 i0 (.slice none 0 0) 1 24 Try.underlying22 hi hz0 hz1 hz2 rfl (by omega) v l.length (l.map entV) HO.row ad 1 c [entV x] (by simp)
      (by
        intro j u hu
        cases j with
        | succ j => simp at hu
        | zero =>
          obtain rfl : entV x = u := by simpa using hu
          simpa [Addr.add] using HC)
      (by intro u hu; obtain rfl := List.mem_singleton.1 hu; rfl) (by simp only [maxLen]; omega) hl hbase
  have old : ∀ y : Ent, Bs W y.1 y.2.2 → (y.2.2 ≠ [] → ∀ a, y.1 = some a → v.ownBlock ≠ some a.block) → Bs w1 y.1 y.2.2 ∧ (y.2.2 ≠ [] → ∀ a, y.1 = some a → v1.ownBlock ≠ some a.block) := by
    intro y hy hfy
    have hlt : y.2.2 ≠ [] → ∀ a, y.1 = some a → a.block < W.heap.size := fun hne a ha => Bs.lt (by rw [← ha]; exact hy) hne
    refine ⟨hy.block fun hne a ha => h3.block a.block (hlt hne a ha) (Ne.symm (hfy hne a ha)), fun hne a ha => ?_⟩
    rcases h5 with h5 | h5
    · rw [h5]; exact hfy hne a ha
    · rw [h5]
      intro he
      injection he with he
      have := hlt hne a ha
      omega
  refine ⟨v1, w1, hr, ⟨by simpa using h2, fun y hy => ?_, fun y hy => ?_⟩, h3, h5⟩
  · rcases List.mem_append.1 hy with hy | hy
    · exact ⟨(HO.el y hy).1, (old y (HO.el y hy).2 (HO.far y hy)).1⟩
    · obtain rfl := List.mem_singleton.1 hy
      exact ⟨h1, (old _ hB hf).1⟩
  · rcases List.mem_append.1 hy with hy | hy
    · exact (old y (HO.el y hy).2 (HO.far y hy)).2
    · obtain rfl := List.mem_singleton.1 hy
      exact (old _ hB hf).2
section
variable {ops : Array Oper} {rest : List Oper} {o : Oper} {a : Act} {Q : Exit → Act → World → Prop}
/-- append of one row of bytes to a row of the call's own. -/
theorem wp_appends {W : World} (hw : Region.wanted o (yielded ops a.tmps) = true) (s x : Operand)
    (ho : o.op = .call { callee := .builtin .append, args := #[s, x], argTypes := #[22, 22] })
    (v : Value) (l : List Ent) (hs : a.eval s = v) (ad : Addr) (y : Ent) (c : Nat) (hx : a.eval x = .slice (some ad) 1 c)
    (base : Nat) (HO : Oss W base v l) (HC : W.cell? ad = some (entV y)) (h1 : y.2.2.length ≤ y.2.1) (hB : Bs W y.1 y.2.2)
    (hf : y.2.2 ≠ [] → ∀ a, y.1 = some a → v.ownBlock ≠ some a.block) (hbase : base ≤ W.heap.size) (hl : (l.length + 1) * 24 ≤ 140737488355328)
    (h : ∀ v1 w1, Oss w1 base v1 (l ++ [y]) → W.grownBy w1 v.ownBlock → (v1.ownBlock = v.ownBlock ∨ v1.ownBlock = some W.heap.size) → wpList Try.prog ops Q rest (a.put o.dst v1) w1) :
    wpList Try.prog ops Q (o :: rest) a W := by
  obtain ⟨v1, w1, hr, hown, hg, hat⟩ := appends_run (ty := o.type) v l ad y c base HO HC h1 hB hf hbase hl
  refine wpList_wanted hw fun K hK => ?_
  unfold Oper.wp execOp
  simp only [ho, resolve, invoke, builtin, Sem.run_bind, Sem.run_pure, Result.andThen_ok, List.map_toArray, List.map_cons, List.map_nil, hs, hx, hr]
  exact hK _ _ (h v1 w1 hown hg hat)
end
/-- What a clone made does not lie in a row of rows. -/
theorem Oss.ob_far {w : World} {base base2 : Nat} {v x : Value} {l : List Ent} {p : List UInt8} (h : Oss w base v l) (hx : Ob w base2 x p) : ∀ k, x.ownBlock = some k → v.ownBlock ≠ some k := by
  intro k hk hv
  rcases hx.2 with ⟨rfl, _⟩ | ⟨g, cap, cur, rfl, _, hh, _⟩
  · cases hk
  · rcases h.row.2 with ⟨rfl, _⟩ | ⟨g', cap', cur', rfl, _, hh', _⟩
    · cases hv
    · simp only [Value.ownBlock, Option.some.injEq] at hk hv
      subst hk
      subst hv
      rw [hh] at hh'
      simp only [Option.some.injEq, Obj.cells.injEq] at hh'
      exact absurd hh'.2.1 (by decide)
end Go.Proofs.Ytbmhchfjapdicaa
