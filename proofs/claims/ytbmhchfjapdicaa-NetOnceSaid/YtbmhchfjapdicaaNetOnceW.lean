/- NetOnceW: rows of strings of the call's own beside a net; rows of numbers that are read. -/
import Derived.Test.YtbmhchfjapdicaaNetAwake
set_option linter.unusedVariables false
set_option linter.unusedSimpArgs false
set_option maxRecDepth 100000
namespace Go.Proofs.Ytbmhchfjapdicaa
open Go.RowKit Go.Proofs.YtbmhchfjapdicaaW.PrintWords Go.Proofs.YtbmhchfjapdicaaW.PrintLast

theorem info_str : (Try.prog.info? 9).map (fun i => (i.zero, i.size, i.bytes)) = some (some (.string ByteArray.empty), 1, 16) := by kernel_rfl
/-- A row of strings of the call's own. -/
def Ws (w : World) (base : Nat) (v : Value) (xs : List (List UInt8)) : Prop := w.ownsRow base 9 1 v xs.length (xs.map fun x => Value.string (Str x))
theorem Ws.nil (w : World) (base : Nat) : Ws w base (.slice none 0 0) [] := World.ownsRow_nil w base _ 1
theorem Ws.ext {w w1 : World} {base : Nat} {v : Value} {l : List (List UInt8)} (h : Ws w base v l) (hb : Ext w w1) : Ws w1 base v l := pw_own_below h hb
theorem Ws.shape {w : World} {base : Nat} {v : Value} {l : List (List UInt8)} (h : Ws w base v l) : ∃ A c, v = .slice A l.length c := by
  obtain ⟨A, c, h1, _⟩ := own_shape h
  exact ⟨A, c, h1⟩
theorem Ws.at {w : World} {base : Nat} {A : Option Addr} {n c : Nat} {l : List (List UInt8)} (h : Ws w base (.slice A n c) l) (i : Nat) (hi : i < l.length) : ∃ g, A = some ⟨g, 0, none⟩ ∧ w.cell? ⟨g, i, none⟩ = some (.string (Str (l.getD i []))) := by
  rcases h.2 with ⟨_, h0⟩ | ⟨g, cap, cur, he, _⟩
  · omega
  · injection he with h1 h2 h3
    subst h1
    refine ⟨g, rfl, ?_⟩
    have hj := World.ownsRow.cells h (g := g) rfl i (.string (Str (l.getD i []))) (by simp [hi])
    rw [Addr.add_lit, Nat.zero_add] at hj
    exact hj
theorem Ws.block {w : World} {base : Nat} {v : Value} {l : List (List UInt8)} (h : Ws w base v l) : ∀ k, v.ownBlock = some k → base ≤ k ∧ k < w.heap.size ∧ ∃ cur, w.heap[k]? = some (.cells cur 9 (0, 0)) := by
  intro k hk
  rcases h.2 with ⟨rfl, _⟩ | ⟨g, cap, cur, rfl, h1, h2, _⟩
  · cases hk
  · simp only [Value.ownBlock, Option.some.injEq] at hk
    subst hk
    exact ⟨h1, (Array.getElem?_eq_some_iff.1 h2).1, cur, h2⟩
/-- A net's blocks are none of a row of strings. -/
theorem Net.noW {w : World} {T : TypeId} {g n base : Nat} {V : Nat → Value} {L : Nat → List Ent} {v : Value} {l : List (List UInt8)} (h : Net w T g n V L) (hT : T ≠ 9) (hw : Ws w base v l) : ∀ k, v.ownBlock = some k → ¬ foot V g k := by
  intro k hk hf
  obtain ⟨_, _, cur, hh⟩ := hw.block k hk
  rcases hf with rfl | ⟨j, hj, hb⟩
  · obtain ⟨c2, h2, _⟩ := h.blk
    rw [hh] at h2
    simp only [Option.some.injEq, Obj.cells.injEq] at h2
    exact hT h2.2.1.symm
  · rcases (h.bag j hj).row.2 with ⟨he, _⟩ | ⟨g', cap, cur', he, _, h3, _⟩
    · rw [he] at hb; cases hb
    · rw [he] at hb
      simp only [Value.ownBlock, Option.some.injEq] at hb
      subst hb
      rw [hh] at h3
      simp only [Option.some.injEq, Obj.cells.injEq] at h3
      exact absurd h3.2.1 (by decide)
theorem Ws.keep {w w' : World} {T : TypeId} {g n base : Nat} {V : Nat → Value} {L : Nat → List Ent} {v : Value} {l : List (List UInt8)} (hw : Ws w base v l) (h : Net w T g n V L) (hT : T ≠ 9) (hK : Keep (foot V g) w w') : Ws w' base v l :=
  own_block hw fun k hk => hK.block k (hw.block k hk).2.1 (h.noW hT hw k hk)
/-- A net behind an append to a row of strings. -/
theorem Net.strs {w w' : World} {T : TypeId} {g n base : Nat} {V : Nat → Value} {L : Nat → List Ent} {v : Value} {l : List (List UInt8)} (h : Net w T g n V L) (hT : T ≠ 9) (hw : Ws w base v l) (hg : w.grownBy w' v.ownBlock) : Net w' T g n V L :=
  h.keep (Keep.grown hg) (fun b hb cur fr hh => by
    obtain ⟨_, _, cur', h2⟩ := hw.block b hb
    rw [hh] at h2
    simp only [Option.some.injEq, Obj.cells.injEq] at h2
    exact absurd h2.2.1 (by decide)) (fun b hf hb => h.noW hT hw b hb hf)
theorem After.inv {w a b : World} {T : TypeId} {g n : Nat} {V : Nat → Value} {S : Nat → List (List UInt8)} (hx : Ext w a) (hf : ∀ x, foot V g x → w.heap.size ≤ x) (h : After a b T g n V S) : ∃ V' L', Net b T g n V' L' ∧ Holds L' S ∧ (∀ x, foot V' g x → w.heap.size ≤ x) ∧ Ext w b ∧ Keep (foot V g) a b := by
  obtain ⟨V1, L1, hN, hS, hK, hf1⟩ := h
  refine ⟨V1, L1, hN, hS, fun x hx' => ?_, hx.keep hK hf, hK⟩
  rcases hf1 x hx' with h1 | h1
  · exact hf x h1
  · exact Nat.le_trans hx.size h1

set_option maxRecDepth 100000 in
theorem strs_run {W : World} {ty : TypeId} (v : Value) (l : List (List UInt8)) (ad : Addr) (x : List UInt8) (c : Nat) (base : Nat) (HO : Ws W base v l) (HC : W.cell? ad = some (.string (Str x))) (hbase : base ≤ W.heap.size) (hl : (l.length + 1) * 16 ≤ 140737488355328) :
    ∃ v1 w1, (Builtin.append_ #[29, 29] ty #[v, .slice (some ad) 1 c]).run Try.prog W = .ok v1 w1 ∧ Ws w1 base v1 (l ++ [x]) ∧ W.grownBy w1 v.ownBlock := by
  obtain ⟨i0, hi, hz0, hz1, hz2⟩ := info_parts info_str
  obtain ⟨v1, w1, hr, h2, h3, _, h5⟩ := run_append_own_at (P := Try.prog) W base 29 ty 9 i0 (.string ByteArray.empty) 1 16 Try.underlying29 hi hz0 hz1 hz2 rfl (by omega) v l.length (l.map fun x => Value.string (Str x)) HO ad 1 c [.string (Str x)] (by simp)
      (by
        intro j u hu
        cases j with
        | succ j => simp at hu
        | zero =>
          obtain rfl : Value.string (Str x) = u := by simpa using hu
          simpa [Addr.add] using HC)
      (by intro u hu; obtain rfl := List.mem_singleton.1 hu; rfl) (by simp only [maxLen]; omega) hl hbase
  exact ⟨v1, w1, hr, by simpa [Ws] using h2, h3⟩
section
variable {ops : Array Oper} {rest : List Oper} {o : Oper} {a : Act} {Q : Exit → Act → World → Prop}
/-- append of one string. -/
theorem wp_str {W : World} (hw : Region.wanted o (yielded ops a.tmps) = true) (s x : Operand)
    (ho : o.op = .call { callee := .builtin .append, args := #[s, x], argTypes := #[29, 29] })
    (v : Value) (l : List (List UInt8)) (hs : a.eval s = v) (ad : Addr) (y : List UInt8) (c : Nat) (hx : a.eval x = .slice (some ad) 1 c)
    (base : Nat) (HO : Ws W base v l) (HC : W.cell? ad = some (.string (Str y))) (hbase : base ≤ W.heap.size) (hl : (l.length + 1) * 16 ≤ 140737488355328)
    (h : ∀ v1 w1, Ws w1 base v1 (l ++ [y]) → W.grownBy w1 v.ownBlock → wpList Try.prog ops Q rest (a.put o.dst v1) w1) :
    wpList Try.prog ops Q (o :: rest) a W := by
  obtain ⟨v1, w1, hr, hown, hg⟩ := strs_run (ty := o.type) v l ad y c base HO HC hbase hl
  refine wpList_wanted hw fun K hK => ?_
  unfold Oper.wp execOp
  simp only [ho, resolve, invoke, builtin, Sem.run_bind, Sem.run_pure, Result.andThen_ok, List.map_toArray, List.map_cons, List.map_nil, hs, hx, hr]
  exact hK _ _ (h v1 w1 hown hg)
end

/-- Numbers that are read. -/
def Is (w : World) (A : Option Addr) (l : List Int) : Prop := ∀ i x, l[i]? = some x → ∃ a, A = some a ∧ w.cell? (a.add i) = some (.int .i64 x)
theorem Is.ext {w w' : World} {A : Option Addr} {l : List Int} (h : Is w A l) (e : Ext w w') : Is w' A l := fun i x hx => by
  obtain ⟨a, h1, h2⟩ := h i x hx
  exact ⟨a, h1, e.cell h2⟩

end Go.Proofs.Ytbmhchfjapdicaa
