/- Cut: pieces of bytes that are read. -/
import Derived.Test.YtbmhchfjapdicaaClone
set_option linter.unusedVariables false
set_option maxRecDepth 100000
namespace Go.Proofs.Ytbmhchfjapdicaa
open Go.RowKit Go.Proofs.YtbmhchfjapdicaaW.PrintWords

theorem info_b : ∃ i, Try.prog.info? 5 = some i ∧ i.size = 1 := by
  obtain ⟨i, h, _, h2, _⟩ := info_parts info_u8
  exact ⟨i, h, h2⟩
/-- b[i:j]. -/
theorem bs_mid (A : Option Addr) (n c : Nat) (l : List UInt8) (I J : Int) (i j : Nat) (hI : I = i) (hJ : J = j) (hn : n = l.length) (hc : n ≤ c) (h1 : i ≤ j) (h2 : j ≤ n) :
    ∃ A', (∀ W : World, (Instr.slice 30 (.slice A n c) (some (.int .i64 I)) (some (.int .i64 J)) none).run Try.prog W = .ok (.slice A' (j - i) (c - i)) W) ∧ (∀ w, Bs w A l → Bs w A' ((l.drop i).take (j - i))) ∧ ((l.drop i).take (j - i)).length = j - i ∧ j - i ≤ c - i := by
  subst hn hI hJ
  obtain ⟨ti, hi, hs⟩ := info_b
  have h := cut_mid (P := Try.prog) 30 5 .i64 .i64 Try.underlying30 hi 1 hs A l.length c (i : Int) (j : Int) (by omega) (by omega) (by omega) hc
  rw [Int.toNat_natCast, Int.toNat_natCast] at h
  refine ⟨_, h, fun w hB => ?_, by rw [List.length_take, List.length_drop]; omega, by omega⟩
  have h2 := Kd.C_mid (k := Kd.int .u8) (lo := i) (hi := j) (xs := B l) (A := A) (w := w) (c := c) (by rw [B_length]; exact hB) h1 (by rw [B_length]; exact h2) (by rw [B_length]; exact hc)
  have e2 : (l.drop i).take (j - i) = (l.take j).drop i := by rw [List.drop_take]
  have e3 : B ((l.drop i).take (j - i)) = ((B l).take j).drop i := by rw [e2]; simp [B, List.map_take, List.map_drop]
  unfold Bs
  rw [← B_length, e3]
  exact h2
/-- b[i:]. -/
theorem bs_tail (A : Option Addr) (n c : Nat) (l : List UInt8) (I : Int) (i : Nat) (hI : I = i) (hn : n = l.length) (hc : n ≤ c) (h1 : i ≤ n) :
    ∃ A', (∀ W : World, (Instr.slice 30 (.slice A n c) (some (.int .i64 I)) none none).run Try.prog W = .ok (.slice A' (n - i) (c - i)) W) ∧ (∀ w, Bs w A l → Bs w A' (l.drop i)) ∧ n - i = (l.drop i).length ∧ n - i ≤ c - i := by
  subst hn hI
  obtain ⟨ti, hi, hs⟩ := info_b
  obtain ⟨A', h2, h3⟩ := print_cut (P := Try.prog) 30 5 .i64 Try.underlying30 hi hs A l.length c i h1
  refine ⟨A', h2, fun w hB => ?_, by rw [List.length_drop], by omega⟩
  have h4 := h3 w .u8 (B l) hc (Kd.reads_of_C (enc := Value.int .u8) (d := (0 : Int)) (h1 := fun _ => rfl) hB)
  have e : B (l.drop i) = (B l).drop i := by simp [B, List.map_drop]
  unfold Bs
  rw [List.length_drop, e]
  exact Kd.C_of_reads (enc := Value.int .u8) (d := (0 : Int)) (h1 := fun _ => rfl) h4
/-- b[:j]. -/
theorem bs_head (A : Option Addr) (n c : Nat) (l : List UInt8) (J : Int) (j : Nat) (hJ : J = j) (hn : n = l.length) (hc : n ≤ c) (h1 : j ≤ n) :
    (∀ W : World, (Instr.slice 30 (.slice A n c) none (some (.int .i64 J)) none).run Try.prog W = .ok (.slice A j c) W) ∧ (∀ w, Bs w A l → Bs w A (l.take j)) ∧ j = (l.take j).length := by
  subst hn hJ
  obtain ⟨ti, hi, hs⟩ := info_b
  have hel : Try.prog.elem 30 = 5 := by simp [Program.elem, Try.underlying30]
  have hu : Try.prog.underlying 30 = some (.slice (Try.prog.elem 30)) := by rw [hel]; exact Try.underlying30
  refine ⟨fun W => ?_, fun w hB => ?_, by rw [List.length_take]; omega⟩
  · rw [run_slice_h W 30 A l.length c hu .i64 (j : Int) (by omega) (by omega), hel]
    cases A <;> simp [sizeOf, typeInfo, hi, hs, sliced, Result.andThen, Addr.add]
  · have h2 : ReadsInt w .u8 A j ((B l).take j) := ReadsInt.take_ (Kd.reads_of_C (enc := Value.int .u8) (d := (0 : Int)) (h1 := fun _ => rfl) hB) j h1
    have e : B (l.take j) = (B l).take j := by simp [B, List.map_take]
    unfold Bs
    rw [List.length_take, Nat.min_eq_left h1, e]
    exact Kd.C_of_reads (enc := Value.int .u8) (d := (0 : Int)) (h1 := fun _ => rfl) h2

set_option maxRecDepth 100000 in
/-- append of bytes, alone in a region of open order. -/
theorem at_append {ops : Array Oper} {o : Oper} {a : Act} {Q : Exit → Act → World → Prop} {W : World} {K : Act → World → Prop} {p : Prop} (N : Option Nat) (hd : o.dst = N)
    (hw : Region.wanted o (yielded ops a.tmps) = true) (s x : Operand)
    (ho : o.op = .call { callee := .builtin .append, args := #[s, x], argTypes := #[30, 30] })
    (v : Value) (l : List UInt8) (hs : a.eval s = v) (A : Option Addr) (l2 : List UInt8) (n c : Nat) (hx : a.eval x = .slice A n c) (hn : n = l2.length)
    (base : Nat) (HO : Ob W base v l) (HR : Bs W A l2) (hbase : base ≤ W.heap.size) (hl : l.length + l2.length ≤ 140737488355328)
    (h : ∀ v1 w1, Ob w1 base v1 (l ++ l2) → W.grownBy w1 v.ownBlock → (v1.ownBlock = v.ownBlock ∨ v1.ownBlock = some W.heap.size) → K (a.put N v1) w1) :
    if Region.wanted o (yielded ops a.tmps) = true then o.wp Try.prog a W K Q else p := by
  subst hn hd
  obtain ⟨v1, w1, hr, hown, hg, hat⟩ := append_run (ty := o.type) v l A l2 c base HO HR hbase hl
  rw [if_pos hw]
  unfold Oper.wp execOp
  simp only [ho, resolve, invoke, builtin, Sem.run_bind, Sem.run_pure, Result.andThen_ok, List.map_toArray, List.map_cons, List.map_nil, hs, hx, hr]
  exact h v1 w1 hown hg hat

end Go.Proofs.Ytbmhchfjapdicaa
