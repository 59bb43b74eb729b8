/- Top1: steps of the auction house as values; auct.Red. -/
import Derived.Test.YtbemkefcaceekaaGreatDoorName2
import Derived.Test.YtbemkefcaceekaaGreatDoorVecHas
import Derived.Test.YtbemkefcaceekaaGreatDoorVecCmp
import Derived.Test.YtbemkefcaceekaaGreatDoorRegion
import Derived.Deep.MidRow
import Derived.Laws.StructEq
set_option linter.unusedVariables false
set_option linter.unusedSimpArgs false
set_option maxRecDepth 100000
namespace Go.Proofs.YtbemkefcaceekaaGreatDoor
open Go.RowKit Go.Lib Go.Proofs.YtbemkefcaceekaaGreatDoorW.PrintWords

/-- A dot. -/
structure Dt where
  rep : Int
  n : Int
deriving DecidableEq
def Dt.L (d : Dt) : List Value := [.int .i64 d.rep, .int .i64 d.n]
/-- A step. -/
structure Stp where
  kind : Int
  dot : Dt
  seen : V7
  reds : Int
  name : ByteArray
  user : ByteArray
  auc : Dt
  bid : Dt
  amount : Int
  funds : Int
def vL (v : V7) : List Value := [.int .i64 (v 0), .int .i64 (v 1), .int .i64 (v 2), .int .i64 (v 3), .int .i64 (v 4), .int .i64 (v 5), .int .i64 (v 6)]
def Stp.L (s : Stp) : List Value :=
  [.int .i64 s.kind, .int .i64 s.dot.rep, .int .i64 s.dot.n, .int .i64 (s.seen 0), .int .i64 (s.seen 1), .int .i64 (s.seen 2), .int .i64 (s.seen 3), .int .i64 (s.seen 4), .int .i64 (s.seen 5), .int .i64 (s.seen 6),
   .int .i64 s.reds, .string s.name, .string s.user, .int .i64 s.auc.rep, .int .i64 s.auc.n, .int .i64 s.bid.rep, .int .i64 s.bid.n, .int .i64 s.amount, .int .i64 s.funds]
abbrev Stp.V (s : Stp) : Value := .agg s.L.toArray
theorem rangeAt_new (w : World) (T : TypeId) (cs : List Value) : (w.alloc (.cells cs.toArray T)).rangeAt w.heap.size 0 cs := by
  intro j v hv
  have e : (w.alloc (.cells cs.toArray T)).heap[w.heap.size]? = some (.cells cs.toArray T) := Array.getElem?_push_size
  simp only [World.cell?, e, Nat.zero_add]
  simpa using hv
theorem rangeAt_ext {w w' : World} {b o : Nat} {cs : List Value} (h : w.rangeAt b o cs) (x : Ext w w') : w'.rangeAt b o cs := fun j v hv => x.cell (h j v hv)
theorem rangeAt_sub {w : World} {b o : Nat} {cs : List Value} (h : w.rangeAt b o cs) (i : Nat) (ds : List Value) (hd : ∀ j v, ds[j]? = some v → cs[i + j]? = some v) : w.rangeAt b (o + i) ds := fun j v hv => by
  rw [Nat.add_assoc]; exact h (i + j) v (hd j v hv)
section
variable {P : Program} {w : World}
theorem eqF_step {d : Nat} {xs ys : Array Value} {f : Field} {fs : List Field} {a b : Value} {q q' : Bool} (hn : f.name ≠ "_") (h1 : (part f.type xs f.offset).run P w = .ok a w) (h2 : (part f.type ys f.offset).run P w = .ok b w)
    (h3 : (Op.equalIn d f.type a b).run P w = .ok q w) (h4 : (Op.eqFields d xs ys fs).run P w = .ok q' w) : (Op.eqFields d xs ys (f :: fs)).run P w = .ok (q && q') w := by
  rw [Op.eqFields, if_pos hn]
  simp only [Sem.run_bind, h1, h2, h3, Result.andThen_ok]
  cases q
  · simp
  · simpa using h4
theorem eqF_nil {d : Nat} {xs ys : Array Value} : (Op.eqFields d xs ys []).run P w = .ok true w := by rw [Op.eqFields]; simp
def prF (f : Field) : String × TypeId × Nat := (f.name, f.type, f.offset)
theorem eqF_stepL {d : Nat} {xs ys : Array Value} {l : List Field} {nm : String} {ty : TypeId} {off : Nat} {rest : List (String × TypeId × Nat)} {a b : Value} {q q' : Bool} (hl : l.map prF = (nm, ty, off) :: rest) (hn : nm ≠ "_") (h1 : (part ty xs off).run P w = .ok a w) (h2 : (part ty ys off).run P w = .ok b w)
    (h3 : (Op.equalIn d ty a b).run P w = .ok q w) (h4 : ∀ l', l'.map prF = rest → (Op.eqFields d xs ys l').run P w = .ok q' w) : (Op.eqFields d xs ys l).run P w = .ok (q && q') w := by
  cases l with
  | nil => simp at hl
  | cons f fs =>
    rw [List.map_cons] at hl
    injection hl with e1 e2
    simp only [prF, Prod.mk.injEq] at e1
    obtain ⟨rfl, rfl, rfl⟩ := e1
    exact eqF_step hn h1 h2 h3 (h4 fs e2)
theorem eqF_nilL {d : Nat} {xs ys : Array Value} : ∀ l', l'.map prF = [] → (Op.eqFields d xs ys l').run P w = .ok true w := by
  intro l' h
  rw [List.map_eq_nil_iff] at h
  subst h
  exact eqF_nil
theorem part_plain {t : TypeId} {u : TypeDesc} (hu : P.underlying t = some u) (hs : (match u with | .struct _ => true | .array _ _ => true | _ => false) = false) {cs : Array Value} {k : Nat} {v : Value} (h : cs[k]? = some v) : (part t cs k).run P w = .ok v w := by
  unfold part isAgg
  simp only [Sem.run_bind, run_underlying hu w, Result.andThen_ok]
  cases u <;> simp_all [Sem.run_bind]
theorem part_agg {t : TypeId} {u : TypeDesc} {i : TypeInfo} (hu : P.underlying t = some u) (hs : (match u with | .struct _ => true | .array _ _ => true | _ => false) = true) (hi : P.info? t = some i) {cs : Array Value} {k : Nat} : (part t cs k).run P w = .ok (.agg (cs.extract k (k + P.cellsOf t))) w := by
  unfold part isAgg
  simp only [Sem.run_bind, run_underlying hu w, Result.andThen_ok]
  have hs' := run_sizeOf w hi
  cases u <;> simp_all [Sem.run_bind]
end
theorem run_dotAt (d : Nat) (r n r' n' : Int) (w : World) : (Op.equalIn (d + 2) 64 (.agg #[.int .i64 r, .int .i64 n]) (.agg #[.int .i64 r', .int .i64 n'])).run Tryz.prog w = .ok ((r == r') && ((n == n') && true)) w := by
  rw [show d + 2 = (d + 1) + 1 from rfl, run_equalIn_struct w (d + 1) 64 _ _ (by kernel_rfl) (by kernel_rfl)]
  have hl : (Tryz.prog.fieldsOf 64).toList.map prF = [("Rep", 3, 0), ("N", 2, 1)] := by kernel_rfl
  refine eqF_stepL hl (by decide) (part_plain Tryz.underlying3 rfl rfl) (part_plain Tryz.underlying3 rfl rfl) (run_equalIn_int w d _ .i64 .i64 r r' Tryz.underlying3) (fun l' hl => ?_)
  exact eqF_stepL hl (by decide) (part_plain Tryz.underlying2 rfl rfl) (part_plain Tryz.underlying2 rfl rfl) (run_equalIn_int w d _ .i64 .i64 n n' Tryz.underlying2) eqF_nilL
theorem run_dot (r n r' n' : Int) (w : World) : (Op.equalIn 10000 64 (.agg #[.int .i64 r, .int .i64 n]) (.agg #[.int .i64 r', .int .i64 n'])).run Tryz.prog w = .ok ((r == r') && ((n == n') && true)) w := run_dotAt 9998 r n r' n' w
def dot7 (r n : Int) : Bool := rep7 r && decide (1 ≤ n) && decide (n ≤ 1099511627776)
theorem dot_any (r n : Int) (w : World) :
    Calls Tryz.prog 97 #[dotv r n] w fun e w' => e = .returned (.bool (dot7 r n)) ∧ Ext w w' := by
  obtain ⟨h, Hh⟩ : ∃ h, Hid (w.heap.size = h) := ⟨_, Lib.hid rfl⟩
  obtain ⟨w1, H1, S1, hx1, ⟨d0, d1⟩, -, -⟩ := alloc2 w r n 64 h Hh.out
  have hh := Hh.out
  have h1 := H1.out
  unfold dotv
  go_enter Tryz.func97, Tryz.ntmps97
  go_wp2_with fail
  refine (rep_any r _).mono ?_
  rintro e w' ⟨rfl, rfl⟩
  clear h1 hh
  cases q : rep7 r with
  | false =>
    go_wp2
    go_ret
    exact ⟨by simp [dot7, q] <;> (intros; omega), hx1⟩
  | true =>
    by_cases q1 : 1 ≤ n
    · go_wp2
      go_ret
      exact ⟨by simp [dot7, q, q1] <;> (intros; omega), hx1⟩
    · go_wp2
      go_ret
      exact ⟨by simp [dot7, q, q1] <;> (intros; omega), hx1⟩

theorem red_any (s : Stp) (w : World) : Calls Tryz.prog 41 #[s.V] w fun e w' => e = .returned (.bool (decide (5 ≤ s.kind) && decide (s.kind ≤ 7))) ∧ Ext w w' := by
  have hr := rangeAt_new w 86 s.L
  have c0 := hr 0 _ rfl
  simp only [Nat.add_zero] at c0
  go_enter Tryz.func41, Tryz.ntmps41
  have xx : Ext w (w.alloc (.cells s.L.toArray 86)) := (Ext.refl w).alloc _
  by_cases h1 : 5 ≤ s.kind
  · by_cases h2 : s.kind ≤ 7
    · go_wp2
      go_ret
      exact ⟨by simp [h1, h2], xx⟩
    · go_wp2
      go_ret
      exact ⟨by simp [h1, h2] <;> (intros; omega), xx⟩
  · go_wp2
    go_ret
    exact ⟨by simp [h1] <;> (intros; omega), xx⟩
theorem results_tmp6 {fn : Func} {t u v t' u' v' : Tmp} (h : fn.results = #[.tmp t, .tmp u, .tmp v, .tmp t', .tmp u', .tmp v']) (tmps : Array Value) (P : Program) (w : World) :
    (results fn tmps).run P w = .ok (.tuple #[tmps.getD t undef, tmps.getD u undef, tmps.getD v undef, tmps.getD t' undef, tmps.getD u' undef, tmps.getD v' undef]) w := by
  simp [results, h]
/-- What a kind of step needs. -/
def needsV (t u a b m f : Bool) : Value := .tuple #[.bool t, .bool u, .bool a, .bool b, .bool m, .bool f]
theorem needs_1 (w : World) : Calls Tryz.prog 99 #[.int .i64 1] w fun e w' => e = .returned (needsV true false false false false false) ∧ Ext w w' := by
  go_enter Tryz.func99, Tryz.ntmps99
  go_wp2
  refine bodyPost_ret (results_tmp6 rfl _ _ _) rfl ?_
  exact ⟨rfl, Ext.refl _⟩
theorem needs_2 (w : World) : Calls Tryz.prog 99 #[.int .i64 2] w fun e w' => e = .returned (needsV false true true false true false) ∧ Ext w w' := by
  go_enter Tryz.func99, Tryz.ntmps99
  go_wp2
  refine bodyPost_ret (results_tmp6 rfl _ _ _) rfl ?_
  exact ⟨rfl, Ext.refl _⟩
theorem needs_5 (w : World) : Calls Tryz.prog 99 #[.int .i64 5] w fun e w' => e = .returned (needsV false true false false false false) ∧ Ext w w' := by
  go_enter Tryz.func99, Tryz.ntmps99
  go_wp2
  refine bodyPost_ret (results_tmp6 rfl _ _ _) rfl ?_
  exact ⟨rfl, Ext.refl _⟩
theorem needs_7 (w : World) : Calls Tryz.prog 99 #[.int .i64 7] w fun e w' => e = .returned (needsV false false true false false false) ∧ Ext w w' := by
  go_enter Tryz.func99, Tryz.ntmps99
  go_wp2
  refine bodyPost_ret (results_tmp6 rfl _ _ _) rfl ?_
  exact ⟨rfl, Ext.refl _⟩
theorem word_yes (s : ByteArray) (w : World) (hs : s.size ≤ 1048576) (ht : Tabs w) (hg : goodL (CH s) = true) : Calls Tryz.prog 100 #[.string s, .bool true] w fun e w' => e = .returned (.bool true) ∧ Ext w w' := by
  go_enter Tryz.func100, Tryz.ntmps100
  go_wp2_with fail
  refine (ngood_any s _ (by omega) ht).mono ?_
  rintro e w1 ⟨rfl, x1⟩
  rw [hg]
  go_wp2
  go_ret
  exact ⟨rfl, x1⟩
theorem word_no (w : World) : Calls Tryz.prog 100 #[.string ⟨#[]⟩, .bool false] w fun e w' => e = .returned (.bool true) ∧ Ext w w' := by
  go_enter Tryz.func100, Tryz.ntmps100
  go_wp2
  go_ret
  exact ⟨rfl, Ext.refl _⟩
theorem number_yes (n a b : Int) (w : World) (h1 : a ≤ n) (h2 : n ≤ b) : Calls Tryz.prog 102 #[.int .i64 n, .int .i64 a, .int .i64 b, .bool true] w fun e w' => e = .returned (.bool true) ∧ Ext w w' := by
  go_enter Tryz.func102, Tryz.ntmps102
  go_wp2
  go_ret
  exact ⟨rfl, Ext.refl _⟩
theorem number_no (a b : Int) (w : World) : Calls Tryz.prog 102 #[.int .i64 0, .int .i64 a, .int .i64 b, .bool false] w fun e w' => e = .returned (.bool true) ∧ Ext w w' := by
  go_enter Tryz.func102, Tryz.ntmps102
  go_wp2
  go_ret
  exact ⟨rfl, Ext.refl _⟩
theorem point_yes (r n : Int) (w : World) (h : dot7 r n = true) : Calls Tryz.prog 101 #[dotv r n, .bool true] w fun e w' => e = .returned (.bool true) ∧ Ext w w' := by
  obtain ⟨g, Hg⟩ : ∃ h, Hid (w.heap.size = h) := ⟨_, Lib.hid rfl⟩
  obtain ⟨w1, H1, S1, hx1, ⟨d0, d1⟩, -, -⟩ := alloc2 w r n 64 g Hg.out
  have hh := Hg.out
  have h1 := H1.out
  have hd := fun W => dot_any r n W
  unfold dotv at hd ⊢
  go_enter Tryz.func101, Tryz.ntmps101
  go_wp2_with fail
  refine (hd _).mono ?_
  rintro e w2 ⟨rfl, x2⟩
  rw [h]
  go_wp2
  go_ret
  exact ⟨rfl, hx1.trans x2⟩
theorem point_no (w : World) : Calls Tryz.prog 101 #[dotv 0 0, .bool false] w fun e w' => e = .returned (.bool true) ∧ Ext w w' := by
  obtain ⟨g, Hg⟩ : ∃ h, Hid (w.heap.size = h) := ⟨_, Lib.hid rfl⟩
  obtain ⟨w1, H1, S1, hx1, ⟨d0, d1⟩, -, -⟩ := alloc2 w 0 0 64 g Hg.out
  have hh := Hg.out
  have h1 := H1.out
  have he := fun r n r' n' W => run_dot r n r' n' W
  unfold dotv
  go_enter Tryz.func101, Tryz.ntmps101
  go_wp2
  go_ret
  exact ⟨rfl, hx1⟩
end Go.Proofs.YtbemkefcaceekaaGreatDoor
