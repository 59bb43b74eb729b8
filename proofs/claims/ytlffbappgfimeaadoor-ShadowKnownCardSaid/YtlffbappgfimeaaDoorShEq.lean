/- ShEq: two shadows, held against one another. -/
import Derived.Test.YtlffbappgfimeaaDoorShBase
import Derived.Laws.StructEq
set_option linter.unusedVariables false
set_option linter.unusedSimpArgs false
set_option maxRecDepth 100000
namespace Go.Proofs.YtlffbappgfimeaaDoor
open Go.RowKit Go.Proofs.YtlffbappgfimeaaDoorW.PrintWords

section
variable {P : Program} {w : World}
theorem eqF_step {d : Nat} {xs ys : Array Value} {f : Field} {fs : List Field} {a b : Value} {q q' : Bool} (hn : f.name ≠ "_") (h1 : (part f.type xs f.offset).run P w = .ok a w) (h2 : (part f.type ys f.offset).run P w = .ok b w)
    (h3 : (Op.equalIn d f.type a b).run P w = .ok q w) (h4 : (Op.eqFields d xs ys fs).run P w = .ok q' w) : (Op.eqFields d xs ys (f :: fs)).run P w = .ok (q && q') w := by
  rw [Op.eqFields, if_pos hn]
  simp only [Sem.run_bind, h1, h2, h3, Result.andThen_ok]
  cases q
  · simp
  · simpa using h4
theorem eqF_nil {d : Nat} {xs ys : Array Value} : (Op.eqFields d xs ys []).run P w = .ok true w := by rw [Op.eqFields]; simp
def prF (f : Field) : String × TypeId × Nat := (f.name, f.type, f.offset)
theorem eqF_stepL {d : Nat} {xs ys : Array Value} {l : List Field} {nm : String} {ty : TypeId} {off : Nat} {rest : List (String × TypeId × Nat)} {a b : Value} {q q' : Bool} (hl : l.map prF = (nm, ty, off) :: rest) (hn : nm ≠ "_") (h1 : (part ty xs off).run P w = .ok a w) (h2 : (part ty ys off).run P w = .ok b w)
    (h3 : (Op.equalIn d ty a b).run P w = .ok q w) (h4 : ∀ l', l'.map prF = rest → (Op.eqFields d xs ys l').run P w = .ok q' w) : (Op.eqFields d xs ys l).run P w = .ok (q && q') w := by
  cases l with
  | nil => simp at hl
  | cons f fs =>
    rw [List.map_cons] at hl
    injection hl with e1 e2
    simp only [prF, Prod.mk.injEq] at e1
    obtain ⟨rfl, rfl, rfl⟩ := e1
    exact eqF_step hn h1 h2 h3 (h4 fs e2)
theorem eqF_nilL {d : Nat} {xs ys : Array Value} : ∀ l', l'.map prF = [] → (Op.eqFields d xs ys l').run P w = .ok true w := by
  intro l' h
  rw [List.map_eq_nil_iff] at h
  subst h
  exact eqF_nil
theorem part_plain {t : TypeId} {u : TypeDesc} (hu : P.underlying t = some u) (hs : (match u with | .struct _ => true | .array _ _ => true | _ => false) = false) {cs : Array Value} {k : Nat} {v : Value} (h : cs[k]? = some v) : (part t cs k).run P w = .ok v w := by
  unfold part isAgg
  simp only [Sem.run_bind, run_underlying hu w, Result.andThen_ok]
  cases u <;> simp_all [Sem.run_bind]
theorem part_agg {t : TypeId} {u : TypeDesc} {i : TypeInfo} (hu : P.underlying t = some u) (hs : (match u with | .struct _ => true | .array _ _ => true | _ => false) = true) (hi : P.info? t = some i) {cs : Array Value} {k : Nat} : (part t cs k).run P w = .ok (.agg (cs.extract k (k + P.cellsOf t))) w := by
  unfold part isAgg
  simp only [Sem.run_bind, run_underlying hu w, Result.andThen_ok]
  have hs' := run_sizeOf w hi
  cases u <;> simp_all [Sem.run_bind]
end
def eqS (r n : Int) (v : V7) (k : Int) (key text : ByteArray) (b t : Int) (r' n' : Int) (v' : V7) (k' : Int) (key' text' : ByteArray) (b' t' : Int) : Bool :=
  ((r == r') && ((n == n') && true)) && (eq7 v v' && ((k == k') && ((key.toList == key'.toList) && ((text.toList == text'.toList) && ((b == b') && ((t == t') && true))))))
theorem eqS_iff {r n : Int} {v : V7} {k : Int} {key text : ByteArray} {b t : Int} {r' n' : Int} {v' : V7} {k' : Int} {key' text' : ByteArray} {b' t' : Int} :
    eqS r n v k key text b t r' n' v' k' key' text' b' t' = true ↔ r = r' ∧ n = n' ∧ (∀ i, i < 7 → v i = v' i) ∧ k = k' ∧ key = key' ∧ text = text' ∧ b = b' ∧ t = t' := by
  have hb : ∀ x y : ByteArray, x.toList = y.toList ↔ x = y := fun x y => ⟨fun h => by
    have := congrArg List.toArray h
    rw [ByteArray.toList_eq, ByteArray.toList_eq] at this
    cases x; cases y
    simpa using this, fun h => by rw [h]⟩
  simp only [eqS, Bool.and_eq_true, beq_iff_eq, eq7_iff, hb, and_true]
  constructor
  · rintro ⟨⟨h1, h2⟩, h3, h4, h5, h6, h7, h8⟩
    exact ⟨h1, h2, h3, h4, h5, h6, h7, h8⟩
  · rintro ⟨h1, h2, h3, h4, h5, h6, h7, h8⟩
    exact ⟨⟨h1, h2⟩, h3, h4, h5, h6, h7, h8⟩
theorem run_eqItems64d (f g : V7) (w : World) : ∀ (is : List Nat), (∀ i ∈ is, i < 7) → (Op.eqItems 9998 2 1 #[.int .i64 (f 0), .int .i64 (f 1), .int .i64 (f 2), .int .i64 (f 3), .int .i64 (f 4), .int .i64 (f 5), .int .i64 (f 6)] #[.int .i64 (g 0), .int .i64 (g 1), .int .i64 (g 2), .int .i64 (g 3), .int .i64 (g 4), .int .i64 (g 5), .int .i64 (g 6)] is).run Tryd.prog w = .ok (is.all fun i => decide (f i = g i)) w
  | [], _ => by simp [Op.eqItems]
  | i :: is, h => by
    have hi := h i (by simp)
    have ih := run_eqItems64d f g w is (fun j hj => h j (by simp [hj]))
    have e := run_equalIn_int (P := Tryd.prog) w 9997 2 .i64 .i64 (f i) (g i) Tryd.underlying2
    simp only [Op.eqItems, Sem.run_bind, Nat.mul_one, run_part64 _ i _ (vf_get f i hi), run_part64 _ i _ (vf_get g i hi), Result.andThen_ok, e]
    rw [List.all_cons]
    by_cases q : f i = g i
    · have qb : (f i == g i) = true := by simp [q]
      rw [qb, decide_eq_true q, Bool.true_and]
      exact ih
    · have qb : (f i == g i) = false := by simp [q]
      rw [qb, decide_eq_false q, Bool.false_and]
      rfl
theorem run_eq7d {T : TypeId} (hu : Tryd.prog.underlying T = some (.array 7 2)) (f g : V7) (w : World) : (Op.equalIn 9999 T (.agg #[.int .i64 (f 0), .int .i64 (f 1), .int .i64 (f 2), .int .i64 (f 3), .int .i64 (f 4), .int .i64 (f 5), .int .i64 (f 6)]) (.agg #[.int .i64 (g 0), .int .i64 (g 1), .int .i64 (g 2), .int .i64 (g 3), .int .i64 (g 4), .int .i64 (g 5), .int .i64 (g 6)])).run Tryd.prog w = .ok (eq7 f g) w := by
  obtain ⟨i, hi⟩ : ∃ i, Tryd.prog.info? 2 = some i := Option.isSome_iff_exists.1 (by kernel_rfl)
  rw [show (9999 : Nat) = 9998 + 1 from rfl, run_equalIn_array w 9998 _ _ hu hi, show Tryd.prog.cellsOf 2 = 1 from by kernel_rfl, run_eqItems64d f g w _ (fun i hi => List.mem_range.1 hi), all7_range]
  rfl
theorem run_dot (r n r' n' : Int) (w : World) : (Op.equalIn 9999 24 (.agg #[.int .i64 r, .int .i64 n]) (.agg #[.int .i64 r', .int .i64 n'])).run Tryd.prog w = .ok ((r == r') && ((n == n') && true)) w := by
  rw [show (9999 : Nat) = 9998 + 1 from rfl, run_equalIn_struct w 9998 24 _ _ (by kernel_rfl) (by kernel_rfl)]
  have hl : (Tryd.prog.fieldsOf 24).toList.map prF = [("Rep", 3, 0), ("N", 2, 1)] := by kernel_rfl
  refine eqF_stepL hl (by decide) (part_plain Tryd.underlying3 rfl rfl) (part_plain Tryd.underlying3 rfl rfl) (run_equalIn_int w 9997 _ .i64 .i64 r r' Tryd.underlying3) (fun l' hl => ?_)
  exact eqF_stepL hl (by decide) (part_plain Tryd.underlying2 rfl rfl) (part_plain Tryd.underlying2 rfl rfl) (run_equalIn_int w 9997 _ .i64 .i64 n n' Tryd.underlying2) eqF_nilL
theorem run_eqS_of {T V : TypeId} (ht : Tryd.prog.underlying T = some (.struct (Tryd.prog.fieldsOf T))) (hp : Tryd.prog.stoodInHeld T = false) (hV : Tryd.prog.underlying V = some (.array 7 2)) (hi : (Tryd.prog.info? V).isSome = true) (hc : Tryd.prog.cellsOf V = 7)
    (hf : (Tryd.prog.fieldsOf T).toList.map prF = [("Dot", 24, 0), ("Seen", V, 2), ("Kind", 3, 9), ("Key", 9, 10), ("Text", 9, 11), ("By", 2, 12), ("Time", 2, 13)])
    (r n : Int) (v : V7) (k : Int) (key text : ByteArray) (b t : Int) (r' n' : Int) (v' : V7) (k' : Int) (key' text' : ByteArray) (b' t' : Int) (w : World) :
    (Op.equalIn 10000 T (shv r n v k key text b t) (shv r' n' v' k' key' text' b' t')).run Tryd.prog w = .ok (eqS r n v k key text b t r' n' v' k' key' text' b' t') w := by
  obtain ⟨i, hi⟩ := Option.isSome_iff_exists.1 hi
  obtain ⟨j, hj⟩ : ∃ i, Tryd.prog.info? 24 = some i := Option.isSome_iff_exists.1 (by kernel_rfl)
  have hd : Tryd.prog.cellsOf 24 = 2 := by kernel_rfl
  unfold shv
  rw [show (10000 : Nat) = 9999 + 1 from rfl, run_equalIn_struct w 9999 T _ _ ht hp]
  refine eqF_stepL hf (by decide) (part_agg Tryd.underlying24 rfl hj) (part_agg Tryd.underlying24 rfl hj) (by rw [hd]; exact run_dot r n r' n' w) (fun l' hl => ?_)
  refine eqF_stepL hl (by decide) (part_agg hV rfl hi) (part_agg hV rfl hi) (by rw [hc]; exact run_eq7d hV v v' w) (fun l' hl => ?_)
  refine eqF_stepL hl (by decide) (part_plain Tryd.underlying3 rfl rfl) (part_plain Tryd.underlying3 rfl rfl) (run_equalIn_int w 9998 _ .i64 .i64 k k' Tryd.underlying3) (fun l' hl => ?_)
  refine eqF_stepL hl (by decide) (part_plain Tryd.underlying9 rfl rfl) (part_plain Tryd.underlying9 rfl rfl) (run_equalIn_string w 9998 _ key key' Tryd.underlying9) (fun l' hl => ?_)
  refine eqF_stepL hl (by decide) (part_plain Tryd.underlying9 rfl rfl) (part_plain Tryd.underlying9 rfl rfl) (run_equalIn_string w 9998 _ text text' Tryd.underlying9) (fun l' hl => ?_)
  refine eqF_stepL hl (by decide) (part_plain Tryd.underlying2 rfl rfl) (part_plain Tryd.underlying2 rfl rfl) (run_equalIn_int w 9998 _ .i64 .i64 b b' Tryd.underlying2) (fun l' hl => ?_)
  exact eqF_stepL hl (by decide) (part_plain Tryd.underlying2 rfl rfl) (part_plain Tryd.underlying2 rfl rfl) (run_equalIn_int w 9998 _ .i64 .i64 t t' Tryd.underlying2) eqF_nilL
theorem run_eqS28 (r n : Int) (v : V7) (k : Int) (key text : ByteArray) (b t : Int) (r' n' : Int) (v' : V7) (k' : Int) (key' text' : ByteArray) (b' t' : Int) (w : World) :
    (Op.equalIn 10000 28 (shv r n v k key text b t) (shv r' n' v' k' key' text' b' t')).run Tryd.prog w = .ok (eqS r n v k key text b t r' n' v' k' key' text' b' t') w :=
  run_eqS_of (V := 26) (by kernel_rfl) (by kernel_rfl) Tryd.underlying26 (by kernel_rfl) (by kernel_rfl) (by kernel_rfl) r n v k key text b t r' n' v' k' key' text' b' t' w
theorem run_eqS38 (r n : Int) (v : V7) (k : Int) (key text : ByteArray) (b t : Int) (r' n' : Int) (v' : V7) (k' : Int) (key' text' : ByteArray) (b' t' : Int) (w : World) :
    (Op.equalIn 10000 38 (shv r n v k key text b t) (shv r' n' v' k' key' text' b' t')).run Tryd.prog w = .ok (eqS r n v k key text b t r' n' v' k' key' text' b' t') w :=
  run_eqS_of (V := 36) (by kernel_rfl) (by kernel_rfl) Tryd.underlying36 (by kernel_rfl) (by kernel_rfl) (by kernel_rfl) r n v k key text b t r' n' v' k' key' text' b' t' w
end Go.Proofs.YtlffbappgfimeaaDoor
