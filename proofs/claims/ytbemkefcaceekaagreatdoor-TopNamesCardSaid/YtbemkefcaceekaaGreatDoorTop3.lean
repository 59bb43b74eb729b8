/- Top3: maps by dots and by texts: look-up, store, range, at entries that are written out. -/
import Derived.Test.YtbemkefcaceekaaGreatDoorTop2
import Derived.Maps.RangeRun
set_option linter.unusedVariables false
set_option linter.unusedSimpArgs false
set_option maxRecDepth 100000
namespace Go.Proofs.YtbemkefcaceekaaGreatDoor
open Go.RowKit Go.Lib Go.Proofs.YtbemkefcaceekaaGreatDoorW.PrintWords Go.Proofs.YtbemkefcaceekaaGreatDoorW.PrintLast

theorem check_int (q : Bool) (d : Nat) (t : TypeId) (k : IntKind) (hu : Tryz.prog.underlying t = some (.int k)) (n : Int) (w : World) : (Instr.checkKey q (d + 1) t (.int .i64 n)).run Tryz.prog w = .ok () w := by
  rw [Instr.checkKey]
  simp [Sem.run_bind, run_underlying hu]
theorem check_dotAt (q : Bool) (d : Nat) (r n : Int) (w : World) : (Instr.checkKey q (d + 2) 64 (.agg #[.int .i64 r, .int .i64 n])).run Tryz.prog w = .ok () w := by
  rw [Instr.checkKey]
  have p0 : (part 3 #[Value.int .i64 r, .int .i64 n] 0).run Tryz.prog w = .ok (.int .i64 r) w := part_plain Tryz.underlying3 rfl rfl
  have p1 : (part 2 #[Value.int .i64 r, .int .i64 n] 1).run Tryz.prog w = .ok (.int .i64 n) w := part_plain Tryz.underlying2 rfl rfl
  have k0 := check_int q d 3 _ Tryz.underlying3 r w
  have k1 := check_int q d 2 _ Tryz.underlying2 n w
  simp [Sem.run_bind, run_underlying Tryz.underlying64, p0, p1, k0, k1]
theorem check_dot (q : Bool) (r n : Int) (w : World) : (Instr.checkKey q 10000 64 (.agg #[.int .i64 r, .int .i64 n])).run Tryz.prog w = .ok () w := check_dotAt q 9998 r n w
theorem check_strAt (q : Bool) (d : Nat) (x : ByteArray) (w : World) : (Instr.checkKey q (d + 1) 9 (.string x)).run Tryz.prog w = .ok () w := by
  rw [Instr.checkKey]
  simp [Sem.run_bind, run_underlying Tryz.underlying9]
theorem check_str (q : Bool) (x : ByteArray) (w : World) : (Instr.checkKey q 10000 9 (.string x)).run Tryz.prog w = .ok () w := check_strAt q 9999 x w

/-- Entries by dots. -/
abbrev EntD := Dt × Value × Nat
def entD (x : EntD) : MapEntry := { key := .agg #[.int .i64 x.1.rep, .int .i64 x.1.n], val := x.2.1, born := x.2.2 }
def findD (d : Dt) : List EntD → Nat → Option (Nat × Value)
  | [], _ => none
  | x :: l, i => if d.rep = x.1.rep ∧ d.n = x.1.n then some (i, x.2.1) else findD d l (i + 1)
theorem find_asking (d : Dt) (w : World) : ∀ (l : List EntD) (i : Nat), (Instr.findAsking 64 (.agg #[.int .i64 d.rep, .int .i64 d.n]) (l.map entD) i).run Tryz.prog w = .ok (findD d l i) w
  | [], i => by simp [Instr.findAsking, findD]
  | x :: l, i => by
    have ih := find_asking d w l (i + 1)
    have e : (Op.equal 64 (.agg #[.int .i64 d.rep, .int .i64 d.n]) (entD x).key).run Tryz.prog w = .ok _ w := run_dot d.rep d.n x.1.rep x.1.n w
    rw [List.map_cons, Instr.findAsking, findD]
    simp only [Sem.run_bind, e, Result.andThen_ok]
    by_cases h : d.rep = x.1.rep ∧ d.n = x.1.n
    · rw [if_pos h]
      simp [h.1, h.2, entD]
    · rw [if_neg h]
      have hb : ((d.rep == x.1.rep) && ((d.n == x.1.n) && true)) = false := by
        rw [Bool.eq_false_iff]
        intro hh
        simp only [Bool.and_eq_true, beq_iff_eq, and_true] at hh
        exact h hh
      rw [hb]
      exact ih
theorem find_dot (d : Dt) (l : List EntD) (w : World) : (Instr.findKey 64 (.agg #[.int .i64 d.rep, .int .i64 d.n]) (l.map entD)).run Tryz.prog w = .ok (findD d l 0) w := by
  unfold Instr.findKey
  simp only [Sem.run_bind, run_underlying Tryz.underlying64, Result.andThen_ok]
  cases l with
  | nil => simp [Instr.findNow, findD]
  | cons x l =>
    rw [List.map_cons]
    have : Instr.findNow (.struct #[⟨"Rep", 3, 0, false, "", "", 0⟩, ⟨"N", 2, 1, false, "", "", 8⟩]) (.agg #[.int .i64 d.rep, .int .i64 d.n]) (entD x :: l.map entD) 0 = none := by
      simp [Instr.findNow, Instr.sameNow, entD]
    rw [this]
    exact find_asking d w (x :: l) 0
/-- Entries by texts. -/
abbrev EntT := ByteArray × Value × Nat
def entT (x : EntT) : MapEntry := { key := .string x.1, val := x.2.1, born := x.2.2 }
def findT (d : ByteArray) : List EntT → Nat → Option (Nat × Value)
  | [], _ => none
  | x :: l, i => if d == x.1 then some (i, x.2.1) else findT d l (i + 1)
theorem find_now (d : ByteArray) : ∀ (l : List EntT) (i : Nat), Instr.findNow .string (.string d) (l.map entT) i = some (findT d l i)
  | [], i => by simp [Instr.findNow, findT]
  | x :: l, i => by
    have ih := find_now d l (i + 1)
    rw [List.map_cons, Instr.findNow, findT]
    cases h : d == x.1
    · simp only [Instr.sameNow, entT, h]
      exact ih
    · simp [Instr.sameNow, entT, h]
theorem find_str (d : ByteArray) (l : List EntT) (w : World) : (Instr.findKey 9 (.string d) (l.map entT)).run Tryz.prog w = .ok (findT d l 0) w := by
  unfold Instr.findKey
  simp only [Sem.run_bind, run_underlying Tryz.underlying9, Result.andThen_ok, find_now]
  simp
section
variable {P : Program} {w : World} {m : Nat}
theorem run_getMap {es : Array MapEntry} {c : Nat} (h : w.heap[m]? = some (.map es c)) : (getObj m).run P w = .ok (.map es c) w := by simp [getObj, Sem.run, h]
end
/-- In block m lies this map by dots (texts). -/
def MapD (w : World) (m : Nat) (l : List EntD) (c : Nat) : Prop := w.heap[m]? = some (.map (l.map entD).toArray c)
def MapT (w : World) (m : Nat) (l : List EntT) (c : Nat) : Prop := w.heap[m]? = some (.map (l.map entT).toArray c)
theorem look_dot {T E : TypeId} (hT : Tryz.prog.underlying T = some (.map 64 E)) {w : World} {m : Nat} {l : List EntD} {c : Nat} (h : MapD w m l c) (d : Dt) (z : Value) (hz : (zeroValue E).run Tryz.prog w = .ok z w) :
    (Instr.lookup T (.map (some m)) (.agg #[.int .i64 d.rep, .int .i64 d.n]) false).run Tryz.prog w = .ok ((findD d l 0).elim z (·.2)) w ∧
    (Instr.lookup T (.map (some m)) (.agg #[.int .i64 d.rep, .int .i64 d.n]) true).run Tryz.prog w = .ok (.tuple #[(findD d l 0).elim z (·.2), .bool (findD d l 0).isSome]) w := by
  have hf := find_dot d l w
  unfold Instr.lookup
  simp only [Sem.run_bind, run_underlying hT, Result.andThen_ok, run_getMap h, Sem.run_pure, check_dot, hf]
  cases findD d l 0 with
  | none => simp [Sem.run_bind, hz]
  | some x => simp
theorem look_str {T E : TypeId} (hT : Tryz.prog.underlying T = some (.map 9 E)) {w : World} {m : Nat} {l : List EntT} {c : Nat} (h : MapT w m l c) (d : ByteArray) (z : Value) (hz : (zeroValue E).run Tryz.prog w = .ok z w) :
    (Instr.lookup T (.map (some m)) (.string d) false).run Tryz.prog w = .ok ((findT d l 0).elim z (·.2)) w := by
  have hf := find_str d l w
  unfold Instr.lookup
  simp only [Sem.run_bind, run_underlying hT, Result.andThen_ok, run_getMap h, Sem.run_pure, check_str, hf]
  cases findT d l 0 with
  | none => simp [Sem.run_bind, hz]
  | some x => simp
/-- A block is written anew. -/
def setB (w : World) (m : Nat) (o : Obj) : World := ChangeMaps.setBlock w m o
theorem store_dot {T E : TypeId} (hT : Tryz.prog.underlying T = some (.map 64 E)) {w : World} {m : Nat} {l : List EntD} {c : Nat} (h : MapD w m l c) (d : Dt) (v : Value) (hn : findD d l 0 = none) :
    (Instr.mapUpdate T (.map (some m)) (.agg #[.int .i64 d.rep, .int .i64 d.n]) v).run Tryz.prog w = .ok () (setB w m (.map ((l ++ [(d, v, c)]).map entD).toArray (c + 1))) := by
  have hf := find_dot d l w
  unfold Instr.mapUpdate
  simp only [Sem.run_bind, run_underlying hT, Result.andThen_ok, run_getMap h, Sem.run_pure, check_dot, hf, hn]
  have h' : w.heap[m]? = some (.map (l.map entD).toArray c) := h
  simp [setObj, Sem.run, h', setB, ChangeMaps.setBlock, entD]
theorem store_str {T E : TypeId} (hT : Tryz.prog.underlying T = some (.map 9 E)) {w : World} {m : Nat} {l : List EntT} {c : Nat} (h : MapT w m l c) (d : ByteArray) (v : Value) (hn : findT d l 0 = none) :
    (Instr.mapUpdate T (.map (some m)) (.string d) v).run Tryz.prog w = .ok () (setB w m (.map ((l ++ [(d, v, c)]).map entT).toArray (c + 1))) := by
  have hf := find_str d l w
  unfold Instr.mapUpdate
  simp only [Sem.run_bind, run_underlying hT, Result.andThen_ok, run_getMap h, Sem.run_pure, check_str, hf, hn]
  have h' : w.heap[m]? = some (.map (l.map entT).toArray c) := h
  simp [setObj, Sem.run, h', setB, ChangeMaps.setBlock, entT]
end Go.Proofs.YtbemkefcaceekaaGreatDoor
