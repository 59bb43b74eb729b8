/- name's Cmp: two texts, rune by rune. -/
import Derived.Test.YtlffbappgfimeaaDoorName1
import Derived.Laws.IdiomStrings
set_option linter.unusedVariables false
namespace Go.Proofs.YtlffbappgfimeaaDoor
open Go.RowKit Go.Lib Go.Proofs.YtlffbappgfimeaaDoorW.PrintWords
set_option maxHeartbeats 4000000
set_option maxRecDepth 100000

/-- At A lie these runes. -/
def Zs (w : World) (A : Option Addr) (l : List Int) : Prop := (Kd.int .i32).C w A l.length l
theorem Zs.ext {w w' : World} {A : Option Addr} {l : List Int} (h : Zs w A l) (hb : Ext w w') : Zs w' A l := Kd.C_below h hb
theorem Zs.at {w : World} {A : Option Addr} {l : List Int} (h : Zs w A l) (j : Nat) (hj : j < l.length) : ∃ ad, A = some ad ∧ w.cell? (ad.add j) = some (.int .i32 (l.getD j 0)) := by
  obtain ⟨ad, e, hc⟩ := Kd.at_int h (j : Int) (by omega) (by omega)
  refine ⟨ad, e, ?_⟩
  rw [Int.toNat_natCast, show rd l (j : Int) = l.getD j 0 from by rw [rd, Int.toNat_natCast]] at hc
  exact hc
/-- A text's runes as numbers. -/
def zr (s : ByteArray) : List Int := (CH s).map fun c => (c.2 : Int)
theorem zr_length (s : ByteArray) : (zr s).length = (CH s).length := by simp [zr]
theorem runesFrom_rest (s : ByteArray) : ∀ (bound i : Nat) (acc : Array Value), s.size - i ≤ bound → Conv.runesFrom s bound i acc = acc ++ ((rest s i).map fun c => Value.int .i32 (c.2 : Int)).toArray
  | 0, i, acc, h => by
    rw [rest_end s i (by omega)]
    simp [Conv.runesFrom]
  | bound + 1, i, acc, h => by
    unfold Conv.runesFrom
    by_cases hi : i < s.size
    · have hw := width s i hi
      rw [if_pos hi]
      show Conv.runesFrom s bound (i + (Utf8.decode s i).2) (acc.push (.int .i32 (Int.ofNat (Utf8.decode s i).1))) = _
      rw [runesFrom_rest s bound _ _ (by omega), rest_step s i hi]
      simp
    · rw [if_neg hi, rest_end s i hi]
      simp
theorem runesFrom_eq (s : ByteArray) : Conv.runesFrom s s.size 0 #[] = ((zr s).map (Value.int .i32)).toArray := by
  rw [runesFrom_rest s s.size 0 #[] (by omega), rest_zero, zr, List.map_map]
  simp [Function.comp]
theorem Zs.alloc (W : World) (l : List Int) (hl : l.length ≤ 9223372036854775807) (x : Array Value) (T : TypeId) : Zs (W.alloc (.cells ((l.map (Value.int .i32)).toArray ++ x) T)) (some ⟨W.heap.size, 0, none⟩) l := by
  refine ⟨rfl, hl, fun _ => ⟨_, rfl, fun j p hp => ⟨[.int .i32 p], rfl, rfl, fun i u hu => ?_⟩⟩⟩
  cases i with
  | succ i => simp at hu
  | zero =>
    obtain rfl : Value.int .i32 p = u := by simpa using hu
    have hlt : j < l.length := (List.getElem?_eq_some_iff.1 hp).1
    have hj : (W.alloc (.cells ((l.map (Value.int .i32)).toArray ++ x) T)).cell? ((⟨W.heap.size, 0, none⟩ : Addr).add j) = some (.int .i32 p) := by
      rw [Addr.add_lit, Nat.zero_add, World.cell?_alloc_new, Array.getElem?_append_left (by simpa using hlt)]
      simp [hp]
    simpa only [Kd.int, Kd.scalar, Nat.mul_one, Nat.add_zero] using hj
/-- []rune(s). -/
theorem conv_runes (w : World) (s : ByteArray) (hs : s.size ≤ 1048576) : ∃ cap w1, (convert 9 80 (.string s)).run Tryd.prog w = .ok (.slice (some ⟨w.heap.size, 0, none⟩) (CH s).length cap) w1 ∧ Ext w w1 ∧ Zs w1 (some ⟨w.heap.size, 0, none⟩) (zr s) ∧ w1.heap.size = w.heap.size + 1 := by
  have hcl := CH_length s
  have hsz : (Conv.runesFrom s s.size 0 #[]).size = (CH s).length := by rw [runesFrom_eq]; simp [zr]
  have hr := run_runes_of_string (P := Tryd.prog) w 9 80 21 s Tryd.underlying9 Tryd.underlying80 Tryd.underlying21 (by rw [hsz]; omega)
  rw [hsz, runesFrom_eq] at hr
  exact ⟨_, _, hr, (Ext.refl w).drew.alloc _, Zs.alloc w.drew (zr s) (by rw [zr_length]; omega) _ _, by simp⟩

/-- Two rows of runes, compared. -/
def cmpL : List Int → List Int → Int
  | [], [] => 0
  | [], _ :: _ => -1
  | _ :: _, [] => 1
  | a :: x, b :: y => if a > b then 1 else if a < b then -1 else cmpL x y
theorem drop_at (l : List Int) (i : Nat) (h : i < l.length) : l.drop i = l.getD i 0 :: l.drop (i + 1) := by
  rw [List.drop_eq_getElem_cons h]; simp [List.getD, h]

end Go.Proofs.YtlffbappgfimeaaDoor
