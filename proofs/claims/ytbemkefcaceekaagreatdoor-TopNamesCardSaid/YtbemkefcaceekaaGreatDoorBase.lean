/- Base: words of these proofs: bytes in memory as lists of bytes. -/
import Derived.Test.YtbemkefcaceekaaGreatDoorProg
import Derived.Test.YtbemkefcaceekaaGreatDoorWWords
import Derived.Lib.Hide
import Derived.WalkLawsBesides
import Derived.Laws.DeepBits32
import Derived.Laws.Bits64
import Derived.Laws.BitsLemmas
import Derived.ProofKit
import Derived.KernelRfl
import Derived.Lib.SlBytesConst
import Derived.Lib.SmallJoins
set_option linter.unusedVariables false
namespace Go.Proofs.YtbemkefcaceekaaGreatDoor
open Go.RowKit Go.Proofs.YtbemkefcaceekaaGreatDoorW.PrintWords

/-- Bytes as the numbers that lie in memory. -/
def B (l : List UInt8) : List Int := l.map fun b => (b.toNat : Int)
theorem B_length (l : List UInt8) : (B l).length = l.length := by simp [B]
theorem B_append (l l' : List UInt8) : B (l ++ l') = B l ++ B l' := by simp [B]
theorem B_getD (l : List UInt8) (i : Nat) : (B l).getD i 0 = ((l.getD i 0).toNat : Int) := by
  simp only [B, List.getD_eq_getElem?_getD, List.getElem?_map]
  cases l[i]? <;> rfl
theorem B_range (b : UInt8) : 0 ≤ (b.toNat : Int) ∧ (b.toNat : Int) ≤ 255 := by
  have := b.toNat_lt
  omega

/-- At A lie these bytes. -/
def Bs (w : World) (A : Option Addr) (l : List UInt8) : Prop := (Kd.int .u8).C w A l.length (B l)
/-- At A lie rows of bytes. -/
def Bss (w : World) (A : Option Addr) (l : List (List UInt8)) : Prop := (Kd.slice 5 (Kd.int .u8)).C w A l.length (l.map B)
theorem Bs.max {w : World} {A : Option Addr} {l : List UInt8} (h : Bs w A l) : l.length ≤ 9223372036854775807 := h.2.1
theorem Bss.max {w : World} {A : Option Addr} {l : List (List UInt8)} (h : Bss w A l) : l.length ≤ 9223372036854775807 := h.2.1
theorem Bs.below {w w1 : World} {A : Option Addr} {l : List UInt8} (h : Bs w A l) (hb : Below w.heap.size w w1) : Bs w1 A l := Kd.C_below h hb
theorem Bss.below {w w1 : World} {A : Option Addr} {l : List (List UInt8)} (h : Bss w A l) (hb : Below w.heap.size w w1) : Bss w1 A l := Kd.C_below h hb
theorem Bs.at {w : World} {A : Option Addr} {l : List UInt8} (h : Bs w A l) (j : Nat) (hj : j < l.length) :
    ∃ ad, A = some ad ∧ w.cell? (ad.add j) = some (.int .u8 ((l.getD j 0).toNat : Int)) := by
  obtain ⟨ad, e, hc⟩ := Kd.at_int h (j : Int) (by omega) (by omega)
  refine ⟨ad, e, ?_⟩
  rw [Int.toNat_natCast, show rd (B l) (j : Int) = ((l.getD j 0).toNat : Int) from by rw [rd, Int.toNat_natCast, B_getD]] at hc
  exact hc
theorem Bss.at {w : World} {A : Option Addr} {l : List (List UInt8)} (h : Bss w A l) (k : Nat) (hk : k < l.length) :
    ∃ ad A0 c0, A = some ad ∧ w.cell? (ad.add k) = some (.slice A0 (l.getD k []).length c0) ∧ (l.getD k []).length ≤ c0 ∧ Bs w A0 (l.getD k []) := by
  obtain ⟨ad, rfl, hc⟩ := h.2.2 (by omega)
  have hk' : k < (l.map B).length := by simpa using hk
  obtain ⟨cs, hs, ⟨A0, c0, rfl, hl0, hC0⟩, hcell⟩ := hc k _ (List.getElem?_eq_getElem hk')
  have e : (l.map B)[k] = B (l.getD k []) := by simp [hk]
  have hcell0 := hcell 0 _ rfl
  simp only [e, B_length, Kd.slice, Nat.mul_one, Nat.add_zero] at hcell0 hl0 hC0
  exact ⟨ad, A0, c0, rfl, hcell0, hl0, hC0⟩

/-- A new block of bytes, whatever its marks. -/
theorem Bs.alloc (W : World) (l : List UInt8) (hl : l.length ≤ 9223372036854775807) (cs : Array Value) (hcs : cs = ((B l).map (Value.int .u8)).toArray) (e : TypeId) (fr : Nat × Nat) :
    Bs (W.alloc (.cells cs e fr)) (some ⟨W.heap.size, 0, none⟩) l := by
  subst hcs
  refine ⟨B_length l, hl, fun _ => ⟨_, rfl, fun j p hp => ⟨[.int .u8 p], rfl, rfl, fun i u hu => ?_⟩⟩⟩
  cases i with
  | succ i => simp at hu
  | zero =>
    obtain rfl : Value.int .u8 p = u := by simpa using hu
    have hj := World.cell?_alloc_mark W ((B l).map (Value.int .u8)).toArray e fr j
    rw [add_plain]
    simpa [Kd.int, Kd.scalar, hp] using hj
theorem Bs.alloc_at (W : World) (l : List UInt8) (hl : l.length ≤ 9223372036854775807) (cs : Array Value) (hcs : cs = ((B l).map (Value.int .u8)).toArray) (e : TypeId) (fr : Nat × Nat) (g : Nat) (hg : g = W.heap.size) :
    Bs (W.alloc (.cells cs e fr)) (some ⟨g, 0, none⟩) l := by
  subst hg; exact Bs.alloc W l hl cs hcs e fr
/-- A new block of rows of bytes. -/
theorem Bss.alloc (W : World) (l : List (Option Addr × Nat × List UInt8)) (hl : l.length ≤ 9223372036854775807) (h : ∀ x ∈ l, x.2.2.length ≤ x.2.1 ∧ Bs W x.1 x.2.2)
    (cs : Array Value) (hcs : cs = (l.map fun x => Value.slice x.1 x.2.2.length x.2.1).toArray) (e : TypeId) :
    Bss (W.alloc (.cells cs e)) (some ⟨W.heap.size, 0, none⟩) (l.map (·.2.2)) := by
  subst hcs
  have hb : Below W.heap.size W (W.alloc (.cells (l.map fun x => Value.slice x.1 x.2.2.length x.2.1).toArray e)) := (Below.refl _ _).alloc (Nat.le_refl _) _
  refine ⟨by simp, by simpa using hl, fun _ => ⟨_, rfl, fun j p hp => ?_⟩⟩
  simp only [List.map_map, List.getElem?_map, Option.map_eq_some_iff] at hp
  obtain ⟨x, hx, rfl⟩ := hp
  obtain ⟨h1, h2⟩ := h x (List.mem_of_getElem? hx)
  refine ⟨[.slice x.1 x.2.2.length x.2.1], rfl, ⟨x.1, x.2.1, by simp [B_length], by simpa [B_length] using h1, by simpa [Bs, B_length] using h2.below hb⟩, fun i u hu => ?_⟩
  cases i with
  | succ i => simp at hu
  | zero =>
    obtain rfl : Value.slice x.1 x.2.2.length x.2.1 = u := by simpa using hu
    have ho := World.ownsRow_lit (base := 0) (e := e) (size := 1) W (l.map fun x => Value.slice x.1 x.2.2.length x.2.1).toArray l.length (Nat.zero_le _) (by simpa [maxLen] using hl) (by simp)
    have hj := ho.cells (g := W.heap.size) rfl j (.slice x.1 x.2.2.length x.2.1) (by simp [hx])
    simpa [Kd.slice] using hj

theorem Bss.alloc_at (W : World) (l : List (Option Addr × Nat × List UInt8)) (ls : List (List UInt8)) (hls : ls = l.map (·.2.2)) (hl : l.length ≤ 9223372036854775807) (h : ∀ x ∈ l, x.2.2.length ≤ x.2.1 ∧ Bs W x.1 x.2.2)
    (cs : Array Value) (hcs : cs = (l.map fun x => Value.slice x.1 x.2.2.length x.2.1).toArray) (e : TypeId) (g : Nat) (hg : g = W.heap.size) :
    Bss (W.alloc (.cells cs e)) (some ⟨g, 0, none⟩) ls := by
  subst hg hls; exact Bss.alloc W l hl h cs hcs e

/-- All that was there is as it was. -/
def Ext (w w' : World) : Prop := Below w.heap.size w w'
theorem Ext.refl (w : World) : Ext w w := Below.refl _ _
theorem Ext.out {w w' : World} (h : Ext w w') : Below w.heap.size w w' := h
theorem Ext.of {w w' : World} (h : Below w.heap.size w w') : Ext w w' := h
theorem Ext.size {w w' : World} (h : Ext w w') : w.heap.size ≤ w'.heap.size := Below.size h
theorem Ext.trans {a b c : World} (h : Ext a b) (k : Ext b c) : Ext a c := below_then h h.size k
theorem Ext.alloc {w W : World} (h : Ext w W) (o : Obj) : Ext w (W.alloc o) := below_alloc h o
theorem Ext.drew {w W : World} (h : Ext w W) : Ext w W.drew := below_drew h
theorem Ext.drewN {w W : World} (h : Ext w W) (n : Nat) : Ext w (W.drewN n) := pw_below_drewN h n
theorem Ext.bytes {w W : World} (h : Ext w W) (e : TypeId) (s : ByteArray) : Ext w (Lib.bytesWorld W e s) := bytes_below h h.size e s
theorem Ext.setCell {w W : World} (h : Ext w W) {p : Addr} (hp : w.heap.size ≤ p.block) (u : Value) : Ext w (W.setCell p u) := Below.setCell h hp u
theorem Ext.cell {w W : World} (h : Ext w W) {p : Addr} {v : Value} (hc : w.cell? p = some v) : W.cell? p = some v := pw_cell_below h hc
theorem Bs.ext {w w1 : World} {A : Option Addr} {l : List UInt8} (h : Bs w A l) (hb : Ext w w1) : Bs w1 A l := h.below hb
theorem Bss.ext {w w1 : World} {A : Option Addr} {l : List (List UInt8)} (h : Bss w A l) (hb : Ext w w1) : Bss w1 A l := h.below hb

/-- A row of bytes of the call's own, in a block from base on. -/
def Ob (w : World) (base : Nat) (v : Value) (l : List UInt8) : Prop := w.ownsRow base 5 1 v l.length (nums .u8 (B l))
theorem Ob.nil (w : World) (base : Nat) : Ob w base (.slice none 0 0) [] := own_nil _ _ _ _
theorem Ob.reads {w : World} {base : Nat} {v : Value} {l : List UInt8} (h : Ob w base v l) : ∃ A c, v = .slice A l.length c ∧ l.length ≤ c ∧ Bs w A l := by
  rcases h.2 with ⟨rfl, h0⟩ | ⟨g, cap, cur, rfl, hg, hh, hn, hm, hc⟩
  · have : l = [] := List.eq_nil_of_length_eq_zero h0
    subst this
    exact ⟨none, 0, rfl, Nat.le_refl _, rfl, by decide, fun h => absurd h (by decide)⟩
  · refine ⟨some ⟨g, 0, none⟩, cap, rfl, hn, B_length l, by simp only [maxLen] at hm; omega, fun _ => ⟨_, rfl, fun j p hp => ⟨[.int .u8 p], rfl, rfl, fun i u hu => ?_⟩⟩⟩
    cases i with
    | succ i => simp at hu
    | zero =>
      obtain rfl : Value.int .u8 p = u := by simpa using hu
      have hj := World.ownsRow.cells h (g := g) rfl j (.int .u8 p) (by simp [nums, hp])
      simpa [Kd.int, Kd.scalar] using hj
theorem Ob.ext {w w1 : World} {base : Nat} {v : Value} {l : List UInt8} (h : Ob w base v l) (hb : Ext w w1) : Ob w1 base v l := pw_own_below h hb
theorem Ob.lower {w : World} {base base' : Nat} {v : Value} {l : List UInt8} (h : Ob w base v l) (hb : base' ≤ base) : Ob w base' v l := own_weaken h hb
theorem Ob.alloc_at (W : World) (base : Nat) (l : List UInt8) (hb : base ≤ W.heap.size) (hl : l.length ≤ 9223372036854775807) (cs : Array Value) (hcs : cs = ((B l).map (Value.int .u8)).toArray) (n : Nat) (hn : n = l.length) (g : Nat) (hg : g = W.heap.size) :
    Ob (W.alloc (.cells cs 5)) base (.slice (some ⟨g, 0, none⟩) n n) l := by
  subst hg hcs hn
  have h := own_lit W base 5 .u8 (B l) hb (by rw [B_length]; exact hl)
  rw [B_length] at h
  exact h
/-- What is written is another row. -/
theorem Ob.grown {w w1 : World} {base : Nat} {v : Value} {l : List UInt8} (h : Ob w base v l) {row : Option Nat} (hg : w.grownBy w1 row) (hne : v.ownBlock = none ∨ v.ownBlock ≠ row) : Ob w1 base v l := own_other h hg hne
theorem Ext.grown {w W w1 : World} {base : Nat} {v : Value} {l : List UInt8} (h : Ext w W) (hO : Ob W base v l) (hb : w.heap.size ≤ base) (hg : W.grownBy w1 v.ownBlock) : Ext w w1 :=
  Below.grown h hg h.size (fun k hk => Nat.le_trans hb (own_base hO k hk))

/-- The walk stops here. -/
def Halt (p : Prop) : Prop := p
theorem halt {p : Prop} (h : Halt p) : p := h
theorem unhalt {p : Prop} (h : p) : Halt p := h

theorem info_u8 : (Tryz.prog.info? 5).map (fun i => (i.zero, i.size, i.bytes)) = some (some (.int .u8 0), 1, 1) := by kernel_rfl

section
variable {ops : Array Oper} {rest : List Oper} {o : Oper} {a : Act} {Q : Exit → Act → World → Prop}
theorem wpList_wanted {P : Program} {w : World} (hw : Region.wanted o (yielded ops a.tmps) = true) (h : ∀ K : Act → World → Prop, (∀ a w, wpList P ops Q rest a w → K a w) → o.wp P a w K Q) : wpList P ops Q (o :: rest) a w := by
  refine wpList_step fun K hK => ?_
  rw [if_pos hw]
  exact h K hK
set_option maxRecDepth 100000 in
theorem append_run {W : World} {ty : TypeId} (v : Value) (l : List UInt8) (A : Option Addr) (l2 : List UInt8) (c : Nat) (base : Nat) (HO : Ob W base v l) (HR : Bs W A l2) (hbase : base ≤ W.heap.size) (hl : l.length + l2.length ≤ 140737488355328) :
    ∃ v1 w1, (Builtin.append_ #[40, 40] ty #[v, .slice A l2.length c]).run Tryz.prog W = .ok v1 w1 ∧ Ob w1 base v1 (l ++ l2) ∧ W.grownBy w1 v.ownBlock ∧ (v1.ownBlock = v.ownBlock ∨ v1.ownBlock = some W.heap.size) := by
  obtain ⟨i0, hi, hz0, hz1, hz2⟩ := info_parts info_u8
  rcases A with _ | ad
  · have h0 : l2.length = 0 := by
      rcases Nat.eq_zero_or_pos l2.length with h0 | h0
      · exact h0
      · obtain ⟨ad, h, _⟩ := HR.at 0 h0
        cases h
    obtain rfl : l2 = [] := List.eq_nil_of_length_eq_zero h0
    refine ⟨v, W, ?_, by simpa using HO, World.grownBy.refl W _, .inl rfl⟩
    rcases HO.2 with ⟨rfl, hn⟩ | ⟨g, cap, cur, rfl, _, _, hnc, _⟩
    · simp [Builtin.append_, run_underlying Tryz.underlying40, sizeOf, typeInfo, hi, Builtin.lenOf, Builtin.firstCells]
    · simp [Builtin.append_, run_underlying Tryz.underlying40, sizeOf, typeInfo, hi, Builtin.lenOf, Builtin.firstCells, hnc, storeCells]
  · obtain ⟨v1, w1, hr, h2, h3, _, h5⟩ := run_append_own_at (P := Tryz.prog) W base 40 ty 5 i0 (.int .u8 0) 1 1 Tryz.underlying40 hi hz0 hz1 hz2 rfl (by omega) v l.length (nums .u8 (B l)) HO ad l2.length c (nums .u8 (B l2)) (by simp [nums, B])
      (by
        intro j u hu
        have hj : j < l2.length := by
          rcases Nat.lt_or_ge j l2.length with h | h
          · exact h
          · simp [nums, B, List.getElem?_eq_none h] at hu
        obtain ⟨ad', h', hc⟩ := HR.at j hj
        injection h' with h'
        subst h'
        rw [hc]
        simp [nums, B, List.getElem?_eq_getElem hj] at hu
        simp [hj, ← hu])
      (by intro u hu; simp only [nums, List.mem_map] at hu; obtain ⟨q, _, rfl⟩ := hu; rfl) (by simp only [maxLen]; omega) (by omega) hbase
    exact ⟨v1, w1, hr, by simpa [Ob, nums, B] using h2, h3, h5⟩
set_option maxRecDepth 100000 in
/-- append of bytes that are read to a row of the call's own. -/
theorem wp_append {W : World} (hw : Region.wanted o (yielded ops a.tmps) = true) (s x : Operand)
    (ho : o.op = .call { callee := .builtin .append, args := #[s, x], argTypes := #[40, 40] })
    (v : Value) (l : List UInt8) (hs : a.eval s = v) (A : Option Addr) (l2 : List UInt8) (n c : Nat) (hx : a.eval x = .slice A n c) (hn : n = l2.length)
    (base : Nat) (HO : Ob W base v l) (HR : Bs W A l2) (hbase : base ≤ W.heap.size) (hl : l.length + l2.length ≤ 140737488355328)
    (h : ∀ v1 w1, Ob w1 base v1 (l ++ l2) → W.grownBy w1 v.ownBlock → (v1.ownBlock = v.ownBlock ∨ v1.ownBlock = some W.heap.size) → wpList Tryz.prog ops Q rest (a.put o.dst v1) w1) :
    wpList Tryz.prog ops Q (o :: rest) a W := by
  subst hn
  obtain ⟨v1, w1, hr, hown, hg, hat⟩ := append_run (ty := o.type) v l A l2 c base HO HR hbase hl
  refine wpList_wanted hw fun K hK => ?_
  unfold Oper.wp execOp
  simp only [ho, resolve, invoke, builtin, Sem.run_bind, Sem.run_pure, Result.andThen_ok, List.map_toArray, List.map_cons, List.map_nil, hs, hx, hr]
  exact hK _ _ (h v1 w1 hown hg hat)
end

/-- make([]byte, n). -/
theorem make_bytes (n : Nat) (hn : n ≤ 281474976710656) : ∀ W : World, (Instr.makeSlice 40 (.int .i64 (n : Int)) (.int .i64 (n : Int))).run Tryz.prog W = .ok (.slice (some ⟨W.heap.size, 0, none⟩) n n) (W.alloc (.cells (madeCells #[.int .u8 0] n) 5)) :=
  print_make 40 5 .u8 1 Tryz.underlying40 info_u8 (by omega) n (by omega)
theorem Ob.made (W : World) (base n : Nat) (hb : base ≤ W.heap.size) (hn : n ≤ 9223372036854775807) (g : Nat) (hg : g = W.heap.size) :
    Ob (W.alloc (.cells (madeCells #[.int .u8 0] n) 5)) base (.slice (some ⟨g, 0, none⟩) n n) (List.replicate n 0) := by
  subst hg
  have h := own_made W base 5 .u8 n hb hn
  have e : B (List.replicate n 0) = List.replicate n 0 := by simp [B]
  unfold Ob
  rw [e, List.length_replicate]
  exact h
/-- One byte of a row of the call's own is stored. -/
theorem Ob.store {W : World} {base g n cap : Nat} {l : List UInt8} (h : Ob W base (.slice (some ⟨g, 0, none⟩) n cap) l) (hn : n = l.length) (i : Nat) (x : UInt8) :
    Ob (W.setCell ⟨g, i, none⟩ (.int .u8 (x.toNat : Int))) base (.slice (some ⟨g, 0, none⟩) n cap) (l.set i x) := by
  subst hn
  have hs := own_store h (i : Int) (x.toNat : Int)
  unfold Ob
  rw [List.length_set]
  have e : B (l.set i x) = (B l).set i (x.toNat : Int) := by simp [B, List.map_set]
  rw [e]
  exact hs.1
theorem Ob.at {W : World} {base g n cap : Nat} {l : List UInt8} (h : Ob W base (.slice (some ⟨g, 0, none⟩) n cap) l) (hn : n = l.length) (i : Nat) (hi : i < l.length) :
    W.cell? ⟨g, i, none⟩ = some (.int .u8 ((l.getD i 0).toNat : Int)) ∧ W.frozen? ⟨g, i, none⟩ = false := by
  subst hn
  have := own_at h (i : Int) (by omega) (by omega)
  rw [Int.toNat_natCast, show rd (B l) (i : Int) = ((l.getD i 0).toNat : Int) from by rw [rd, Int.toNat_natCast, B_getD]] at this
  exact this
theorem Ob.block {W : World} {base g n cap : Nat} {l : List UInt8} (h : Ob W base (.slice (some ⟨g, 0, none⟩) n cap) l) : base ≤ g := own_base h g rfl

/-- A text out of bytes. -/
def Str (l : List UInt8) : ByteArray := ⟨l.toArray⟩
theorem Str_B (l : List UInt8) : strOfNums (B l) = Str l := by
  unfold strOfNums Str B
  rw [List.map_map]
  congr 2
  conv => rhs; rw [← List.map_id l]
  apply List.map_congr_left
  intro b _
  simp
theorem Str_toList (l : List UInt8) : (Str l).toList = l := by
  rw [ByteArray.toList_eq]
  simp [Str]
theorem Str_inj {l m : List UInt8} (h : Str l = Str m) : l = m := by rw [← Str_toList l, h, Str_toList]
theorem Bs.string {W : World} {A : Option Addr} {l : List UInt8} (h : Bs W A l) (n c : Nat) (hn : n = l.length) : (convert 40 9 (.slice A n c)).run Tryz.prog W = .ok (.string (Str l)) W := by
  subst hn
  rw [← Str_B]
  exact Kd.C_string Tryz.underlying40 Tryz.underlying5 Tryz.underlying9 h
theorem Bss.one {W : World} {A : Option Addr} {n c : Nat} {p : List UInt8} (h : Bs W A p) (hn : n = p.length) (hc : n ≤ c) (g : Nat) (hg : g = W.heap.size) : Bss (W.alloc (.cells #[.slice A n c] 40)) (some ⟨g, 0, none⟩) [p] := by
  subst hn
  exact Bss.alloc_at W [(A, c, p)] _ rfl (by simp) (fun x hx => by
    obtain rfl := List.mem_singleton.1 hx
    exact ⟨hc, h⟩) _ rfl _ _ hg

theorem size_alloc (W : World) (o : Obj) : W.heap.size + 1 = (W.alloc o).heap.size := by simp

theorem Bs.nil (w : World) : Bs w none [] := ⟨rfl, by decide, fun h => absurd h (by decide)⟩

end Go.Proofs.YtbemkefcaceekaaGreatDoor
