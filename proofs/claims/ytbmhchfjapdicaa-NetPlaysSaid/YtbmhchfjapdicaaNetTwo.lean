/- NetTwo: two nets side by side; lists of acts that came in. -/
import Derived.Test.YtbmhchfjapdicaaRefTake
import Derived.Test.YtbmhchfjapdicaaRowsOpen
import Derived.Deep.Fields
set_option linter.unusedVariables false
set_option linter.unusedSimpArgs false
set_option maxRecDepth 100000
namespace Go.Proofs.Ytbmhchfjapdicaa
open Go.ChangeShapes Go.WideShapes Go.ChangeAt Go.RowKit Go.Proofs.YtbmhchfjapdicaaW.PrintWords Go.Deep

theorem Keep.cell {F : Nat → Prop} {a b : World} (hK : Keep F a b) {p : Addr} {v : Value} (hc : a.cell? p = some v) (hf : ¬ F p.block) : b.cell? p = some v :=
  (World.cell?_of_block (hK.block p.block (World.block_lt_of_cell? _ _ hc) hf)).trans hc

/-- A net of the program's and one of the reference's, apart. -/
structure TwoV (w wr : World) (g1 g2 n : Nat) (V1 : Nat → Value) (L1 : Nat → List Ent) (V2 : Nat → Value) (L2 : Nat → List Ent) (S1 S2 : Nat → List (List UInt8)) : Prop where
  n1 : Net wr 50 g1 n V1 L1
  h1 : Holds L1 S1
  n2 : Net wr 45 g2 n V2 L2
  h2 : Holds L2 S2
  b1 : ∀ x, foot V1 g1 x → w.heap.size ≤ x
  b2 : ∀ x, foot V2 g2 x → w.heap.size ≤ x
  ap : ∀ x, foot V1 g1 x → ¬ foot V2 g2 x
  ext : Ext w wr
def Two (w wr : World) (g1 g2 n : Nat) (S1 S2 : Nat → List (List UInt8)) : Prop := ∃ V1 L1 V2 L2, TwoV w wr g1 g2 n V1 L1 V2 L2 S1 S2
section
variable {w wr w' : World} {g1 g2 n : Nat} {V1 V2 : Nat → Value} {L1 L2 : Nat → List Ent} {S1 S2 S' : Nat → List (List UInt8)}
theorem TwoV.up (h : TwoV w wr g1 g2 n V1 L1 V2 L2 S1 S2) (hx : Ext wr w') : TwoV w w' g1 g2 n V1 L1 V2 L2 S1 S2 :=
  ⟨h.n1.ext hx, h.h1, h.n2.ext hx, h.h2, h.b1, h.b2, h.ap, h.ext.trans hx⟩
theorem TwoV.step1 (h : TwoV w wr g1 g2 n V1 L1 V2 L2 S1 S2) (ha : After wr w' 50 g1 n V1 S') : Two w w' g1 g2 n S' S2 := by
  obtain ⟨V, L, hN, hS, hK, hf⟩ := ha
  refine ⟨V, L, V2, L2, hN, hS, h.n2.keep hK h.n1.noB (fun b hb hb' => h.ap b hb' hb), h.h2, fun x hx => ?_, h.b2, fun x hx hx2 => ?_, h.ext.keep hK h.b1⟩
  · rcases hf x hx with h1 | h1
    · exact h.b1 x h1
    · exact Nat.le_trans h.ext.size h1
  · rcases hf x hx with h1 | h1
    · exact h.ap x h1 hx2
    · have := h.n2.lt x hx2
      omega
theorem TwoV.step2 (h : TwoV w wr g1 g2 n V1 L1 V2 L2 S1 S2) (ha : After wr w' 45 g2 n V2 S') : Two w w' g1 g2 n S1 S' := by
  obtain ⟨V, L, hN, hS, hK, hf⟩ := ha
  refine ⟨V1, L1, V, L, h.n1.keep hK h.n2.noB (fun b hb hb' => h.ap b hb hb'), h.h1, hN, hS, h.b1, fun x hx => ?_, fun x hx hx2 => ?_, h.ext.keep hK h.b2⟩
  · rcases hf x hx with h1 | h1
    · exact h.b2 x h1
    · exact Nat.le_trans h.ext.size h1
  · rcases hf x hx2 with h1 | h1
    · exact h.ap x hx h1
    · have := h.n1.lt x hx
      omega
theorem After.keeps {T : TypeId} {g n : Nat} {V : Nat → Value} {S : Nat → List (List UInt8)} (h : After wr w' T g n V S) : Keep (foot V g) wr w' := by
  obtain ⟨_, _, _, _, hk, _⟩ := h
  exact hk
end

/-- No bag is full over; none is anywhere but on a way. -/
def Fine (n : Nat) (S : Nat → List (List UInt8)) : Prop := (∀ k, k < 49 → (S k).length ≤ 64) ∧ ∀ f t, f < 7 → t < 7 → ¬ (f < n ∧ t < n) → S (f * 7 + t) = []
theorem Fine.no (n : Nat) : Fine n noS := ⟨fun _ _ => Nat.zero_le _, fun _ _ _ _ _ => rfl⟩
theorem Fine.upd {n : Nat} {S : Nat → List (List UInt8)} (h : Fine n S) {f t : Int} {k : Nat} (hk : way n f t = some k) (hn : n ≤ 7) (x : List (List UInt8)) (hx : x.length ≤ 64) : Fine n (updV S k x) := by
  obtain ⟨a, b, rfl, rfl, rfl, ha, hb⟩ := way_some hk
  refine ⟨fun i hi => ?_, fun f t hf ht hno => ?_⟩
  · unfold updV
    split
    · exact hx
    · exact h.1 i hi
  · rw [updV_other _ _ (by omega)]
    exact h.2 f t hf ht hno
theorem Fine.snd {n : Nat} {S : Nat → List (List UInt8)} (h : Fine n S) (hn : n ≤ 7) (f t : Int) (b : List UInt8) : Fine n (snd n S f t b).1 := by
  unfold Proofs.Ytbmhchfjapdicaa.snd
  cases hk : way n f t with
  | none => exact h
  | some k =>
    simp only
    split
    · exact h
    · split
      · exact h
      · exact h.upd hk hn _ (by rw [List.length_append, List.length_singleton]; omega)
theorem Fine.tk {n : Nat} {S : Nat → List (List UInt8)} (h : Fine n S) (hn : n ≤ 7) (f t a : Int) : Fine n (tk n S f t a).1 := by
  unfold Proofs.Ytbmhchfjapdicaa.tk
  cases hk : way n f t with
  | none => exact h
  | some k =>
    simp only
    split
    · refine h.upd hk hn _ ?_
      have h1 := h.1 k (way_lt hk hn)
      have h2 := List.length_eraseIdx_le (S k) a.toNat
      omega
    · exact h
theorem Fine.dbl {n : Nat} {S : Nat → List (List UInt8)} (h : Fine n S) (hn : n ≤ 7) (f t a : Int) : Fine n (dbl n S f t a).1 := by
  unfold Proofs.Ytbmhchfjapdicaa.dbl
  cases hk : way n f t with
  | none => exact h
  | some k =>
    simp only
    split
    · exact h.snd hn f t _
    · exact h
theorem Fine.clr {n : Nat} {S : Nat → List (List UInt8)} (h : Fine n S) (hn : n ≤ 7) (rep : Int) : ∀ f, Fine n (clr n rep S f)
  | 0 => h
  | f + 1 => by
    unfold Proofs.Ytbmhchfjapdicaa.clr
    cases hk : way n (f : Int) rep with
    | none => exact Fine.clr h hn rep f
    | some k => exact (Fine.clr h hn rep f).upd hk hn [] (Nat.zero_le _)
theorem row_fine {n : Nat} {S : Nat → List (List UInt8)} (h : Fine n S) (f : Nat) (hf : f < 7) (hn : n ≤ 7) : ∀ t, n ≤ t → t ≤ 7 → rowS S f t = rowS S f n
  | 0, h1, _ => by rw [show n = 0 from by omega]
  | t + 1, h1, h2 => by
    by_cases e : n = t + 1
    · rw [e]
    · rw [rowS, row_fine h f hf hn t (by omega) (by omega), h.2 f t hf (by omega) (by omega)]
      rfl
theorem row_none' {n : Nat} {S : Nat → List (List UInt8)} (h : Fine n S) (f : Nat) (hf : f < 7) (hnf : n ≤ f) : ∀ t, t ≤ 7 → rowS S f t = 0
  | 0, _ => rfl
  | t + 1, h2 => by
    rw [rowS, row_none' h f hf hnf t (by omega), h.2 f t hf (by omega) (by omega)]
    rfl
theorem sq_fine1 {n : Nat} {S : Nat → List (List UInt8)} (h : Fine n S) (hn : n ≤ 7) : ∀ f, f ≤ n → sqS S 7 f = sqS S n f
  | 0, _ => rfl
  | f + 1, h1 => by
    rw [sqS, sqS, sq_fine1 h hn f (by omega), row_fine h f (by omega) hn 7 hn (Nat.le_refl _)]
theorem sq_fine2 {n : Nat} {S : Nat → List (List UInt8)} (h : Fine n S) (hn : n ≤ 7) : ∀ f, n ≤ f → f ≤ 7 → sqS S 7 f = sqS S 7 n
  | 0, h1, _ => by rw [show n = 0 from by omega]
  | f + 1, h1, h2 => by
    by_cases e : n = f + 1
    · rw [e]
    · rw [sqS, sq_fine2 h hn f (by omega) (by omega), row_none' h f (by omega) (by omega) 7 (Nat.le_refl _)]
      rfl
theorem all_fine {n : Nat} {S : Nat → List (List UInt8)} (h : Fine n S) (hn : n ≤ 7) : sumI S 49 = sqS S n n := by
  have h1 := sumI_sq S 7
  rw [show 7 * 7 = 49 from rfl] at h1
  rw [h1, sq_fine2 h hn 7 hn (Nat.le_refl _), sq_fine1 h hn n (Nat.le_refl _)]

/-- Acts as they lie. -/
structure ActE where
  op : Int
  f : Int
  t : Int
  at_ : Int
  b : Ent
def Acts (w : World) (A : Option Addr) (l : List ActE) : Prop := l = [] ∨ ∃ a, A = some a ∧ ∀ i x, l[i]? = some x →
  (w.cell? (a.add (i * 5)) = some (.int .i64 x.op) ∧ w.cell? ⟨(a.add (i * 5)).block, (a.add (i * 5)).off + 1, none⟩ = some (.int .i64 x.f) ∧ w.cell? ⟨(a.add (i * 5)).block, (a.add (i * 5)).off + 2, none⟩ = some (.int .i64 x.t) ∧ w.cell? ⟨(a.add (i * 5)).block, (a.add (i * 5)).off + 3, none⟩ = some (.int .i64 x.at_) ∧
    w.cell? ⟨(a.add (i * 5)).block, (a.add (i * 5)).off + 4, none⟩ = some (entV x.b)) ∧ x.b.2.2.length ≤ x.b.2.1 ∧ Bs w x.b.1 x.b.2.2

theorem one_act {H : Type} {enc : TypeId × Value → H} {W : World} {base : Nat} {held : Bool} {n : Nat} {cs : List Value} {x : DataW H × List MemPlace}
    (h : DataW.trod enc Try.prog W base (fun _ => true) held n 47 cs = some x) :
    ∃ y : ActE, cs = [.int .i64 y.op, .int .i64 y.f, .int .i64 y.t, .int .i64 y.at_, entV y.b] ∧ y.b.2.2.length ≤ y.b.2.1 ∧ Bs W y.b.1 y.b.2.2 := by
  obtain ⟨xs, m, _, rfl, hcl, hxl, hf⟩ := DataW.trod_struct Try.underlying47 h
  have hc5 : Try.prog.cellsOf 47 = 5 := by kernel_rfl
  have hci : Try.prog.cellsOf 3 = 1 := by kernel_rfl
  have hcj : Try.prog.cellsOf 30 = 1 := by kernel_rfl
  rw [hc5] at hcl
  match cs, hcl with
  | [c0, c1, c2, c3, c4], _ =>
  match xs, hxl with
  | [x0, x1, x2, x3, x4], _ =>
  have f0 := hf 0 _ rfl
  have f1 := hf 1 _ rfl
  have f2 := hf 2 _ rfl
  have f3 := hf 3 _ rfl
  have f4 := hf 4 _ rfl
  simp only [hci, hcj, List.drop, List.take, List.getElem?_cons_zero, List.getElem?_cons_succ] at f0 f1 f2 f3 f4
  obtain ⟨n0, e0, -, -⟩ := DataW.trod_int Try.underlying3 f0
  obtain ⟨n1, e1, -, -⟩ := DataW.trod_int Try.underlying3 f1
  obtain ⟨n2, e2, -, -⟩ := DataW.trod_int Try.underlying3 f2
  obtain ⟨n3, e3, -, -⟩ := DataW.trod_int Try.underlying3 f3
  obtain ⟨a4, c4', l4, e4, hl4, hB4⟩ := open_bytes_at Try.underlying30 f4
  exact ⟨⟨n0, n1, n2, n3, (a4, c4', l4)⟩, by simp_all [entV], hl4, hB4⟩

/-- A []Act that came in. -/
theorem open_acts {H : Type} {enc : TypeId × Value → H} {W : World} {base b0 : Nat} {held : Bool} {t : TypeId} {v : Value} {d : DataW H} {ps : List MemPlace} {r : Reach}
    (hu : Try.prog.underlying t = some (.slice 47)) (h : DataW.Trod enc Try.prog W base (fun _ => true) held t v d ps) (hval : Value.okWide Try.prog W r b0 t v) :
    ∃ a cap l, v = .slice a l.length cap ∧ l.length ≤ cap ∧ Acts W a l := by
  obtain ⟨a, len, cap, rfl⟩ := okWide_slice hu hval
  obtain ⟨fuel, hf⟩ := h
  have hc5 : Try.prog.cellsOf 47 = 5 := by kernel_rfl
  rcases open_slice hu hf with ⟨hcs, _⟩ | ⟨x, l, c, m, n, D, Pl, hcs, _, hlc, _, hm, _, hall⟩
  · simp [Value.cells] at hcs
    obtain ⟨rfl, rfl, rfl⟩ := hcs
    exact ⟨none, 0, [], rfl, Nat.le_refl _, Or.inl rfl⟩
  · simp [Value.cells] at hcs
    obtain ⟨rfl, rfl, rfl⟩ := hcs
    have hm : m = cap := by simpa using hm
    subst hm
    have key : ∀ i, ∃ y : ActE, i < m → ∃ cs', W.cells? base (x.add (i * 5)) 5 = some cs' ∧ cs' = [.int .i64 y.op, .int .i64 y.f, .int .i64 y.t, .int .i64 y.at_, entV y.b] ∧ y.b.2.2.length ≤ y.b.2.1 ∧ Bs W y.b.1 y.b.2.2 := by
      intro i
      by_cases hi : i < m
      · obtain ⟨cs', h1, h2⟩ := hall i hi
        rw [hc5] at h1
        obtain ⟨y, hy⟩ := one_act h2
        exact ⟨y, fun _ => ⟨cs', h1, hy⟩⟩
      · exact ⟨⟨0, 0, 0, 0, (none, 0, [])⟩, fun h => absurd h hi⟩
    obtain ⟨Y, hY⟩ := Classical.axiomOfChoice key
    refine ⟨some x, m, (List.range len).map Y, by simp, by simpa using hlc, Or.inr ⟨x, rfl, fun i y hy => ?_⟩⟩
    obtain ⟨hi, rfl⟩ := List.getElem?_eq_some_iff.1 hy
    have hi' : i < m := by simp at hi; omega
    obtain ⟨cs', h1, h2, h4, h5⟩ := hY i hi'
    obtain ⟨_, _, h3⟩ := World.cells?_some h1
    subst h2
    have c0 := h3 0 (by decide)
    have c1 := h3 1 (by decide)
    have c2 := h3 2 (by decide)
    have c3 := h3 3 (by decide)
    have c4 := h3 4 (by decide)
    simp only [List.getElem_map, List.getElem_range]
    refine ⟨⟨?_, ?_, ?_, ?_, ?_⟩, h4, h5⟩
    · simpa [Addr.add] using c0
    · simpa [Addr.add] using c1
    · simpa [Addr.add] using c2
    · simpa [Addr.add] using c3
    · simpa [Addr.add] using c4

end Go.Proofs.Ytbmhchfjapdicaa
