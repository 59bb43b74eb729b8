/- Net: links as they lie in memory: a way's bag is a row of rows of bytes of the net's own. -/
import Derived.Test.YtbmhchfjapdicaaRowsB
import Derived.Laws.CopyRow
import Derived.Lib.SliceRun
set_option linter.unusedVariables false
set_option maxRecDepth 100000
namespace Go.Proofs.Ytbmhchfjapdicaa
open Go.RowKit Go.Proofs.YtbmhchfjapdicaaW.PrintWords

/-- All that was there is as it was, but for these blocks. -/
structure Keep (F : Nat → Prop) (w w' : World) : Prop where
  os : w'.os = w.os
  tape : w'.tape = w.tape
  output : w'.output = w.output
  size : w.heap.size ≤ w'.heap.size
  block : ∀ k, k < w.heap.size → ¬ F k → w'.heap[k]? = w.heap[k]?
theorem Keep.refl (F : Nat → Prop) (w : World) : Keep F w w := ⟨rfl, rfl, rfl, Nat.le_refl _, fun _ _ _ => rfl⟩
theorem Keep.trans {F G : Nat → Prop} {a b c : World} (h : Keep F a b) (k : Keep G b c) (hG : ∀ x, G x → F x ∨ a.heap.size ≤ x) : Keep F a c :=
  ⟨k.os.trans h.os, k.tape.trans h.tape, k.output.trans h.output, Nat.le_trans h.size k.size, fun i hi hf => (k.block i (Nat.lt_of_lt_of_le hi h.size) (fun hg => by
    rcases hG i hg with h1 | h1
    · exact hf h1
    · omega)).trans (h.block i hi hf)⟩
theorem Keep.of_ext {F : Nat → Prop} {a b : World} (h : Ext a b) : Keep F a b := ⟨h.out.os, h.out.tape, h.out.output, h.size, fun i hi _ => h.out.block i hi⟩
theorem Keep.ext {F : Nat → Prop} {a b c : World} (h : Keep F a b) (k : Ext b c) : Keep F a c := h.trans (G := fun _ => False) (Keep.of_ext k) (fun x hx => hx.elim)
theorem Keep.mono {F G : Nat → Prop} {a b : World} (h : Keep F a b) (hG : ∀ x, F x → G x) : Keep G a b := ⟨h.os, h.tape, h.output, h.size, fun i hi hg => h.block i hi fun hf => hg (hG i hf)⟩
theorem Ext.keep {F : Nat → Prop} {w W w' : World} (h : Ext w W) (k : Keep F W w') (hF : ∀ b, F b → w.heap.size ≤ b) : Ext w w' :=
  Ext.of ⟨k.os.trans h.out.os, k.tape.trans h.out.tape, k.output.trans h.out.output, Nat.le_trans h.size k.size, fun i hi => (k.block i (Nat.lt_of_lt_of_le hi h.size) (fun hf => by have := hF i hf; omega)).trans (h.out.block i hi)⟩
theorem Keep.grown {w w1 : World} {row : Option Nat} (h : w.grownBy w1 row) : Keep (fun b => row = some b) w w1 :=
  ⟨h.os, h.tape, h.output, h.size, fun k hk hf => h.block k hk (fun e => hf e.symm)⟩
theorem Keep.setCell (w : World) (g o : Nat) (v : Value) : Keep (fun b => b = g) w (w.setCell ⟨g, o, none⟩ v) :=
  ⟨rfl, rfl, rfl, by simp [World.setCell], fun k _ hk => Below.heap_setCell _ _ _ _ hk⟩
theorem Keep.setRow (w : World) (g : Nat) (cs : Array Value) : Keep (fun b => b = g) w (w.setRow g cs) :=
  ⟨rfl, rfl, rfl, by simp, fun k _ hk => setRow_other w g k cs hk⟩

/-- No bytes lie in the block. -/
def NoB (w : World) (b : Nat) : Prop := ∀ cur fr, w.heap[b]? ≠ some (.cells cur 5 fr)
/-- A row's bytes lie in a block of bytes. -/
def InB (w : World) (x : Ent) : Prop := x.2.2 ≠ [] → ∀ a, x.1 = some a → ∃ cur fr, w.heap[a.block]? = some (.cells cur 5 fr)
/-- A bag: a row of the net's own, of rows of bytes. -/
structure Bag (w : World) (v : Value) (l : List Ent) : Prop where
  row : w.ownsRow 0 30 1 v l.length (l.map entV)
  el : ∀ x ∈ l, x.2.2.length ≤ x.2.1 ∧ Bs w x.1 x.2.2 ∧ InB w x
theorem Bag.nil (w : World) : Bag w (.slice none 0 0) [] := ⟨World.ownsRow_nil w 0 _ 1, fun x hx => by simp at hx⟩
theorem ent_keep {F : Nat → Prop} {w w' : World} {x : Ent} (hB : Bs w x.1 x.2.2) (hI : InB w x) (hk : Keep F w w') (hF : ∀ b, F b → NoB w b) : Bs w' x.1 x.2.2 ∧ InB w' x := by
  have key : x.2.2 ≠ [] → ∀ a, x.1 = some a → w'.heap[a.block]? = w.heap[a.block]? := fun hne a ha => by
    obtain ⟨cur, fr, h⟩ := hI hne a ha
    exact hk.block _ (Bs.lt (by rw [← ha]; exact hB) hne) (fun hf => hF _ hf cur fr h)
  refine ⟨hB.block key, fun hne a ha => ?_⟩
  obtain ⟨cur, fr, h⟩ := hI hne a ha
  exact ⟨cur, fr, by rw [key hne a ha]; exact h⟩
theorem own_block {w w' : World} {v : Value} {n base : Nat} {e : TypeId} {xs : List Value} (h : w.ownsRow base e 1 v n xs) (hb : ∀ k, v.ownBlock = some k → w'.heap[k]? = w.heap[k]?) : w'.ownsRow base e 1 v n xs := by
  refine ⟨h.1, ?_⟩
  rcases h.2 with h0 | ⟨g, cap, cur, rfl, h1, h2, h3⟩
  · exact Or.inl h0
  · exact Or.inr ⟨g, cap, cur, rfl, h1, (hb g rfl).trans h2, h3⟩
theorem Bag.keep {F : Nat → Prop} {w w' : World} {v : Value} {l : List Ent} (h : Bag w v l) (hk : Keep F w w') (hF : ∀ b, F b → NoB w b) (hv : ∀ k, v.ownBlock = some k → ¬ F k) : Bag w' v l :=
  ⟨own_block h.row fun k hk' => hk.block k (World.ownsRow.lt h.row k hk').2 (hv k hk'), fun x hx => ⟨(h.el x hx).1, ent_keep (h.el x hx).2.1 (h.el x hx).2.2 hk hF⟩⟩
theorem Bag.ext {w w' : World} {v : Value} {l : List Ent} (h : Bag w v l) (hk : Ext w w') : Bag w' v l := h.keep (F := fun _ => False) (Keep.of_ext hk) (fun _ h => h.elim) (fun _ _ h => h)
theorem Bag.noB {w : World} {v : Value} {l : List Ent} (h : Bag w v l) : ∀ k, v.ownBlock = some k → NoB w k := by
  intro k hk cur fr hh
  rcases h.row.2 with ⟨rfl, _⟩ | ⟨g, cap, cur', rfl, _, h2, _⟩
  · cases hk
  · simp only [Value.ownBlock, Option.some.injEq] at hk
    subst hk
    rw [hh] at h2
    simp only [Option.some.injEq, Obj.cells.injEq] at h2
    exact absurd h2.2.1 (by decide)
theorem Bag.shape {w : World} {v : Value} {l : List Ent} (h : Bag w v l) : ∃ A c, v = .slice A l.length c ∧ l.length ≤ c ∧ l.length ≤ 9223372036854775807 ∧ (l ≠ [] → ∃ g cur, A = some ⟨g, 0, none⟩ ∧ w.heap[g]? = some (.cells cur 30 (0, 0)) ∧ cur.size = c ∧ cur.toList.take l.length = l.map entV) := by
  rcases h.row.2 with ⟨rfl, h0⟩ | ⟨g, cap, cur, rfl, hg, hh, hn, hm, hcs, hc⟩
  · exact ⟨none, 0, by rw [h0], by omega, by omega, fun hne => absurd (List.eq_nil_of_length_eq_zero h0) hne⟩
  · exact ⟨some ⟨g, 0, none⟩, cap, rfl, hn, by simp only [maxLen] at hm; omega, fun _ => ⟨g, cur, rfl, hh, by simpa using hcs, by simpa using hc⟩⟩
/-- Where an entry is read. -/
theorem Bag.at {w : World} {A : Option Addr} {n c : Nat} {l : List Ent} (h : Bag w (.slice A n c) l) (i : Nat) (x : Ent) (hi : l[i]? = some x) : ∃ g, A = some ⟨g, 0, none⟩ ∧ w.cell? ⟨g, i, none⟩ = some (entV x) := by
  obtain ⟨A', c', he, hc, _, hs⟩ := h.shape
  injection he with h1 h2 h3
  subst h1 h3
  have hlt := (List.getElem?_eq_some_iff.1 hi).1
  obtain ⟨g, cur, rfl, hh, hsz, ht⟩ := hs (by rintro rfl; simp at hi)
  refine ⟨g, rfl, ?_⟩
  have h4 : cur[i]? = some (entV x) := by
    rw [← Array.getElem?_toList, ← List.getElem?_take_of_lt hlt, ht]
    simp [hi]
  simp only [World.cell?, hh]
  simpa using h4
theorem ob_in {w : World} {base : Nat} {A : Option Addr} {n c : Nat} {p : List UInt8} (h : Ob w base (.slice A n c) p) : InB w (A, c, p) := by
  intro _ a ha
  simp only at ha
  subst ha
  rcases h.2 with ⟨h1, _⟩ | ⟨g, cap, cur, h1, _, hh, _⟩
  · cases h1
  · injection h1 with h1 h2 h3
    injection h1 with h1
    subst h1
    exact ⟨cur, (0, 0), hh⟩

set_option maxRecDepth 100000 in
/-- append of rows to a row of the call's own. -/
theorem rows_append {W : World} {ty : TypeId} (v : Value) (l : List Ent) (HO : W.ownsRow 0 30 1 v l.length (l.map entV)) (A : Option Addr) (n c : Nat) (news : List Ent) (hn : n = news.length)
    (hnews : news ≠ [] → ∃ ad, A = some ad ∧ ∀ j u, (news.map entV)[j]? = some u → W.cell? (ad.add j) = some u) (hl : (l.length + news.length) * 24 ≤ 140737488355328) :
    ∃ v1 w1, (Builtin.append_ #[22, 22] ty #[v, .slice A n c]).run Try.prog W = .ok v1 w1 ∧ w1.ownsRow 0 30 1 v1 (l ++ news).length ((l ++ news).map entV) ∧ W.grownBy w1 v.ownBlock ∧ (v1.ownBlock = v.ownBlock ∨ v1.ownBlock = some W.heap.size) := by
  obtain ⟨i0, hi, hz0, hz1, hz2⟩ := info_parts info_bs
  subst hn
  by_cases hne : news = []
  · subst hne
    refine ⟨v, W, ?_, by simpa using HO, World.grownBy.refl W _, .inl rfl⟩
    rcases HO.2 with ⟨rfl, hn⟩ | ⟨g, cap, cur, rfl, _, _, hnc, _⟩
    · cases A <;> simp [Builtin.append_, run_underlying Try.underlying22, sizeOf, typeInfo, hi, Builtin.lenOf, Builtin.firstCells, loadCells, loadCellsFrom]
    · cases A <;> simp [Builtin.append_, run_underlying Try.underlying22, sizeOf, typeInfo, hi, Builtin.lenOf, Builtin.firstCells, hnc, storeCells, loadCells, loadCellsFrom]
  · obtain ⟨ad, rfl, hcell⟩ := hnews hne
    obtain ⟨v1, w1, hr, h2, h3, _, h5⟩ := run_append_own_at (P := Try.prog) W 0 22 ty 30 i0 (.slice none 0 0) 1 24 Try.underlying22 hi hz0 hz1 hz2 rfl (by omega) v l.length (l.map entV) HO ad news.length c (news.map entV) (by simp)
      hcell (by intro u hu; obtain ⟨x, _, rfl⟩ := List.mem_map.1 hu; rfl) (by simp only [maxLen]; omega) hl (Nat.zero_le _)
    exact ⟨v1, w1, hr, by simpa using h2, h3, h5⟩

def updV {α : Type} (f : Nat → α) (k : Nat) (x : α) : Nat → α := fun i => if i = k then x else f i
theorem updV_same {α : Type} (f : Nat → α) (k : Nat) (x : α) : updV f k x k = x := if_pos rfl
theorem updV_other {α : Type} (f : Nat → α) {k i : Nat} (x : α) (h : i ≠ k) : updV f k x i = f i := if_neg h

/-- The net's own block. -/
def NetB (w : World) (T : TypeId) (g n : Nat) (V : Nat → Value) : Prop := ∃ cur, w.heap[g]? = some (.cells cur T (0, 0)) ∧ cur.size = 50 ∧ cur[0]? = some (.int .i64 (n : Int)) ∧ ∀ k, k < 49 → cur[1 + k]? = some (V k)
theorem NetB.head {w : World} {T : TypeId} {g n : Nat} {V : Nat → Value} (h : NetB w T g n V) : w.cell? ⟨g, 0, none⟩ = some (.int .i64 (n : Int)) := by
  obtain ⟨cur, hh, _, h0, _⟩ := h
  simp only [World.cell?, hh]
  simpa using h0
theorem NetB.cell {w : World} {T : TypeId} {g n : Nat} {V : Nat → Value} (h : NetB w T g n V) (k : Nat) (hk : k < 49) : w.cell? ⟨g, 1 + k, none⟩ = some (V k) := by
  obtain ⟨cur, hh, _, _, h1⟩ := h
  simp only [World.cell?, hh]
  simpa using h1 k hk
theorem NetB.free {w : World} {T : TypeId} {g n : Nat} {V : Nat → Value} (h : NetB w T g n V) (i : Nat) : w.frozen? ⟨g, i, none⟩ = false := by
  obtain ⟨cur, hh, _, _, _⟩ := h
  simp [World.frozen?, hh]
theorem NetB.set {w : World} {T : TypeId} {g n : Nat} {V : Nat → Value} (h : NetB w T g n V) (k : Nat) (hk : k < 49) (v : Value) : NetB (w.setCell ⟨g, 1 + k, none⟩ v) T g n (updV V k v) := by
  obtain ⟨cur, hh, hs, h0, h1⟩ := h
  refine ⟨_, Joins.block_setCell hh v, by simpa using hs, by rw [Array.getElem?_setIfInBounds_ne (by omega)]; exact h0, fun i hi => ?_⟩
  by_cases e : i = k
  · subst e
    rw [Array.getElem?_setIfInBounds_self, if_pos (by omega), updV_same]
  · rw [Array.getElem?_setIfInBounds_ne (by omega), updV_other _ _ e]
    exact h1 i hi
theorem NetB.keep {w w' : World} {T : TypeId} {g n : Nat} {V : Nat → Value} (h : NetB w T g n V) (hk : w'.heap[g]? = w.heap[g]?) : NetB w' T g n V := by
  obtain ⟨cur, hh, r⟩ := h
  exact ⟨cur, hk.trans hh, r⟩
theorem NetB.lt {w : World} {T : TypeId} {g n : Nat} {V : Nat → Value} (h : NetB w T g n V) : g < w.heap.size := by
  obtain ⟨cur, hh, _⟩ := h
  exact (Array.getElem?_eq_some_iff.1 hh).1

/-- A net. -/
structure Net (w : World) (T : TypeId) (g n : Nat) (V : Nat → Value) (L : Nat → List Ent) : Prop where
  blk : NetB w T g n V
  bag : ∀ k, k < 49 → Bag w (V k) (L k)
  apart : ∀ k k', k < 49 → k' < 49 → k ≠ k' → ∀ b, (V k).ownBlock = some b → (V k').ownBlock ≠ some b
  t1 : T ≠ 30
  t2 : T ≠ 5
/-- The blocks that a net writes. -/
def foot (V : Nat → Value) (g b : Nat) : Prop := b = g ∨ ∃ k, k < 49 ∧ (V k).ownBlock = some b
theorem Net.lt {w : World} {T : TypeId} {g n : Nat} {V : Nat → Value} {L : Nat → List Ent} (h : Net w T g n V L) : ∀ b, foot V g b → b < w.heap.size := by
  rintro b (rfl | ⟨k, hk, hb⟩)
  · exact h.blk.lt
  · exact (World.ownsRow.lt (h.bag k hk).row b hb).2
theorem Net.noB {w : World} {T : TypeId} {g n : Nat} {V : Nat → Value} {L : Nat → List Ent} (h : Net w T g n V L) : ∀ b, foot V g b → NoB w b := by
  rintro b (rfl | ⟨k, hk, hb⟩)
  · intro cur fr hh
    obtain ⟨c2, h2, _⟩ := h.blk
    rw [hh] at h2
    simp only [Option.some.injEq, Obj.cells.injEq] at h2
    exact h.t2 h2.2.1.symm
  · exact (h.bag k hk).noB b hb
theorem Net.ne {w : World} {T : TypeId} {g n : Nat} {V : Nat → Value} {L : Nat → List Ent} (h : Net w T g n V L) (k : Nat) (hk : k < 49) : (V k).ownBlock ≠ some g := by
  intro hb
  obtain ⟨c2, h2, _⟩ := h.blk
  rcases (h.bag k hk).row.2 with ⟨he, _⟩ | ⟨g', cap, cur', he, _, h3, _⟩
  · rw [he] at hb; cases hb
  · rw [he] at hb
    simp only [Value.ownBlock, Option.some.injEq] at hb
    subst hb
    rw [h2] at h3
    simp only [Option.some.injEq, Obj.cells.injEq] at h3
    exact h.t1 h3.2.1
theorem Net.keep {F : Nat → Prop} {w w' : World} {T : TypeId} {g n : Nat} {V : Nat → Value} {L : Nat → List Ent} (h : Net w T g n V L) (hk : Keep F w w') (hF : ∀ b, F b → NoB w b) (hd : ∀ b, foot V g b → ¬ F b) : Net w' T g n V L :=
  ⟨h.blk.keep (hk.block g h.blk.lt (hd g (Or.inl rfl))), fun k hk' => (h.bag k hk').keep hk hF (fun b hb => hd b (Or.inr ⟨k, hk', hb⟩)), h.apart, h.t1, h.t2⟩
theorem Net.ext {w w' : World} {T : TypeId} {g n : Nat} {V : Nat → Value} {L : Nat → List Ent} (h : Net w T g n V L) (hk : Ext w w') : Net w' T g n V L := h.keep (F := fun _ => False) (Keep.of_ext hk) (fun _ h => h.elim) (fun _ _ h => h)

/-- A way's bag is put anew. -/
theorem Net.store {W W2 : World} {T : TypeId} {g n : Nat} {V : Nat → Value} {L : Nat → List Ent} (h : Net W T g n V L) (k : Nat) (hk : k < 49) (hK : Keep (fun b => (V k).ownBlock = some b) W W2) (v1 : Value) (l1 : List Ent) (hB : Bag W2 v1 l1)
    (ha : v1.ownBlock = (V k).ownBlock ∨ ∀ b, v1.ownBlock = some b → W.heap.size ≤ b) :
    Net (W2.setCell ⟨g, 1 + k, none⟩ v1) T g n (updV V k v1) (updV L k l1) ∧ Keep (foot V g) W (W2.setCell ⟨g, 1 + k, none⟩ v1) ∧ (∀ b, foot (updV V k v1) g b → foot V g b ∨ W.heap.size ≤ b) := by
  have hg : W2.heap[g]? = W.heap[g]? := hK.block g h.blk.lt (h.ne k hk)
  have hb2 := h.blk.keep hg
  have hset := Keep.setCell W2 g (1 + k) v1
  have hnoG : ∀ b, b = g → NoB W2 b := by
    rintro b rfl cur fr hh
    rw [hg] at hh
    exact h.noB b (Or.inl rfl) cur fr hh
  have hv1 : ∀ b, v1.ownBlock = some b → b ≠ g := by
    rintro b hb rfl
    rcases ha with ha | ha
    · exact h.ne k hk (by rw [← ha]; exact hb)
    · have := ha b hb
      have := h.blk.lt
      omega
  refine ⟨⟨hb2.set k hk v1, fun i hi => ?_, fun i j hi hj hij b => ?_, h.t1, h.t2⟩, ?_, ?_⟩
  · by_cases e : i = k
    · subst e
      rw [updV_same, updV_same]
      exact hB.keep hset hnoG hv1
    · rw [updV_other _ _ e, updV_other _ _ e]
      have h1 := (h.bag i hi).keep hK (fun b hb => (h.bag k hk).noB b hb) (fun b hb => h.apart i k hi hk e b hb)
      exact h1.keep hset hnoG (fun b hb he => h.ne i hi (by rw [← he]; exact hb))
  · by_cases e1 : i = k
    · subst e1
      rw [updV_same, updV_other _ _ (fun h => hij h.symm)]
      intro hb hb'
      rcases ha with ha | ha
      · exact h.apart i j hi hj hij b (by rw [← ha]; exact hb) hb'
      · have h1 := ha b hb
        have h2 := (World.ownsRow.lt (h.bag j hj).row b hb').2
        omega
    · rw [updV_other _ _ e1]
      by_cases e2 : j = k
      · subst e2
        rw [updV_same]
        intro hb hb'
        rcases ha with ha | ha
        · exact h.apart i j hi hj hij b hb (by rw [← ha]; exact hb')
        · have h1 := ha b hb'
          have h2 := (World.ownsRow.lt (h.bag i hi).row b hb).2
          omega
      · rw [updV_other _ _ e2]
        exact h.apart i j hi hj hij b
  · exact (hK.mono (fun b hb => (Or.inr ⟨k, hk, hb⟩ : foot V g b))).trans hset (fun b hb => Or.inl (Or.inl hb))
  · rintro b (rfl | ⟨i, hi, hb⟩)
    · exact Or.inl (Or.inl rfl)
    · by_cases e : i = k
      · subst e
        rw [updV_same] at hb
        rcases ha with ha | ha
        · exact Or.inl (Or.inr ⟨i, hi, by rw [← ha]; exact hb⟩)
        · exact Or.inr (ha b hb)
      · rw [updV_other _ _ e] at hb
        exact Or.inl (Or.inr ⟨i, hi, hb⟩)
/-- What the bags hold. -/
def Holds (L : Nat → List Ent) (S : Nat → List (List UInt8)) : Prop := ∀ k, k < 49 → (L k).map (·.2.2) = S k
theorem Holds.upd {L : Nat → List Ent} {S : Nat → List (List UInt8)} (h : Holds L S) (k : Nat) (l : List Ent) (s : List (List UInt8)) (e : l.map (·.2.2) = s) : Holds (updV L k l) (updV S k s) := by
  intro i hi
  by_cases e1 : i = k
  · subst e1; rw [updV_same, updV_same]; exact e
  · rw [updV_other _ _ e1, updV_other _ _ e1]; exact h i hi
/-- A way's number. -/
def way (n : Nat) (f t : Int) : Option Nat := if 0 ≤ f ∧ f < n ∧ 0 ≤ t ∧ t < n ∧ f ≠ t then some (f.toNat * 7 + t.toNat) else none
theorem way_lt {n : Nat} {f t : Int} {k : Nat} (h : way n f t = some k) (hn : n ≤ 7) : k < 49 := by
  unfold way at h
  split at h
  · injection h with h
    omega
  · cases h
end Go.Proofs.Ytbmhchfjapdicaa
