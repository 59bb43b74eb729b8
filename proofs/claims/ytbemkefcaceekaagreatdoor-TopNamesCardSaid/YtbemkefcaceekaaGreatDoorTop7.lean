/- Top7: the closures: made, winner; what a line's words become. -/
import Derived.Test.YtbemkefcaceekaaGreatDoorTop6
set_option linter.unusedVariables false
set_option linter.unusedSimpArgs false
set_option maxRecDepth 100000
namespace Go.Proofs.YtbemkefcaceekaaGreatDoor
open Go.RowKit Go.Lib Go.Shelf Go.Proofs.YtbemkefcaceekaaGreatDoorW.PrintWords Go.Proofs.YtbemkefcaceekaaGreatDoorW.PrintLast

/-- A call. -/
structure Cl where
  kind : Int
  name : ByteArray
  user : ByteArray
  auc : Dt
  bid : Dt
  amount : Int
def Cl.L (c : Cl) : List Value := [.int .i64 c.kind, .string c.name, .string c.user, .int .i64 c.auc.rep, .int .i64 c.auc.n, .int .i64 c.bid.rep, .int .i64 c.bid.n, .int .i64 c.amount]
theorem blk_set {w : World} {g : Nat} {cs : Array Value} {T : TypeId} (h : w.heap[g]? = some (.cells cs T)) (i : Nat) (v : Value) : (w.setCell ⟨g, i, none⟩ v).heap[g]? = some (.cells (cs.setIfInBounds i v) T) := by
  have := Joins.block_setCell h (i := i) v
  simpa using this
/-- A line that is read: a call of a replica. -/
def MadeAt (w : World) (v : Value) (r : Int) (c : Cl) : Prop := ∃ p q, v = .func (.func 38) #[] #[.pointer (some ⟨p, 0, none⟩), .pointer (some ⟨q, 0, none⟩)] ∧ w.heap[p]? = some (.cells #[.int .i64 r] 2) ∧ w.heap[q]? = some (.cells c.L.toArray 66)
theorem made_any (w : World) (r : Int) (c : Cl) : Calls Tryz.prog 20 #[.int .i64 r, .agg c.L.toArray] w fun e w' => ∃ v, e = .returned v ∧ MadeAt w' v r c ∧ Ext w w' := by
  go_enter Tryz.func20, Tryz.ntmps20
  go_wp2
  go_ret
  have x1 : Ext w (w.alloc (.cells #[.int .i64 r] 2)) := (Ext.refl w).alloc _
  have s1 : (w.alloc (.cells #[.int .i64 r] 2)).heap.size = w.heap.size + 1 := Array.size_push _
  have b1 : (w.alloc (.cells #[.int .i64 r] 2)).heap[w.heap.size]? = some (.cells #[.int .i64 r] 2) := Array.getElem?_push_size
  refine ⟨_, rfl, ⟨_, _, rfl, ?_, ?_⟩, x1.alloc _⟩
  · exact (((Ext.refl _).alloc _).out.block w.heap.size (by rw [s1]; omega)).trans b1
  · rw [← s1]; exact Array.getElem?_push_size
theorem MadeAt.ext {w w' : World} {v : Value} {r : Int} {c : Cl} (h : MadeAt w v r c) (x : Ext w w') : MadeAt w' v r c := by
  obtain ⟨p, q, h1, h2, h3⟩ := h
  exact ⟨p, q, h1, (x.out.block _ (Array.getElem?_eq_some_iff.1 h2).1).trans h2, (x.out.block _ (Array.getElem?_eq_some_iff.1 h3).1).trans h3⟩
theorem winner_any (w : World) (r n : Int) : Calls Tryz.prog 29 #[dotv r n] w fun e w' => ∃ v p, e = .returned v ∧ v = .func (.func 52) #[] #[.pointer (some ⟨p, 0, none⟩)] ∧ w'.heap[p]? = some (.cells #[.int .i64 r, .int .i64 n] 64) ∧ Ext w w' := by
  unfold dotv
  go_enter Tryz.func29, Tryz.ntmps29
  go_wp2
  go_ret
  exact ⟨_, _, rfl, rfl, Array.getElem?_push_size, (Ext.refl w).alloc _⟩
theorem chg_new {rb g : Nat} {w a b : World} (h : Chg [rb] w a) (k : Chg [g] a b) (hg : w.heap.size = g) : Chg [rb] w b :=
  ⟨k.os.trans h.os, k.tape.trans h.tape, k.output.trans h.output, Nat.le_trans h.size k.size, fun i hi hn => (k.block i (Nat.lt_of_lt_of_le hi h.size) (by simp; omega)).trans (h.block i hi hn)⟩
theorem chg_cell {rb : Nat} {w a : World} {v : Value} (h : Chg [rb] w a) (hm : w.cell? ⟨0, 0, none⟩ = some v) (hrb : rb ≠ 0) : a.cell? ⟨0, 0, none⟩ = some v := by
  rw [← hm]
  exact World.cell?_of_block (h.block 0 (World.block_lt_of_cell? _ _ hm) (by simpa using hrb.symm))
set_option maxHeartbeats 4000000 in
theorem calls_register (w : World) (rb blk off c : Nat) (x0 : ByteArray) (r : Int) (u : ByteArray) (h0 : Spells x0 r) (h : RdAt w rb blk off c (x0 :: [u])) :
    Calls Tryz.prog 14 #[.pointer (some ⟨rb, 0, none⟩), .string ⟨#[114, 101, 103, 105, 115, 116, 101, 114]⟩] w fun e w' => ∃ v off' c', e = .returned v ∧ MadeAt w' v r ⟨5, ⟨#[]⟩, u, ⟨0, 0⟩, ⟨0, 0⟩, 0⟩ ∧ RdAt w' rb blk off' c' [] ∧ Chg [rb] w w' := by
  obtain ⟨g, Hg⟩ : ∃ h, Hid (w.heap.size = h) := ⟨_, Lib.hid rfl⟩
  obtain ⟨w1, H1⟩ : ∃ x, Hid (w.alloc (.cells #[Value.int .i64 0, .string ⟨#[]⟩, .string ⟨#[]⟩, .int .i64 0, .int .i64 0, .int .i64 0, .int .i64 0, .int .i64 0] 66) = x) := ⟨_, Lib.hid rfl⟩
  have b1 : w1.heap[g]? = some (.cells #[Value.int .i64 0, .string ⟨#[]⟩, .string ⟨#[]⟩, .int .i64 0, .int .i64 0, .int .i64 0, .int .i64 0, .int .i64 0] 66) := by rw [← H1.out, ← Hg.out]; exact Array.getElem?_push_size
  have x1 : Ext w w1 := by rw [← H1.out]; exact (Ext.refl w).alloc _
  obtain ⟨w2, H2⟩ : ∃ x, Hid (((((((((w1.setCell ⟨g, 0, none⟩ (Value.int .i64 0)).setCell ⟨g, 1, none⟩ (Value.string ⟨#[]⟩)).setCell ⟨g, 2, none⟩ (Value.string ⟨#[]⟩)).setCell ⟨g, 3, none⟩ (Value.int .i64 0)).setCell ⟨g, 4, none⟩ (Value.int .i64 0)).setCell ⟨g, 5, none⟩ (Value.int .i64 0)).setCell ⟨g, 6, none⟩ (Value.int .i64 0)).setCell ⟨g, 7, none⟩ (Value.int .i64 0)) = x) := ⟨_, Lib.hid rfl⟩
  have b2 : w2.heap[g]? = some (.cells #[Value.int .i64 0, .string ⟨#[]⟩, .string ⟨#[]⟩, .int .i64 0, .int .i64 0, .int .i64 0, .int .i64 0, .int .i64 0] 66) := by
    rw [← H2.out]
    exact blk_set (blk_set (blk_set (blk_set (blk_set (blk_set (blk_set (blk_set b1 0 _) 1 _) 2 _) 3 _) 4 _) 5 _) 6 _) 7 _
  have hgs := Hg.out
  have hle : w.heap.size ≤ g := Nat.le_of_eq hgs
  have x2 : Ext w w2 := by
    rw [← H2.out]
    exact (((((((x1.setCell (p := ⟨g, 0, none⟩) hle _).setCell (p := ⟨g, 1, none⟩) hle _).setCell (p := ⟨g, 2, none⟩) hle _).setCell (p := ⟨g, 3, none⟩) hle _).setCell (p := ⟨g, 4, none⟩) hle _).setCell (p := ⟨g, 5, none⟩) hle _).setCell (p := ⟨g, 6, none⟩) hle _).setCell (p := ⟨g, 7, none⟩) hle _
  have hrb : rb < g := by have := h.lt'; omega
  have hbl : blk < g := by have := h.lt; omega
  have n1 : rb ∉ [g] := by simp; omega
  have n2 : blk ∉ [g] := by simp; omega
  have n3 : g ∉ [rb] := by simp; omega
  have d0 : w1.cell? ⟨g, 0, none⟩ = some (Value.int .i64 0) := by simp [World.cell?, b1]
  have f0 : w1.frozen? ⟨g, 0, none⟩ = false := by simp [World.frozen?, b1]
  have d1 : w1.cell? ⟨g, 1, none⟩ = some (Value.string ⟨#[]⟩) := by simp [World.cell?, b1]
  have f1 : w1.frozen? ⟨g, 1, none⟩ = false := by simp [World.frozen?, b1]
  have d2 : w1.cell? ⟨g, 2, none⟩ = some (Value.string ⟨#[]⟩) := by simp [World.cell?, b1]
  have f2 : w1.frozen? ⟨g, 2, none⟩ = false := by simp [World.frozen?, b1]
  have d3 : w1.cell? ⟨g, 3, none⟩ = some (Value.int .i64 0) := by simp [World.cell?, b1]
  have f3 : w1.frozen? ⟨g, 3, none⟩ = false := by simp [World.frozen?, b1]
  have d4 : w1.cell? ⟨g, 4, none⟩ = some (Value.int .i64 0) := by simp [World.cell?, b1]
  have f4 : w1.frozen? ⟨g, 4, none⟩ = false := by simp [World.frozen?, b1]
  have d5 : w1.cell? ⟨g, 5, none⟩ = some (Value.int .i64 0) := by simp [World.cell?, b1]
  have f5 : w1.frozen? ⟨g, 5, none⟩ = false := by simp [World.frozen?, b1]
  have d6 : w1.cell? ⟨g, 6, none⟩ = some (Value.int .i64 0) := by simp [World.cell?, b1]
  have f6 : w1.frozen? ⟨g, 6, none⟩ = false := by simp [World.frozen?, b1]
  have d7 : w1.cell? ⟨g, 7, none⟩ = some (Value.int .i64 0) := by simp [World.cell?, b1]
  have f7 : w1.frozen? ⟨g, 7, none⟩ = false := by simp [World.frozen?, b1]
  have h1 := H1.out
  have h2 := H2.out
  have k2 : Chg [rb] w w2 := Chg.of_ext x2
  have R2 := h.ext x2
  have Hx2 := Lib.hid x2
  clear x1 x2 b1 hrb hbl hle
  have Hn1 := Lib.hid n1
  have Hn2 := Lib.hid n2
  have Hn3 := Lib.hid n3
  clear n1 n2 n3
  go_enter Tryz.func14, Tryz.ntmps14
  go_wp2_with fail
  clear h1 h2 hgs d0 f0 d1 f1 d2 f2 d3 f3 d4 f4 d5 f5 d6 f6 d7 f7
  refine (num_any w2 rb blk off c x0 _ r R2 h0).mono ?_
  rintro e w3 ⟨rfl, R3, k3⟩
  have b3 : w3.heap[g]? = some (.cells #[Value.int .i64 0, .string ⟨#[]⟩, .string ⟨#[]⟩, .int .i64 0, .int .i64 0, .int .i64 0, .int .i64 0, .int .i64 0] 66) := (k3.block g (Array.getElem?_eq_some_iff.1 b2).1 Hn3.out).trans b2
  have K3 := k2.trans k3
  have d0 : w3.cell? ⟨g, 0, none⟩ = some (Value.int .i64 0) := by simp [World.cell?, b3]
  have f0 : w3.frozen? ⟨g, 0, none⟩ = false := by simp [World.frozen?, b3]
  obtain ⟨u4, U4⟩ : ∃ x, Hid ((w3.setCell ⟨g, 0, none⟩ (Value.int .i64 5)) = x) := ⟨_, Lib.hid rfl⟩
  have b4 : u4.heap[g]? = some (.cells #[Value.int .i64 5, .string ⟨#[]⟩, .string ⟨#[]⟩, .int .i64 0, .int .i64 0, .int .i64 0, .int .i64 0, .int .i64 0] 66) := by rw [← U4.out]; exact (blk_set b3 0 _)
  have kg4 : Chg [g] w3 u4 := by rw [← U4.out]; exact ((Chg.refl [g] w3).set g 0 _ (by simp))
  have R4 := R3.chg kg4 Hn1.out Hn2.out
  have K4 : Chg [rb] w u4 := chg_new K3 kg4 Hg.out
  have ru4 := U4.out
  have Hk4 := Lib.hid kg4
  clear kg4
  go_wp2_with fail
  clear ru4 d0 f0
  refine (rword_any u4 rb blk (off + 1) (c - 1) u _ R4).mono ?_
  rintro e w5 ⟨rfl, R5, k5⟩
  have b5 : w5.heap[g]? = some (.cells #[Value.int .i64 5, .string ⟨#[]⟩, .string ⟨#[]⟩, .int .i64 0, .int .i64 0, .int .i64 0, .int .i64 0, .int .i64 0] 66) := (k5.block g (Array.getElem?_eq_some_iff.1 b4).1 Hn3.out).trans b4
  have K5 := K4.trans k5
  have d2 : w5.cell? ⟨g, 2, none⟩ = some (Value.string ⟨#[]⟩) := by simp [World.cell?, b5]
  have f2 : w5.frozen? ⟨g, 2, none⟩ = false := by simp [World.frozen?, b5]
  obtain ⟨u6, U6⟩ : ∃ x, Hid ((w5.setCell ⟨g, 2, none⟩ (Value.string u)) = x) := ⟨_, Lib.hid rfl⟩
  have b6 : u6.heap[g]? = some (.cells #[Value.int .i64 5, .string ⟨#[]⟩, .string u, .int .i64 0, .int .i64 0, .int .i64 0, .int .i64 0, .int .i64 0] 66) := by rw [← U6.out]; exact (blk_set b5 2 _)
  have kg6 : Chg [g] w5 u6 := by rw [← U6.out]; exact ((Chg.refl [g] w5).set g 2 _ (by simp))
  have R6 := R5.chg kg6 Hn1.out Hn2.out
  have K6 : Chg [rb] w u6 := chg_new K5 kg6 Hg.out
  have ru6 := U6.out
  have Hk6 := Lib.hid kg6
  clear kg6
  have c0 : u6.cell? ⟨g, 0, none⟩ = some (Value.int .i64 5) := by simp [World.cell?, b6]
  have c1 : u6.cell? ⟨g, 1, none⟩ = some (Value.string ⟨#[]⟩) := by simp [World.cell?, b6]
  have c2 : u6.cell? ⟨g, 2, none⟩ = some (Value.string u) := by simp [World.cell?, b6]
  have c3 : u6.cell? ⟨g, 3, none⟩ = some (Value.int .i64 0) := by simp [World.cell?, b6]
  have c4 : u6.cell? ⟨g, 4, none⟩ = some (Value.int .i64 0) := by simp [World.cell?, b6]
  have c5 : u6.cell? ⟨g, 5, none⟩ = some (Value.int .i64 0) := by simp [World.cell?, b6]
  have c6 : u6.cell? ⟨g, 6, none⟩ = some (Value.int .i64 0) := by simp [World.cell?, b6]
  have c7 : u6.cell? ⟨g, 7, none⟩ = some (Value.int .i64 0) := by simp [World.cell?, b6]
  have km := fun W => made_any W r ⟨5, ⟨#[]⟩, u, ⟨0, 0⟩, ⟨0, 0⟩, 0⟩
  simp only [Cl.L] at km
  go_wp2_with fail
  clear ru6 d2 f2
  refine (km _).mono ?_
  rintro e wz ⟨v, rfl, hM, xz⟩
  go_wp2
  go_ret
  exact ⟨_, _, _, rfl, hM, R6.ext xz, K6.ext xz⟩
set_option maxHeartbeats 4000000 in
theorem calls_open (w : World) (rb blk off c : Nat) (x0 : ByteArray) (r : Int) (u : ByteArray) (h0 : Spells x0 r) (h : RdAt w rb blk off c (x0 :: [u])) :
    Calls Tryz.prog 14 #[.pointer (some ⟨rb, 0, none⟩), .string ⟨#[111, 112, 101, 110]⟩] w fun e w' => ∃ v off' c', e = .returned v ∧ MadeAt w' v r ⟨1, u, ⟨#[]⟩, ⟨0, 0⟩, ⟨0, 0⟩, 0⟩ ∧ RdAt w' rb blk off' c' [] ∧ Chg [rb] w w' := by
  obtain ⟨g, Hg⟩ : ∃ h, Hid (w.heap.size = h) := ⟨_, Lib.hid rfl⟩
  obtain ⟨w1, H1⟩ : ∃ x, Hid (w.alloc (.cells #[Value.int .i64 0, .string ⟨#[]⟩, .string ⟨#[]⟩, .int .i64 0, .int .i64 0, .int .i64 0, .int .i64 0, .int .i64 0] 66) = x) := ⟨_, Lib.hid rfl⟩
  have b1 : w1.heap[g]? = some (.cells #[Value.int .i64 0, .string ⟨#[]⟩, .string ⟨#[]⟩, .int .i64 0, .int .i64 0, .int .i64 0, .int .i64 0, .int .i64 0] 66) := by rw [← H1.out, ← Hg.out]; exact Array.getElem?_push_size
  have x1 : Ext w w1 := by rw [← H1.out]; exact (Ext.refl w).alloc _
  obtain ⟨w2, H2⟩ : ∃ x, Hid (((((((((w1.setCell ⟨g, 0, none⟩ (Value.int .i64 0)).setCell ⟨g, 1, none⟩ (Value.string ⟨#[]⟩)).setCell ⟨g, 2, none⟩ (Value.string ⟨#[]⟩)).setCell ⟨g, 3, none⟩ (Value.int .i64 0)).setCell ⟨g, 4, none⟩ (Value.int .i64 0)).setCell ⟨g, 5, none⟩ (Value.int .i64 0)).setCell ⟨g, 6, none⟩ (Value.int .i64 0)).setCell ⟨g, 7, none⟩ (Value.int .i64 0)) = x) := ⟨_, Lib.hid rfl⟩
  have b2 : w2.heap[g]? = some (.cells #[Value.int .i64 0, .string ⟨#[]⟩, .string ⟨#[]⟩, .int .i64 0, .int .i64 0, .int .i64 0, .int .i64 0, .int .i64 0] 66) := by
    rw [← H2.out]
    exact blk_set (blk_set (blk_set (blk_set (blk_set (blk_set (blk_set (blk_set b1 0 _) 1 _) 2 _) 3 _) 4 _) 5 _) 6 _) 7 _
  have hgs := Hg.out
  have hle : w.heap.size ≤ g := Nat.le_of_eq hgs
  have x2 : Ext w w2 := by
    rw [← H2.out]
    exact (((((((x1.setCell (p := ⟨g, 0, none⟩) hle _).setCell (p := ⟨g, 1, none⟩) hle _).setCell (p := ⟨g, 2, none⟩) hle _).setCell (p := ⟨g, 3, none⟩) hle _).setCell (p := ⟨g, 4, none⟩) hle _).setCell (p := ⟨g, 5, none⟩) hle _).setCell (p := ⟨g, 6, none⟩) hle _).setCell (p := ⟨g, 7, none⟩) hle _
  have hrb : rb < g := by have := h.lt'; omega
  have hbl : blk < g := by have := h.lt; omega
  have n1 : rb ∉ [g] := by simp; omega
  have n2 : blk ∉ [g] := by simp; omega
  have n3 : g ∉ [rb] := by simp; omega
  have d0 : w1.cell? ⟨g, 0, none⟩ = some (Value.int .i64 0) := by simp [World.cell?, b1]
  have f0 : w1.frozen? ⟨g, 0, none⟩ = false := by simp [World.frozen?, b1]
  have d1 : w1.cell? ⟨g, 1, none⟩ = some (Value.string ⟨#[]⟩) := by simp [World.cell?, b1]
  have f1 : w1.frozen? ⟨g, 1, none⟩ = false := by simp [World.frozen?, b1]
  have d2 : w1.cell? ⟨g, 2, none⟩ = some (Value.string ⟨#[]⟩) := by simp [World.cell?, b1]
  have f2 : w1.frozen? ⟨g, 2, none⟩ = false := by simp [World.frozen?, b1]
  have d3 : w1.cell? ⟨g, 3, none⟩ = some (Value.int .i64 0) := by simp [World.cell?, b1]
  have f3 : w1.frozen? ⟨g, 3, none⟩ = false := by simp [World.frozen?, b1]
  have d4 : w1.cell? ⟨g, 4, none⟩ = some (Value.int .i64 0) := by simp [World.cell?, b1]
  have f4 : w1.frozen? ⟨g, 4, none⟩ = false := by simp [World.frozen?, b1]
  have d5 : w1.cell? ⟨g, 5, none⟩ = some (Value.int .i64 0) := by simp [World.cell?, b1]
  have f5 : w1.frozen? ⟨g, 5, none⟩ = false := by simp [World.frozen?, b1]
  have d6 : w1.cell? ⟨g, 6, none⟩ = some (Value.int .i64 0) := by simp [World.cell?, b1]
  have f6 : w1.frozen? ⟨g, 6, none⟩ = false := by simp [World.frozen?, b1]
  have d7 : w1.cell? ⟨g, 7, none⟩ = some (Value.int .i64 0) := by simp [World.cell?, b1]
  have f7 : w1.frozen? ⟨g, 7, none⟩ = false := by simp [World.frozen?, b1]
  have h1 := H1.out
  have h2 := H2.out
  have k2 : Chg [rb] w w2 := Chg.of_ext x2
  have R2 := h.ext x2
  have Hx2 := Lib.hid x2
  clear x1 x2 b1 hrb hbl hle
  have Hn1 := Lib.hid n1
  have Hn2 := Lib.hid n2
  have Hn3 := Lib.hid n3
  clear n1 n2 n3
  go_enter Tryz.func14, Tryz.ntmps14
  go_wp2_with fail
  clear h1 h2 hgs d0 f0 d1 f1 d2 f2 d3 f3 d4 f4 d5 f5 d6 f6 d7 f7
  refine (num_any w2 rb blk off c x0 _ r R2 h0).mono ?_
  rintro e w3 ⟨rfl, R3, k3⟩
  have b3 : w3.heap[g]? = some (.cells #[Value.int .i64 0, .string ⟨#[]⟩, .string ⟨#[]⟩, .int .i64 0, .int .i64 0, .int .i64 0, .int .i64 0, .int .i64 0] 66) := (k3.block g (Array.getElem?_eq_some_iff.1 b2).1 Hn3.out).trans b2
  have K3 := k2.trans k3
  have d0 : w3.cell? ⟨g, 0, none⟩ = some (Value.int .i64 0) := by simp [World.cell?, b3]
  have f0 : w3.frozen? ⟨g, 0, none⟩ = false := by simp [World.frozen?, b3]
  obtain ⟨u4, U4⟩ : ∃ x, Hid ((w3.setCell ⟨g, 0, none⟩ (Value.int .i64 1)) = x) := ⟨_, Lib.hid rfl⟩
  have b4 : u4.heap[g]? = some (.cells #[Value.int .i64 1, .string ⟨#[]⟩, .string ⟨#[]⟩, .int .i64 0, .int .i64 0, .int .i64 0, .int .i64 0, .int .i64 0] 66) := by rw [← U4.out]; exact (blk_set b3 0 _)
  have kg4 : Chg [g] w3 u4 := by rw [← U4.out]; exact ((Chg.refl [g] w3).set g 0 _ (by simp))
  have R4 := R3.chg kg4 Hn1.out Hn2.out
  have K4 : Chg [rb] w u4 := chg_new K3 kg4 Hg.out
  have ru4 := U4.out
  have Hk4 := Lib.hid kg4
  clear kg4
  go_wp2_with fail
  clear ru4 d0 f0
  refine (rword_any u4 rb blk (off + 1) (c - 1) u _ R4).mono ?_
  rintro e w5 ⟨rfl, R5, k5⟩
  have b5 : w5.heap[g]? = some (.cells #[Value.int .i64 1, .string ⟨#[]⟩, .string ⟨#[]⟩, .int .i64 0, .int .i64 0, .int .i64 0, .int .i64 0, .int .i64 0] 66) := (k5.block g (Array.getElem?_eq_some_iff.1 b4).1 Hn3.out).trans b4
  have K5 := K4.trans k5
  have d1 : w5.cell? ⟨g, 1, none⟩ = some (Value.string ⟨#[]⟩) := by simp [World.cell?, b5]
  have f1 : w5.frozen? ⟨g, 1, none⟩ = false := by simp [World.frozen?, b5]
  obtain ⟨u6, U6⟩ : ∃ x, Hid ((w5.setCell ⟨g, 1, none⟩ (Value.string u)) = x) := ⟨_, Lib.hid rfl⟩
  have b6 : u6.heap[g]? = some (.cells #[Value.int .i64 1, .string u, .string ⟨#[]⟩, .int .i64 0, .int .i64 0, .int .i64 0, .int .i64 0, .int .i64 0] 66) := by rw [← U6.out]; exact (blk_set b5 1 _)
  have kg6 : Chg [g] w5 u6 := by rw [← U6.out]; exact ((Chg.refl [g] w5).set g 1 _ (by simp))
  have R6 := R5.chg kg6 Hn1.out Hn2.out
  have K6 : Chg [rb] w u6 := chg_new K5 kg6 Hg.out
  have ru6 := U6.out
  have Hk6 := Lib.hid kg6
  clear kg6
  have c0 : u6.cell? ⟨g, 0, none⟩ = some (Value.int .i64 1) := by simp [World.cell?, b6]
  have c1 : u6.cell? ⟨g, 1, none⟩ = some (Value.string u) := by simp [World.cell?, b6]
  have c2 : u6.cell? ⟨g, 2, none⟩ = some (Value.string ⟨#[]⟩) := by simp [World.cell?, b6]
  have c3 : u6.cell? ⟨g, 3, none⟩ = some (Value.int .i64 0) := by simp [World.cell?, b6]
  have c4 : u6.cell? ⟨g, 4, none⟩ = some (Value.int .i64 0) := by simp [World.cell?, b6]
  have c5 : u6.cell? ⟨g, 5, none⟩ = some (Value.int .i64 0) := by simp [World.cell?, b6]
  have c6 : u6.cell? ⟨g, 6, none⟩ = some (Value.int .i64 0) := by simp [World.cell?, b6]
  have c7 : u6.cell? ⟨g, 7, none⟩ = some (Value.int .i64 0) := by simp [World.cell?, b6]
  have km := fun W => made_any W r ⟨1, u, ⟨#[]⟩, ⟨0, 0⟩, ⟨0, 0⟩, 0⟩
  simp only [Cl.L] at km
  go_wp2_with fail
  clear ru6 d1 f1
  refine (km _).mono ?_
  rintro e wz ⟨v, rfl, hM, xz⟩
  go_wp2
  go_ret
  exact ⟨_, _, _, rfl, hM, R6.ext xz, K6.ext xz⟩
set_option maxHeartbeats 4000000 in
theorem calls_bid (w : World) (rb blk off c : Nat) (x0 : ByteArray) (r : Int) (m : Int) (hm : w.cell? ⟨0, 0, none⟩ = some (.int .i64 m)) (hrb : rb ≠ 0) (y a b : ByteArray) (ar an : Int) (hy : y.size < 4294967281) (hcut : Lib.cut y.data.toList [46] = (a.data.toList, b.data.toList, true)) (ha : Spells a ar) (hb : Spells b an) (u z : ByteArray) (am : Int) (hz : Spells z am) (h0 : Spells x0 r) (h : RdAt w rb blk off c (x0 :: [y, u, z])) :
    Calls Tryz.prog 14 #[.pointer (some ⟨rb, 0, none⟩), .string ⟨#[98, 105, 100]⟩] w fun e w' => ∃ v off' c', e = .returned v ∧ MadeAt w' v r ⟨2, ⟨#[]⟩, u, ⟨ar, an⟩, ⟨0, 0⟩, am⟩ ∧ RdAt w' rb blk off' c' [] ∧ Chg [rb] w w' := by
  obtain ⟨g, Hg⟩ : ∃ h, Hid (w.heap.size = h) := ⟨_, Lib.hid rfl⟩
  obtain ⟨w1, H1⟩ : ∃ x, Hid (w.alloc (.cells #[Value.int .i64 0, .string ⟨#[]⟩, .string ⟨#[]⟩, .int .i64 0, .int .i64 0, .int .i64 0, .int .i64 0, .int .i64 0] 66) = x) := ⟨_, Lib.hid rfl⟩
  have b1 : w1.heap[g]? = some (.cells #[Value.int .i64 0, .string ⟨#[]⟩, .string ⟨#[]⟩, .int .i64 0, .int .i64 0, .int .i64 0, .int .i64 0, .int .i64 0] 66) := by rw [← H1.out, ← Hg.out]; exact Array.getElem?_push_size
  have x1 : Ext w w1 := by rw [← H1.out]; exact (Ext.refl w).alloc _
  obtain ⟨w2, H2⟩ : ∃ x, Hid (((((((((w1.setCell ⟨g, 0, none⟩ (Value.int .i64 0)).setCell ⟨g, 1, none⟩ (Value.string ⟨#[]⟩)).setCell ⟨g, 2, none⟩ (Value.string ⟨#[]⟩)).setCell ⟨g, 3, none⟩ (Value.int .i64 0)).setCell ⟨g, 4, none⟩ (Value.int .i64 0)).setCell ⟨g, 5, none⟩ (Value.int .i64 0)).setCell ⟨g, 6, none⟩ (Value.int .i64 0)).setCell ⟨g, 7, none⟩ (Value.int .i64 0)) = x) := ⟨_, Lib.hid rfl⟩
  have b2 : w2.heap[g]? = some (.cells #[Value.int .i64 0, .string ⟨#[]⟩, .string ⟨#[]⟩, .int .i64 0, .int .i64 0, .int .i64 0, .int .i64 0, .int .i64 0] 66) := by
    rw [← H2.out]
    exact blk_set (blk_set (blk_set (blk_set (blk_set (blk_set (blk_set (blk_set b1 0 _) 1 _) 2 _) 3 _) 4 _) 5 _) 6 _) 7 _
  have hgs := Hg.out
  have hle : w.heap.size ≤ g := Nat.le_of_eq hgs
  have x2 : Ext w w2 := by
    rw [← H2.out]
    exact (((((((x1.setCell (p := ⟨g, 0, none⟩) hle _).setCell (p := ⟨g, 1, none⟩) hle _).setCell (p := ⟨g, 2, none⟩) hle _).setCell (p := ⟨g, 3, none⟩) hle _).setCell (p := ⟨g, 4, none⟩) hle _).setCell (p := ⟨g, 5, none⟩) hle _).setCell (p := ⟨g, 6, none⟩) hle _).setCell (p := ⟨g, 7, none⟩) hle _
  have hrb : rb < g := by have := h.lt'; omega
  have hbl : blk < g := by have := h.lt; omega
  have n1 : rb ∉ [g] := by simp; omega
  have n2 : blk ∉ [g] := by simp; omega
  have n3 : g ∉ [rb] := by simp; omega
  have d0 : w1.cell? ⟨g, 0, none⟩ = some (Value.int .i64 0) := by simp [World.cell?, b1]
  have f0 : w1.frozen? ⟨g, 0, none⟩ = false := by simp [World.frozen?, b1]
  have d1 : w1.cell? ⟨g, 1, none⟩ = some (Value.string ⟨#[]⟩) := by simp [World.cell?, b1]
  have f1 : w1.frozen? ⟨g, 1, none⟩ = false := by simp [World.frozen?, b1]
  have d2 : w1.cell? ⟨g, 2, none⟩ = some (Value.string ⟨#[]⟩) := by simp [World.cell?, b1]
  have f2 : w1.frozen? ⟨g, 2, none⟩ = false := by simp [World.frozen?, b1]
  have d3 : w1.cell? ⟨g, 3, none⟩ = some (Value.int .i64 0) := by simp [World.cell?, b1]
  have f3 : w1.frozen? ⟨g, 3, none⟩ = false := by simp [World.frozen?, b1]
  have d4 : w1.cell? ⟨g, 4, none⟩ = some (Value.int .i64 0) := by simp [World.cell?, b1]
  have f4 : w1.frozen? ⟨g, 4, none⟩ = false := by simp [World.frozen?, b1]
  have d5 : w1.cell? ⟨g, 5, none⟩ = some (Value.int .i64 0) := by simp [World.cell?, b1]
  have f5 : w1.frozen? ⟨g, 5, none⟩ = false := by simp [World.frozen?, b1]
  have d6 : w1.cell? ⟨g, 6, none⟩ = some (Value.int .i64 0) := by simp [World.cell?, b1]
  have f6 : w1.frozen? ⟨g, 6, none⟩ = false := by simp [World.frozen?, b1]
  have d7 : w1.cell? ⟨g, 7, none⟩ = some (Value.int .i64 0) := by simp [World.cell?, b1]
  have f7 : w1.frozen? ⟨g, 7, none⟩ = false := by simp [World.frozen?, b1]
  have h1 := H1.out
  have h2 := H2.out
  have k2 : Chg [rb] w w2 := Chg.of_ext x2
  have R2 := h.ext x2
  have Hx2 := Lib.hid x2
  clear x1 x2 b1 hrb hbl hle
  have Hn1 := Lib.hid n1
  have Hn2 := Lib.hid n2
  have Hn3 := Lib.hid n3
  clear n1 n2 n3
  have kd := fun W o c ws h hm => dot_read W rb blk o c y a b ws ar an m h hm hrb hy hcut ha hb
  unfold dotv at kd
  go_enter Tryz.func14, Tryz.ntmps14
  go_wp2_with fail
  clear h1 h2 hgs d0 f0 d1 f1 d2 f2 d3 f3 d4 f4 d5 f5 d6 f6 d7 f7
  refine (num_any w2 rb blk off c x0 _ r R2 h0).mono ?_
  rintro e w3 ⟨rfl, R3, k3⟩
  have b3 : w3.heap[g]? = some (.cells #[Value.int .i64 0, .string ⟨#[]⟩, .string ⟨#[]⟩, .int .i64 0, .int .i64 0, .int .i64 0, .int .i64 0, .int .i64 0] 66) := (k3.block g (Array.getElem?_eq_some_iff.1 b2).1 Hn3.out).trans b2
  have K3 := k2.trans k3
  have d0 : w3.cell? ⟨g, 0, none⟩ = some (Value.int .i64 0) := by simp [World.cell?, b3]
  have f0 : w3.frozen? ⟨g, 0, none⟩ = false := by simp [World.frozen?, b3]
  obtain ⟨u4, U4⟩ : ∃ x, Hid ((w3.setCell ⟨g, 0, none⟩ (Value.int .i64 2)) = x) := ⟨_, Lib.hid rfl⟩
  have b4 : u4.heap[g]? = some (.cells #[Value.int .i64 2, .string ⟨#[]⟩, .string ⟨#[]⟩, .int .i64 0, .int .i64 0, .int .i64 0, .int .i64 0, .int .i64 0] 66) := by rw [← U4.out]; exact (blk_set b3 0 _)
  have kg4 : Chg [g] w3 u4 := by rw [← U4.out]; exact ((Chg.refl [g] w3).set g 0 _ (by simp))
  have R4 := R3.chg kg4 Hn1.out Hn2.out
  have K4 : Chg [rb] w u4 := chg_new K3 kg4 Hg.out
  have ru4 := U4.out
  have Hk4 := Lib.hid kg4
  clear kg4
  go_wp2_with fail
  clear ru4 d0 f0
  refine (kd u4 _ _ _ R4 (chg_cell K4 hm hrb)).mono ?_
  rintro e w5 ⟨rfl, R5, k5⟩
  have b5 : w5.heap[g]? = some (.cells #[Value.int .i64 2, .string ⟨#[]⟩, .string ⟨#[]⟩, .int .i64 0, .int .i64 0, .int .i64 0, .int .i64 0, .int .i64 0] 66) := (k5.block g (Array.getElem?_eq_some_iff.1 b4).1 Hn3.out).trans b4
  have K5 := K4.trans k5
  have d3 : w5.cell? ⟨g, 3, none⟩ = some (Value.int .i64 0) := by simp [World.cell?, b5]
  have f3 : w5.frozen? ⟨g, 3, none⟩ = false := by simp [World.frozen?, b5]
  have d4 : w5.cell? ⟨g, 4, none⟩ = some (Value.int .i64 0) := by simp [World.cell?, b5]
  have f4 : w5.frozen? ⟨g, 4, none⟩ = false := by simp [World.frozen?, b5]
  obtain ⟨u6, U6⟩ : ∃ x, Hid (((w5.setCell ⟨g, 3, none⟩ (Value.int .i64 ar)).setCell ⟨g, 4, none⟩ (Value.int .i64 an)) = x) := ⟨_, Lib.hid rfl⟩
  have b6 : u6.heap[g]? = some (.cells #[Value.int .i64 2, .string ⟨#[]⟩, .string ⟨#[]⟩, .int .i64 ar, .int .i64 an, .int .i64 0, .int .i64 0, .int .i64 0] 66) := by rw [← U6.out]; exact (blk_set (blk_set b5 3 _) 4 _)
  have kg6 : Chg [g] w5 u6 := by rw [← U6.out]; exact (((Chg.refl [g] w5).set g 3 _ (by simp)).set g 4 _ (by simp))
  have R6 := R5.chg kg6 Hn1.out Hn2.out
  have K6 : Chg [rb] w u6 := chg_new K5 kg6 Hg.out
  have ru6 := U6.out
  have Hk6 := Lib.hid kg6
  clear kg6
  go_wp2_with fail
  clear ru6 d3 f3 d4 f4
  refine (rword_any u6 rb blk _ _ u _ R6).mono ?_
  rintro e w7 ⟨rfl, R7, k7⟩
  have b7 : w7.heap[g]? = some (.cells #[Value.int .i64 2, .string ⟨#[]⟩, .string ⟨#[]⟩, .int .i64 ar, .int .i64 an, .int .i64 0, .int .i64 0, .int .i64 0] 66) := (k7.block g (Array.getElem?_eq_some_iff.1 b6).1 Hn3.out).trans b6
  have K7 := K6.trans k7
  have d2 : w7.cell? ⟨g, 2, none⟩ = some (Value.string ⟨#[]⟩) := by simp [World.cell?, b7]
  have f2 : w7.frozen? ⟨g, 2, none⟩ = false := by simp [World.frozen?, b7]
  obtain ⟨u8, U8⟩ : ∃ x, Hid ((w7.setCell ⟨g, 2, none⟩ (Value.string u)) = x) := ⟨_, Lib.hid rfl⟩
  have b8 : u8.heap[g]? = some (.cells #[Value.int .i64 2, .string ⟨#[]⟩, .string u, .int .i64 ar, .int .i64 an, .int .i64 0, .int .i64 0, .int .i64 0] 66) := by rw [← U8.out]; exact (blk_set b7 2 _)
  have kg8 : Chg [g] w7 u8 := by rw [← U8.out]; exact ((Chg.refl [g] w7).set g 2 _ (by simp))
  have R8 := R7.chg kg8 Hn1.out Hn2.out
  have K8 : Chg [rb] w u8 := chg_new K7 kg8 Hg.out
  have ru8 := U8.out
  have Hk8 := Lib.hid kg8
  clear kg8
  go_wp2_with fail
  clear ru8 d2 f2
  refine (num_any u8 rb blk _ _ z _ am R8 hz).mono ?_
  rintro e w9 ⟨rfl, R9, k9⟩
  have b9 : w9.heap[g]? = some (.cells #[Value.int .i64 2, .string ⟨#[]⟩, .string u, .int .i64 ar, .int .i64 an, .int .i64 0, .int .i64 0, .int .i64 0] 66) := (k9.block g (Array.getElem?_eq_some_iff.1 b8).1 Hn3.out).trans b8
  have K9 := K8.trans k9
  have d7 : w9.cell? ⟨g, 7, none⟩ = some (Value.int .i64 0) := by simp [World.cell?, b9]
  have f7 : w9.frozen? ⟨g, 7, none⟩ = false := by simp [World.frozen?, b9]
  obtain ⟨u10, U10⟩ : ∃ x, Hid ((w9.setCell ⟨g, 7, none⟩ (Value.int .i64 am)) = x) := ⟨_, Lib.hid rfl⟩
  have b10 : u10.heap[g]? = some (.cells #[Value.int .i64 2, .string ⟨#[]⟩, .string u, .int .i64 ar, .int .i64 an, .int .i64 0, .int .i64 0, .int .i64 am] 66) := by rw [← U10.out]; exact (blk_set b9 7 _)
  have kg10 : Chg [g] w9 u10 := by rw [← U10.out]; exact ((Chg.refl [g] w9).set g 7 _ (by simp))
  have R10 := R9.chg kg10 Hn1.out Hn2.out
  have K10 : Chg [rb] w u10 := chg_new K9 kg10 Hg.out
  have ru10 := U10.out
  have Hk10 := Lib.hid kg10
  clear kg10
  have c0 : u10.cell? ⟨g, 0, none⟩ = some (Value.int .i64 2) := by simp [World.cell?, b10]
  have c1 : u10.cell? ⟨g, 1, none⟩ = some (Value.string ⟨#[]⟩) := by simp [World.cell?, b10]
  have c2 : u10.cell? ⟨g, 2, none⟩ = some (Value.string u) := by simp [World.cell?, b10]
  have c3 : u10.cell? ⟨g, 3, none⟩ = some (Value.int .i64 ar) := by simp [World.cell?, b10]
  have c4 : u10.cell? ⟨g, 4, none⟩ = some (Value.int .i64 an) := by simp [World.cell?, b10]
  have c5 : u10.cell? ⟨g, 5, none⟩ = some (Value.int .i64 0) := by simp [World.cell?, b10]
  have c6 : u10.cell? ⟨g, 6, none⟩ = some (Value.int .i64 0) := by simp [World.cell?, b10]
  have c7 : u10.cell? ⟨g, 7, none⟩ = some (Value.int .i64 am) := by simp [World.cell?, b10]
  have km := fun W => made_any W r ⟨2, ⟨#[]⟩, u, ⟨ar, an⟩, ⟨0, 0⟩, am⟩
  simp only [Cl.L] at km
  go_wp2_with fail
  clear ru10 d7 f7
  refine (km _).mono ?_
  rintro e wz ⟨v, rfl, hM, xz⟩
  go_wp2
  go_ret
  exact ⟨_, _, _, rfl, hM, R10.ext xz, K10.ext xz⟩
set_option maxHeartbeats 4000000 in
theorem calls_close (w : World) (rb blk off c : Nat) (x0 : ByteArray) (r : Int) (m : Int) (hm : w.cell? ⟨0, 0, none⟩ = some (.int .i64 m)) (hrb : rb ≠ 0) (y a b : ByteArray) (ar an : Int) (hy : y.size < 4294967281) (hcut : Lib.cut y.data.toList [46] = (a.data.toList, b.data.toList, true)) (ha : Spells a ar) (hb : Spells b an)  (h0 : Spells x0 r) (h : RdAt w rb blk off c (x0 :: [y])) :
    Calls Tryz.prog 14 #[.pointer (some ⟨rb, 0, none⟩), .string ⟨#[99, 108, 111, 115, 101]⟩] w fun e w' => ∃ v off' c', e = .returned v ∧ MadeAt w' v r ⟨7, ⟨#[]⟩, ⟨#[]⟩, ⟨ar, an⟩, ⟨0, 0⟩, 0⟩ ∧ RdAt w' rb blk off' c' [] ∧ Chg [rb] w w' := by
  obtain ⟨g, Hg⟩ : ∃ h, Hid (w.heap.size = h) := ⟨_, Lib.hid rfl⟩
  obtain ⟨w1, H1⟩ : ∃ x, Hid (w.alloc (.cells #[Value.int .i64 0, .string ⟨#[]⟩, .string ⟨#[]⟩, .int .i64 0, .int .i64 0, .int .i64 0, .int .i64 0, .int .i64 0] 66) = x) := ⟨_, Lib.hid rfl⟩
  have b1 : w1.heap[g]? = some (.cells #[Value.int .i64 0, .string ⟨#[]⟩, .string ⟨#[]⟩, .int .i64 0, .int .i64 0, .int .i64 0, .int .i64 0, .int .i64 0] 66) := by rw [← H1.out, ← Hg.out]; exact Array.getElem?_push_size
  have x1 : Ext w w1 := by rw [← H1.out]; exact (Ext.refl w).alloc _
  obtain ⟨w2, H2⟩ : ∃ x, Hid (((((((((w1.setCell ⟨g, 0, none⟩ (Value.int .i64 0)).setCell ⟨g, 1, none⟩ (Value.string ⟨#[]⟩)).setCell ⟨g, 2, none⟩ (Value.string ⟨#[]⟩)).setCell ⟨g, 3, none⟩ (Value.int .i64 0)).setCell ⟨g, 4, none⟩ (Value.int .i64 0)).setCell ⟨g, 5, none⟩ (Value.int .i64 0)).setCell ⟨g, 6, none⟩ (Value.int .i64 0)).setCell ⟨g, 7, none⟩ (Value.int .i64 0)) = x) := ⟨_, Lib.hid rfl⟩
  have b2 : w2.heap[g]? = some (.cells #[Value.int .i64 0, .string ⟨#[]⟩, .string ⟨#[]⟩, .int .i64 0, .int .i64 0, .int .i64 0, .int .i64 0, .int .i64 0] 66) := by
    rw [← H2.out]
    exact blk_set (blk_set (blk_set (blk_set (blk_set (blk_set (blk_set (blk_set b1 0 _) 1 _) 2 _) 3 _) 4 _) 5 _) 6 _) 7 _
  have hgs := Hg.out
  have hle : w.heap.size ≤ g := Nat.le_of_eq hgs
  have x2 : Ext w w2 := by
    rw [← H2.out]
    exact (((((((x1.setCell (p := ⟨g, 0, none⟩) hle _).setCell (p := ⟨g, 1, none⟩) hle _).setCell (p := ⟨g, 2, none⟩) hle _).setCell (p := ⟨g, 3, none⟩) hle _).setCell (p := ⟨g, 4, none⟩) hle _).setCell (p := ⟨g, 5, none⟩) hle _).setCell (p := ⟨g, 6, none⟩) hle _).setCell (p := ⟨g, 7, none⟩) hle _
  have hrb : rb < g := by have := h.lt'; omega
  have hbl : blk < g := by have := h.lt; omega
  have n1 : rb ∉ [g] := by simp; omega
  have n2 : blk ∉ [g] := by simp; omega
  have n3 : g ∉ [rb] := by simp; omega
  have d0 : w1.cell? ⟨g, 0, none⟩ = some (Value.int .i64 0) := by simp [World.cell?, b1]
  have f0 : w1.frozen? ⟨g, 0, none⟩ = false := by simp [World.frozen?, b1]
  have d1 : w1.cell? ⟨g, 1, none⟩ = some (Value.string ⟨#[]⟩) := by simp [World.cell?, b1]
  have f1 : w1.frozen? ⟨g, 1, none⟩ = false := by simp [World.frozen?, b1]
  have d2 : w1.cell? ⟨g, 2, none⟩ = some (Value.string ⟨#[]⟩) := by simp [World.cell?, b1]
  have f2 : w1.frozen? ⟨g, 2, none⟩ = false := by simp [World.frozen?, b1]
  have d3 : w1.cell? ⟨g, 3, none⟩ = some (Value.int .i64 0) := by simp [World.cell?, b1]
  have f3 : w1.frozen? ⟨g, 3, none⟩ = false := by simp [World.frozen?, b1]
  have d4 : w1.cell? ⟨g, 4, none⟩ = some (Value.int .i64 0) := by simp [World.cell?, b1]
  have f4 : w1.frozen? ⟨g, 4, none⟩ = false := by simp [World.frozen?, b1]
  have d5 : w1.cell? ⟨g, 5, none⟩ = some (Value.int .i64 0) := by simp [World.cell?, b1]
  have f5 : w1.frozen? ⟨g, 5, none⟩ = false := by simp [World.frozen?, b1]
  have d6 : w1.cell? ⟨g, 6, none⟩ = some (Value.int .i64 0) := by simp [World.cell?, b1]
  have f6 : w1.frozen? ⟨g, 6, none⟩ = false := by simp [World.frozen?, b1]
  have d7 : w1.cell? ⟨g, 7, none⟩ = some (Value.int .i64 0) := by simp [World.cell?, b1]
  have f7 : w1.frozen? ⟨g, 7, none⟩ = false := by simp [World.frozen?, b1]
  have h1 := H1.out
  have h2 := H2.out
  have k2 : Chg [rb] w w2 := Chg.of_ext x2
  have R2 := h.ext x2
  have Hx2 := Lib.hid x2
  clear x1 x2 b1 hrb hbl hle
  have Hn1 := Lib.hid n1
  have Hn2 := Lib.hid n2
  have Hn3 := Lib.hid n3
  clear n1 n2 n3
  have kd := fun W o c ws h hm => dot_read W rb blk o c y a b ws ar an m h hm hrb hy hcut ha hb
  unfold dotv at kd
  go_enter Tryz.func14, Tryz.ntmps14
  go_wp2_with fail
  clear h1 h2 hgs d0 f0 d1 f1 d2 f2 d3 f3 d4 f4 d5 f5 d6 f6 d7 f7
  refine (num_any w2 rb blk off c x0 _ r R2 h0).mono ?_
  rintro e w3 ⟨rfl, R3, k3⟩
  have b3 : w3.heap[g]? = some (.cells #[Value.int .i64 0, .string ⟨#[]⟩, .string ⟨#[]⟩, .int .i64 0, .int .i64 0, .int .i64 0, .int .i64 0, .int .i64 0] 66) := (k3.block g (Array.getElem?_eq_some_iff.1 b2).1 Hn3.out).trans b2
  have K3 := k2.trans k3
  have d0 : w3.cell? ⟨g, 0, none⟩ = some (Value.int .i64 0) := by simp [World.cell?, b3]
  have f0 : w3.frozen? ⟨g, 0, none⟩ = false := by simp [World.frozen?, b3]
  obtain ⟨u4, U4⟩ : ∃ x, Hid ((w3.setCell ⟨g, 0, none⟩ (Value.int .i64 7)) = x) := ⟨_, Lib.hid rfl⟩
  have b4 : u4.heap[g]? = some (.cells #[Value.int .i64 7, .string ⟨#[]⟩, .string ⟨#[]⟩, .int .i64 0, .int .i64 0, .int .i64 0, .int .i64 0, .int .i64 0] 66) := by rw [← U4.out]; exact (blk_set b3 0 _)
  have kg4 : Chg [g] w3 u4 := by rw [← U4.out]; exact ((Chg.refl [g] w3).set g 0 _ (by simp))
  have R4 := R3.chg kg4 Hn1.out Hn2.out
  have K4 : Chg [rb] w u4 := chg_new K3 kg4 Hg.out
  have ru4 := U4.out
  have Hk4 := Lib.hid kg4
  clear kg4
  go_wp2_with fail
  clear ru4 d0 f0
  refine (kd u4 _ _ _ R4 (chg_cell K4 hm hrb)).mono ?_
  rintro e w5 ⟨rfl, R5, k5⟩
  have b5 : w5.heap[g]? = some (.cells #[Value.int .i64 7, .string ⟨#[]⟩, .string ⟨#[]⟩, .int .i64 0, .int .i64 0, .int .i64 0, .int .i64 0, .int .i64 0] 66) := (k5.block g (Array.getElem?_eq_some_iff.1 b4).1 Hn3.out).trans b4
  have K5 := K4.trans k5
  have d3 : w5.cell? ⟨g, 3, none⟩ = some (Value.int .i64 0) := by simp [World.cell?, b5]
  have f3 : w5.frozen? ⟨g, 3, none⟩ = false := by simp [World.frozen?, b5]
  have d4 : w5.cell? ⟨g, 4, none⟩ = some (Value.int .i64 0) := by simp [World.cell?, b5]
  have f4 : w5.frozen? ⟨g, 4, none⟩ = false := by simp [World.frozen?, b5]
  obtain ⟨u6, U6⟩ : ∃ x, Hid (((w5.setCell ⟨g, 3, none⟩ (Value.int .i64 ar)).setCell ⟨g, 4, none⟩ (Value.int .i64 an)) = x) := ⟨_, Lib.hid rfl⟩
  have b6 : u6.heap[g]? = some (.cells #[Value.int .i64 7, .string ⟨#[]⟩, .string ⟨#[]⟩, .int .i64 ar, .int .i64 an, .int .i64 0, .int .i64 0, .int .i64 0] 66) := by rw [← U6.out]; exact (blk_set (blk_set b5 3 _) 4 _)
  have kg6 : Chg [g] w5 u6 := by rw [← U6.out]; exact (((Chg.refl [g] w5).set g 3 _ (by simp)).set g 4 _ (by simp))
  have R6 := R5.chg kg6 Hn1.out Hn2.out
  have K6 : Chg [rb] w u6 := chg_new K5 kg6 Hg.out
  have ru6 := U6.out
  have Hk6 := Lib.hid kg6
  clear kg6
  have c0 : u6.cell? ⟨g, 0, none⟩ = some (Value.int .i64 7) := by simp [World.cell?, b6]
  have c1 : u6.cell? ⟨g, 1, none⟩ = some (Value.string ⟨#[]⟩) := by simp [World.cell?, b6]
  have c2 : u6.cell? ⟨g, 2, none⟩ = some (Value.string ⟨#[]⟩) := by simp [World.cell?, b6]
  have c3 : u6.cell? ⟨g, 3, none⟩ = some (Value.int .i64 ar) := by simp [World.cell?, b6]
  have c4 : u6.cell? ⟨g, 4, none⟩ = some (Value.int .i64 an) := by simp [World.cell?, b6]
  have c5 : u6.cell? ⟨g, 5, none⟩ = some (Value.int .i64 0) := by simp [World.cell?, b6]
  have c6 : u6.cell? ⟨g, 6, none⟩ = some (Value.int .i64 0) := by simp [World.cell?, b6]
  have c7 : u6.cell? ⟨g, 7, none⟩ = some (Value.int .i64 0) := by simp [World.cell?, b6]
  have km := fun W => made_any W r ⟨7, ⟨#[]⟩, ⟨#[]⟩, ⟨ar, an⟩, ⟨0, 0⟩, 0⟩
  simp only [Cl.L] at km
  go_wp2_with fail
  clear ru6 d3 f3 d4 f4
  refine (km _).mono ?_
  rintro e wz ⟨v, rfl, hM, xz⟩
  go_wp2
  go_ret
  exact ⟨_, _, _, rfl, hM, R6.ext xz, K6.ext xz⟩
end Go.Proofs.YtbemkefcaceekaaGreatDoor
