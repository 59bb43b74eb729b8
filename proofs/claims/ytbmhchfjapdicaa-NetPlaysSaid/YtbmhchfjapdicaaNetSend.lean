/- NetSend: the walks of net.New, Clear, Send, Double. -/
import Derived.Test.YtbmhchfjapdicaaNetBag
import Derived.Test.YtbmhchfjapdicaaRegion
set_option linter.unusedVariables false
set_option linter.unusedSimpArgs false
set_option maxRecDepth 100000
namespace Go.Proofs.Ytbmhchfjapdicaa
open Go.RowKit Go.Proofs.YtbmhchfjapdicaaW.PrintWords Go.Proofs.YtbmhchfjapdicaaW.PrintLast

def noV : Nat → Value := fun _ => .slice none 0 0
def noL : Nat → List Ent := fun _ => []
def noS : Nat → List (List UInt8) := fun _ => []

/-- A new net's block. -/
theorem netb_new (w : World) (T : TypeId) (n : Nat) (cs : Array Value) (hcs : cs.toList = .int .i64 (n : Int) :: List.replicate 49 (.slice none 0 0)) : NetB (w.alloc (.cells cs T)) T w.heap.size n noV := by
  refine ⟨cs, Array.getElem?_push_size, by rw [← Array.length_toList, hcs]; simp, by rw [← Array.getElem?_toList, hcs]; rfl, fun k hk => ?_⟩
  rw [← Array.getElem?_toList, hcs, Nat.add_comm, List.getElem?_cons_succ]
  rw [List.getElem?_replicate, if_pos hk]
  rfl
theorem net_new (w : World) (T : TypeId) (n : Nat) (cs : Array Value) (hcs : cs.toList = .int .i64 (n : Int) :: List.replicate 49 (.slice none 0 0)) (h1 : T ≠ 30) (h2 : T ≠ 5) : Net (w.alloc (.cells cs T)) T w.heap.size n noV noL :=
  ⟨netb_new w T n cs hcs, fun k _ => Bag.nil _, fun k k' _ _ _ b hb => (by cases hb), h1, h2⟩
theorem foot_new (g b : Nat) (h : foot noV g b) : b = g := by
  rcases h with h | ⟨k, _, hb⟩
  · exact h
  · cases hb
theorem holds_new : Holds noL noS := fun _ _ => rfl

set_option maxHeartbeats 800000 in
theorem new_bad (n : Int) (w : World) (h : n < 1 ∨ 7 < n) : Calls Try.prog 7 #[.int .i64 n] w fun e w' => e = .returned (.tuple #[.pointer none, .int .i64 1]) ∧ w = w' := by
  go_enter Try.func7, Try.ntmps7
  by_cases c1 : n < 1
  · go_wp2
    go_ret2
    exact ⟨rfl, rfl⟩
  have c2 : 7 < n := by omega
  clear h
  go_wp2
  go_ret2
  exact ⟨rfl, rfl⟩
set_option maxHeartbeats 800000 in
theorem new_ok (n : Nat) (w : World) (h1 : 1 ≤ n) (h7 : n ≤ 7) : Calls Try.prog 7 #[.int .i64 (n : Int)] w fun e w' =>
    e = .returned (.tuple #[.pointer (some ⟨w.heap.size, 0, none⟩), .int .i64 0]) ∧ Net w' 50 w.heap.size n noV noL ∧ Ext w w' := by
  go_enter Try.func7, Try.ntmps7
  go_wp2
  go_ret2
  refine ⟨rfl, net_new w _ n _ ?_ (by decide) (by decide), (Ext.refl _).alloc _⟩
  simp only [List.replicate]

/-- What is behind a call on a net. -/
def After (w w' : World) (T : TypeId) (g n : Nat) (V : Nat → Value) (S : Nat → List (List UInt8)) : Prop := ∃ V' L', Net w' T g n V' L' ∧ Holds L' S ∧ Keep (foot V g) w w' ∧ ∀ x, foot V' g x → foot V g x ∨ w.heap.size ≤ x
theorem After.same {w : World} {T : TypeId} {g n : Nat} {V : Nat → Value} {L : Nat → List Ent} {S : Nat → List (List UInt8)} (h : Net w T g n V L) (hS : Holds L S) : After w w T g n V S := ⟨V, L, h, hS, Keep.refl _ _, fun x hx => Or.inl hx⟩

set_option maxRecDepth 100000 in
/-- append of rows, alone in a region of open order. -/
theorem at_rows {ops : Array Oper} {o : Oper} {a : Act} {Q : Exit → Act → World → Prop} {W : World} {K : Act → World → Prop} {p : Prop} (N : Option Nat) (hd : o.dst = N)
    (hw : Region.wanted o (yielded ops a.tmps) = true) (s x : Operand)
    (ho : o.op = .call { callee := .builtin .append, args := #[s, x], argTypes := #[22, 22] })
    (v : Value) (l : List Ent) (hs : a.eval s = v) (HO : W.ownsRow 0 30 1 v l.length (l.map entV)) (A : Option Addr) (news : List Ent) (n c : Nat) (hx : a.eval x = .slice A n c) (hn : n = news.length)
    (hnews : news ≠ [] → ∃ ad, A = some ad ∧ ∀ j u, (news.map entV)[j]? = some u → W.cell? (ad.add j) = some u) (hl : (l.length + news.length) * 24 ≤ 140737488355328)
    (h : ∀ v1 w1, w1.ownsRow 0 30 1 v1 (l ++ news).length ((l ++ news).map entV) → W.grownBy w1 v.ownBlock → (v1.ownBlock = v.ownBlock ∨ v1.ownBlock = some W.heap.size) → K (a.put N v1) w1) :
    if Region.wanted o (yielded ops a.tmps) = true then o.wp Try.prog a W K Q else p := by
  subst hd
  obtain ⟨v1, w1, hr, hown, hg, hat⟩ := rows_append (ty := o.type) v l HO A n c news hn hnews hl
  rw [if_pos hw]
  unfold Oper.wp execOp
  simp only [ho, resolve, invoke, builtin, Sem.run_bind, Sem.run_pure, Result.andThen_ok, List.map_toArray, List.map_cons, List.map_nil, hs, hx, hr]
  exact h v1 w1 hown hg hat

/-- What Send does and answers. -/
def snd (n : Nat) (S : Nat → List (List UInt8)) (f t : Int) (b : List UInt8) : (Nat → List (List UInt8)) × Int := match way n f t with
  | none => (S, 1)
  | some k => if 65536 < b.length then (S, 1) else if 64 ≤ (S k).length then (S, 6) else (updV S k (S k ++ [b]), 0)
theorem cell_one (W : World) (x : Ent) (T : TypeId) : ∀ j u, ([x].map entV)[j]? = some u → (W.alloc (.cells #[entV x] T)).cell? ((⟨W.heap.size, 0, none⟩ : Addr).add j) = some u := by
  intro j u hu
  cases j with
  | succ j => simp at hu
  | zero =>
    obtain rfl : entV x = u := by simpa using hu
    exact cell_new W _ T 0 rfl

theorem own_shape {w : World} {base n : Nat} {e : TypeId} {v : Value} {xs : List Value} (h : w.ownsRow base e 1 v n xs) : ∃ A c, v = .slice A n c ∧ n ≤ c := by
  rcases h.2 with ⟨rfl, h0⟩ | ⟨g, cap, cur, rfl, _, _, hn, _⟩
  · exact ⟨none, 0, by rw [h0], by omega⟩
  · exact ⟨_, cap, rfl, hn⟩
/-- A bag behind an append of one row. -/
theorem Bag.snoc {w w6 w7 : World} {v v7 : Value} {l : List Ent} {x : Ent} (h : Bag w v l) (hx : Ext w w6) (hl : x.2.2.length ≤ x.2.1) (hB : Bs w6 x.1 x.2.2) (hI : InB w6 x) (hown : w7.ownsRow 0 30 1 v7 (l ++ [x]).length ((l ++ [x]).map entV)) (hg : w6.grownBy w7 v.ownBlock) : Bag w7 v7 (l ++ [x]) := by
  have h6 := h.ext hx
  have hno : ∀ b, v.ownBlock = some b → NoB w6 b := h6.noB
  refine ⟨hown, fun y hy => ?_⟩
  rcases List.mem_append.1 hy with hy | hy
  · exact ⟨(h6.el y hy).1, ent_keep (h6.el y hy).2.1 (h6.el y hy).2.2 (Keep.grown hg) hno⟩
  · obtain rfl := List.mem_singleton.1 hy
    exact ⟨hl, ent_keep hB hI (Keep.grown hg) hno⟩

end Go.Proofs.Ytbmhchfjapdicaa
