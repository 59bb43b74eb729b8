/- Top11: the library's sorts at one element; Contains; MaxFunc, DeleteFunc at one element. -/
import Derived.Test.YtbemkefcaceekaaGreatDoorTop10
set_option linter.unusedVariables false
set_option linter.unusedSimpArgs false
set_option maxRecDepth 100000
namespace Go.Proofs.YtbemkefcaceekaaGreatDoor
open Go.RowKit Go.Lib Go.Shelf Go.Proofs.YtbemkefcaceekaaGreatDoorW.PrintWords Go.Proofs.YtbemkefcaceekaaGreatDoorW.PrintLast

theorem ins_str (A : Option Addr) (n c : Nat) (hn : n ≤ 1) (w : World) : Calls Tryz.prog 115 #[.slice A n c, .int .i64 0, .int .i64 n] w fun e w' => e = .returned (.tuple #[]) ∧ Ext w w' := by
  go_enter Tryz.func115, Tryz.ntmps115
  go_wp2
  refine wp_loop_rounds 1 ?_
  rw [rounds_succ]
  go_wp2
  go_end0
  exact ⟨rfl, Ext.refl _⟩
theorem pdq_str (A : Option Addr) (n c : Nat) (l : Int) (hn : n ≤ 1) (w : World) : Calls Tryz.prog 74 #[.slice A n c, .int .i64 0, .int .i64 n, .int .i64 l] w fun e w' => e = .returned (.tuple #[]) ∧ Ext w w' := by
  go_enter Tryz.func74, Tryz.ntmps74
  go_wp2_with fail
  refine wp_loop_rounds 1 ?_
  rw [rounds_succ]
  go_wp2_with fail
  refine (ins_str A n c hn _).mono ?_
  rintro e w1 ⟨rfl, x1⟩
  go_wp2
  first | go_end0 | (refine bodyPost_ret (results_none rfl _ _ _) rfl ?_)
  exact ⟨rfl, x1⟩
theorem sort_str (A : Option Addr) (n c : Nat) (hn : n ≤ 1) (w : World) : Calls Tryz.prog 47 #[.slice A n c] w fun e w' => e = .returned (.tuple #[]) ∧ Ext w w' := by
  have kl := fun W => Tryz.bits_Len (n : Int) W (by omega) (by omega)
  go_enter Tryz.func47, Tryz.ntmps47
  go_wp2_with fail
  refine (kl _).mono ?_
  rintro e w1 ⟨rfl, rfl⟩
  go_wp2_with fail
  refine (pdq_str A n c _ hn _).mono ?_
  rintro e w2 ⟨rfl, x2⟩
  go_wp2
  first | go_end0 | (refine bodyPost_ret (results_none rfl _ _ _) rfl ?_)
  exact ⟨rfl, x2⟩
theorem ins_dot (A : Option Addr) (n c : Nat) (f : Value) (hn : n ≤ 1) (w : World) : Calls Tryz.prog 159 #[.slice A n c, .int .i64 0, .int .i64 n, f] w fun e w' => e = .returned (.tuple #[]) ∧ Ext w w' := by
  go_enter Tryz.func159, Tryz.ntmps159
  go_wp2
  refine wp_loop_rounds 1 ?_
  rw [rounds_succ]
  go_wp2
  go_end0
  exact ⟨rfl, Ext.refl _⟩
theorem pdq_dot (A : Option Addr) (n c : Nat) (l : Int) (f : Value) (hn : n ≤ 1) (w : World) : Calls Tryz.prog 125 #[.slice A n c, .int .i64 0, .int .i64 n, .int .i64 l, f] w fun e w' => e = .returned (.tuple #[]) ∧ Ext w w' := by
  go_enter Tryz.func125, Tryz.ntmps125
  go_wp2_with fail
  refine wp_loop_rounds 1 ?_
  rw [rounds_succ]
  go_wp2_with fail
  refine (ins_dot A n c f hn _).mono ?_
  rintro e w1 ⟨rfl, x1⟩
  go_wp2
  first | go_end0 | (refine bodyPost_ret (results_none rfl _ _ _) rfl ?_)
  exact ⟨rfl, x1⟩
theorem sort_dot (A : Option Addr) (n c : Nat) (f : Value) (hn : n ≤ 1) (w : World) : Calls Tryz.prog 76 #[.slice A n c, f] w fun e w' => e = .returned (.tuple #[]) ∧ Ext w w' := by
  have kl := fun W => Tryz.bits_Len (n : Int) W (by omega) (by omega)
  go_enter Tryz.func76, Tryz.ntmps76
  go_wp2_with fail
  refine (kl _).mono ?_
  rintro e w1 ⟨rfl, rfl⟩
  go_wp2_with fail
  refine (pdq_dot A n c _ f hn _).mono ?_
  rintro e w2 ⟨rfl, x2⟩
  go_wp2
  first | go_end0 | (refine bodyPost_ret (results_none rfl _ _ _) rfl ?_)
  exact ⟨rfl, x2⟩

/-- The walk over a map's entries. -/
theorem range_map {T : TypeId} {K E : TypeId} (hT : Tryz.prog.underlying T = some (.map K E)) (w : World) (m : Nat) (es : Array MapEntry) (c : Nat) (h : w.heap[m]? = some (.map es c)) :
    (Instr.range T (.map (some m))).run Tryz.prog w = .ok (.pointer (some ⟨w.heap.size, 0, none⟩)) (w.alloc (.mapIter (some m) c #[] c)) := by
  unfold Instr.range
  simp [Sem.run_bind, run_underlying hT, run_getMap h, newObj, Sem.run]
theorem users_none (w : World) (base bm um dm cm hb : Nat) (H : Hse) (h : HAt w base bm um dm cm hb H) (hu : H.users = []) :
    Calls Tryz.prog 26 #[.pointer (some ⟨hb, 0, none⟩)] w fun e w' => e = .returned (.slice none 0 0) ∧ Ext w w' := by
  have c9 := h.cell 9 _ rfl
  have hm : w.heap[um]? = some (.map #[] H.uc) := by
    have := h.users
    rw [hu] at this
    exact this
  have kr := range_map Tryz.underlying54 w um _ _ hm
  obtain ⟨w1, H1⟩ : ∃ x, Hid (w.alloc (.mapIter (some um) H.uc #[] H.uc) = x) := ⟨_, Lib.hid rfl⟩
  obtain ⟨r, Hr⟩ : ∃ x, Hid (w.heap.size = x) := ⟨_, Lib.hid rfl⟩
  have x1 : Ext w w1 := by rw [← H1.out]; exact (Ext.refl w).alloc _
  have hit : w1.heap[r]? = some (.mapIter (some um) H.uc #[] H.uc) := by rw [← H1.out, ← Hr.out]; exact Array.getElem?_push_size
  have hm1 : w1.heap[um]? = some (.map #[] H.uc) := (x1.out.block um (Array.getElem?_eq_some_iff.1 hm).1).trans hm
  have kn : ∀ ty, (Instr.next (.pointer (some ⟨r, 0, none⟩)) false ty).run Tryz.prog w1 = .ok (.tuple #[.bool false]) w1 := fun ty => by
    rcases run_next_at (P := Tryz.prog) w1 ty r um H.uc H.uc #[] #[] H.uc hit hm1 (by simp) (Nat.le_refl _) with ⟨-, q⟩ | ⟨e, he, -⟩
    · exact q
    · simp [leftOf] at he
  rw [H1.out, Hr.out] at kr
  have hr := Hr.out
  clear hit hm1 hm
  go_enter Tryz.func26, Tryz.ntmps26
  go_wp2_with fail
  refine wp_loop_rounds 1 ?_
  rw [rounds_succ]
  go_wp2_with fail
  refine (sort_str none 0 0 (by omega) _).mono ?_
  rintro e w2 ⟨rfl, x2⟩
  go_wp2
  go_ret
  exact ⟨rfl, x1.trans x2⟩

theorem setB_at {w : World} {r : Nat} (o : Obj) (hr : r < w.heap.size) : (ChangeMaps.setBlock w r o).heap[r]? = some o := by
  simp [ChangeMaps.setBlock, hr]
theorem setB_other {w : World} {r k : Nat} (o : Obj) (hk : k ≠ r) : (ChangeMaps.setBlock w r o).heap[k]? = w.heap[k]? := by
  simp [ChangeMaps.setBlock, Ne.symm hk]
theorem setB_chg (w : World) (r : Nat) (o : Obj) : Chg [r] w (ChangeMaps.setBlock w r o) :=
  ⟨rfl, rfl, rfl, by simp [ChangeMaps.setBlock], fun k _ hn => setB_other o (by simpa using hn)⟩
/-- One entry comes: the world behind the step. -/
theorem next_one (w : World) (r m since : Nat) (es : Array MapEntry) (c : Nat) (seen : Array Nat) (x : MapEntry) (hl : leftOf es seen = #[x]) (hit : w.heap[r]? = some (.mapIter (some m) since seen c)) (hm : w.heap[m]? = some (.map es c)) (hb : ∀ y ∈ es.toList, y.born < since) (hsc : since ≤ c) (hne : m ≠ r) :
    ∃ w2, (∀ ty, (Instr.next (.pointer (some ⟨r, 0, none⟩)) false ty).run Tryz.prog w = .ok (.tuple #[.bool true, x.key, x.val]) w2) ∧ w2.heap[r]? = some (.mapIter (some m) since (seen.push x.born) c) ∧ w2.heap[m]? = some (.map es c) ∧ Chg [r] w w2 := by
  rcases run_next_at (P := Tryz.prog) w 0 r m since c seen es c hit hm hb hsc with ⟨h0, -⟩ | ⟨e, he, w1, hw, hq⟩
  · rw [hl] at h0; simp at h0
  · rw [hl] at he
    obtain rfl : e = x := by simpa using he
    have hlt := (Array.getElem?_eq_some_iff.1 hit).1
    have k1 : Chg [r] w w1 := by rcases hw with rfl | rfl; exact Chg.refl _ _; exact Chg.of_ext (Ext.refl _).drew
    have hs : w1.heap = w.heap := by rcases hw with rfl | rfl <;> rfl
    refine ⟨_, fun ty => hq, setB_at _ (by rw [hs]; exact hlt), (setB_other _ hne).trans (by rw [hs]; exact hm), k1.trans (setB_chg _ _ _)⟩
theorem next_none (w : World) (r m since : Nat) (es : Array MapEntry) (c : Nat) (seen : Array Nat) (hl : leftOf es seen = #[]) (hit : w.heap[r]? = some (.mapIter (some m) since seen c)) (hm : w.heap[m]? = some (.map es c)) (hb : ∀ y ∈ es.toList, y.born < since) (hsc : since ≤ c) :
    ∀ ty, (Instr.next (.pointer (some ⟨r, 0, none⟩)) false ty).run Tryz.prog w = .ok (.tuple #[.bool false]) w := fun ty => by
  rcases run_next_at (P := Tryz.prog) w ty r m since c seen es c hit hm hb hsc with ⟨-, q⟩ | ⟨e, he, -⟩
  · exact q
  · rw [hl] at he; simp at he
set_option maxHeartbeats 4000000 in
theorem users_one (w : World) (base bm um dm cm hb : Nat) (H : Hse) (h : HAt w base bm um dm cm hb H) (u : ByteArray) (vv : Value) (hu : H.users = [(u, vv, 0)]) (huc : H.uc = 1) :
    Calls Tryz.prog 26 #[.pointer (some ⟨hb, 0, none⟩)] w fun e w' => ∃ g c, e = .returned (.slice (some ⟨g, 0, none⟩) 1 c) ∧ 1 ≤ c ∧ w'.cell? ⟨g, 0, none⟩ = some (.string u) ∧ Ext w w' := by
  obtain ⟨i0, hi, hz0, hz1, hz2⟩ := info_parts info_str
  have c9 := h.cell 9 _ rfl
  have hm : w.heap[um]? = some (.map #[entT (u, vv, 0)] 1) := by
    have := h.users
    rw [hu, huc] at this
    exact this
  have kr := range_map Tryz.underlying54 w um _ _ hm
  obtain ⟨w1, H1⟩ : ∃ x, Hid (w.alloc (.mapIter (some um) 1 #[] 1) = x) := ⟨_, Lib.hid rfl⟩
  obtain ⟨r, Hr⟩ : ∃ x, Hid (w.heap.size = x) := ⟨_, Lib.hid rfl⟩
  have x1 : Ext w w1 := by rw [← H1.out]; exact (Ext.refl w).alloc _
  have hit : w1.heap[r]? = some (.mapIter (some um) 1 #[] 1) := by rw [← H1.out, ← Hr.out]; exact Array.getElem?_push_size
  have hlm := (Array.getElem?_eq_some_iff.1 hm).1
  have hm1 : w1.heap[um]? = some (.map #[entT (u, vv, 0)] 1) := (x1.out.block um hlm).trans hm
  have hne : um ≠ r := by have := Hr.out; omega
  obtain ⟨w2, kn1, it2, hm2, k2⟩ := next_one w1 r um 1 _ 1 #[] (entT (u, vv, 0)) (by simp [leftOf, entT]) hit hm1 (by simp [entT]) (Nat.le_refl _) hne
  have ke := run_entry_at (P := Tryz.prog) w2 r um 1 #[] #[entT (u, vv, 0)] 1 (entT (u, vv, 0)) it2 hm2 (by simp) (by simp)
  have x2 : Ext w w2 := k2.toExt x1 (fun k hk => by have e1 : k = r := by simpa using hk
                                                    have := Hr.out; omega)
  rw [H1.out, Hr.out] at kr
  have hr := Hr.out
  have Hit := Lib.hid it2
  have Hm2 := Lib.hid hm2
  have hlr : r < w2.heap.size := (Array.getElem?_eq_some_iff.1 it2).1
  have Hlr := Lib.hid hlr
  simp only [entT] at kn1 ke
  clear hit hm1 hm it2 hm2 hne hlr hlm
  go_enter Tryz.func26, Tryz.ntmps26
  go_wp2_with fail
  refine wp_loop_rounds 2 ?_
  rw [rounds_succ]
  go_wp2_with ((with_reducible refine gate_dst (N := 17) rfl ?_); refine halt ?_)
  clear kr hr
  refine unhalt (wpList_append_own _ rfl _ _ 26 rfl (r + 1) 9 i0 (.string ⟨#[]⟩) 1 16 Tryz.underlying26 hi hz0 hz1 hz2 rfl (by decide) _ 0 [] rfl (World.ownsRow_nil _ _ _ _) ⟨w2.heap.size, 0, none⟩ 1 1 [.string u] rfl rfl ?c1 ?c2 ?c3 ?c4 ?c5 ?_)
  case c1 =>
    intro j u hj
    match j, hj with
    | 0, hj => simp at hj; subst hj; simp [Addr.add]
    | (j + 1), hj => simp at hj
  case c2 => intro u hu; simp at hu; subst hu; rfl
  case c3 => unfold maxLen; omega
  case c4 => omega
  case c5 => have := Hlr.out; simp; omega
  intro v' w3 hown hgr _
  have x23 : Ext w2 w3 := by
    have hO : (w2.alloc (.cells #[.string u] 9)).ownsRow (w2.heap.size + 1) 9 1 (.slice none 0 0) 0 [] := World.ownsRow_nil _ _ _ _
    exact ext_own ((Ext.refl w2).alloc _) hO (Nat.le_succ _) hgr
  obtain ⟨gg, cc, rfl, hcc, hce⟩ : ∃ gg cc, v' = .slice (some ⟨gg, 0, none⟩) 1 cc ∧ 1 ≤ cc ∧ w3.cell? ⟨gg, 0, none⟩ = some (.string u) := by
    rcases hown.2 with ⟨-, h0⟩ | ⟨g, cap, cur, hv, hg, hh, hn, hm, hs, hc⟩
    · omega
    · have hj := World.ownsRow.cells hown (g := g) (by rw [hv]; rfl) 0 (.string u) (by simp)
      exact ⟨g, cap, hv, by omega, hj⟩
  have it3 : w3.heap[r]? = some (.mapIter (some um) 1 #[0] 1) := (x23.out.block r Hlr.out).trans Hit.out
  have hm3 : w3.heap[um]? = some (.map #[entT (u, vv, 0)] 1) := (x23.out.block um (Array.getElem?_eq_some_iff.1 Hm2.out).1).trans Hm2.out
  have kn3 := next_none w3 r um 1 _ 1 #[0] (by simp [leftOf, entT]) it3 hm3 (by simp [entT]) (Nat.le_refl _)
  have X3 := x2.trans x23
  clear it3 hm3 hown hgr kn1 ke k2
  go_wp2_with fail
  rw [rounds_succ]
  go_wp2_with fail
  refine (sort_str _ 1 cc (Nat.le_refl _) _).mono ?_
  rintro e w4 ⟨rfl, x4⟩
  go_wp2
  go_ret
  exact ⟨gg, cc, rfl, hcc, x4.cell hce, X3.trans x4⟩
/-- slices.Contains, at no text or one. -/
theorem has_none (x : ByteArray) (w : World) : Calls Tryz.prog 148 #[.slice none 0 0, .string x] w fun e w' => e = .returned (.bool false) ∧ Ext w w' := by
  go_enter Tryz.func148, Tryz.ntmps148
  go_wp2_with go_in
  all_goals (refine wp_loop_rounds 1 ?_; rw [rounds_succ])
  go_wp2
  go_ret
  exact ⟨rfl, Ext.refl _⟩
theorem has_one (x : ByteArray) (g c : Nat) (hc : 1 ≤ c) (w : World) (hx : w.cell? ⟨g, 0, none⟩ = some (.string x)) : Calls Tryz.prog 148 #[.slice (some ⟨g, 0, none⟩) 1 c, .string x] w fun e w' => e = .returned (.bool true) ∧ Ext w w' := by
  go_enter Tryz.func148, Tryz.ntmps148
  go_wp2_with go_in
  all_goals (refine wp_loop_rounds 1 ?_; rw [rounds_succ])
  go_wp2
  go_ret
  exact ⟨rfl, Ext.refl _⟩
end Go.Proofs.YtbemkefcaceekaaGreatDoor
