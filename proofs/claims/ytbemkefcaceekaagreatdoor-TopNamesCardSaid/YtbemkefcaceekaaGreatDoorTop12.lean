/- Top12: Auctions. -/
import Derived.Test.YtbemkefcaceekaaGreatDoorTop11
set_option linter.unusedVariables false
set_option linter.unusedSimpArgs false
set_option maxRecDepth 100000
namespace Go.Proofs.YtbemkefcaceekaaGreatDoor
open Go.RowKit Go.Lib Go.Shelf Go.Proofs.YtbemkefcaceekaaGreatDoorW.PrintWords Go.Proofs.YtbemkefcaceekaaGreatDoorW.PrintLast

theorem info_dot : (Tryz.prog.info? 64).map (fun i => (i.zero, i.size, i.bytes)) = some (some (.agg #[.int .i64 0, .int .i64 0]), 2, 16) := by kernel_rfl
def zs19 : Array Value := #[.int .i64 0, .int .i64 0, .int .i64 0, .int .i64 0, .int .i64 0, .int .i64 0, .int .i64 0, .int .i64 0, .int .i64 0, .int .i64 0, .int .i64 0, .string ⟨#[]⟩, .string ⟨#[]⟩, .int .i64 0, .int .i64 0, .int .i64 0, .int .i64 0, .int .i64 0, .int .i64 0]
/-- The round's two boxes: the key's and the value's. -/
theorem boxes (w : World) (d : Dt) (s : Stp) : ∃ g4 g5 w3 w4 w5 w6, Hid (w.heap.size = g4) ∧ Hid (w.alloc (.cells #[.int .i64 0, .int .i64 0] 64) = w3) ∧ Hid (w3.heap.size = g5) ∧ Hid (w3.alloc (.cells zs19 86) = w4) ∧ Hid ((w4.setCell ⟨g4, 0, none⟩ (.int .i64 d.rep)).setCell ⟨g4, 1, none⟩ (.int .i64 d.n) = w5) ∧
    (storeCells ⟨g5, 0, none⟩ s.L).run Tryz.prog w5 = .ok () w6 ∧ w4.cell? ⟨g4, 0, none⟩ = some (.int .i64 0) ∧ w4.cell? ⟨g4, 1, none⟩ = some (.int .i64 0) ∧ w4.frozen? ⟨g4, 0, none⟩ = false ∧ w4.frozen? ⟨g4, 1, none⟩ = false ∧
    w6.heap[g4]? = some (.cells #[.int .i64 d.rep, .int .i64 d.n] 64) ∧ StAt w6 g5 s ∧ Ext w w6 := by
  have x3 : Ext w (w.alloc (.cells #[.int .i64 0, .int .i64 0] 64)) := (Ext.refl w).alloc _
  obtain ⟨w3, e3⟩ : ∃ x, w.alloc (.cells #[.int .i64 0, .int .i64 0] 64) = x := ⟨_, rfl⟩
  have b3 : w3.heap[w.heap.size]? = some (.cells #[.int .i64 0, .int .i64 0] 64) := by rw [← e3]; exact Array.getElem?_push_size
  have s3 : w3.heap.size = w.heap.size + 1 := by rw [← e3]; exact Array.size_push _
  rw [e3] at x3
  obtain ⟨w4, e4⟩ : ∃ x, w3.alloc (.cells zs19 86) = x := ⟨_, rfl⟩
  have x4 : Ext w3 w4 := by rw [← e4]; exact (Ext.refl _).alloc _
  have b4 : w4.heap[w3.heap.size]? = some (.cells zs19 86) := by rw [← e4]; exact Array.getElem?_push_size
  have b34 : w4.heap[w.heap.size]? = some (.cells #[.int .i64 0, .int .i64 0] 64) := (x4.out.block _ (by omega)).trans b3
  obtain ⟨w5, e5⟩ : ∃ x, (w4.setCell ⟨w.heap.size, 0, none⟩ (.int .i64 d.rep)).setCell ⟨w.heap.size, 1, none⟩ (.int .i64 d.n) = x := ⟨_, rfl⟩
  have k5 : Chg [w.heap.size] w4 w5 := by rw [← e5]; exact ((Chg.refl _ _).set _ 0 _ (by simp)).set _ 1 _ (by simp)
  have b5 : w5.heap[w.heap.size]? = some (.cells #[.int .i64 d.rep, .int .i64 d.n] 64) := by rw [← e5]; exact blk_set (blk_set b34 0 _) 1 _
  have b45 : w5.heap[w3.heap.size]? = some (.cells zs19 86) := (k5.block _ (Array.getElem?_eq_some_iff.1 b4).1 (by simp; omega)).trans b4
  have hst := run_storeCells_from (P := Tryz.prog) w3.heap.size 86 s.L 0 zs19 w5 b45 rfl (by intro v hv; simp only [Stp.L, List.mem_cons, List.not_mem_nil, or_false] at hv; rcases hv with rfl | rfl | rfl | rfl | rfl | rfl | rfl | rfl | rfl | rfl | rfl | rfl | rfl | rfl | rfl | rfl | rfl | rfl | rfl <;> rfl)
  rw [List.take_zero, List.nil_append] at hst
  have b6 := setRow_heap w5 w3.heap.size zs19 s.L.toArray 86 (0, 0) b45
  have b46 : (w5.setRow w3.heap.size s.L.toArray).heap[w.heap.size]? = some (.cells #[.int .i64 d.rep, .int .i64 d.n] 64) := (setRow_other w5 w3.heap.size w.heap.size _ (by omega)).trans b5
  have x5 : Ext w w5 := k5.toExt (x3.trans x4) (fun k hk => by have e1 : k = w.heap.size := by simpa using hk
                                                               omega)
  have x6 : Ext w (w5.setRow w3.heap.size s.L.toArray) := (show Chg [w3.heap.size] w5 (w5.setRow w3.heap.size s.L.toArray) from ⟨rfl, rfl, rfl, by simp, fun k _ hn => setRow_other _ _ _ _ (by simpa using hn)⟩).toExt x5 (fun k hk => by have e1 : k = w3.heap.size := (by simpa using hk); omega)
  refine ⟨_, _, w3, w4, w5, _, Lib.hid rfl, Lib.hid e3, Lib.hid rfl, Lib.hid e4, Lib.hid e5, hst, by simp [World.cell?, b34], by simp [World.cell?, b34], by simp [World.frozen?, b34], by simp [World.frozen?, b34], b46, ⟨fun j v hv => ?_⟩, x6⟩
  simp only [World.cell?, b6, Nat.zero_add]
  simpa using hv
set_option maxHeartbeats 4000000 in
theorem auctions_one (w : World) (base bm um dm cm hb : Nat) (H : Hse) (h : HAt w base bm um dm cm hb H) (d : Dt) (s : Stp) (hbl : H.blue = [(d, s.V, 0)]) (hbc : H.bc = 1) (hk : s.kind = 1) :
    Calls Tryz.prog 48 #[.pointer (some ⟨hb, 0, none⟩)] w fun e w' => ∃ g c, e = .returned (.slice (some ⟨g, 0, none⟩) 1 c) ∧ 1 ≤ c ∧ w'.cell? ⟨g, 0, none⟩ = some (.int .i64 d.rep) ∧ w'.cell? ⟨g, 1, none⟩ = some (.int .i64 d.n) ∧ Ext w w' := by
  obtain ⟨i0, hi, hz0, hz1, hz2⟩ := info_parts info_dot
  have c7 := h.cell 7 _ rfl
  have hm : w.heap[bm]? = some (.map #[entD (d, s.V, 0)] 1) := by
    have := h.blue
    rw [hbl, hbc] at this
    exact this
  have kr := range_map Tryz.underlying53 w bm _ _ hm
  obtain ⟨w1, H1⟩ : ∃ x, Hid (w.alloc (.mapIter (some bm) 1 #[] 1) = x) := ⟨_, Lib.hid rfl⟩
  obtain ⟨r, Hr⟩ : ∃ x, Hid (w.heap.size = x) := ⟨_, Lib.hid rfl⟩
  have x1 : Ext w w1 := by rw [← H1.out]; exact (Ext.refl w).alloc _
  have hit : w1.heap[r]? = some (.mapIter (some bm) 1 #[] 1) := by rw [← H1.out, ← Hr.out]; exact Array.getElem?_push_size
  have hlm := (Array.getElem?_eq_some_iff.1 hm).1
  have hm1 : w1.heap[bm]? = some (.map #[entD (d, s.V, 0)] 1) := (x1.out.block bm hlm).trans hm
  have hne : bm ≠ r := by have := Hr.out; omega
  obtain ⟨w2, kn1, it2, hm2, k2⟩ := next_one w1 r bm 1 _ 1 #[] (entD (d, s.V, 0)) (by simp [leftOf, entD]) hit hm1 (by simp [entD]) (Nat.le_refl _) hne
  have ke := run_entry_at (P := Tryz.prog) w2 r bm 1 #[] #[entD (d, s.V, 0)] 1 (entD (d, s.V, 0)) it2 hm2 (by simp) (by simp)
  have x2 : Ext w w2 := k2.toExt x1 (fun k hk => by have e1 : k = r := by simpa using hk
                                                    have := Hr.out; omega)
  rw [H1.out, Hr.out] at kr
  have hr := Hr.out
  have Hit := Lib.hid it2
  have Hm2 := Lib.hid hm2
  have hlr : r < w2.heap.size := (Array.getElem?_eq_some_iff.1 it2).1
  have Hlr := Lib.hid hlr
  simp only [entD] at kn1 ke
  clear hit hm1 hm it2 hm2 hne hlr hlm hbl hbc
  go_enter Tryz.func48, Tryz.ntmps48
  go_wp2_with fail
  refine wp_loop_rounds 2 ?_
  rw [rounds_succ]
  obtain ⟨g4, g5, w3, w4, w5, w6, G4, W3, G5, W4, W5, hst, d0, d1, f0, f1, bb4, S5, x6⟩ := boxes w2 d s
  have q1 := G4.out
  have q2 := W3.out
  have q3 := G5.out
  have q4 := W4.out
  have q5 := W5.out
  simp only [zs19] at q4
  have t0 : w6.cell? ⟨g5, 0, none⟩ = some (.int .i64 1) := by rw [← hk]; exact S5.cell 0 _ rfl
  have t1 : w6.cell? ⟨g4, 0, none⟩ = some (.int .i64 d.rep) := by simp [World.cell?, bb4]
  have t2 : w6.cell? ⟨g4, 1, none⟩ = some (.int .i64 d.n) := by simp [World.cell?, bb4]
  have hl : s.L.length = 19 := rfl
  have hlr6 : r + 1 ≤ w6.heap.size := by have := x6.size; have := Hlr.out; omega
  have Hlr6 := Lib.hid hlr6
  clear hk hlr6
  go_wp2_with ((with_reducible refine gate_dst (N := 22) rfl ?_); refine halt ?_)
  clear kr hr
  refine unhalt (wpList_append_own _ rfl _ _ 92 rfl (r + 1) 64 i0 (.agg #[.int .i64 0, .int .i64 0]) 2 16 Tryz.underlying92 hi hz0 hz1 hz2 rfl (by decide) _ 0 [] rfl (World.ownsRow_nil _ _ _ _) ⟨w6.heap.size, 0, none⟩ 1 1 [.int .i64 d.rep, .int .i64 d.n] rfl rfl ?c1 ?c2 ?c3 ?c4 ?c5 ?_)
  case c1 =>
    intro j u hj
    match j, hj with
    | 0, hj => simp at hj; subst hj; simp [Addr.add]
    | 1, hj => simp at hj; subst hj; simp [Addr.add]
    | (j + 2), hj => simp at hj
  case c2 => intro u hu; simp at hu; rcases hu with rfl | rfl <;> rfl
  case c3 => unfold maxLen; omega
  case c4 => omega
  case c5 => have := Hlr6.out; simp; omega
  intro v' w7 hown hgr _
  have x67 : Ext w6 w7 := by
    have hO : (w6.alloc (.cells #[.int .i64 d.rep, .int .i64 d.n] 64)).ownsRow (w6.heap.size + 1) 64 1 (.slice none 0 0) 0 [] := World.ownsRow_nil _ _ _ _
    exact ext_own ((Ext.refl w6).alloc _) hO (Nat.le_succ _) hgr
  obtain ⟨gg, cc, rfl, hcc, hce, hce2⟩ : ∃ gg cc, v' = .slice (some ⟨gg, 0, none⟩) 1 cc ∧ 1 ≤ cc ∧ w7.cell? ⟨gg, 0, none⟩ = some (.int .i64 d.rep) ∧ w7.cell? ⟨gg, 1, none⟩ = some (.int .i64 d.n) := by
    rcases hown.2 with ⟨-, h0⟩ | ⟨g, cap, cur, hv, hg, hh, hn, hm, hs, hc⟩
    · omega
    · have hj := World.ownsRow.cells hown (g := g) (by rw [hv]; rfl) 0 (.int .i64 d.rep) (by simp)
      have hj2 := World.ownsRow.cells hown (g := g) (by rw [hv]; rfl) 1 (.int .i64 d.n) (by simp)
      exact ⟨g, cap, hv, by omega, hj, hj2⟩
  have X27 := x6.trans x67
  have it3 : w7.heap[r]? = some (.mapIter (some bm) 1 #[0] 1) := (X27.out.block r Hlr.out).trans Hit.out
  have hm3 : w7.heap[bm]? = some (.map #[entD (d, s.V, 0)] 1) := (X27.out.block bm (Array.getElem?_eq_some_iff.1 Hm2.out).1).trans Hm2.out
  have kn3 := next_none w7 r bm 1 _ 1 #[0] (by simp [leftOf, entD]) it3 hm3 (by simp [entD]) (Nat.le_refl _)
  have X3 := x2.trans X27
  clear it3 hm3 hown hgr kn1 ke k2 q1 q2 q3 q4 q5 d0 d1 f0 f1 t0 t1 t2 hl hst bb4 S5
  go_wp2_with fail
  rw [rounds_succ]
  go_wp2_with fail
  refine (sort_dot _ 1 cc _ (Nat.le_refl _) _).mono ?_
  rintro e w8 ⟨rfl, x8⟩
  go_wp2
  go_ret
  exact ⟨gg, cc, rfl, hcc, x8.cell hce, x8.cell hce2, X3.trans x8⟩
end Go.Proofs.YtbemkefcaceekaaGreatDoor
