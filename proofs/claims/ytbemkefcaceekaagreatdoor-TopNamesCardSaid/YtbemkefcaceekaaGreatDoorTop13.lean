/- Top13: Auctions over two entries. -/
import Derived.Test.YtbemkefcaceekaaGreatDoorTop12
set_option linter.unusedVariables false
set_option linter.unusedSimpArgs false
set_option maxRecDepth 100000
namespace Go.Proofs.YtbemkefcaceekaaGreatDoor
open Go.RowKit Go.Lib Go.Shelf Go.Proofs.YtbemkefcaceekaaGreatDoorW.PrintWords Go.Proofs.YtbemkefcaceekaaGreatDoorW.PrintLast

/-- A step of the walk over a map: entry x comes. -/
def NextTo (w : World) (r m since : Nat) (es : Array MapEntry) (c : Nat) (seen : Array Nat) (x : MapEntry) (w2 : World) : Prop :=
  (∀ ty, (Instr.next (.pointer (some ⟨r, 0, none⟩)) false ty).run Tryz.prog w = .ok (.tuple #[.bool true, x.key, x.val]) w2) ∧ w2.heap[r]? = some (.mapIter (some m) since (seen.push x.born) c) ∧ w2.heap[m]? = some (.map es c) ∧ Chg [r] w w2
theorem next_two (w : World) (r m since : Nat) (es : Array MapEntry) (c : Nat) (seen : Array Nat) (x y : MapEntry) (hl : leftOf es seen = #[x, y]) (hit : w.heap[r]? = some (.mapIter (some m) since seen c)) (hm : w.heap[m]? = some (.map es c)) (hb : ∀ y ∈ es.toList, y.born < since) (hsc : since ≤ c) (hne : m ≠ r) :
    (∃ w2, NextTo w r m since es c seen x w2) ∨ (∃ w2, NextTo w r m since es c seen y w2) := by
  rcases run_next_at (P := Tryz.prog) w 0 r m since c seen es c hit hm hb hsc with ⟨h0, -⟩ | ⟨e, he, w1, hw, hq⟩
  · rw [hl] at h0; simp at h0
  · rw [hl] at he
    have hlt := (Array.getElem?_eq_some_iff.1 hit).1
    have k1 : Chg [r] w w1 := by rcases hw with rfl | rfl; exact Chg.refl _ _; exact Chg.of_ext (Ext.refl _).drew
    have hs : w1.heap = w.heap := by rcases hw with rfl | rfl <;> rfl
    have hN : ∃ w2, NextTo w r m since es c seen e w2 := ⟨_, fun ty => hq, setB_at _ (by rw [hs]; exact hlt), (setB_other _ hne).trans (by rw [hs]; exact hm), k1.trans (setB_chg _ _ _)⟩
    have he' : e = x ∨ e = y := by simpa using he
    rcases he' with rfl | rfl
    · exact Or.inl hN
    · exact Or.inr hN
set_option maxHeartbeats 4000000 in
theorem auctions_two (w : World) (base bm um dm cm hb : Nat) (H : Hse) (h : HAt w base bm um dm cm hb H) (d d2 : Dt) (s s2 : Stp) (hbl : H.blue = [(d, s.V, 0), (d2, s2.V, 1)]) (hbc : H.bc = 2) (hk : s.kind = 1) (hk2 : s2.kind = 2) :
    Calls Tryz.prog 48 #[.pointer (some ⟨hb, 0, none⟩)] w fun e w' => ∃ g c, e = .returned (.slice (some ⟨g, 0, none⟩) 1 c) ∧ 1 ≤ c ∧ w'.cell? ⟨g, 0, none⟩ = some (.int .i64 d.rep) ∧ w'.cell? ⟨g, 1, none⟩ = some (.int .i64 d.n) ∧ Ext w w' := by
  obtain ⟨i0, hi, hz0, hz1, hz2⟩ := info_parts info_dot
  have c7 := h.cell 7 _ rfl
  have hm : w.heap[bm]? = some (.map #[entD (d, s.V, 0), entD (d2, s2.V, 1)] 2) := by
    have := h.blue
    rw [hbl, hbc] at this
    exact this
  have kr := range_map Tryz.underlying53 w bm _ _ hm
  obtain ⟨w1, H1⟩ : ∃ x, Hid (w.alloc (.mapIter (some bm) 2 #[] 2) = x) := ⟨_, Lib.hid rfl⟩
  obtain ⟨r, Hr⟩ : ∃ x, Hid (w.heap.size = x) := ⟨_, Lib.hid rfl⟩
  have x1 : Ext w w1 := by rw [← H1.out]; exact (Ext.refl w).alloc _
  have hit : w1.heap[r]? = some (.mapIter (some bm) 2 #[] 2) := by rw [← H1.out, ← Hr.out]; exact Array.getElem?_push_size
  have hlm := (Array.getElem?_eq_some_iff.1 hm).1
  have hm1 : w1.heap[bm]? = some (.map #[entD (d, s.V, 0), entD (d2, s2.V, 1)] 2) := (x1.out.block bm hlm).trans hm
  have hne : bm ≠ r := by have := Hr.out; omega
  rw [H1.out, Hr.out] at kr
  have hNN := next_two w1 r bm 2 _ 2 #[] (entD (d, s.V, 0)) (entD (d2, s2.V, 1)) (by simp [leftOf, entD]) hit hm1 (by simp [entD]) (Nat.le_refl _) hne
  clear hit hm1 hm hlm hbl hbc
  rcases hNN with hN | hN
  · obtain ⟨w2, kna, ita, hma, k2⟩ := hN
    have x2 : Ext w w2 := k2.toExt x1 (fun k hk => by have e1 : k = r := (by simpa using hk); have := Hr.out; omega)
    have hnr := Lib.hid hne
    clear hne
    have kea := run_entry_at (P := Tryz.prog) w2 r bm 2 #[] #[entD (d, s.V, 0), entD (d2, s2.V, 1)] 2 (entD (d, s.V, 0)) ita hma (by simp) (by simp [entD])
    simp only [entD] at kna kea
    have Hita := Lib.hid ita
    have Hma := Lib.hid hma
    have Hlra := Lib.hid (Array.getElem?_eq_some_iff.1 ita).1
    obtain ⟨g4a, g5a, a3a, a4a, a5a, a6a, G4a, A3a, G5a, A4a, A5a, hsta, d0a, d1a, f0a, f1a, bb4a, S5a, x6a⟩ := boxes w2 d s
    have q1a := G4a.out
    have q2a := A3a.out
    have q3a := G5a.out
    have q4a := A4a.out
    have q5a := A5a.out
    simp only [zs19] at q4a
    have t0a : a6a.cell? ⟨g5a, 0, none⟩ = some (.int .i64 1) := by rw [← hk]; exact S5a.cell 0 _ rfl
    have t1a : a6a.cell? ⟨g4a, 0, none⟩ = some (.int .i64 d.rep) := by simp [World.cell?, bb4a]
    have t2a : a6a.cell? ⟨g4a, 1, none⟩ = some (.int .i64 d.n) := by simp [World.cell?, bb4a]
    have hla : s.L.length = 19 := rfl
    clear ita hma
    have Hl6a : Hid (r + 1 ≤ (World.heap a6a).size) := Lib.hid (Nat.le_trans Hlra.out x6a.size)
    have hr := Hr.out
    go_enter Tryz.func48, Tryz.ntmps48
    go_wp2_with fail
    refine wp_loop_rounds 3 ?_
    rw [rounds_succ]
    go_wp2_with ((with_reducible refine gate_dst (N := 22) rfl ?_); refine halt ?_)
    refine unhalt (wpList_append_own _ rfl _ _ 92 rfl (r + 1) 64 i0 (.agg #[.int .i64 0, .int .i64 0]) 2 16 Tryz.underlying92 hi hz0 hz1 hz2 rfl (by decide) _ 0 [] rfl (World.ownsRow_nil _ _ _ _) ⟨a6a.heap.size, 0, none⟩ 1 1 [.int .i64 d.rep, .int .i64 d.n] rfl rfl ?c1 ?c2 ?c3 ?c4 ?c5 ?_)
    case c1 =>
      intro j u hj
      match j, hj with
      | 0, hj => simp at hj; subst hj; simp [Addr.add]
      | 1, hj => simp at hj; subst hj; simp [Addr.add]
      | (j + 2), hj => simp at hj
    case c2 => intro u hu; simp at hu; rcases hu with rfl | rfl <;> rfl
    case c3 => unfold maxLen; omega
    case c4 => omega
    case c5 => have := Hl6a.out; simp; omega
    intro v' w7 hown hgr _
    have x67 : Ext a6a w7 := by
      have hO : (a6a.alloc (.cells #[.int .i64 d.rep, .int .i64 d.n] 64)).ownsRow (a6a.heap.size + 1) 64 1 (.slice none 0 0) 0 [] := World.ownsRow_nil _ _ _ _
      exact ext_own ((Ext.refl a6a).alloc _) hO (Nat.le_succ _) hgr
    obtain ⟨gg, cc, rfl, hcc, hce, hce2⟩ : ∃ gg cc, v' = .slice (some ⟨gg, 0, none⟩) 1 cc ∧ 1 ≤ cc ∧ w7.cell? ⟨gg, 0, none⟩ = some (.int .i64 d.rep) ∧ w7.cell? ⟨gg, 1, none⟩ = some (.int .i64 d.n) := by
      rcases hown.2 with ⟨-, h0⟩ | ⟨g, cap, cur, hv, hg, hh, hn, hm, hs, hc⟩
      · omega
      · have hj := World.ownsRow.cells hown (g := g) (by rw [hv]; rfl) 0 (.int .i64 d.rep) (by simp)
        have hj2 := World.ownsRow.cells hown (g := g) (by rw [hv]; rfl) 1 (.int .i64 d.n) (by simp)
        exact ⟨g, cap, hv, by omega, hj, hj2⟩
    have X7a := x6a.trans x67
    clear hown hgr
    clear kna kea q1a q2a q3a q4a q5a d0a d1a f0a f1a t0a t1a t2a hla hsta bb4a S5a
    clear hr kr
    have itx : w7.heap[r]? = some (.mapIter (some bm) 2 #[0] 2) := (X7a.out.block r Hlra.out).trans Hita.out
    have hmx : w7.heap[bm]? = some (.map #[entD (d, s.V, 0), entD (d2, s2.V, 1)] 2) := (X7a.out.block bm (Array.getElem?_eq_some_iff.1 Hma.out).1).trans Hma.out
    obtain ⟨n2, knb, itb, hmb, kb⟩ := next_one w7 r bm 2 _ 2 #[0] (entD (d2, s2.V, 1)) (by simp [leftOf, entD]) itx hmx (by simp [entD]) (Nat.le_refl _) hnr.out
    have xb : Ext w n2 := kb.toExt (x2.trans X7a) (fun k hk => by have e1 : k = r := (by simpa using hk); have := Hr.out; omega)
    have Hkb := Lib.hid kb
    clear itx hmx kb
    have keb := run_entry_at (P := Tryz.prog) n2 r bm 2 #[0] #[entD (d, s.V, 0), entD (d2, s2.V, 1)] 2 (entD (d2, s2.V, 1)) itb hmb (by simp) (by simp [entD])
    simp only [entD] at knb keb
    have Hitb := Lib.hid itb
    have Hmb := Lib.hid hmb
    have Hlrb := Lib.hid (Array.getElem?_eq_some_iff.1 itb).1
    obtain ⟨g4b, g5b, a3b, a4b, a5b, a6b, G4b, A3b, G5b, A4b, A5b, hstb, d0b, d1b, f0b, f1b, bb4b, S5b, x6b⟩ := boxes n2 d2 s2
    have q1b := G4b.out
    have q2b := A3b.out
    have q3b := G5b.out
    have q4b := A4b.out
    have q5b := A5b.out
    simp only [zs19] at q4b
    have t0b : a6b.cell? ⟨g5b, 0, none⟩ = some (.int .i64 2) := by rw [← hk2]; exact S5b.cell 0 _ rfl
    have t1b : a6b.cell? ⟨g4b, 0, none⟩ = some (.int .i64 d2.rep) := by simp [World.cell?, bb4b]
    have t2b : a6b.cell? ⟨g4b, 1, none⟩ = some (.int .i64 d2.n) := by simp [World.cell?, bb4b]
    have hlb : s2.L.length = 19 := rfl
    clear itb hmb
    go_wp2_with fail
    rw [rounds_succ]
    go_wp2_with fail
    skip
    clear knb keb q1b q2b q3b q4b q5b d0b d1b f0b f1b t0b t1b t2b hlb hstb bb4b S5b
    have itz : a6b.heap[r]? = some (.mapIter (some bm) 2 #[0, 1] 2) := (x6b.out.block r Hlrb.out).trans Hitb.out
    have hmz : a6b.heap[bm]? = some (.map #[entD (d, s.V, 0), entD (d2, s2.V, 1)] 2) := (x6b.out.block bm (Array.getElem?_eq_some_iff.1 Hmb.out).1).trans Hmb.out
    have kn3 := next_none a6b r bm 2 _ 2 #[0, 1] (by simp [leftOf, entD]) itz hmz (by simp [entD]) (Nat.le_refl _)
    have X3 := xb.trans x6b
    clear itz hmz
    go_wp2_with fail
    rw [rounds_succ]
    go_wp2_with fail
    refine (sort_dot _ 1 cc _ (Nat.le_refl _) _).mono ?_
    rintro e w8 ⟨rfl, x8⟩
    go_wp2
    go_ret
    have hg : ∀ i v, w7.cell? ⟨gg, i, none⟩ = some v → gg ≠ r → a6b.cell? ⟨gg, i, none⟩ = some v := fun i v hv hn => x6b.cell (by rw [← hv]; exact World.cell?_of_block (Hkb.out.block gg (World.block_lt_of_cell? _ _ hv) (by simpa using hn)))
    have hgr : gg ≠ r := by
      rintro rfl
      have q := (X7a.out.block gg Hlra.out).trans Hita.out
      simp [World.cell?, q] at hce
    exact ⟨gg, cc, rfl, hcc, x8.cell (hg 0 _ hce hgr), x8.cell (hg 1 _ hce2 hgr), X3.trans x8⟩
  · obtain ⟨w2, kna, ita, hma, k2⟩ := hN
    have x2 : Ext w w2 := k2.toExt x1 (fun k hk => by have e1 : k = r := (by simpa using hk); have := Hr.out; omega)
    have hnr := Lib.hid hne
    clear hne
    have kea := run_entry_at (P := Tryz.prog) w2 r bm 2 #[] #[entD (d, s.V, 0), entD (d2, s2.V, 1)] 2 (entD (d2, s2.V, 1)) ita hma (by simp) (by simp [entD])
    simp only [entD] at kna kea
    have Hita := Lib.hid ita
    have Hma := Lib.hid hma
    have Hlra := Lib.hid (Array.getElem?_eq_some_iff.1 ita).1
    obtain ⟨g4a, g5a, a3a, a4a, a5a, a6a, G4a, A3a, G5a, A4a, A5a, hsta, d0a, d1a, f0a, f1a, bb4a, S5a, x6a⟩ := boxes w2 d2 s2
    have q1a := G4a.out
    have q2a := A3a.out
    have q3a := G5a.out
    have q4a := A4a.out
    have q5a := A5a.out
    simp only [zs19] at q4a
    have t0a : a6a.cell? ⟨g5a, 0, none⟩ = some (.int .i64 2) := by rw [← hk2]; exact S5a.cell 0 _ rfl
    have t1a : a6a.cell? ⟨g4a, 0, none⟩ = some (.int .i64 d2.rep) := by simp [World.cell?, bb4a]
    have t2a : a6a.cell? ⟨g4a, 1, none⟩ = some (.int .i64 d2.n) := by simp [World.cell?, bb4a]
    have hla : s2.L.length = 19 := rfl
    clear ita hma
    have hr := Hr.out
    go_enter Tryz.func48, Tryz.ntmps48
    go_wp2_with fail
    refine wp_loop_rounds 3 ?_
    rw [rounds_succ]
    go_wp2_with fail
    skip
    clear kna kea q1a q2a q3a q4a q5a d0a d1a f0a f1a t0a t1a t2a hla hsta bb4a S5a
    clear hr kr
    have itx : a6a.heap[r]? = some (.mapIter (some bm) 2 #[1] 2) := (x6a.out.block r Hlra.out).trans Hita.out
    have hmx : a6a.heap[bm]? = some (.map #[entD (d, s.V, 0), entD (d2, s2.V, 1)] 2) := (x6a.out.block bm (Array.getElem?_eq_some_iff.1 Hma.out).1).trans Hma.out
    obtain ⟨n2, knb, itb, hmb, kb⟩ := next_one a6a r bm 2 _ 2 #[1] (entD (d, s.V, 0)) (by simp [leftOf, entD]) itx hmx (by simp [entD]) (Nat.le_refl _) hnr.out
    have xb : Ext w n2 := kb.toExt (x2.trans x6a) (fun k hk => by have e1 : k = r := (by simpa using hk); have := Hr.out; omega)
    have Hkb := Lib.hid kb
    clear itx hmx kb
    have keb := run_entry_at (P := Tryz.prog) n2 r bm 2 #[1] #[entD (d, s.V, 0), entD (d2, s2.V, 1)] 2 (entD (d, s.V, 0)) itb hmb (by simp) (by simp [entD])
    simp only [entD] at knb keb
    have Hitb := Lib.hid itb
    have Hmb := Lib.hid hmb
    have Hlrb := Lib.hid (Array.getElem?_eq_some_iff.1 itb).1
    obtain ⟨g4b, g5b, a3b, a4b, a5b, a6b, G4b, A3b, G5b, A4b, A5b, hstb, d0b, d1b, f0b, f1b, bb4b, S5b, x6b⟩ := boxes n2 d s
    have q1b := G4b.out
    have q2b := A3b.out
    have q3b := G5b.out
    have q4b := A4b.out
    have q5b := A5b.out
    simp only [zs19] at q4b
    have t0b : a6b.cell? ⟨g5b, 0, none⟩ = some (.int .i64 1) := by rw [← hk]; exact S5b.cell 0 _ rfl
    have t1b : a6b.cell? ⟨g4b, 0, none⟩ = some (.int .i64 d.rep) := by simp [World.cell?, bb4b]
    have t2b : a6b.cell? ⟨g4b, 1, none⟩ = some (.int .i64 d.n) := by simp [World.cell?, bb4b]
    have hlb : s.L.length = 19 := rfl
    clear itb hmb
    have Hl6b : Hid (r + 1 ≤ (World.heap a6b).size) := Lib.hid (Nat.le_trans Hlrb.out x6b.size)
    go_wp2_with fail
    rw [rounds_succ]
    go_wp2_with ((with_reducible refine gate_dst (N := 22) rfl ?_); refine halt ?_)
    refine unhalt (wpList_append_own _ rfl _ _ 92 rfl (r + 1) 64 i0 (.agg #[.int .i64 0, .int .i64 0]) 2 16 Tryz.underlying92 hi hz0 hz1 hz2 rfl (by decide) _ 0 [] rfl (World.ownsRow_nil _ _ _ _) ⟨a6b.heap.size, 0, none⟩ 1 1 [.int .i64 d.rep, .int .i64 d.n] rfl rfl ?c1 ?c2 ?c3 ?c4 ?c5 ?_)
    case c1 =>
      intro j u hj
      match j, hj with
      | 0, hj => simp at hj; subst hj; simp [Addr.add]
      | 1, hj => simp at hj; subst hj; simp [Addr.add]
      | (j + 2), hj => simp at hj
    case c2 => intro u hu; simp at hu; rcases hu with rfl | rfl <;> rfl
    case c3 => unfold maxLen; omega
    case c4 => omega
    case c5 => have := Hl6b.out; simp; omega
    intro v' w7 hown hgr _
    have x67 : Ext a6b w7 := by
      have hO : (a6b.alloc (.cells #[.int .i64 d.rep, .int .i64 d.n] 64)).ownsRow (a6b.heap.size + 1) 64 1 (.slice none 0 0) 0 [] := World.ownsRow_nil _ _ _ _
      exact ext_own ((Ext.refl a6b).alloc _) hO (Nat.le_succ _) hgr
    obtain ⟨gg, cc, rfl, hcc, hce, hce2⟩ : ∃ gg cc, v' = .slice (some ⟨gg, 0, none⟩) 1 cc ∧ 1 ≤ cc ∧ w7.cell? ⟨gg, 0, none⟩ = some (.int .i64 d.rep) ∧ w7.cell? ⟨gg, 1, none⟩ = some (.int .i64 d.n) := by
      rcases hown.2 with ⟨-, h0⟩ | ⟨g, cap, cur, hv, hg, hh, hn, hm, hs, hc⟩
      · omega
      · have hj := World.ownsRow.cells hown (g := g) (by rw [hv]; rfl) 0 (.int .i64 d.rep) (by simp)
        have hj2 := World.ownsRow.cells hown (g := g) (by rw [hv]; rfl) 1 (.int .i64 d.n) (by simp)
        exact ⟨g, cap, hv, by omega, hj, hj2⟩
    have X7b := x6b.trans x67
    clear hown hgr
    clear knb keb q1b q2b q3b q4b q5b d0b d1b f0b f1b t0b t1b t2b hlb hstb bb4b S5b
    have itz : w7.heap[r]? = some (.mapIter (some bm) 2 #[1, 0] 2) := (X7b.out.block r Hlrb.out).trans Hitb.out
    have hmz : w7.heap[bm]? = some (.map #[entD (d, s.V, 0), entD (d2, s2.V, 1)] 2) := (X7b.out.block bm (Array.getElem?_eq_some_iff.1 Hmb.out).1).trans Hmb.out
    have kn3 := next_none w7 r bm 2 _ 2 #[1, 0] (by simp [leftOf, entD]) itz hmz (by simp [entD]) (Nat.le_refl _)
    have X3 := xb.trans X7b
    clear itz hmz
    go_wp2_with fail
    rw [rounds_succ]
    go_wp2_with fail
    refine (sort_dot _ 1 cc _ (Nat.le_refl _) _).mono ?_
    rintro e w8 ⟨rfl, x8⟩
    go_wp2
    go_ret
    exact ⟨gg, cc, rfl, hcc, x8.cell hce, x8.cell hce2, X3.trans x8⟩
end Go.Proofs.YtbemkefcaceekaaGreatDoor
