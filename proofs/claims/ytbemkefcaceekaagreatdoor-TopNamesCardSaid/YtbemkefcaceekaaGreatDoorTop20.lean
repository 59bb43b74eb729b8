/- Top20: bids over two entries. -/
import Derived.Test.YtbemkefcaceekaaGreatDoorTop19
set_option linter.unusedVariables false
set_option linter.unusedSimpArgs false
set_option maxRecDepth 100000
namespace Go.Proofs.YtbemkefcaceekaaGreatDoor
open Go.RowKit Go.Lib Go.Shelf Go.Proofs.YtbemkefcaceekaaGreatDoorW.PrintWords Go.Proofs.YtbemkefcaceekaaGreatDoorW.PrintLast

set_option maxHeartbeats 4000000 in
theorem bids_two (w : World) (base bm um dm cm hb : Nat) (H : Hse) (h : HAt w base bm um dm cm hb H) (d d2 au : Dt) (s s2 : Stp) (seen : V7) (hbl : H.blue = [(d, s.V, 0), (d2, s2.V, 1)]) (hbc : H.bc = 2) (hk : s.kind = 1) (hk2 : s2.kind = 2) (hau : s2.auc = au)
    (hs1 : has7 seen d.rep d.n = true) (hs2 : has7 seen d2.rep d2.n = true) :
    Calls Tryz.prog 131 #[.pointer (some ⟨hb, 0, none⟩), dotv au.rep au.n, vf seen] w fun e w' => ∃ g c, e = .returned (.slice (some ⟨g, 0, none⟩) 1 c) ∧ 1 ≤ c ∧ w'.cell? ⟨g, 0, none⟩ = some (.int .i64 d2.rep) ∧ w'.cell? ⟨g, 1, none⟩ = some (.int .i64 d2.n) ∧ Ext w w' := by
  obtain ⟨i0, hi, hz0, hz1, hz2⟩ := info_parts info_dot
  have x0 := Ext.refl w
  obtain ⟨ga, Gga⟩ : ∃ x, Hid ((World.heap w).size = x) := ⟨_, Lib.hid rfl⟩
  obtain ⟨wa, Hwa⟩ : ∃ x, Hid ((World.alloc w (.cells #[.int .i64 au.rep, .int .i64 au.n] 64)) = x) := ⟨_, Lib.hid rfl⟩
  have bga_wa : wa.heap[ga]? = some (.cells #[.int .i64 au.rep, .int .i64 au.n] 64) := by rw [← Hwa.out, ← Gga.out]; exact Array.getElem?_push_size
  have ewa : Ext w wa := by rw [← Hwa.out]; exact ((Ext.refl _).alloc _)
  have xwa : Ext w wa := Ext.trans (x0) ewa
  have lga : (World.heap w).size ≤ ga := Nat.le_trans (Ext.size (x0)) (Nat.le_of_eq Gga.out)
  obtain ⟨gb, Ggb⟩ : ∃ x, Hid ((World.heap wa).size = x) := ⟨_, Lib.hid rfl⟩
  obtain ⟨wb, Hwb⟩ : ∃ x, Hid ((World.alloc wa (.cells #[.int .i64 (seen 0), .int .i64 (seen 1), .int .i64 (seen 2), .int .i64 (seen 3), .int .i64 (seen 4), .int .i64 (seen 5), .int .i64 (seen 6)] 57)) = x) := ⟨_, Lib.hid rfl⟩
  have bgb_wb : wb.heap[gb]? = some (.cells #[.int .i64 (seen 0), .int .i64 (seen 1), .int .i64 (seen 2), .int .i64 (seen 3), .int .i64 (seen 4), .int .i64 (seen 5), .int .i64 (seen 6)] 57) := by rw [← Hwb.out, ← Ggb.out]; exact Array.getElem?_push_size
  have ewb : Ext wa wb := by rw [← Hwb.out]; exact ((Ext.refl _).alloc _)
  have xwb : Ext w wb := Ext.trans (xwa) ewb
  have lgb : (World.heap w).size ≤ gb := Nat.le_trans (Ext.size (xwa)) (Nat.le_of_eq Ggb.out)
  have ngagb : ga ≠ gb := Nat.ne_of_lt (Nat.lt_of_lt_of_eq (Array.getElem?_eq_some_iff.1 bga_wa).1 Ggb.out)
  have bga_wb : wb.heap[ga]? = some (.cells #[.int .i64 au.rep, .int .i64 au.n] 64) := (ewb.out.block _ (Array.getElem?_eq_some_iff.1 bga_wa).1).trans bga_wa
  obtain ⟨gm, Ggm⟩ : ∃ x, Hid ((World.heap wb).size = x) := ⟨_, Lib.hid rfl⟩
  obtain ⟨wm, Hwm⟩ : ∃ x, Hid ((World.alloc wb (.map #[] 0)) = x) := ⟨_, Lib.hid rfl⟩
  have bgm_wm : wm.heap[gm]? = some (.map #[] 0) := by rw [← Hwm.out, ← Ggm.out]; exact Array.getElem?_push_size
  have ewm : Ext wb wm := by rw [← Hwm.out]; exact ((Ext.refl _).alloc _)
  have xwm : Ext w wm := Ext.trans (xwb) ewm
  have lgm : (World.heap w).size ≤ gm := Nat.le_trans (Ext.size (xwb)) (Nat.le_of_eq Ggm.out)
  have ngagm : ga ≠ gm := Nat.ne_of_lt (Nat.lt_of_lt_of_eq (Array.getElem?_eq_some_iff.1 bga_wb).1 Ggm.out)
  have bga_wm : wm.heap[ga]? = some (.cells #[.int .i64 au.rep, .int .i64 au.n] 64) := (ewm.out.block _ (Array.getElem?_eq_some_iff.1 bga_wb).1).trans bga_wb
  have ngbgm : gb ≠ gm := Nat.ne_of_lt (Nat.lt_of_lt_of_eq (Array.getElem?_eq_some_iff.1 bgb_wb).1 Ggm.out)
  have bgb_wm : wm.heap[gb]? = some (.cells #[.int .i64 (seen 0), .int .i64 (seen 1), .int .i64 (seen 2), .int .i64 (seen 3), .int .i64 (seen 4), .int .i64 (seen 5), .int .i64 (seen 6)] 57) := (ewm.out.block _ (Array.getElem?_eq_some_iff.1 bgb_wb).1).trans bgb_wb
  obtain ⟨gp, Ggp⟩ : ∃ x, Hid ((World.heap wm).size = x) := ⟨_, Lib.hid rfl⟩
  obtain ⟨wp, Hwp⟩ : ∃ x, Hid ((World.alloc wm (.cells #[.map none] 210)) = x) := ⟨_, Lib.hid rfl⟩
  have bgp_wp : wp.heap[gp]? = some (.cells #[.map none] 210) := by rw [← Hwp.out, ← Ggp.out]; exact Array.getElem?_push_size
  have ewp : Ext wm wp := by rw [← Hwp.out]; exact ((Ext.refl _).alloc _)
  have xwp : Ext w wp := Ext.trans (xwm) ewp
  have lgp : (World.heap w).size ≤ gp := Nat.le_trans (Ext.size (xwm)) (Nat.le_of_eq Ggp.out)
  have ngagp : ga ≠ gp := Nat.ne_of_lt (Nat.lt_of_lt_of_eq (Array.getElem?_eq_some_iff.1 bga_wm).1 Ggp.out)
  have bga_wp : wp.heap[ga]? = some (.cells #[.int .i64 au.rep, .int .i64 au.n] 64) := (ewp.out.block _ (Array.getElem?_eq_some_iff.1 bga_wm).1).trans bga_wm
  have ngbgp : gb ≠ gp := Nat.ne_of_lt (Nat.lt_of_lt_of_eq (Array.getElem?_eq_some_iff.1 bgb_wm).1 Ggp.out)
  have bgb_wp : wp.heap[gb]? = some (.cells #[.int .i64 (seen 0), .int .i64 (seen 1), .int .i64 (seen 2), .int .i64 (seen 3), .int .i64 (seen 4), .int .i64 (seen 5), .int .i64 (seen 6)] 57) := (ewp.out.block _ (Array.getElem?_eq_some_iff.1 bgb_wm).1).trans bgb_wm
  have ngmgp : gm ≠ gp := Nat.ne_of_lt (Nat.lt_of_lt_of_eq (Array.getElem?_eq_some_iff.1 bgm_wm).1 Ggp.out)
  have bgm_wp : wp.heap[gm]? = some (.map #[] 0) := (ewp.out.block _ (Array.getElem?_eq_some_iff.1 bgm_wm).1).trans bgm_wm
  have cgp_wp_0 : wp.cell? ⟨gp, 0, none⟩ = some (.map none) := by simp [World.cell?, bgp_wp]
  have fgp_wp_0 : wp.frozen? ⟨gp, 0, none⟩ = false := by simp [World.frozen?, bgp_wp]
  obtain ⟨wv, Hwv⟩ : ∃ x, Hid ((World.setCell wp ⟨gp, 0, none⟩ (.map (some gm))) = x) := ⟨_, Lib.hid rfl⟩
  have bgp_wv : wv.heap[gp]? = some (.cells #[.map (some gm)] 210) := by rw [← Hwv.out]; exact (blk_set bgp_wp 0 _)
  have kwv : Chg [gp] wp wv := by rw [← Hwv.out]; exact (Chg.set (Chg.refl [gp] wp) gp 0 _ (by simp))
  have xwv : Ext w wv := by rw [← Hwv.out]; exact ((Ext.setCell xwp (p := ⟨gp, 0, none⟩) lgp _))
  have bga_wv : wv.heap[ga]? = some (.cells #[.int .i64 au.rep, .int .i64 au.n] 64) := (kwv.block _ (Array.getElem?_eq_some_iff.1 bga_wp).1 (by simpa using ngagp)).trans bga_wp
  have bgb_wv : wv.heap[gb]? = some (.cells #[.int .i64 (seen 0), .int .i64 (seen 1), .int .i64 (seen 2), .int .i64 (seen 3), .int .i64 (seen 4), .int .i64 (seen 5), .int .i64 (seen 6)] 57) := (kwv.block _ (Array.getElem?_eq_some_iff.1 bgb_wp).1 (by simpa using ngbgp)).trans bgb_wp
  have bgm_wv : wv.heap[gm]? = some (.map #[] 0) := (kwv.block _ (Array.getElem?_eq_some_iff.1 bgm_wp).1 (by simpa using ngmgp)).trans bgm_wp
  have xv := xwv
  have hmm := @run_makeMap Tryz.prog
  have hgm : MapD wv gm [] 0 := bgm_wv
  have cga_0 : wv.cell? ⟨ga, 0, none⟩ = some (.int .i64 au.rep) := by simp [World.cell?, bga_wv]
  have cga_1 : wv.cell? ⟨ga, 1, none⟩ = some (.int .i64 au.n) := by simp [World.cell?, bga_wv]
  have cgp_0 : wv.cell? ⟨gp, 0, none⟩ = some (.map (some gm)) := by simp [World.cell?, bgp_wv]
  have cgb_0 : wv.cell? ⟨gb, 0, none⟩ = some (.int .i64 (seen 0)) := by simp [World.cell?, bgb_wv]
  have cgb_1 : wv.cell? ⟨gb, 1, none⟩ = some (.int .i64 (seen 1)) := by simp [World.cell?, bgb_wv]
  have cgb_2 : wv.cell? ⟨gb, 2, none⟩ = some (.int .i64 (seen 2)) := by simp [World.cell?, bgb_wv]
  have cgb_3 : wv.cell? ⟨gb, 3, none⟩ = some (.int .i64 (seen 3)) := by simp [World.cell?, bgb_wv]
  have cgb_4 : wv.cell? ⟨gb, 4, none⟩ = some (.int .i64 (seen 4)) := by simp [World.cell?, bgb_wv]
  have cgb_5 : wv.cell? ⟨gb, 5, none⟩ = some (.int .i64 (seen 5)) := by simp [World.cell?, bgb_wv]
  have cgb_6 : wv.cell? ⟨gb, 6, none⟩ = some (.int .i64 (seen 6)) := by simp [World.cell?, bgb_wv]
  have h' := h.ext xv
  have c7 := h'.cell 7 _ rfl
  have hm : wv.heap[bm]? = some (.map #[entD (d, s.V, 0), entD (d2, s2.V, 1)] 2) := by
    have := h'.blue
    rw [hbl, hbc] at this
    exact this
  have kr := range_map Tryz.underlying53 wv bm _ _ hm
  obtain ⟨w1, H1⟩ : ∃ x, Hid (wv.alloc (.mapIter (some bm) 2 #[] 2) = x) := ⟨_, Lib.hid rfl⟩
  obtain ⟨r, Hr⟩ : ∃ x, Hid (wv.heap.size = x) := ⟨_, Lib.hid rfl⟩
  have x1 : Ext wv w1 := by rw [← H1.out]; exact (Ext.refl wv).alloc _
  have hit : w1.heap[r]? = some (.mapIter (some bm) 2 #[] 2) := by rw [← H1.out, ← Hr.out]; exact Array.getElem?_push_size
  have hlm := (Array.getElem?_eq_some_iff.1 hm).1
  have hm1 : w1.heap[bm]? = some (.map #[entD (d, s.V, 0), entD (d2, s2.V, 1)] 2) := (x1.out.block bm hlm).trans hm
  have hne : bm ≠ r := by have := Hr.out; omega
  rw [H1.out, Hr.out] at kr
  have hNN := next_two w1 r bm 2 _ 2 #[] (entD (d, s.V, 0)) (entD (d2, s2.V, 1)) (by simp [leftOf, entD]) hit hm1 (by simp [entD]) (Nat.le_refl _) hne
  have kh1 := fun W => has_any seen d.rep d.n W
  have kh2 := fun W => has_any seen d2.rep d2.n W
  rw [hs1] at kh1
  rw [hs2] at kh2
  unfold vf dotv at kh1 kh2
  unfold vf dotv
  have Hk1 := Lib.hid hk
  have Hk2 := Lib.hid hk2
  have Hau := Lib.hid hau
  have nd := h.nd
  clear hit hm1 hm hlm hbl hbc hs1 hs2 hk hk2 hau nd
  clear bga_wa bga_wb bgb_wb bga_wm bgb_wm bgm_wm bga_wp bgb_wp bgm_wp bgp_wp bga_wv bgb_wv bgm_wv bgp_wv
  rcases hNN with hN | hN
  · obtain ⟨w2, kna, ita, hma, k2⟩ := hN
    have x2a : Ext wv w2 := k2.toExt x1 (fun k hk => by have e1 : k = r := (by simpa using hk); have := Hr.out; omega)
    have hnr := Lib.hid hne
    clear hne
    have kea := run_entry_at (P := Tryz.prog) w2 r bm 2 #[] #[entD (d, s.V, 0), entD (d2, s2.V, 1)] 2 (entD (d, s.V, 0)) ita hma (by simp) (by simp [entD])
    simp only [entD] at kna kea
    have Hita := Lib.hid ita
    have Hma := Lib.hid hma
    have Hlra := Lib.hid (Array.getElem?_eq_some_iff.1 ita).1
    obtain ⟨g4a, g5a, a3a, a4a, a5a, a6a, G4a, A3a, G5a, A4a, A5a, hsta, d0a, d1a, f0a, f1a, bb4a, S5a, x6a⟩ := boxes w2 d s
    have q1a := G4a.out
    have q2a := A3a.out
    have q3a := G5a.out
    have q4a := A4a.out
    have q5a := A5a.out
    simp only [zs19] at q4a
    have t1a : a6a.cell? ⟨g4a, 0, none⟩ = some (.int .i64 d.rep) := by simp [World.cell?, bb4a]
    have t2a : a6a.cell? ⟨g4a, 1, none⟩ = some (.int .i64 d.n) := by simp [World.cell?, bb4a]
    have hla : s.L.length = 19 := rfl
    have Bva := x2a.trans x6a
    have sva_0 : a6a.cell? ⟨gb, 0, none⟩ = some (.int .i64 (seen 0)) := Bva.cell cgb_0
    have sva_1 : a6a.cell? ⟨gb, 1, none⟩ = some (.int .i64 (seen 1)) := Bva.cell cgb_1
    have sva_2 : a6a.cell? ⟨gb, 2, none⟩ = some (.int .i64 (seen 2)) := Bva.cell cgb_2
    have sva_3 : a6a.cell? ⟨gb, 3, none⟩ = some (.int .i64 (seen 3)) := Bva.cell cgb_3
    have sva_4 : a6a.cell? ⟨gb, 4, none⟩ = some (.int .i64 (seen 4)) := Bva.cell cgb_4
    have sva_5 : a6a.cell? ⟨gb, 5, none⟩ = some (.int .i64 (seen 5)) := Bva.cell cgb_5
    have sva_6 : a6a.cell? ⟨gb, 6, none⟩ = some (.int .i64 (seen 6)) := Bva.cell cgb_6
    clear ita hma
    have hr := Hr.out
    have eq_Gga := Gga.out
    have eq_Hwa := Hwa.out
    have eq_Ggb := Ggb.out
    have eq_Hwb := Hwb.out
    have eq_Ggm := Ggm.out
    have eq_Hwm := Hwm.out
    have eq_Ggp := Ggp.out
    have eq_Hwp := Hwp.out
    have eq_Hwv := Hwv.out
    go_enter Tryz.func131, Tryz.ntmps131
    go_wp2_with fail
    refine wp_loop_rounds 3 ?_
    rw [rounds_succ]
    clear eq_Gga eq_Hwa eq_Ggb eq_Hwb eq_Ggm eq_Hwm eq_Ggp eq_Hwp eq_Hwv
    clear hr kr
    go_wp2_with fail
    refine (kh1 _).mono ?_
    rintro e b1a ⟨rfl, y1a⟩
    clear sva_0 sva_1 sva_2 sva_3 sva_4 sva_5 sva_6 q1a q2a q3a q4a q5a d0a d1a f0a f1a t1a t2a hla hsta kna kea
    have S7a := S5a.ext y1a
    have k0a : b1a.cell? ⟨g5a, 0, none⟩ = some (.int .i64 1) := by rw [← Hk1.out]; exact S7a.cell 0 _ rfl
    have X6a := x6a.trans y1a
    go_wp2_with fail
    clear k0a
    have itx : b1a.heap[r]? = some (.mapIter (some bm) 2 #[0] 2) := (X6a.out.block r Hlra.out).trans Hita.out
    have hmx : b1a.heap[bm]? = some (.map #[entD (d, s.V, 0), entD (d2, s2.V, 1)] 2) := (X6a.out.block bm (Array.getElem?_eq_some_iff.1 Hma.out).1).trans Hma.out
    obtain ⟨n2, knb, itb, hmb, kb⟩ := next_one b1a r bm 2 _ 2 #[0] (entD (d2, s2.V, 1)) (by simp [leftOf, entD]) itx hmx (by simp [entD]) (Nat.le_refl _) hnr.out
    have x2b : Ext wv n2 := kb.toExt (x2a.trans X6a) (fun k hk => by have e1 : k = r := (by simpa using hk); have := Hr.out; omega)
    have Hkb := Lib.hid kb
    clear itx hmx kb
    have keb := run_entry_at (P := Tryz.prog) n2 r bm 2 #[0] #[entD (d, s.V, 0), entD (d2, s2.V, 1)] 2 (entD (d2, s2.V, 1)) itb hmb (by simp) (by simp [entD])
    simp only [entD] at knb keb
    have Hitb := Lib.hid itb
    have Hmb := Lib.hid hmb
    have Hlrb := Lib.hid (Array.getElem?_eq_some_iff.1 itb).1
    obtain ⟨g4b, g5b, a3b, a4b, a5b, a6b, G4b, A3b, G5b, A4b, A5b, hstb, d0b, d1b, f0b, f1b, bb4b, S5b, x6b⟩ := boxes n2 d2 s2
    have q1b := G4b.out
    have q2b := A3b.out
    have q3b := G5b.out
    have q4b := A4b.out
    have q5b := A5b.out
    simp only [zs19] at q4b
    have t1b : a6b.cell? ⟨g4b, 0, none⟩ = some (.int .i64 d2.rep) := by simp [World.cell?, bb4b]
    have t2b : a6b.cell? ⟨g4b, 1, none⟩ = some (.int .i64 d2.n) := by simp [World.cell?, bb4b]
    have hlb : s2.L.length = 19 := rfl
    have Bvb := x2b.trans x6b
    have svb_0 : a6b.cell? ⟨gb, 0, none⟩ = some (.int .i64 (seen 0)) := Bvb.cell cgb_0
    have svb_1 : a6b.cell? ⟨gb, 1, none⟩ = some (.int .i64 (seen 1)) := Bvb.cell cgb_1
    have svb_2 : a6b.cell? ⟨gb, 2, none⟩ = some (.int .i64 (seen 2)) := Bvb.cell cgb_2
    have svb_3 : a6b.cell? ⟨gb, 3, none⟩ = some (.int .i64 (seen 3)) := Bvb.cell cgb_3
    have svb_4 : a6b.cell? ⟨gb, 4, none⟩ = some (.int .i64 (seen 4)) := Bvb.cell cgb_4
    have svb_5 : a6b.cell? ⟨gb, 5, none⟩ = some (.int .i64 (seen 5)) := Bvb.cell cgb_5
    have svb_6 : a6b.cell? ⟨gb, 6, none⟩ = some (.int .i64 (seen 6)) := Bvb.cell cgb_6
    clear itb hmb
    go_wp2_with fail
    rw [rounds_succ]
    go_wp2_with fail
    refine (kh2 _).mono ?_
    rintro e b1b ⟨rfl, y1b⟩
    clear svb_0 svb_1 svb_2 svb_3 svb_4 svb_5 svb_6 q1b q2b q3b q4b q5b d0b d1b f0b f1b t1b t2b hlb hstb knb keb
    have S7b := S5b.ext y1b
    have k0b : b1b.cell? ⟨g5b, 0, none⟩ = some (.int .i64 2) := by rw [← Hk2.out]; exact S7b.cell 0 _ rfl
    have X6b := x6b.trans y1b
    have bb7b := (y1b.out.block _ (Array.getElem?_eq_some_iff.1 bb4b).1).trans bb4b
    have t1b : b1b.cell? ⟨g4b, 0, none⟩ = some (.int .i64 d2.rep) := by simp [World.cell?, bb7b]
    have t2b : b1b.cell? ⟨g4b, 1, none⟩ = some (.int .i64 d2.n) := by simp [World.cell?, bb7b]
    have t3b : b1b.cell? ⟨g5b, 13, none⟩ = some (.int .i64 au.rep) := by rw [← Hau.out]; exact S7b.cell 13 _ rfl
    have t4b : b1b.cell? ⟨g5b, 14, none⟩ = some (.int .i64 au.n) := by rw [← Hau.out]; exact S7b.cell 14 _ rfl
    have t5b : b1b.cell? ⟨ga, 0, none⟩ = some (.int .i64 au.rep) := (Bvb.trans y1b).cell cga_0
    have t6b : b1b.cell? ⟨ga, 1, none⟩ = some (.int .i64 au.n) := (Bvb.trans y1b).cell cga_1
    have kdb : (Op.equalIn 10000 64 (.agg #[.int .i64 au.rep, .int .i64 au.n]) (.agg #[.int .i64 au.rep, .int .i64 au.n])).run Tryz.prog b1b = .ok true b1b := by rw [run_dot]; simp
    have Hl6b : Hid (r + 1 ≤ (World.heap b1b).size) := Lib.hid (Nat.le_trans Hlrb.out X6b.size)
    go_wp2_with ((with_reducible refine gate_dst (N := 47) rfl ?_); refine halt ?_)
    refine unhalt (wpList_append_own _ rfl _ _ 92 rfl (r + 1) 64 i0 (.agg #[.int .i64 0, .int .i64 0]) 2 16 Tryz.underlying92 hi hz0 hz1 hz2 rfl (by decide) _ 0 [] rfl (World.ownsRow_nil _ _ _ _) ⟨b1b.heap.size, 0, none⟩ 1 1 [.int .i64 d2.rep, .int .i64 d2.n] rfl rfl ?c1 ?c2 ?c3 ?c4 ?c5 ?_)
    case c1 =>
      intro j u hj
      match j, hj with
      | 0, hj => simp at hj; subst hj; simp [Addr.add]
      | 1, hj => simp at hj; subst hj; simp [Addr.add]
      | (j + 2), hj => simp at hj
    case c2 => intro u hu; simp at hu; rcases hu with rfl | rfl <;> rfl
    case c3 => unfold maxLen; omega
    case c4 => omega
    case c5 => have := Hl6b.out; simp; omega
    intro v' w7 hown hgr _
    have x67 : Ext b1b w7 := by
      have hO : (b1b.alloc (.cells #[.int .i64 d2.rep, .int .i64 d2.n] 64)).ownsRow (b1b.heap.size + 1) 64 1 (.slice none 0 0) 0 [] := World.ownsRow_nil _ _ _ _
      exact ext_own ((Ext.refl b1b).alloc _) hO (Nat.le_succ _) hgr
    obtain ⟨gg, cc, rfl, hcc, hce, hce2⟩ : ∃ gg cc, v' = .slice (some ⟨gg, 0, none⟩) 1 cc ∧ 1 ≤ cc ∧ w7.cell? ⟨gg, 0, none⟩ = some (.int .i64 d2.rep) ∧ w7.cell? ⟨gg, 1, none⟩ = some (.int .i64 d2.n) := by
      rcases hown.2 with ⟨-, h0⟩ | ⟨g, cap, cur, hv, hg, hh, hn, hm, hs, hc⟩
      · omega
      · have hj := World.ownsRow.cells hown (g := g) (by rw [hv]; rfl) 0 (.int .i64 d2.rep) (by simp)
        have hj2 := World.ownsRow.cells hown (g := g) (by rw [hv]; rfl) 1 (.int .i64 d2.n) (by simp)
        exact ⟨g, cap, hv, by omega, hj, hj2⟩
    have X7b := X6b.trans x67
    clear hown hgr k0b t1b t2b t3b t4b t5b t6b kdb
    have itz : w7.heap[r]? = some (.mapIter (some bm) 2 #[0, 1] 2) := (X7b.out.block r Hlrb.out).trans Hitb.out
    have hmz : w7.heap[bm]? = some (.map #[entD (d, s.V, 0), entD (d2, s2.V, 1)] 2) := (X7b.out.block bm (Array.getElem?_eq_some_iff.1 Hmb.out).1).trans Hmb.out
    have kn3 := next_none w7 r bm 2 _ 2 #[0, 1] (by simp [leftOf, entD]) itz hmz (by simp [entD]) (Nat.le_refl _)
    have X3 := xv.trans (x2b.trans X7b)
    clear itz hmz
    go_wp2_with fail
    rw [rounds_succ]
    go_wp2_with fail
    refine (sort_dot _ 1 cc _ (Nat.le_refl _) _).mono ?_
    rintro e w8 ⟨rfl, x8⟩
    have z0 := x8.cell hce
    have z1 := x8.cell hce2
    have X8 := X3.trans x8
    have hdel := deletef_b gp d2 gg cc hcc w8 z0 z1 (fun W x => bids1_any W gp gm d2 ((x2b.trans (X7b.trans (x8.trans x))).cell cgp_0) (MapD.ext (MapD.ext hgm (x2b.trans (X7b.trans x8))) x))
    have Hdel := Lib.hid hdel
    have Hz0 := Lib.hid z0
    have Hz1 := Lib.hid z1
    clear hdel z0 z1 hce hce2
    go_wp2_with fail
    refine Hdel.out.mono ?_
    rintro e w9 ⟨rfl, x9⟩
    go_wp2
    go_ret
    exact ⟨gg, cc, rfl, hcc, x9.cell Hz0.out, x9.cell Hz1.out, X8.trans x9⟩
  · obtain ⟨w2, kna, ita, hma, k2⟩ := hN
    have x2a : Ext wv w2 := k2.toExt x1 (fun k hk => by have e1 : k = r := (by simpa using hk); have := Hr.out; omega)
    have hnr := Lib.hid hne
    clear hne
    have kea := run_entry_at (P := Tryz.prog) w2 r bm 2 #[] #[entD (d, s.V, 0), entD (d2, s2.V, 1)] 2 (entD (d2, s2.V, 1)) ita hma (by simp) (by simp [entD])
    simp only [entD] at kna kea
    have Hita := Lib.hid ita
    have Hma := Lib.hid hma
    have Hlra := Lib.hid (Array.getElem?_eq_some_iff.1 ita).1
    obtain ⟨g4a, g5a, a3a, a4a, a5a, a6a, G4a, A3a, G5a, A4a, A5a, hsta, d0a, d1a, f0a, f1a, bb4a, S5a, x6a⟩ := boxes w2 d2 s2
    have q1a := G4a.out
    have q2a := A3a.out
    have q3a := G5a.out
    have q4a := A4a.out
    have q5a := A5a.out
    simp only [zs19] at q4a
    have t1a : a6a.cell? ⟨g4a, 0, none⟩ = some (.int .i64 d2.rep) := by simp [World.cell?, bb4a]
    have t2a : a6a.cell? ⟨g4a, 1, none⟩ = some (.int .i64 d2.n) := by simp [World.cell?, bb4a]
    have hla : s2.L.length = 19 := rfl
    have Bva := x2a.trans x6a
    have sva_0 : a6a.cell? ⟨gb, 0, none⟩ = some (.int .i64 (seen 0)) := Bva.cell cgb_0
    have sva_1 : a6a.cell? ⟨gb, 1, none⟩ = some (.int .i64 (seen 1)) := Bva.cell cgb_1
    have sva_2 : a6a.cell? ⟨gb, 2, none⟩ = some (.int .i64 (seen 2)) := Bva.cell cgb_2
    have sva_3 : a6a.cell? ⟨gb, 3, none⟩ = some (.int .i64 (seen 3)) := Bva.cell cgb_3
    have sva_4 : a6a.cell? ⟨gb, 4, none⟩ = some (.int .i64 (seen 4)) := Bva.cell cgb_4
    have sva_5 : a6a.cell? ⟨gb, 5, none⟩ = some (.int .i64 (seen 5)) := Bva.cell cgb_5
    have sva_6 : a6a.cell? ⟨gb, 6, none⟩ = some (.int .i64 (seen 6)) := Bva.cell cgb_6
    clear ita hma
    have hr := Hr.out
    have eq_Gga := Gga.out
    have eq_Hwa := Hwa.out
    have eq_Ggb := Ggb.out
    have eq_Hwb := Hwb.out
    have eq_Ggm := Ggm.out
    have eq_Hwm := Hwm.out
    have eq_Ggp := Ggp.out
    have eq_Hwp := Hwp.out
    have eq_Hwv := Hwv.out
    go_enter Tryz.func131, Tryz.ntmps131
    go_wp2_with fail
    refine wp_loop_rounds 3 ?_
    rw [rounds_succ]
    clear eq_Gga eq_Hwa eq_Ggb eq_Hwb eq_Ggm eq_Hwm eq_Ggp eq_Hwp eq_Hwv
    clear hr kr
    go_wp2_with fail
    refine (kh2 _).mono ?_
    rintro e b1a ⟨rfl, y1a⟩
    clear sva_0 sva_1 sva_2 sva_3 sva_4 sva_5 sva_6 q1a q2a q3a q4a q5a d0a d1a f0a f1a t1a t2a hla hsta kna kea
    have S7a := S5a.ext y1a
    have k0a : b1a.cell? ⟨g5a, 0, none⟩ = some (.int .i64 2) := by rw [← Hk2.out]; exact S7a.cell 0 _ rfl
    have X6a := x6a.trans y1a
    have bb7a := (y1a.out.block _ (Array.getElem?_eq_some_iff.1 bb4a).1).trans bb4a
    have t1a : b1a.cell? ⟨g4a, 0, none⟩ = some (.int .i64 d2.rep) := by simp [World.cell?, bb7a]
    have t2a : b1a.cell? ⟨g4a, 1, none⟩ = some (.int .i64 d2.n) := by simp [World.cell?, bb7a]
    have t3a : b1a.cell? ⟨g5a, 13, none⟩ = some (.int .i64 au.rep) := by rw [← Hau.out]; exact S7a.cell 13 _ rfl
    have t4a : b1a.cell? ⟨g5a, 14, none⟩ = some (.int .i64 au.n) := by rw [← Hau.out]; exact S7a.cell 14 _ rfl
    have t5a : b1a.cell? ⟨ga, 0, none⟩ = some (.int .i64 au.rep) := (Bva.trans y1a).cell cga_0
    have t6a : b1a.cell? ⟨ga, 1, none⟩ = some (.int .i64 au.n) := (Bva.trans y1a).cell cga_1
    have kda : (Op.equalIn 10000 64 (.agg #[.int .i64 au.rep, .int .i64 au.n]) (.agg #[.int .i64 au.rep, .int .i64 au.n])).run Tryz.prog b1a = .ok true b1a := by rw [run_dot]; simp
    have Hl6a : Hid (r + 1 ≤ (World.heap b1a).size) := Lib.hid (Nat.le_trans Hlra.out X6a.size)
    go_wp2_with ((with_reducible refine gate_dst (N := 47) rfl ?_); refine halt ?_)
    refine unhalt (wpList_append_own _ rfl _ _ 92 rfl (r + 1) 64 i0 (.agg #[.int .i64 0, .int .i64 0]) 2 16 Tryz.underlying92 hi hz0 hz1 hz2 rfl (by decide) _ 0 [] rfl (World.ownsRow_nil _ _ _ _) ⟨b1a.heap.size, 0, none⟩ 1 1 [.int .i64 d2.rep, .int .i64 d2.n] rfl rfl ?c1 ?c2 ?c3 ?c4 ?c5 ?_)
    case c1 =>
      intro j u hj
      match j, hj with
      | 0, hj => simp at hj; subst hj; simp [Addr.add]
      | 1, hj => simp at hj; subst hj; simp [Addr.add]
      | (j + 2), hj => simp at hj
    case c2 => intro u hu; simp at hu; rcases hu with rfl | rfl <;> rfl
    case c3 => unfold maxLen; omega
    case c4 => omega
    case c5 => have := Hl6a.out; simp; omega
    intro v' w7 hown hgr _
    have x67 : Ext b1a w7 := by
      have hO : (b1a.alloc (.cells #[.int .i64 d2.rep, .int .i64 d2.n] 64)).ownsRow (b1a.heap.size + 1) 64 1 (.slice none 0 0) 0 [] := World.ownsRow_nil _ _ _ _
      exact ext_own ((Ext.refl b1a).alloc _) hO (Nat.le_succ _) hgr
    obtain ⟨gg, cc, rfl, hcc, hce, hce2⟩ : ∃ gg cc, v' = .slice (some ⟨gg, 0, none⟩) 1 cc ∧ 1 ≤ cc ∧ w7.cell? ⟨gg, 0, none⟩ = some (.int .i64 d2.rep) ∧ w7.cell? ⟨gg, 1, none⟩ = some (.int .i64 d2.n) := by
      rcases hown.2 with ⟨-, h0⟩ | ⟨g, cap, cur, hv, hg, hh, hn, hm, hs, hc⟩
      · omega
      · have hj := World.ownsRow.cells hown (g := g) (by rw [hv]; rfl) 0 (.int .i64 d2.rep) (by simp)
        have hj2 := World.ownsRow.cells hown (g := g) (by rw [hv]; rfl) 1 (.int .i64 d2.n) (by simp)
        exact ⟨g, cap, hv, by omega, hj, hj2⟩
    have X7a := X6a.trans x67
    clear hown hgr k0a t1a t2a t3a t4a t5a t6a kda
    have itx : w7.heap[r]? = some (.mapIter (some bm) 2 #[1] 2) := (X7a.out.block r Hlra.out).trans Hita.out
    have hmx : w7.heap[bm]? = some (.map #[entD (d, s.V, 0), entD (d2, s2.V, 1)] 2) := (X7a.out.block bm (Array.getElem?_eq_some_iff.1 Hma.out).1).trans Hma.out
    obtain ⟨n2, knb, itb, hmb, kb⟩ := next_one w7 r bm 2 _ 2 #[1] (entD (d, s.V, 0)) (by simp [leftOf, entD]) itx hmx (by simp [entD]) (Nat.le_refl _) hnr.out
    have x2b : Ext wv n2 := kb.toExt (x2a.trans X7a) (fun k hk => by have e1 : k = r := (by simpa using hk); have := Hr.out; omega)
    have Hkb := Lib.hid kb
    clear itx hmx kb
    have keb := run_entry_at (P := Tryz.prog) n2 r bm 2 #[1] #[entD (d, s.V, 0), entD (d2, s2.V, 1)] 2 (entD (d, s.V, 0)) itb hmb (by simp) (by simp [entD])
    simp only [entD] at knb keb
    have Hitb := Lib.hid itb
    have Hmb := Lib.hid hmb
    have Hlrb := Lib.hid (Array.getElem?_eq_some_iff.1 itb).1
    obtain ⟨g4b, g5b, a3b, a4b, a5b, a6b, G4b, A3b, G5b, A4b, A5b, hstb, d0b, d1b, f0b, f1b, bb4b, S5b, x6b⟩ := boxes n2 d s
    have q1b := G4b.out
    have q2b := A3b.out
    have q3b := G5b.out
    have q4b := A4b.out
    have q5b := A5b.out
    simp only [zs19] at q4b
    have t1b : a6b.cell? ⟨g4b, 0, none⟩ = some (.int .i64 d.rep) := by simp [World.cell?, bb4b]
    have t2b : a6b.cell? ⟨g4b, 1, none⟩ = some (.int .i64 d.n) := by simp [World.cell?, bb4b]
    have hlb : s.L.length = 19 := rfl
    have Bvb := x2b.trans x6b
    have svb_0 : a6b.cell? ⟨gb, 0, none⟩ = some (.int .i64 (seen 0)) := Bvb.cell cgb_0
    have svb_1 : a6b.cell? ⟨gb, 1, none⟩ = some (.int .i64 (seen 1)) := Bvb.cell cgb_1
    have svb_2 : a6b.cell? ⟨gb, 2, none⟩ = some (.int .i64 (seen 2)) := Bvb.cell cgb_2
    have svb_3 : a6b.cell? ⟨gb, 3, none⟩ = some (.int .i64 (seen 3)) := Bvb.cell cgb_3
    have svb_4 : a6b.cell? ⟨gb, 4, none⟩ = some (.int .i64 (seen 4)) := Bvb.cell cgb_4
    have svb_5 : a6b.cell? ⟨gb, 5, none⟩ = some (.int .i64 (seen 5)) := Bvb.cell cgb_5
    have svb_6 : a6b.cell? ⟨gb, 6, none⟩ = some (.int .i64 (seen 6)) := Bvb.cell cgb_6
    clear itb hmb
    go_wp2_with fail
    rw [rounds_succ]
    go_wp2_with fail
    refine (kh1 _).mono ?_
    rintro e b1b ⟨rfl, y1b⟩
    clear svb_0 svb_1 svb_2 svb_3 svb_4 svb_5 svb_6 q1b q2b q3b q4b q5b d0b d1b f0b f1b t1b t2b hlb hstb knb keb
    have S7b := S5b.ext y1b
    have k0b : b1b.cell? ⟨g5b, 0, none⟩ = some (.int .i64 1) := by rw [← Hk1.out]; exact S7b.cell 0 _ rfl
    have X6b := x6b.trans y1b
    go_wp2_with fail
    clear k0b
    have itz : b1b.heap[r]? = some (.mapIter (some bm) 2 #[1, 0] 2) := (X6b.out.block r Hlrb.out).trans Hitb.out
    have hmz : b1b.heap[bm]? = some (.map #[entD (d, s.V, 0), entD (d2, s2.V, 1)] 2) := (X6b.out.block bm (Array.getElem?_eq_some_iff.1 Hmb.out).1).trans Hmb.out
    have kn3 := next_none b1b r bm 2 _ 2 #[1, 0] (by simp [leftOf, entD]) itz hmz (by simp [entD]) (Nat.le_refl _)
    have X3 := xv.trans (x2b.trans X6b)
    clear itz hmz
    go_wp2_with fail
    rw [rounds_succ]
    go_wp2_with fail
    refine (sort_dot _ 1 cc _ (Nat.le_refl _) _).mono ?_
    rintro e w8 ⟨rfl, x8⟩
    have hg : ∀ i v, w7.cell? ⟨gg, i, none⟩ = some v → gg ≠ r → b1b.cell? ⟨gg, i, none⟩ = some v := fun i v hv hn => X6b.cell (by rw [← hv]; exact World.cell?_of_block (Hkb.out.block gg (World.block_lt_of_cell? _ _ hv) (by simpa using hn)))
    have hgr : gg ≠ r := by
      rintro rfl
      have q := (X7a.out.block gg Hlra.out).trans Hita.out
      simp [World.cell?, q] at hce
    have z0 := x8.cell (hg 0 _ hce hgr)
    have z1 := x8.cell (hg 1 _ hce2 hgr)
    have X8 := X3.trans x8
    have hdel := deletef_b gp d2 gg cc hcc w8 z0 z1 (fun W x => bids1_any W gp gm d2 ((x2b.trans (X6b.trans (x8.trans x))).cell cgp_0) (MapD.ext (MapD.ext hgm (x2b.trans (X6b.trans x8))) x))
    have Hdel := Lib.hid hdel
    have Hz0 := Lib.hid z0
    have Hz1 := Lib.hid z1
    clear hdel z0 z1 hce hce2
    go_wp2_with fail
    refine Hdel.out.mono ?_
    rintro e w9 ⟨rfl, x9⟩
    go_wp2
    go_ret
    exact ⟨gg, cc, rfl, hcc, x9.cell Hz0.out, x9.cell Hz1.out, X8.trans x9⟩
end Go.Proofs.YtbemkefcaceekaaGreatDoor
