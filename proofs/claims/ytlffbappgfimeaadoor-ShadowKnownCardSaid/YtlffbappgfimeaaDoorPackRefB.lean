/- PackRefB: the walk of the reference's Bytes. -/
import Derived.Test.YtlffbappgfimeaaDoorPackRefNum
import Derived.Deep.RegionHeld3
set_option linter.unusedVariables false
set_option maxRecDepth 100000
namespace Go.Proofs.YtlffbappgfimeaaDoor
open Go.RowKit Go.Proofs.YtlffbappgfimeaaDoorW.PrintWords PackPure


/-- append in a region of open order. -/
theorem held_append {ops : Array Oper} {o : Oper} {a : Act} {K : Act → World → Prop} {Q : Exit → Act → World → Prop} {W : World} (hw : Region.wanted o (yielded ops a.tmps) = true) (s x : Operand)
    (ho : o.op = .call { callee := .builtin .append, args := #[s, x], argTypes := #[29, 29] })
    (v : Value) (l : List UInt8) (hs : a.eval s = v) (A : Option Addr) (l2 : List UInt8) (n c : Nat) (hx : a.eval x = .slice A n c) (hn : n = l2.length)
    (base : Nat) (HO : Ob W base v l) (HR : Bs W A l2) (hbase : base ≤ W.heap.size) (hl : l.length + l2.length ≤ 140737488355328)
    (h : ∀ v1 w1, Ob w1 base v1 (l ++ l2) → (∀ w0 : World, Ext w0 W → w0.heap.size ≤ base → Ext w0 w1) → K (a.put o.dst v1) w1) :
    if Region.wanted o (yielded ops a.tmps) = true then Oper.wp Tryd.prog o a W K Q else K (a.put o.dst undef) W := by
  rw [if_pos hw]
  obtain ⟨v1, w1, hr, hown, hg, _⟩ := append_run (ty := o.type) v l A l2 c base HO HR hbase hl
  subst hn
  unfold Oper.wp execOp
  simp only [ho, resolve, invoke, builtin, Sem.run_bind, Sem.run_pure, Result.andThen_ok, List.map_toArray, List.map_cons, List.map_nil, hs, hx, hr]
  exact h v1 w1 hown (fun w0 hx hb => hx.grown HO hb hg)

theorem rdNum_bad (l : List UInt8) (least most : Int) (h : (rdNum l false least most).2.2 = true) : rdNum l false least most = (0, [], true) := by
  unfold rdNum at h ⊢
  split
  · rfl
  · rename_i u i c hs
    rw [hs] at h
    simp only at h
    split
    · rfl
    · rename_i hc
      rw [if_neg hc] at h
      cases h
theorem rdBytes_of_bad (l : List UInt8) (most : Int) (h : (rdNum l false 0 most).2.2 = true) : rdBytes l false most = ([], [], true) := by
  rw [rdBytes, rdNum_bad l 0 most h]
  simp

/-- What Bytes leaves of the reference's reader. -/
def RefBytes (w : World) (g : Nat) (b : List UInt8) (r : List UInt8 × List UInt8 × Bool) (e : Ending) (w' : World) : Prop := But g w w' ∧ (∃ A c, e = .returned (.slice A r.1.length c) ∧ Bs w' A r.1) ∧ ∃ at2, RR w' g b at2 r.2.2 ∧ (r.2.2 = false → b.drop at2 = r.2.1)

set_option maxHeartbeats 1600000 in
theorem refbytes_bad (g : Nat) (b : List UInt8) (at_ : Nat) (most : Int) (w : World) (h : RR w g b at_ true) (hm : b.length ≤ 140737488355000) :
    Calls Tryd.prog 33 #[.pointer (some ⟨g, 0, none⟩), .int .i64 most] w fun e w' => e = .returned (.slice none 0 0) ∧ RR w' g b at_ true ∧ But g w w' := by
  go_enter Tryd.func33, Tryd.ntmps33
  go_wp2_with fail
  refine (refrnum_bad g b at_ 0 most w h).mono ?_
  rintro e w1 ⟨rfl, hw⟩
  obtain rfl := hw
  obtain ⟨A, c, hh, h0, h1, h2, f0, f1, f2, hl, ha, hB⟩ := h.cells
  clear hh
  go_wp2
  go_quiet (fail)
  go_wp2
  go_ret
  exact ⟨rfl, (h.ext ((Ext.refl _).drewN _)).setBad true, ((But.refl g w).ext ((Ext.refl _).drewN _)).setCell 2 _⟩

set_option maxHeartbeats 1600000 in
theorem refbytes_good (g : Nat) (b : List UInt8) (at_ : Nat) (most : Int) (w : World) (h : RR w g b at_ false) (hm : b.length ≤ 140737488355000) :
    Calls Tryd.prog 33 #[.pointer (some ⟨g, 0, none⟩), .int .i64 most] w (RefBytes w g b (rdBytes (b.drop at_) false most)) := by
  have hnn := rdNum_nonneg (b.drop at_) false most
  have hbadr := rdBytes_of_bad (b.drop at_) most
  have hdef : rdBytes (b.drop at_) false most = if ((rdNum (b.drop at_) false 0 most).2.1.length : Int) < (rdNum (b.drop at_) false 0 most).1 then ([], [], true) else ((rdNum (b.drop at_) false 0 most).2.1.take (rdNum (b.drop at_) false 0 most).1.toNat, (rdNum (b.drop at_) false 0 most).2.1.drop (rdNum (b.drop at_) false 0 most).1.toNat, (rdNum (b.drop at_) false 0 most).2.2) := rfl
  have Hdef0 := Lib.hid hdef
  have Hbadr := Lib.hid hbadr
  have Hnn := Lib.hid hnn
  clear hdef hbadr hnn
  go_enter Tryd.func33, Tryd.ntmps33
  go_wp2_with fail
  refine (refrnum_good g b at_ 0 most w h hm).mono ?_
  rintro e w1 ⟨hb1, rfl, at2, hr1, hq⟩
  have hdef := Hdef0.out
  have hbadr := Hbadr.out
  have hnn := Hnn.out
  clear Hdef0 Hbadr Hnn
  generalize rdNum (b.drop at_) false 0 most = q at *
  obtain ⟨x, l1, bad1⟩ := q
  simp only at hr1 hnn hdef hq hbadr
  obtain ⟨n, rfl⟩ := Int.eq_ofNat_of_zero_le hnn
  obtain ⟨A, c, hh, h0, h1, h2, f0, f1, f2, hl, ha, hB⟩ := hr1.cells
  have Hh := Lib.hid hh
  have Hdef := Lib.hid hdef
  have Hq := Lib.hid hq
  clear hh hdef hq
  cases bad1 with
  | true =>
    have Hb := Lib.hid (hbadr rfl)
    clear hbadr
    go_wp2
    go_quiet (fail)
    go_wp2
    go_ret
    refine ⟨(hb1.ext ((Ext.refl _).drewN _)).setCell 2 _, ⟨none, 0, by rw [Hb.out]; rfl, by rw [Hb.out]; exact Bs.nil _⟩, at2, by rw [Hb.out]; exact (hr1.ext ((Ext.refl _).drewN _)).setBad true, fun hf => ?_⟩
    rw [Hb.out] at hf; cases hf
  | false =>
    have hl1 := Hq.out rfl
    clear hbadr
    by_cases hbig : (b.length : Int) - (at2 : Int) < (n : Int)
    · have e1 : rdBytes (b.drop at_) false most = ([], [], true) := by
        rw [Hdef.out, if_pos]
        rw [← hl1, List.length_drop]; omega
      have He1 := Lib.hid e1
      clear e1 hl1
      go_wp2
      go_quiet (fail)
      go_wp2
      go_ret
      refine ⟨(hb1.ext ((Ext.refl _).drewN _)).setCell 2 _, ⟨none, 0, by rw [He1.out]; rfl, by rw [He1.out]; exact Bs.nil _⟩, at2, by rw [He1.out]; exact (hr1.ext ((Ext.refl _).drewN _)).setBad true, fun hf => ?_⟩
      rw [He1.out] at hf; cases hf
    · have e1 : rdBytes (b.drop at_) false most = ((b.drop at2).take n, b.drop (at2 + n), false) := by
        rw [Hdef.out, if_neg]
        · rw [← hl1]; simp [List.drop_drop]
        · rw [← hl1, List.length_drop]; omega
      have He1 := Lib.hid e1
      clear e1 hl1
      have hmax := hB.max
      obtain ⟨A', hcut, hBm⟩ : ∃ A', (∀ W : World, (Instr.slice 29 (.slice A b.length c) (some (.int .i64 (at2 : Int))) (some (.int .i64 ((at2 : Int) + (n : Int)))) none).run Tryd.prog W = .ok (.slice A' n (c - at2)) W) ∧ Bs w1 A' ((b.drop at2).take n) := by
        have h1 := cut_mid (P := Tryd.prog) 29 5 .i64 .i64 Tryd.underlying29 info_u8i 1 info_u8s A b.length c (at2 : Int) ((at2 : Int) + (n : Int)) (by omega) (by omega) (by omega) hl
        rw [show ((at2 : Int) + (n : Int)).toNat - (at2 : Int).toNat = n from by omega, show c - (at2 : Int).toNat = c - at2 from by omega, Int.toNat_natCast] at h1
        refine ⟨if c = at2 then A else A.map (·.add (at2 * 1)), h1, ?_⟩
        · have h2 := Kd.C_mid (k := Kd.int .u8) (lo := at2) (hi := at2 + n) (xs := B b) (A := A) (w := w1) (c := c) (by rw [B_length]; exact hB) (by omega) (by rw [B_length]; omega) (by rw [B_length]; exact hl)
          have e2 : (b.drop at2).take n = (b.take (at2 + n)).drop at2 := by rw [List.drop_take, Nat.add_sub_cancel_left]
          have e3 : B ((b.drop at2).take n) = ((B b).take (at2 + n)).drop at2 := by rw [e2]; simp [B, List.map_take, List.map_drop]
          unfold Bs
          rw [← B_length, e3]
          exact h2
      have hlen : n = ((b.drop at2).take n).length := by rw [List.length_take, List.length_drop]; omega
      have Hlen := Lib.hid hlen
      have Hcut := Lib.hid hcut
      clear hlen hcut hmax
      generalize (b.drop at2).take n = mid at *
      go_wp2
      go_quiet (fail)
      go_wp2
      have hcut := Hcut.out
      have hsum : IntKind.i64.wrap ((at2 : Int) + (n : Int)) = (at2 : Int) + (n : Int) := by rw [IntKind.wrap_i64]; omega
      have hr0 : ∀ W, Ext w1 W → W.cell? ⟨g, 0, none⟩ = some (.slice A b.length c) := fun W hW => hW.cell h0
      have hr1' : ∀ W, Ext w1 W → W.cell? ⟨g, 1, none⟩ = some (.int .i64 (at2 : Int)) := fun W hW => hW.cell h1
      have hf1 : ∀ W, Ext w1 W → W.frozen? ⟨g, 1, none⟩ = false := fun W hW => by rw [World.frozen?_of_block (w := w1) (hW.out.block g hr1.lt)]; exact f1
      clear h0 h1 h2 f0 f1 f2
      go_region_held3 (fun W => Ext w1 W) (first | assumption | exact ((Ext.refl _).drewN _).drew | exact Ext.alloc (by assumption) _) ((refine held_append rfl _ _ rfl _ [] rfl A' mid n _ rfl Hlen.out w1.heap.size (by first | exact Ob.alloc_at _ _ [] (by exact Nat.le_refl _) (by decide) _ rfl _ rfl _ rfl | exact (Ob.alloc_at _ _ [] (by exact Nat.le_refl _) (by decide) _ rfl _ rfl _ rfl).ext ((Ext.refl _).drew)) (hBm.ext (by assumption)) (Ext.size (by assumption)) (by rw [← Hlen.out]; simp; omega) ?_; intro v1 w2 ho1 hg1; replace hg1 : Ext w1 w2 := hg1 w1 (by assumption) (Nat.le_refl _)))
      clear hsum hcut
      have hr2 := hr1.ext hg1
      rw [List.nil_append] at ho1
      obtain ⟨A2, c2, rfl, hl2, hB2⟩ := ho1.reads
      go_wp2
      go_ret
      have hb2 : But g w w2 := hb1.ext hg1
      refine ⟨hb2.setCell 1 _, ⟨A2, c2, by rw [He1.out]; rfl, ?_⟩, at2 + n, ?_, fun _ => by rw [He1.out]⟩
      · rw [He1.out]
        exact hB2.but (But.setCell (But.refl g _) 1 _) hr2.no
      · rw [He1.out]
        exact hr2.set (by omega) _ (by omega)

end Go.Proofs.YtlffbappgfimeaaDoor
