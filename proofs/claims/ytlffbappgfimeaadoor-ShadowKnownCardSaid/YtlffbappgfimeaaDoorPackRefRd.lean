/- PackRefRd: the walks of the reference's reader. -/
import Derived.Test.YtlffbappgfimeaaDoorPackRdB
import Derived.BigQuiet
import Derived.Deep.QuietTactic
set_option linter.unusedVariables false
set_option maxRecDepth 100000
namespace Go.Proofs.YtlffbappgfimeaaDoor
open Go.RowKit Go.Proofs.YtlffbappgfimeaaDoorW.PrintWords PackPure

/-- The reference's reader: all its bytes, where it is, is it bad. -/
def RR (w : World) (g : Nat) (b : List UInt8) (at_ : Nat) (bad : Bool) : Prop := ∃ A c, w.heap[g]? = some (.cells #[.slice A b.length c, .int .i64 (at_ : Int), .bool bad] 62 (0, 0)) ∧ b.length ≤ c ∧ at_ ≤ b.length ∧ Bs w A b
theorem RR.lt {w : World} {g : Nat} {b : List UInt8} {at_ : Nat} {bad : Bool} (h : RR w g b at_ bad) : g < w.heap.size := by
  obtain ⟨A, c, hh, _⟩ := h
  exact (Array.getElem?_eq_some_iff.1 hh).1
theorem RR.no {w : World} {g : Nat} {b : List UInt8} {at_ : Nat} {bad : Bool} (h : RR w g b at_ bad) : ∀ ad v, w.cell? ad = some v → ad.block = g → ∀ n, v ≠ .int .u8 n := by
  obtain ⟨A, c, hh, _⟩ := h
  intro ad v hv hg n hn
  subst hn
  subst hg
  have h1 : w.cell? ad = if ad.spot.isSome = true then none else #[Value.slice A b.length c, Value.int .i64 (at_ : Int), Value.bool bad][ad.off]? := by simp only [World.cell?, hh]
  rw [h1] at hv
  split at hv
  · cases hv
  generalize ad.off = o at hv
  match o, hv with
  | 0, hv => simp at hv
  | 1, hv => simp at hv
  | 2, hv => simp at hv
  | o + 3, hv => simp at hv
theorem RR.ext {w w' : World} {g : Nat} {b : List UInt8} {at_ : Nat} {bad : Bool} (h : RR w g b at_ bad) (hx : Ext w w') : RR w' g b at_ bad := by
  have hlt := h.lt
  obtain ⟨A, c, hh, hl, ha, hB⟩ := h
  exact ⟨A, c, (hx.out.block g hlt).trans hh, hl, ha, hB.ext hx⟩
theorem RR.but {w w' : World} {g g' : Nat} {b : List UInt8} {at_ : Nat} {bad : Bool} (h : RR w g b at_ bad) (hb : But g' w w') (hne : g ≠ g') (hno : ∀ ad v, w.cell? ad = some v → ad.block = g' → ∀ n, v ≠ .int .u8 n) : RR w' g b at_ bad := by
  have hlt := h.lt
  obtain ⟨A, c, hh, hl, ha, hB⟩ := h
  exact ⟨A, c, (hb.block g hlt hne).trans hh, hl, ha, hB.but hb hno⟩
theorem RR.cells {w : World} {g : Nat} {b : List UInt8} {at_ : Nat} {bad : Bool} (h : RR w g b at_ bad) : ∃ A c, w.heap[g]? = some (.cells #[.slice A b.length c, .int .i64 (at_ : Int), .bool bad] 62 (0, 0)) ∧ w.cell? ⟨g, 0, none⟩ = some (.slice A b.length c) ∧ w.cell? ⟨g, 1, none⟩ = some (.int .i64 (at_ : Int)) ∧ w.cell? ⟨g, 2, none⟩ = some (.bool bad) ∧ w.frozen? ⟨g, 0, none⟩ = false ∧ w.frozen? ⟨g, 1, none⟩ = false ∧ w.frozen? ⟨g, 2, none⟩ = false ∧ b.length ≤ c ∧ at_ ≤ b.length ∧ Bs w A b := by
  obtain ⟨A, c, hh, hl, ha, hB⟩ := h
  exact ⟨A, c, hh, by simp [World.cell?, hh], by simp [World.cell?, hh], by simp [World.cell?, hh], by simp [World.frozen?, hh], by simp [World.frozen?, hh], by simp [World.frozen?, hh], hl, ha, hB⟩

/-- What raw answers. -/
def rawRes (l : List UInt8) : Option (Nat × Nat × UInt8) :=
  match scan 0 0 l with
  | none => none
  | some (u, i, c) => if i = 9 ∧ 1 < c.toNat then none else some (u, i, c)
theorem and127_all : ∀ x : Nat, x < 256 → bits .and .u8 (x : Int) 127 = ((x % 128 : Nat) : Int) := by decide +kernel

theorem grp_go_ref (u : Nat) (b : UInt8) (k : Nat) (hu : u < 18446744073709551616) :
    bits .or .u64 (u : Int) (IntKind.u64.wrap (IntKind.u64.wrap (bits .and .u8 (b.toNat : Int) 127) * 2 ^ (7 * k))) = ((grp u b.toNat k : Nat) : Int) := by
  rw [and127_all _ b.toNat_lt, ← andNot128_all _ b.toNat_lt]
  exact grp_go u b k hu

/-- What a call of raw leaves. -/
def RawPost (g : Nat) (b : List UInt8) (at_ : Nat) (bad : Bool) (w : World) (e : Ending) (w' : World) : Prop := But g w w' ∧
  match rawRes (b.drop at_) with
  | none => e = .returned (.tuple #[.int .u64 0, .bool false]) ∧ RR w' g b at_ bad
  | some (u, i, c) => e = .returned (.tuple #[.int .u64 (u : Int), .bool (decide (0 < c.toNat) || decide (i = 0))]) ∧ RR w' g b (at_ + i + 1) bad
theorem RawPost.no {g : Nat} {b : List UInt8} {at_ : Nat} {bad : Bool} {w w' : World} {e : Ending} (h : rawRes (b.drop at_) = none) (he : e = .returned (.tuple #[.int .u64 0, .bool false])) (hr : RR w' g b at_ bad) (hb : But g w w') : RawPost g b at_ bad w e w' := by
  refine ⟨hb, ?_⟩
  rw [h]
  exact ⟨he, hr⟩
theorem RawPost.yes {g : Nat} {b : List UInt8} {at_ u i : Nat} {c : UInt8} {bad : Bool} {w w' : World} {e : Ending} (h : rawRes (b.drop at_) = some (u, i, c)) (he : e = .returned (.tuple #[.int .u64 (u : Int), .bool (decide (0 < c.toNat) || decide (i = 0))])) (hr : RR w' g b (at_ + i + 1) bad) (hb : But g w w') : RawPost g b at_ bad w e w' := by
  refine ⟨hb, ?_⟩
  rw [h]
  exact ⟨he, hr⟩
theorem RR.set {w : World} {g : Nat} {b : List UInt8} {at_ at2 : Nat} {bad : Bool} (h : RR w g b at_ bad) (h2 : at2 ≤ b.length) (v : Int) (hv : v = (at2 : Int)) : RR (w.setCell ⟨g, 1, none⟩ (.int .i64 v)) g b at2 bad := by
  subst hv
  have hno := h.no
  obtain ⟨A, c, hh, hl, ha, hB⟩ := h
  exact ⟨A, c, Joins.block_setCell hh (i := 1) _, hl, h2, hB.but (But.setCell (But.refl g _) 1 _) hno⟩
theorem RR.setBad {w : World} {g : Nat} {b : List UInt8} {at_ : Nat} {bad : Bool} (h : RR w g b at_ bad) (v : Bool) : RR (w.setCell ⟨g, 2, none⟩ (.bool v)) g b at_ v := by
  have hno := h.no
  obtain ⟨A, c, hh, hl, ha, hB⟩ := h
  exact ⟨A, c, Joins.block_setCell hh (i := 2) _, hl, ha, hB.but (But.setCell (But.refl g _) 2 _) hno⟩

theorem ret_tb {v : Value} {x y : Bool} (h : x = y) : Ending.returned (.tuple #[v, .bool x]) = .returned (.tuple #[v, .bool y]) := by rw [h]
set_option maxHeartbeats 1600000 in
theorem raw_any (g : Nat) (b : List UInt8) (at_ : Nat) (bad : Bool) (w : World) (h : RR w g b at_ bad) (hm : b.length ≤ 140737488355000) :
    Calls Tryd.prog 50 #[.pointer (some ⟨g, 0, none⟩)] w (RawPost g b at_ bad w) := by
  go_enter Tryd.func50, Tryd.ntmps50
  go_wp2
  go_loopw [4, 5] (fun x y wr => ∃ (k u : Nat), k ≤ 10 ∧ y = .int .i64 k ∧ x = .int .u64 u ∧ u < 18446744073709551616 ∧ scan 0 0 (b.drop at_) = scan k u ((b.drop at_).drop k) ∧ Ext w wr) (fun _ y _ => 10 - (intOf y).toNat)
  case atStart => exact ⟨0, 0, Nat.zero_le _, rfl, rfl, by decide, by rw [List.drop_zero], Ext.refl _⟩
  case round =>
    obtain ⟨k, u, hk, rfl, rfl, hu, hsc, hx⟩ := hrel
    have hR := h.ext hx
    obtain ⟨A, c, hh, h0, h1, h2, f0, f1, f2, hl, ha, hB⟩ := hR.cells
    clear hh h2 f0 f2
    have hz1 : But g w wr := But.of_ext hx
    by_cases hlt : k < 10
    · have hd10 : decide ((k : Int) < 10) = true := by simp; omega
      by_cases hin : at_ + k < b.length
      · have hkl : k < (b.drop at_).length := by rw [List.length_drop]; omega
        rw [scan_at (b.drop at_) k u hkl hlt] at hsc
        have hgd : (b.drop at_).getD k 0 = b.getD (at_ + k) 0 := by simp [List.getD_eq_getElem?_getD]
        rw [hgd] at hsc
        obtain ⟨ad, rfl, hb⟩ := hB.at (at_ + k) hin
        have hblt := (b.getD (at_ + k) 0).toNat_lt
        have hgo := grp_go_ref u (b.getD (at_ + k) 0) k hu
        have hgl := grp_lt u (b.getD (at_ + k) 0).toNat k hu
        generalize b.getD (at_ + k) 0 = y at *
        generalize grp u y.toNat k = u2 at *
        have hbr := B_range y
        have Hsc := Lib.hid hsc
        clear hsc hgd
        by_cases h9 : 9 ≤ k
        · have hk9 : ((k : Int) == 9) = true := by simp; omega
          by_cases hy1 : 1 < y.toNat
          · have hraw : rawRes (b.drop at_) = none := by
              rw [rawRes, Hsc.out]
              by_cases hy : y.toNat < 128
              · rw [if_pos hy]; simp only; rw [if_pos ⟨by omega, hy1⟩]
              · rw [if_neg hy, scan_end _ _ _ (by omega)]
            have Hraw := Lib.hid hraw
            clear hraw
            go_wp2
            go_quiet (fail)
            go_wp2
            go_quiet (fail)
            go_wp2
            go_ret2
            exact RawPost.no Hraw.out rfl (hR.ext (by repeat (first | exact Ext.refl _ | apply Ext.drewN | apply Ext.drew))) (hz1.ext (by repeat (first | exact Ext.refl _ | apply Ext.drewN | apply Ext.drew)))
          · have hy : y.toNat < 128 := by omega
            have hraw : rawRes (b.drop at_) = some (u2, k, y) := by
              rw [rawRes, Hsc.out, if_pos hy]; simp only; rw [if_neg (fun h => hy1 h.2)]
            have Hraw := Lib.hid hraw
            clear hraw
            have hk0 : ((k : Int) == 0) = false := by simp; omega
            by_cases hy0 : 0 < y.toNat
            all_goals
              go_wp2
              go_quiet (fail)
              go_wp2
              go_quiet (fail)
              go_wp2
              go_ret2
              exact RawPost.yes Hraw.out (ret_tb (by simp; omega)) ((hR.ext ((Ext.refl _).drewN _)).set (by omega) _ (by omega)) ((hz1.ext ((Ext.refl _).drewN _)).setCell 1 _)
        · have hk9 : ((k : Int) == 9) = false := by simp; omega
          by_cases hy : y.toNat < 128
          · have hraw : rawRes (b.drop at_) = some (u2, k, y) := by
              rw [rawRes, Hsc.out, if_pos hy]; simp only; rw [if_neg (fun h => h9 (by omega))]
            have Hraw := Lib.hid hraw
            clear hraw
            by_cases hy0 : 0 < y.toNat
            all_goals
              by_cases hkk : 0 < k
              all_goals
                try have hk0 : ((k : Int) == 0) = false := by simp; omega
                try have hk0 : ((k : Int) == 0) = true := by simp; omega
                go_wp2
                go_quiet (fail)
                go_wp2
                go_quiet (fail)
                go_wp2
                go_ret2
                exact RawPost.yes Hraw.out (ret_tb (by simp; omega)) ((hR.ext ((Ext.refl _).drewN _)).set (by omega) _ (by omega)) ((hz1.ext ((Ext.refl _).drewN _)).setCell 1 _)
          · have hnext : scan 0 0 (b.drop at_) = scan (k + 1) u2 ((b.drop at_).drop (k + 1)) := by rw [Hsc.out, if_neg hy]
            have Hnext := Lib.hid hnext
            clear hnext Hsc
            go_wp2
            go_quiet (fail)
            go_wp2
            go_quiet (fail)
            go_wp2
            go_roundw
            case rel => exact ⟨k + 1, u2, by omega, by go_num, rfl, hgl, Hnext.out, hx.trans ((Ext.refl _).drewN _)⟩
            case measure => simp [intOf]; omega
      · have hraw : rawRes (b.drop at_) = none := by
          rw [rawRes, hsc, scan_end _ _ _ (by rw [List.length_drop]; omega)]
        have Hraw := Lib.hid hraw
        clear hraw hsc
        go_wp2
        go_quiet (fail)
        go_wp2
        go_ret2
        exact RawPost.no Hraw.out rfl (hR.ext ((Ext.refl _).drewN _)) (hz1.ext ((Ext.refl _).drewN _))
    · have hd10 : decide ((k : Int) < 10) = false := by simp; omega
      have hraw : rawRes (b.drop at_) = none := by
        rw [rawRes, hsc, scan_end _ _ _ (by omega)]
      have Hraw := Lib.hid hraw
      clear hraw hsc
      go_wp2
      go_quiet (fail)
      go_wp2
      go_ret2
      exact RawPost.no Hraw.out rfl (hR.ext ((Ext.refl _).drewN _)) (hz1.ext ((Ext.refl _).drewN _))

end Go.Proofs.YtlffbappgfimeaaDoor
