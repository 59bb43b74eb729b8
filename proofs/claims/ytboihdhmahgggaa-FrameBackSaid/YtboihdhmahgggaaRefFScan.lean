/- RefFScan: the walk of the reference's Scan. -/
import Derived.Test.YtboihdhmahgggaaRefFGet
set_option linter.unusedVariables false
set_option linter.unusedSimpArgs false
set_option maxRecDepth 100000
namespace Go.Proofs.Ytboihdhmahgggaa
open Go.RowKit Go.Proofs.YtboihdhmahgggaaW.PrintWords Go.Proofs.YtboihdhmahgggaaW.PrintLast CrcPure

theorem fscan_end (F : Nat) (b : List UInt8) (h : (fget b).2.2 ≠ 0) : fscan F b = ([], b, decide (b.length = 0)) := by
  rw [fscan_bad F b h]
  cases b <;> rfl

set_option maxHeartbeats 1600000 in
theorem rfscan_any (A : Option Addr) (n c : Nat) (b : List UInt8) (w : World) (hb : Bs w A b) (hn : n = b.length) (hc : n ≤ c) (hm : n ≤ 1000000) :
    Calls Try.prog 21 #[.slice A n c] w fun e w' => ∃ v, e = .returned (.tuple #[v, .int .i64 ((n : Int) - ((fscan n b).2.1.length : Nat)), .bool (fscan n b).2.2]) ∧ Ext w w' ∧ ∃ l, Oss w' w.heap.size v l ∧ l.map (·.2.2) = (fscan n b).1 := by
  have Hn := Lib.hid hn
  clear hn
  obtain ⟨S, HS⟩ : ∃ S, Hid (fscan n b = S) := ⟨_, Lib.hid rfl⟩
  rw [HS.out]
  go_enter Try.func21, Try.ntmps21
  go_wp2
  go_loopw [5, 6] (fun x_ y wr => ∃ (l : List Ent) (k F : Nat), y = .int .i64 (k : Int) ∧ k ≤ n ∧ n ≤ k + F ∧ l.length ≤ k ∧ Oss wr w.heap.size x_ l ∧ Ext w wr ∧ l.map (·.2.2) ++ (fscan F (b.drop k)).1 = S.1 ∧ (fscan F (b.drop k)).2 = S.2) (fun _ y _ => n - (intOf y).toNat)
  case atStart => exact ⟨[], 0, n, rfl, Nat.zero_le _, by omega, Nat.zero_le _, Oss.nil _ _, Ext.refl _, by rw [List.drop_zero, HS.out]; rfl, by rw [List.drop_zero, HS.out]⟩
  case round =>
    obtain ⟨l, k, F, rfl, hk, hF, hlk, ho, hx, hS1, hS2⟩ := hrel
    obtain ⟨A1, hc1, hBf, hl1, hc1'⟩ := bs_tail A n c b (k : Int) k rfl Hn.out hc (by omega)
    have hB1 := (hBf w hb).ext hx
    obtain ⟨b1, Hb1⟩ : ∃ b1, Hid (b.drop k = b1) := ⟨_, Lib.hid rfl⟩
    rw [Hb1.out] at hB1 hl1 hS1 hS2 hBf
    obtain ⟨m, Hm⟩ : ∃ m, Hid (n - k = m) := ⟨_, Lib.hid rfl⟩
    rw [Hm.out] at hc1 hl1 hc1'
    have Hl1 := Lib.hid hl1
    have HS1 := Lib.hid hS1
    have HS2 := Lib.hid hS2
    have HBf := Lib.hid hBf
    clear hl1 hBf hS1 hS2
    go_wp2_with fail
    refine (rfget_any A1 m (c - k) b1 wr hB1 Hl1.out hc1' (by have := Hm.out; omega)).mono ?_
    rintro e w1 ⟨x, y, rfl, hox, hoy, hx1⟩
    have hX := hx.trans hx1
    have hb := @fscan_end F b1
    have hrest := @fget_rest b1
    have hok := fun F => @fscan_ok F b1
    have hnil : fget b1 = ([], [], 8) ∨ b1 ≠ [] := by
      rcases b1 with _ | ⟨z, b1⟩
      · exact Or.inl fget_nil
      · exact Or.inr (by simp)
    obtain ⟨q, Hq⟩ : ∃ q, Hid (fget b1 = q) := ⟨_, Lib.hid rfl⟩
    rw [Hq.out] at hox hoy hb hok hrest hnil ⊢
    by_cases q0 : q.2.2 = 0
    · have hne : b1 ≠ [] := hnil.resolve_left (by rintro rfl; simp at q0)
      have hm1 : 1 ≤ m := by rw [Hl1.out]; exact List.length_pos_iff.2 hne
      obtain ⟨F, rfl⟩ : ∃ F', F = F' + 1 := ⟨F - 1, by have := Hm.out; omega⟩
      have hres := hok F q0
      rw [hres] at HS1 HS2
      obtain ⟨N, hN1, hN2, hN3, hN4, hN5⟩ := hrest q0
      obtain ⟨q1, q2, q3⟩ := q
      simp only at q0 hox hoy HS1 HS2 hN1 hN4 ⊢
      subst q0
      obtain ⟨A2, c2, rfl, hl2, hB2⟩ := hox
      obtain ⟨A3, c3, rfl, hl3, hB3⟩ := hoy
      have ho' := ho.ext hx1
      have hB2w := hB2 w (HBf.out w ‹_›)
      have hfar : q1 ≠ [] → ∀ a, A2 = some a → Value.ownBlock _ ≠ some a.block := fun hne a ha he => by
        have h1 := Bs.lt (by rw [← ha]; exact hB2w) hne
        have h2 := own_base ho'.row _ he
        omega
      have hrl : q2.length = n - (k + N) := by rw [hN1, List.length_drop, ← Hl1.out, ← Hm.out]; omega
      have hNm : N ≤ m := by rw [Hl1.out]; exact hN3
      have Hrl := Lib.hid hrl
      have HN1 := Lib.hid hN1
      have HB2 := Lib.hid hB2w
      clear hrl hres hb hok hrest hN4 hN5 hN1 hB2 hB3 hnil hne hB2w
      go_wp2_with ((with_reducible refine gate_dst (N := 29) rfl ?_); refine halt ?_)
      refine unhalt (wp_appends rfl _ _ rfl _ l rfl ⟨w1.heap.size, 0, none⟩ (A2, c2, q1) 1 rfl w.heap.size (ho'.ext ((Ext.refl _).alloc _)) ?_ hl2 (HB2.out.ext (hX.alloc _)) hfar (hX.alloc _).size (by omega) ?_)
      · exact cell_new _ _ _ _ rfl
      intro v3 w3 ho3 hg3 _
      have hx3 : Ext w w3 := ext_row (hX.alloc _) (ho'.ext ((Ext.refl _).alloc _)).row (Nat.le_refl _) hg3
      clear hg3 ho'
      have hkN : k + N ≤ n := by have := Hm.out; omega
      have hwr : wrap64 ((n : Int) - (q2.length : Int)) = (k : Int) + (N : Int) := by
        have := Hrl.out
        unfold wrap64
        omega
      go_wp2
      go_roundw
      case rel =>
        refine ⟨l ++ [(A2, c2, q1)], k + N, F, by rw [hwr]; go_num, by omega, by omega, by simp; omega, ho3, hx3, ?_, ?_⟩
        · rw [← HS1.out, HN1.out, ← Hb1.out, List.drop_drop]; simp
        · rw [← HS2.out, HN1.out, ← Hb1.out, List.drop_drop]
      case measure => simp [intOf, hwr]; omega
    · have hres := hb q0
      rw [hres] at HS1 HS2
      have qb : ¬ ((q.2.2 : Int) = 0) := by omega
      have ho' := ho.ext hx1
      clear hres hb hok hrest hnil
      go_wp2
      go_ret3
      have h1 := HS1.out
      have h2 := HS2.out
      rw [List.append_nil] at h1
      refine ⟨_, ?_, hX, l, ho', h1⟩
      rw [← h2]
      have e2 : (n : Int) - (b1.length : Nat) = k := by rw [← Hl1.out, ← Hm.out]; omega
      have e3 : ((k : Int) == (n : Int)) = decide (b1.length = 0) := by
        rw [← Hl1.out, ← Hm.out]
        by_cases h : k = n
        · subst h; simp
        · rw [decide_eq_false (by omega)]; simp; omega
      rw [e2, ← e3]
      rfl

end Go.Proofs.Ytboihdhmahgggaa
