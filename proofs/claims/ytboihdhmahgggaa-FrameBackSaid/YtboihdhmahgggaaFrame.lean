/- Frame: the walks of frame.number, frame.read, frame.Put. -/
import Derived.Test.YtboihdhmahgggaaClone
import Derived.Test.YtboihdhmahgggaaFramePure
set_option linter.unusedVariables false
set_option maxRecDepth 100000
namespace Go.Proofs.Ytboihdhmahgggaa
open Go.RowKit Go.Proofs.YtboihdhmahgggaaW.PrintWords CrcPure

theorem n4_B (v : Nat) (h : v < 4294967296) (a b c d : Int) (ha : a = ((v % 256 : Nat) : Int)) (hb : b = ((v / 256 % 256 : Nat) : Int)) (hc : c = ((v / 65536 % 256 : Nat) : Int)) (hd : d = ((v / 16777216 % 256 : Nat) : Int)) :
    (#[.int .u8 a, .int .u8 b, .int .u8 c, .int .u8 d] : Array Value) = ((B (n4 v)).map (Value.int .u8)).toArray := by
  subst ha hb hc hd
  simp only [n4, B, List.map_cons, List.map_nil, UInt8.toNat_ofNat', Nat.mod_mod]

theorem number_any (v : Nat) (w : World) (h : v < 4294967296) :
    Calls Try.prog 23 #[.int .u32 (v : Int)] w fun e w' => ∃ x, e = .returned x ∧ Ob w' w.heap.size x (n4 v) ∧ Ext w w' := by
  go_enter Try.func23, Try.ntmps23
  go_wp2
  go_ret
  exact ⟨_, rfl, Ob.alloc_at _ _ (n4 v) (Nat.le_refl _) (by simp [n4_length]) _ (n4_B v h _ _ _ _ (by omega) (by omega) (by omega) (by omega)) _ rfl _ rfl, (Ext.refl _).alloc _⟩

theorem bits_or_u32 (a b : Nat) (ha : a < 4294967296) (hb : b < 4294967296) : bits .or .u32 (a : Int) (b : Int) = ((a ||| b : Nat) : Int) := by
  have hx : a ||| b < 2 ^ 32 := Nat.or_lt_two_pow (by omega) (by omega)
  have h1 : (BitVec.ofInt 32 (a : Int)).toNat = a := by
    rw [BitVec.ofInt_natCast, BitVec.toNat_ofNat]; exact Nat.mod_eq_of_lt (by omega)
  have h2 : (BitVec.ofInt 32 (b : Int)).toNat = b := by
    rw [BitVec.ofInt_natCast, BitVec.toNat_ofNat]; exact Nat.mod_eq_of_lt (by omega)
  show IntKind.u32.wrap ((BitVec.ofInt 32 (a : Int) ||| BitVec.ofInt 32 (b : Int)).toNat : Int) = _
  rw [BitVec.toNat_or, h1, h2, IntKind.wrap_u32]
  omega
theorem or_add (a b k : Nat) (ha : a < 2 ^ k) : a ||| b * 2 ^ k = a + b * 2 ^ k := by
  rw [Nat.or_comm, ← Nat.shiftLeft_eq, ← Nat.shiftLeft_add_eq_or_of_lt ha, Nat.add_comm]
theorem rd4_step (l : List UInt8) (j : Nat) (hj : j < l.length) (h4 : l.length ≤ 4) :
    rd4 (l.take j) ||| ((l.getD j 0).toNat * 2 ^ (8 * j)) = rd4 (l.take (j + 1)) := by
  have h1 := rd4_lt (l.take j)
  have hl : (l.take j).length = j := by rw [List.length_take]; omega
  rw [hl, show (256 : Nat) = 2 ^ 8 from rfl, ← Nat.pow_mul] at h1
  rw [or_add _ _ _ h1, List.take_succ_eq_append_getElem hj, rd4_snoc, hl, show (256 : Nat) = 2 ^ 8 from rfl, ← Nat.pow_mul]
  simp [hj]

theorem fread_any (A : Option Addr) (n c : Nat) (l : List UInt8) (w : World) (hb : Bs w A l) (hn : n = l.length) (h4 : n ≤ 4) :
    Calls Try.prog 25 #[.slice A n c] w fun e w' => e = .returned (.int .u32 (rd4 l : Int)) ∧ w = w' := by
  subst hn
  go_enter Try.func25, Try.ntmps25
  go_wp2
  go_loop [3, 8] (fun s i => ∃ j : Nat, j ≤ l.length ∧ i = .int .i64 j ∧ s = .int .u32 (rd4 (l.take j) : Nat)) (fun _ i => l.length - (intOf i).toNat)
  case atStart => exact ⟨0, Nat.zero_le _, rfl, rfl⟩
  case round =>
    obtain ⟨j, hj, rfl, rfl⟩ := hrel
    by_cases hlj : j < l.length
    · obtain ⟨ad0, rfl, hb⟩ := hb.at j hlj
      have hs := rd4_step l j hlj h4
      have hlt : rd4 (l.take j) < 4294967296 := rd4_lt4 _ (by rw [List.length_take]; omega)
      have hp : (l.getD j 0).toNat * 2 ^ (8 * j) < 4294967296 := by
        have := (l.getD j 0).toNat_lt
        have : 2 ^ (8 * j) ≤ 2 ^ 24 := Nat.pow_le_pow_right (by omega) (by omega)
        calc (l.getD j 0).toNat * 2 ^ (8 * j) ≤ 255 * 2 ^ 24 := Nat.mul_le_mul (by omega) this
          _ < _ := by decide
      have hor := bits_or_u32 _ _ hlt hp
      rw [hs] at hor
      generalize hbb : l.getD j 0 = b at *
      generalize hS : rd4 (l.take j) = S at *
      have hbr := B_range b
      have Hor := Lib.hid hor
      have Hp := Lib.hid hp
      clear hor hs hp
      go_wp2
      go_round
      case rel => exact ⟨j + 1, by omega, by go_num, by rw [show ((b.toNat : Int) * 2 ^ (8 * j) % 4294967296) = ((b.toNat * 2 ^ (8 * j) % 4294967296 : Nat) : Int) from by simp, Nat.mod_eq_of_lt Hp.out, Hor.out]⟩
      case measure => simp [intOf]; omega
    · have hjl : j = l.length := by omega
      subst hjl
      rw [List.take_length]
      go_wp2
      go_ret
      exact ⟨rfl, rfl⟩

/-- What Put answers. -/
def fput (b r : List UInt8) : List UInt8 := if 65536 < r.length then [] else b ++ fr r
theorem fput_le {b r : List UInt8} (h : ¬ 65536 < r.length) : b ++ fr r = b ++ [1] ++ n4 r.length ++ n4 (fsum r) ++ r := by simp [fr]

set_option maxHeartbeats 800000 in
theorem fput_any (A1 A2 : Option Addr) (n1 c1 n2 c2 : Nat) (b r : List UInt8) (w : World) (h1 : Bs w A1 b) (h2 : Bs w A2 r) (hn1 : n1 = b.length) (hn2 : n2 = r.length) (hc2 : n2 ≤ c2) (hm1 : n1 ≤ 140737488200000) :
    Calls Try.prog 16 #[.slice A1 n1 c1, .slice A2 n2 c2] w fun e w' => ∃ x, e = .returned (.tuple #[x, .int .i64 (if 65536 < r.length then 2 else 0)]) ∧ Ob w' w.heap.size x (fput b r) ∧ Ext w w' := by
  by_cases hl : 65536 < r.length
  · have hres : fput b r = [] := if_pos hl
    rw [if_pos hl]
    subst hn2
    go_enter Try.func16, Try.ntmps16
    go_wp2
    go_ret2
    exact ⟨_, rfl, by rw [hres]; exact Ob.nil _ _, Ext.refl _⟩
  · have hres : fput b r = b ++ fr r := if_neg hl
    rw [if_neg hl, hres, fput_le hl]
    have Hn1 := Lib.hid hn1
    have Hn2 := Lib.hid hn2
    clear hn1 hres
    have hl2 : n2 ≤ 65536 := by omega
    clear hn2 hl
    go_enter Try.func16, Try.ntmps16
    go_wp2_with fail
    refine (number_any n2 w (by omega)).mono ?_
    rintro e w1 ⟨v1, rfl, ho1, hx1⟩
    obtain ⟨A3, c3, rfl, hl3, hB3⟩ := ho1.reads
    have h1' := h1.ext hx1
    have h2' := h2.ext hx1
    have h3n := n4_length n2
    generalize hN : n4 n2 = N at *
    have HN := Lib.hid hN
    clear hN ho1
    go_wp2_with fail
    refine (clone_any A1 n1 c1 b w1 h1' Hn1.out (by omega)).mono ?_
    rintro e w2 ⟨v2, rfl, ho2, hx2⟩
    have hbl : b.length ≤ 140737488200000 := by rw [← Hn1.out]; exact hm1
    have hrl : r.length ≤ 65536 := by rw [← Hn2.out]; exact hl2
    go_wp2_with ((with_reducible refine gate_dst (N := 18) rfl ?_); refine halt ?_)
    refine unhalt (wp_append rfl _ _ rfl _ b rfl (some ⟨w2.heap.size, 0, none⟩) [1] 1 1 rfl rfl w1.heap.size (ho2.ext ((Ext.refl _).alloc _)) (Bs.alloc_at w2 [1] (by simp) _ (by simp [B]) _ _ _ rfl) (hx2.alloc _).size (by simp; omega) ?_)
    intro v3 w3 ho3 hg3 _
    have hx3 : Ext w1 w3 := (hx2.alloc _).grown (ho2.ext ((Ext.refl _).alloc _)) (Nat.le_refl _) hg3
    clear hg3 ho2
    go_wp2_with ((with_reducible refine gate_dst (N := 21) rfl ?_); refine halt ?_)
    refine unhalt (wp_append rfl _ _ rfl _ _ rfl A3 N 4 c3 rfl h3n.symm w1.heap.size ho3 (hB3.ext hx3) hx3.size (by simp; omega) ?_)
    intro v4 w4 ho4 hg4 _
    have hx4 : Ext w1 w4 := hx3.grown ho3 (Nat.le_refl _) hg4
    clear hg4 ho3
    go_wp2_with fail
    refine (of_any _ 2 [N, r] _ (Bss.alloc_at _ [(A3, c3, N), (A2, c2, r)] _ rfl (by simp) ?_ _ (by rw [Hn2.out, ← h3n]; rfl) _ _ rfl)).mono ?_
    · intro x hx
      simp only [List.mem_cons, List.not_mem_nil, or_false] at hx
      rcases hx with rfl | rfl
      · exact ⟨hl3, hB3.ext hx4⟩
      · exact ⟨by rw [← Hn2.out]; exact hc2, h2'.ext hx4⟩
    rintro e w5 ⟨rfl, hw5⟩
    have hx5 : Ext w1 w5 := by rw [← hw5]; exact hx4.alloc _
    have ho5 : Ob w5 w1.heap.size v4 (b ++ [1] ++ N) := by rw [← hw5]; exact ho4.ext ((Ext.refl _).alloc _)
    clear hw5 ho4
    have hsum : crc (toN [N, r].flatten) = fsum r := by rw [fsum, ← Hn2.out, HN.out]; simp
    have hsl := fsum_lt r
    rw [hsum]
    clear hsum
    generalize hS : fsum r = S at *
    have HS := Lib.hid hS
    clear hS
    go_wp2_with fail
    refine (number_any S w5 hsl).mono ?_
    rintro e w6 ⟨v6, rfl, ho6, hx6⟩
    obtain ⟨A6, c6, rfl, hl6, hB6⟩ := ho6.reads
    have h6n := n4_length S
    generalize hM : n4 S = M at *
    have HM := Lib.hid hM
    clear hM
    go_wp2_with ((with_reducible refine gate_dst (N := 28) rfl ?_); refine halt ?_)
    refine unhalt (wp_append rfl _ _ rfl _ _ rfl A6 M 4 c6 rfl h6n.symm w1.heap.size (ho5.ext hx6) hB6 (hx5.trans hx6).size (by simp; omega) ?_)
    intro v7 w7 ho7 hg7 _
    have hx7 : Ext w1 w7 := (hx5.trans hx6).grown (ho5.ext hx6) (Nat.le_refl _) hg7
    clear hg7 ho5 ho6
    go_wp2_with ((with_reducible refine gate_dst (N := 31) rfl ?_); refine halt ?_)
    refine unhalt (wp_append rfl _ _ rfl _ _ rfl A2 r n2 c2 rfl Hn2.out w1.heap.size ho7 (h2'.ext hx7) hx7.size (by simp; omega) ?_)
    intro v8 w8 ho8 hg8 _
    have hx8 : Ext w1 w8 := hx7.grown ho7 (Nat.le_refl _) hg8
    clear hg8 ho7
    go_wp2
    go_ret2
    refine ⟨_, rfl, ?_, hx1.trans hx8⟩
    rw [← Hn2.out, HN.out, HS.out, HM.out]
    exact ho8.lower hx1.size

end Go.Proofs.Ytboihdhmahgggaa
