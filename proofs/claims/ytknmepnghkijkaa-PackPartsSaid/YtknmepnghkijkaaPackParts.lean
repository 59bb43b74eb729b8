/- PackParts: the walk. -/
import Derived.Test.YtknmepnghkijkaaPackBack
import Derived.Test.YtknmepnghkijkaaRegion
set_option linter.unusedVariables false
set_option linter.unusedSimpArgs false
set_option maxRecDepth 100000
namespace Go.Proofs.Ytknmepnghkijkaa
open Go.RowKit Go.Proofs.YtknmepnghkijkaaW.PrintWords Go.Proofs.YtknmepnghkijkaaW.PrintLast PackPure

theorem Str_append (a b : List UInt8) : Str (a ++ b) = Str a ++ Str b := by
  apply ByteArray.ext
  simp [Str]

theorem putbnil_any (A2 : Option Addr) (n2 c2 : Nat) (l2 : List UInt8) (w : World) (h2 : Bs w A2 l2) (hn2 : n2 = l2.length) (hm : n2 ≤ 140737488355000) :
    Calls Try.prog 26 #[.slice none 0 0, .slice A2 n2 c2] w fun e w' => ∃ A c, e = .returned (.slice A (putB l2).length c) ∧ (putB l2).length ≤ c ∧ Bs w' A (putB l2) ∧ Ext w w' := by
  refine (putb_any none A2 0 0 n2 c2 [] l2 w (Bs.nil w) h2 rfl hn2 (by omega)).mono ?_
  rintro e w' ⟨x, rfl, ho, hx⟩
  rw [List.nil_append] at ho
  obtain ⟨A, c, rfl, hl, hB⟩ := ho.reads
  exact ⟨A, c, rfl, hl, hB, hx⟩

set_option maxHeartbeats 1600000 in
theorem parts_any (A1 A2 : Option Addr) (c1 c2 : Nat) (b x : List UInt8) (v : Int) (w : World) (hx : Bs w A1 b) (hy : Bs w A2 x)
    (v0 : -9223372036854775808 ≤ v) (v1 : v ≤ 9223372036854775807) :
    Calls Try.prog 4 #[.slice A1 b.length c1, .int .i64 v, .slice A2 x.length c2] w fun e w' => e = .returned (.bool true) ∧ Ext w w' := by
  have hlv := num_le v v0 v1
  go_enter Try.func4, Try.ntmps4
  go_wp2_with fail
  refine (awake4_any _).mono ?_
  rintro e w1 ⟨rfl, hx1⟩
  by_cases h1 : 100 < b.length
  · go_wp2
    all_goals go_ret
    all_goals exact ⟨rfl, hx1⟩
  by_cases h2 : 100 < x.length
  · go_wp2
    all_goals go_ret
    all_goals exact ⟨rfl, hx1⟩
  have hlx := num_le (x.length : Int) (by omega) (by omega)
  have hb1 := hx.ext hx1
  have hr1 := hb1.string b.length c1 rfl
  go_wp2_with fail
  refine (num_any A1 b.length c1 b v w1 hb1 rfl (by omega) v0 v1).mono ?_
  rintro e w2 ⟨y2, rfl, ho2, hx2⟩
  obtain ⟨A3, c3, rfl, hl3, hB3⟩ := ho2.reads
  have hn2 : (b ++ num v).length = b.length + (num v).length := by simp
  generalize hb2 : b ++ num v = b2 at *
  have Hb2 := Lib.hid hb2
  have Hn2 := Lib.hid hn2
  clear hb2 hn2
  have hX2 := hx1.trans hx2
  go_wp2_with fail
  refine (putb_any A3 A2 b2.length c3 x.length c2 b2 x w2 hB3 (hy.ext hX2) rfl rfl (by have := Hn2.out; omega)).mono ?_
  rintro e w3 ⟨y3, rfl, ho3, hx3⟩
  obtain ⟨A4, c4, rfl, hl4, hB4⟩ := ho3.reads
  have hX3 := hX2.trans hx3
  generalize hb3 : b2 ++ putB x = b3 at *
  have Hb3 := Lib.hid hb3
  have Hcat : Hid (Str b3 = Str b ++ Str (num v) ++ Str (putB x)) := Lib.hid (by rw [← Hb3.out, ← Hb2.out, Str_append, Str_append])
  clear hb3 ho2 ho3 hr1
  have hb' := hx.ext hX3
  have hy' := hy.ext hX3
  have hc4 : ∀ W, Ext w3 W → (convert 23 9 (.slice A4 b3.length c4)).run Try.prog W = .ok (.string (Str b3)) W := fun W hW => (hB4.ext hW).string _ _ rfl
  have hc1 : ∀ W, Ext w3 W → (convert 23 9 (.slice A1 b.length c1)).run Try.prog W = .ok (.string (Str b)) W := fun W hW => (hb'.ext hW).string _ _ rfl
  have hc2 : ∀ W, Ext w3 W → (convert 23 9 (.slice A2 x.length c2)).run Try.prog W = .ok (.string (Str x)) W := fun W hW => (hy'.ext hW).string _ _ rfl
  have hsx : (Str x).size = x.length := by simp [Str, ByteArray.size]
  have Hsx := Lib.hid hsx
  have Hcs := Lib.hid (Chars_Str x)
  clear hsx
  have hcat := Hcat.out
  have sB : (Str b).size = b.length := by simp [Str, ByteArray.size]
  have sN : (Str (num v)).size = (num v).length := by simp [Str, ByteArray.size]
  have sP : (Str (putB x)).size = (num (x.length : Int)).length + x.length := by simp [Str, ByteArray.size, putB]
  have hs1 : ¬ 9223372036854775807 < (Str b).size + (Str (num v)).size := by omega
  have hs2 : ¬ 9223372036854775807 < (Str b ++ Str (num v)).size + (Str (putB x)).size := by rw [ByteArray.size_append]; omega
  have hs3 : ¬ 9223372036854775807 < (Str b).size + (Str (num v)).size + (Str (putB x)).size := by omega
  clear sB sN sP
  obtain ⟨b4, Hb4⟩ : ∃ b4, Hid (b ++ putB x = b4) := ⟨_, Lib.hid rfl⟩
  go_wp2
  refine start_ (n := 31) (S := fun W => Ext w3 W) (ds := []) #[false, false, false, false, false, false, false, false, false, false, false, false, false, false, false, false, false, false, false, false, false, false, false, false, false, false, false, false, false, false, false] (by kernel_rfl) rfl rfl ((Ext.refl w3).drew) (fun hHeld => ?_)
  refine take_ (i := 0) (N := (some 26)) (v := ?_) (a' := ?_) #[true, false, false, false, false, false, false, false, false, false, false, false, false, false, false, false, false, false, false, false, false, false, false, false, false, false, false, false, false, false, false] rfl rfl (by kernel_rfl) (fun _ _ _ h => h) (Or.inl ⟨by rfl, ?_⟩) (by assumption) ?_ ?_
  rotate_left
  · intro w' hSw; (try dsimp only at hSw)
    go_simp
    try with_reducible rfl
  rotate_left
  · simp only [Act.put, List.setIfInBounds_toArray, List.set_cons_zero, List.set_cons_succ]
    rfl
  refine take_ (i := 1) (N := (some 27)) (v := ?_) (a' := ?_) #[true, true, false, false, false, false, false, false, false, false, false, false, false, false, false, false, false, false, false, false, false, false, false, false, false, false, false, false, false, false, false] rfl rfl (by kernel_rfl) (fun _ _ _ h => h) (Or.inl ⟨by rfl, ?_⟩) (by assumption) ?_ ?_
  rotate_left
  · intro w' hSw; (try dsimp only at hSw)
    go_simp
    try with_reducible rfl
  rotate_left
  · simp only [Act.put, List.setIfInBounds_toArray, List.set_cons_zero, List.set_cons_succ]
    rfl
  refine take_ (i := 2) (N := (some 28)) (v := ?_) (a' := ?_) #[true, true, true, false, false, false, false, false, false, false, false, false, false, false, false, false, false, false, false, false, false, false, false, false, false, false, false, false, false, false, false] rfl rfl (by kernel_rfl) (fun _ _ _ h => h) (Or.inl ⟨by rfl, ?_⟩) (by assumption) ?_ ?_
  rotate_left
  · intro w' hSw; (try dsimp only at hSw)
    go_simp
    try with_reducible rfl
  rotate_left
  · simp only [Act.put, List.setIfInBounds_toArray, List.set_cons_zero, List.set_cons_succ]
    rfl
  refine take_ (i := 3) (N := (some 29)) (v := ?_) (a' := ?_) #[true, true, true, true, false, false, false, false, false, false, false, false, false, false, false, false, false, false, false, false, false, false, false, false, false, false, false, false, false, false, false] rfl rfl (by kernel_rfl) (fun _ _ _ h => h) (Or.inl ⟨by rfl, ?_⟩) (by assumption) ?_ ?_
  rotate_left
  · intro w' hSw; (try dsimp only at hSw)
    go_simp
    try with_reducible rfl
  rotate_left
  · simp only [Act.put, List.setIfInBounds_toArray, List.set_cons_zero, List.set_cons_succ]
    rfl
  refine take_ (i := 7) (N := (some 33)) (v := ?_) (a' := ?_) #[true, true, true, true, false, false, false, true, false, false, false, false, false, false, false, false, false, false, false, false, false, false, false, false, false, false, false, false, false, false, false] rfl rfl (by kernel_rfl) (fun _ _ _ h => h) (Or.inl ⟨by rfl, ?_⟩) (by assumption) ?_ ?_
  rotate_left
  · intro w' hSw; (try dsimp only at hSw)
    go_simp
    try with_reducible rfl
  rotate_left
  · simp only [Act.put, List.setIfInBounds_toArray, List.set_cons_zero, List.set_cons_succ]
    rfl
  refine one_ (i := 4) (N := (some 30)) #[true, true, true, true, true, false, false, true, false, false, false, false, false, false, false, false, false, false, false, false, false, false, false, false, false, false, false, false, false, false, false] rfl rfl (by kernel_rfl) (by simp) (fun K hK => ?_)
  go_simp
  refine (numnil_any v _ v0 v1).mono ?_
  rintro e w4 ⟨A5, c5, rfl, hl5, hB5, hx4⟩
  have hc4A5 : ∀ W, Ext w4 W → (convert 23 9 (.slice A5 (num v).length c5)).run Try.prog W = .ok (.string (Str (num v))) W := fun W hW => (hB5.ext hW).string _ _ rfl
  have hk4 := hHeld.trans hx4
  refine hK.out _ _ ?_ (fun hHeld => ?_)
  · exact hk4
  clear hK K
  (try simp only [Act.put, List.setIfInBounds_toArray, List.set_cons_zero, List.set_cons_succ])
  refine switch_ (S' := (fun W => Ext w4 W)) (fun W h => hk4.trans h) (Ext.refl w4) ?_
  have hHeld : Ext w4 w4 := Ext.refl w4
  refine take_ (i := 5) (N := (some 31)) (v := ?_) (a' := ?_) #[true, true, true, true, true, true, false, true, false, false, false, false, false, false, false, false, false, false, false, false, false, false, false, false, false, false, false, false, false, false, false] rfl rfl (by kernel_rfl) (fun _ _ _ h => h) (Or.inl ⟨by rfl, ?_⟩) (by assumption) ?_ ?_
  rotate_left
  · intro w' hSw; (try dsimp only at hSw)
    go_simp
    try with_reducible rfl
  rotate_left
  · simp only [Act.put, List.setIfInBounds_toArray, List.set_cons_zero, List.set_cons_succ]
    rfl
  refine take_ (i := 6) (N := (some 32)) (v := ?_) (a' := ?_) #[true, true, true, true, true, true, true, true, false, false, false, false, false, false, false, false, false, false, false, false, false, false, false, false, false, false, false, false, false, false, false] rfl rfl (by kernel_rfl) (fun _ _ _ h => h) (Or.inl ⟨by rfl, ?_⟩) (by assumption) ?_ ?_
  rotate_left
  · intro w' hSw; (try dsimp only at hSw)
    go_simp
    try with_reducible rfl
  rotate_left
  · simp only [Act.put, List.setIfInBounds_toArray, List.set_cons_zero, List.set_cons_succ]
    rfl
  refine one_ (i := 8) (N := (some 34)) #[true, true, true, true, true, true, true, true, true, false, false, false, false, false, false, false, false, false, false, false, false, false, false, false, false, false, false, false, false, false, false] rfl rfl (by kernel_rfl) (by simp) (fun K hK => ?_)
  go_simp
  refine (putbnil_any A2 x.length c2 x _ (hy'.ext (hk4.trans hHeld)) rfl (by omega)).mono ?_
  rintro e w5 ⟨A6, c6, rfl, hl6, hB6, hx5⟩
  have hx5' := hk4.trans hx5
  have hc1b : ∀ W, Ext w5 W → (convert 23 9 (.slice A1 b.length c1)).run Try.prog W = .ok (.string (Str b)) W := fun W hW => hc1 W (hx5'.trans hW)
  have hc2b : ∀ W, Ext w5 W → (convert 23 9 (.slice A2 x.length c2)).run Try.prog W = .ok (.string (Str x)) W := fun W hW => hc2 W (hx5'.trans hW)
  have hc5A6 : ∀ W, Ext w5 W → (convert 23 9 (.slice A6 (putB x).length c6)).run Try.prog W = .ok (.string (Str (putB x))) W := fun W hW => (hB6.ext hW).string _ _ rfl
  have hk5 := hHeld.trans hx5
  refine hK.out _ _ ?_ (fun hHeld => ?_)
  · exact hk5
  clear hK K
  (try simp only [Act.put, List.setIfInBounds_toArray, List.set_cons_zero, List.set_cons_succ])
  refine switch_ (S' := (fun W => Ext w5 W)) (fun W h => hk5.trans h) (Ext.refl w5) ?_
  have hHeld : Ext w5 w5 := Ext.refl w5
  refine take_ (i := 9) (N := (some 35)) (v := ?_) (a' := ?_) #[true, true, true, true, true, true, true, true, true, true, false, false, false, false, false, false, false, false, false, false, false, false, false, false, false, false, false, false, false, false, false] rfl rfl (by kernel_rfl) (fun _ _ _ h => h) (Or.inl ⟨by rfl, ?_⟩) (by assumption) ?_ ?_
  rotate_left
  · intro w' hSw; (try dsimp only at hSw)
    go_simp
    try with_reducible rfl
  rotate_left
  · simp only [Act.put, List.setIfInBounds_toArray, List.set_cons_zero, List.set_cons_succ]
    rfl
  refine take_ (i := 10) (N := (some 36)) (v := ?_) (a' := ?_) #[true, true, true, true, true, true, true, true, true, true, true, false, false, false, false, false, false, false, false, false, false, false, false, false, false, false, false, false, false, false, false] rfl rfl (by kernel_rfl) (fun _ _ _ h => h) (Or.inl ⟨by rfl, ?_⟩) (by assumption) ?_ ?_
  rotate_left
  · intro w' hSw; (try dsimp only at hSw)
    go_simp
    try with_reducible rfl
  rotate_left
  · simp only [Act.put, List.setIfInBounds_toArray, List.set_cons_zero, List.set_cons_succ]
    rfl
  refine take_ (i := 11) (N := (some 37)) (v := ?_) (a' := ?_) #[true, true, true, true, true, true, true, true, true, true, true, true, false, false, false, false, false, false, false, false, false, false, false, false, false, false, false, false, false, false, false] rfl rfl (by kernel_rfl) (fun _ _ _ h => h) (Or.inl ⟨by rfl, ?_⟩) (by assumption) ?_ ?_
  rotate_left
  · intro w' hSw; (try dsimp only at hSw)
    go_simp
    try with_reducible rfl
  rotate_left
  · simp only [Act.put, List.setIfInBounds_toArray, List.set_cons_zero, List.set_cons_succ]
    rfl
  refine take_ (i := 12) (N := (some 38)) (v := ?_) (a' := ?_) #[true, true, true, true, true, true, true, true, true, true, true, true, true, false, false, false, false, false, false, false, false, false, false, false, false, false, false, false, false, false, false] rfl rfl (by kernel_rfl) (fun _ _ _ h => h) (Or.inl ⟨by rfl, ?_⟩) (by assumption) ?_ ?_
  rotate_left
  · intro w' hSw; (try dsimp only at hSw)
    go_simp
    try with_reducible rfl
  rotate_left
  · simp only [Act.put, List.setIfInBounds_toArray, List.set_cons_zero, List.set_cons_succ]
    rfl
  refine take_ (i := 13) (N := (some 39)) (v := ?_) (a' := ?_) #[true, true, true, true, true, true, true, true, true, true, true, true, true, true, false, false, false, false, false, false, false, false, false, false, false, false, false, false, false, false, false] rfl rfl (by kernel_rfl) (fun _ _ _ h => h) (Or.inl ⟨by rfl, ?_⟩) (by assumption) ?_ ?_
  rotate_left
  · intro w' hSw; (try dsimp only at hSw)
    go_simp
    try with_reducible rfl
  rotate_left
  · simp only [Act.put, List.setIfInBounds_toArray, List.set_cons_zero, List.set_cons_succ]
    rfl
  refine take_ (i := 14) (N := (some 40)) (v := ?_) (a' := ?_) #[true, true, true, true, true, true, true, true, true, true, true, true, true, true, true, false, false, false, false, false, false, false, false, false, false, false, false, false, false, false, false] rfl rfl (by kernel_rfl) (fun _ _ _ h => h) (Or.inl ⟨by rfl, ?_⟩) (by assumption) ?_ ?_
  rotate_left
  · intro w' hSw; (try dsimp only at hSw)
    go_simp
    try with_reducible rfl
  rotate_left
  · simp only [Act.put, List.setIfInBounds_toArray, List.set_cons_zero, List.set_cons_succ]
    rfl
  refine take_ (i := 15) (N := (some 41)) (v := ?_) (a' := ?_) #[true, true, true, true, true, true, true, true, true, true, true, true, true, true, true, true, false, false, false, false, false, false, false, false, false, false, false, false, false, false, false] rfl rfl (by kernel_rfl) (fun _ _ _ h => h) (Or.inl ⟨by rfl, ?_⟩) (by assumption) ?_ ?_
  rotate_left
  · intro w' hSw; (try dsimp only at hSw)
    go_simp
    try with_reducible rfl
  rotate_left
  · simp only [Act.put, List.setIfInBounds_toArray, List.set_cons_zero, List.set_cons_succ]
    rfl
  refine take_ (i := 16) (N := (some 42)) (v := ?_) (a' := ?_) #[true, true, true, true, true, true, true, true, true, true, true, true, true, true, true, true, true, false, false, false, false, false, false, false, false, false, false, false, false, false, false] rfl rfl (by kernel_rfl) (fun _ _ _ h => h) (Or.inl ⟨by rfl, ?_⟩) (by assumption) ?_ ?_
  rotate_left
  · intro w' hSw; (try dsimp only at hSw)
    go_simp
    try with_reducible rfl
  rotate_left
  · simp only [Act.put, List.setIfInBounds_toArray, List.set_cons_zero, List.set_cons_succ]
    rfl
  refine take_ (i := 17) (N := (some 43)) (v := ?_) (a' := ?_) #[true, true, true, true, true, true, true, true, true, true, true, true, true, true, true, true, true, true, false, false, false, false, false, false, false, false, false, false, false, false, false] rfl rfl (by kernel_rfl) (fun _ _ _ h => h) (Or.inl ⟨by rfl, ?_⟩) (by assumption) ?_ ?_
  rotate_left
  · intro w' hSw; (try dsimp only at hSw)
    go_simp
    try with_reducible rfl
  rotate_left
  · simp only [Act.put, List.setIfInBounds_toArray, List.set_cons_zero, List.set_cons_succ]
    rfl
  refine take_ (i := 18) (N := (some 44)) (v := ?_) (a' := ?_) #[true, true, true, true, true, true, true, true, true, true, true, true, true, true, true, true, true, true, true, false, false, false, false, false, false, false, false, false, false, false, false] rfl rfl (by kernel_rfl) (fun _ _ _ h => h) (Or.inl ⟨by rfl, ?_⟩) (by assumption) ?_ ?_
  rotate_left
  · intro w' hSw; (try dsimp only at hSw)
    go_simp
    try with_reducible rfl
  rotate_left
  · simp only [Act.put, List.setIfInBounds_toArray, List.set_cons_zero, List.set_cons_succ]
    rfl
  refine take_ (i := 19) (N := (some 45)) (v := ?_) (a' := ?_) #[true, true, true, true, true, true, true, true, true, true, true, true, true, true, true, true, true, true, true, true, false, false, false, false, false, false, false, false, false, false, false] rfl rfl (by kernel_rfl) (fun _ _ _ h => h) (Or.inl ⟨by rfl, ?_⟩) (by assumption) ?_ ?_
  rotate_left
  · intro w' hSw; (try dsimp only at hSw)
    go_simp
    try with_reducible rfl
  rotate_left
  · simp only [Act.put, List.setIfInBounds_toArray, List.set_cons_zero, List.set_cons_succ]
    rfl
  refine take_ (i := 20) (N := (some 46)) (v := ?_) (a' := ?_) #[true, true, true, true, true, true, true, true, true, true, true, true, true, true, true, true, true, true, true, true, true, false, false, false, false, false, false, false, false, false, false] rfl rfl (by kernel_rfl) (fun _ _ _ h => h) (Or.inl ⟨by rfl, ?_⟩) (by assumption) ?_ ?_
  rotate_left
  · intro w' hSw; (try dsimp only at hSw)
    go_simp
    try with_reducible rfl
  rotate_left
  · simp only [Act.put, List.setIfInBounds_toArray, List.set_cons_zero, List.set_cons_succ]
    rfl
  refine take_ (i := 21) (N := (some 47)) (v := ?_) (a' := ?_) #[true, true, true, true, true, true, true, true, true, true, true, true, true, true, true, true, true, true, true, true, true, true, false, false, false, false, false, false, false, false, false] rfl rfl (by kernel_rfl) (fun _ _ _ h => h) (Or.inl ⟨by rfl, ?_⟩) (by assumption) ?_ ?_
  rotate_left
  · intro w' hSw; (try dsimp only at hSw)
    go_simp
    try with_reducible rfl
  rotate_left
  · simp only [Act.put, List.setIfInBounds_toArray, List.set_cons_zero, List.set_cons_succ]
    rfl
  refine take_ (i := 24) (N := (some 50)) (v := ?_) (a' := ?_) #[true, true, true, true, true, true, true, true, true, true, true, true, true, true, true, true, true, true, true, true, true, true, false, false, true, false, false, false, false, false, false] rfl rfl (by kernel_rfl) (fun _ _ _ h => h) (Or.inl ⟨by rfl, ?_⟩) (by assumption) ?_ ?_
  rotate_left
  · intro w' hSw; (try dsimp only at hSw)
    go_simp
    try with_reducible rfl
  rotate_left
  · simp only [Act.put, List.setIfInBounds_toArray, List.set_cons_zero, List.set_cons_succ]
    rfl
  refine take_ (i := 25) (N := (some 51)) (v := ?_) (a' := ?_) #[true, true, true, true, true, true, true, true, true, true, true, true, true, true, true, true, true, true, true, true, true, true, false, false, true, true, false, false, false, false, false] rfl rfl (by kernel_rfl) (fun _ _ _ h => h) (Or.inl ⟨by rfl, ?_⟩) (by assumption) ?_ ?_
  rotate_left
  · intro w' hSw; (try dsimp only at hSw)
    go_simp
    try with_reducible rfl
  rotate_left
  · simp only [Act.put, List.setIfInBounds_toArray, List.set_cons_zero, List.set_cons_succ]
    rfl
  refine one_ (i := 22) (N := (some 48)) #[true, true, true, true, true, true, true, true, true, true, true, true, true, true, true, true, true, true, true, true, true, true, true, false, true, true, false, false, false, false, false] rfl rfl (by kernel_rfl) (by simp) (fun K hK => ?_)
  go_simp
  refine (putt_any A1 b.length c1 b (Str x) _ (hb'.ext (hk4.trans (hk5.trans hHeld))) rfl (by have := Hsx.out; omega)).mono ?_
  rintro e w6 ⟨y6, rfl, ho6, hx6⟩
  rw [Hcs.out, Hb4.out] at ho6
  obtain ⟨A7, c7, rfl, hl7, hB7⟩ := ho6.reads
  have hc6A7 : ∀ W, Ext w6 W → (convert 23 9 (.slice A7 b4.length c7)).run Try.prog W = .ok (.string (Str b4)) W := fun W hW => (hB7.ext hW).string _ _ rfl
  have hk6 := hHeld.trans hx6
  refine hK.out _ _ ?_ (fun hHeld => ?_)
  · exact hk6
  clear hK K
  (try simp only [Act.put, List.setIfInBounds_toArray, List.set_cons_zero, List.set_cons_succ])
  refine switch_ (S' := (fun W => Ext w6 W)) (fun W h => hk6.trans h) (Ext.refl w6) ?_
  have hHeld : Ext w6 w6 := Ext.refl w6
  refine take_ (i := 23) (N := (some 49)) (v := ?_) (a' := ?_) #[true, true, true, true, true, true, true, true, true, true, true, true, true, true, true, true, true, true, true, true, true, true, true, true, true, true, false, false, false, false, false] rfl rfl (by kernel_rfl) (fun _ _ _ h => h) (Or.inl ⟨by rfl, ?_⟩) (by assumption) ?_ ?_
  rotate_left
  · intro w' hSw; (try dsimp only at hSw)
    go_simp
    try with_reducible rfl
  rotate_left
  · simp only [Act.put, List.setIfInBounds_toArray, List.set_cons_zero, List.set_cons_succ]
    rfl
  refine one_ (i := 26) (N := (some 52)) #[true, true, true, true, true, true, true, true, true, true, true, true, true, true, true, true, true, true, true, true, true, true, true, true, true, true, true, false, false, false, false] rfl rfl (by kernel_rfl) (by simp) (fun K hK => ?_)
  go_simp
  refine (putb_any A1 A2 b.length c1 x.length c2 b x _ (hb'.ext (hk4.trans (hk5.trans (hk6.trans hHeld)))) (hy'.ext (hk4.trans (hk5.trans (hk6.trans hHeld)))) rfl rfl (by omega)).mono ?_
  rintro e w7 ⟨y7, rfl, ho7, hx7⟩
  rw [Hb4.out] at ho7
  obtain ⟨A8, c8, rfl, hl8, hB8⟩ := ho7.reads
  have hc7A8 : ∀ W, Ext w7 W → (convert 23 9 (.slice A8 b4.length c8)).run Try.prog W = .ok (.string (Str b4)) W := fun W hW => (hB8.ext hW).string _ _ rfl
  have hk7 := hHeld.trans hx7
  refine hK.out _ _ ?_ (fun hHeld => ?_)
  · exact hk7
  clear hK K
  (try simp only [Act.put, List.setIfInBounds_toArray, List.set_cons_zero, List.set_cons_succ])
  refine switch_ (S' := (fun W => Ext w7 W)) (fun W h => hk7.trans h) (Ext.refl w7) ?_
  have hHeld : Ext w7 w7 := Ext.refl w7
  refine take_ (i := 27) (N := (some 53)) (v := ?_) (a' := ?_) #[true, true, true, true, true, true, true, true, true, true, true, true, true, true, true, true, true, true, true, true, true, true, true, true, true, true, true, true, false, false, false] rfl rfl (by kernel_rfl) (fun _ _ _ h => h) (Or.inl ⟨by rfl, ?_⟩) (by assumption) ?_ ?_
  rotate_left
  · intro w' hSw; (try dsimp only at hSw)
    go_simp
    try with_reducible rfl
  rotate_left
  · simp only [Act.put, List.setIfInBounds_toArray, List.set_cons_zero, List.set_cons_succ]
    rfl
  refine take_ (i := 28) (N := (some 54)) (v := ?_) (a' := ?_) #[true, true, true, true, true, true, true, true, true, true, true, true, true, true, true, true, true, true, true, true, true, true, true, true, true, true, true, true, true, false, false] rfl rfl (by kernel_rfl) (fun _ _ _ h => h) (Or.inl ⟨by rfl, ?_⟩) (by assumption) ?_ ?_
  rotate_left
  · intro w' hSw; (try dsimp only at hSw)
    go_simp
    try with_reducible rfl
  rotate_left
  · simp only [Act.put, List.setIfInBounds_toArray, List.set_cons_zero, List.set_cons_succ]
    rfl
  refine take_ (i := 29) (N := (some 55)) (v := ?_) (a' := ?_) #[true, true, true, true, true, true, true, true, true, true, true, true, true, true, true, true, true, true, true, true, true, true, true, true, true, true, true, true, true, true, false] rfl rfl (by kernel_rfl) (fun _ _ _ h => h) (Or.inl ⟨by rfl, ?_⟩) (by assumption) ?_ ?_
  rotate_left
  · intro w' hSw; (try dsimp only at hSw)
    go_simp
    try with_reducible rfl
  rotate_left
  · simp only [Act.put, List.setIfInBounds_toArray, List.set_cons_zero, List.set_cons_succ]
    rfl
  refine take_ (i := 30) (N := (some 6)) (v := ?_) (a' := ?_) #[true, true, true, true, true, true, true, true, true, true, true, true, true, true, true, true, true, true, true, true, true, true, true, true, true, true, true, true, true, true, true] rfl rfl (by kernel_rfl) (fun _ _ _ h => h) (Or.inl ⟨by rfl, ?_⟩) (by assumption) ?_ ?_
  rotate_left
  · intro w' hSw; (try dsimp only at hSw)
    go_simp
    try with_reducible rfl
  rotate_left
  · simp only [Act.put, List.setIfInBounds_toArray, List.set_cons_zero, List.set_cons_succ]
    rfl
  refine done_ (by kernel_rfl) ?_
  go_wp2
  all_goals go_ret
  exact ⟨rfl, hX3.trans (hk4.trans (hk5.trans (hk6.trans hk7)))⟩

end Go.Proofs.Ytknmepnghkijkaa
