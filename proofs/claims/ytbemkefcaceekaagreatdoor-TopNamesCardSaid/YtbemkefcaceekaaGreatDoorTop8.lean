/- Top8: script.read at a line. -/
import Derived.Test.YtbemkefcaceekaaGreatDoorTop7
set_option linter.unusedVariables false
set_option linter.unusedSimpArgs false
set_option maxRecDepth 100000
namespace Go.Proofs.YtbemkefcaceekaaGreatDoor
open Go.RowKit Go.Lib Go.Shelf Go.Proofs.YtbemkefcaceekaaGreatDoorW.PrintWords Go.Proofs.YtbemkefcaceekaaGreatDoorW.PrintLast

theorem RdAt.ends {w : World} {rb blk off c : Nat} (h : RdAt w rb blk off c []) : ∃ a, w.cell? ⟨rb, 0, none⟩ = some (.slice (some a) 0 c) ∧ w.cell? ⟨rb, 1, none⟩ = some (.bool false) := by
  obtain ⟨a, h1, -⟩ := h.all
  exact ⟨a, by simp [World.cell?, h1], by simp [World.cell?, h1]⟩
/-- A line that asks for a winner. -/
def WinAt (w : World) (v : Value) (r n : Int) : Prop := ∃ p, v = .func (.func 52) #[] #[.pointer (some ⟨p, 0, none⟩)] ∧ w.heap[p]? = some (.cells #[.int .i64 r, .int .i64 n] 64)
theorem WinAt.ext {w w' : World} {v : Value} {r n : Int} (h : WinAt w v r n) (x : Ext w w') : WinAt w' v r n := by
  obtain ⟨p, h1, h2⟩ := h
  exact ⟨p, h1, (x.out.block _ (Array.getElem?_eq_some_iff.1 h2).1).trans h2⟩
theorem asks_winner (w : World) (rb blk off c : Nat) (m : Int) (hm : w.cell? ⟨0, 0, none⟩ = some (.int .i64 m)) (hrb : rb ≠ 0) (y a b : ByteArray) (ar an : Int) (hy : y.size < 4294967281) (hcut : Lib.cut y.data.toList [46] = (a.data.toList, b.data.toList, true)) (ha : Spells a ar) (hb : Spells b an)  (h : RdAt w rb blk off c [y]) :
    Calls Tryz.prog 15 #[.pointer (some ⟨rb, 0, none⟩), .string ⟨#[119, 105, 110, 110, 101, 114]⟩] w fun e w' => ∃ v off' c', e = .returned v ∧ WinAt w' v ar an ∧ RdAt w' rb blk off' c' [] ∧ Chg [rb] w w' := by
  have kd := fun W o c ws h hm => dot_read W rb blk o c y a b ws ar an m h hm hrb hy hcut ha hb
  have kw := fun W => winner_any W ar an
  unfold dotv at kd kw
  go_enter Tryz.func15, Tryz.ntmps15
  go_wp2_with fail
  refine (kd _ _ _ _ h hm).mono ?_
  rintro e w1 ⟨rfl, R1, k1⟩
  go_wp2_with fail
  refine (kw _).mono ?_
  rintro e w2 ⟨v, p, rfl, hv, hp, x2⟩
  go_wp2
  go_ret
  exact ⟨_, _, _, rfl, ⟨p, rfl, hp⟩, R1.ext x2, k1.ext x2⟩
set_option maxHeartbeats 4000000 in
theorem read_register (w : World) (blk off c m : Nat) (mx : Int) (x0 u : ByteArray) (r : Int) (h0' : Spells x0 r) (hm : w.cell? ⟨0, 0, none⟩ = some (.int .i64 mx)) (hrow : w.rangeAt blk off ((([⟨#[114, 101, 103, 105, 115, 116, 101, 114]⟩] : List ByteArray) ++ [x0, u]).map .string)) (hc : 3 ≤ c) (hbig : c ≤ 9223372036854775807) :
    Calls Tryz.prog 8 #[.slice (some ⟨blk, off, none⟩) 3 c] w fun e w' => ∃ v, e = .returned (.tuple #[v, .bool true]) ∧ MadeAt w' v r ⟨5, ⟨#[]⟩, u, ⟨0, 0⟩, ⟨0, 0⟩, 0⟩ ∧ Ext w w' := by
  obtain ⟨g, Hg⟩ : ∃ h, Hid (w.heap.size = h) := ⟨_, Lib.hid rfl⟩
  obtain ⟨w1, H1⟩ : ∃ x, Hid (w.alloc (.cells #[.slice (some ⟨blk, off, none⟩) 3 c, .bool false] 51) = x) := ⟨_, Lib.hid rfl⟩
  have b1 : w1.heap[g]? = some (.cells #[.slice (some ⟨blk, off, none⟩) 3 c, .bool false] 51) := by rw [← H1.out, ← Hg.out]; exact Array.getElem?_push_size
  have x1 : Ext w w1 := by rw [← H1.out]; exact (Ext.refl w).alloc _
  have hlt : blk < w.heap.size := World.block_lt_of_cell? _ _ (hrow 0 _ rfl)
  have h0 : 0 < w.heap.size := World.block_lt_of_cell? _ _ hm
  have hgs := Hg.out
  have hg0 : g ≠ 0 := by omega
  have R1 : RdAt w1 g blk off c (([⟨#[114, 101, 103, 105, 115, 116, 101, 114]⟩] : List ByteArray) ++ [x0, u]) := ⟨⟨_, b1, fun _ => rfl⟩, rangeAt_ext hrow x1, hc, hbig, by omega, Nat.lt_of_lt_of_le hlt x1.size⟩
  have Hg0 := Lib.hid hg0
  have Hb := Lib.hid hbig
  have Hrow := Lib.hid hrow
  clear hlt h0 hg0 b1 hc hbig hrow
  have h1 := H1.out
  go_enter Tryz.func8, Tryz.ntmps8
  go_wp2_with fail
  clear h1 hgs
  refine (rword_any w1 g blk off c _ _ R1).mono ?_
  rintro e w2 ⟨rfl, R2, k2⟩
  go_wp2_with fail
  refine (calls_register w2 g blk _ _ x0 r u h0' R2).mono ?_
  rintro e w3 ⟨v, off', c', rfl, hM, R3, k3⟩
  have hx := x1
  have K3 : Chg [g] w1 w3 := k2.trans k3
  obtain ⟨az, d0, d1⟩ := R3.ends
  have r0 : ∀ W, Ext w3 W → W.cell? ⟨g, 0, none⟩ = some (.slice (some az) 0 c') := fun W x => x.cell d0
  have r1 : ∀ W, Ext w3 W → W.cell? ⟨g, 1, none⟩ = some (.bool false) := fun W x => x.cell d1
  have xT := Ext.refl w3
  clear d0 d1 R3 R2 R1 k2 k3 hx
  have HX : Hid (Ext w w3) := Lib.hid (K3.toExt x1 (fun k hk => by
    have e1 : k = g := by simpa using hk
    have e2 := Hg.out
    omega))
  clear K3 x1
  go_wp2_with fail
  refine start_ (n := 16) (S := (fun W => Ext w3 W)) (ds := []) #[false, false, false, false, false, false, false, false, false, false, false, false, false, false, false, false] (by kernel_rfl) (by kernel_rfl) (by kernel_rfl) (xT.drew) (fun hHeld => ?_)
  refine take_ (i := 0) (N := (some 27)) (v := ?_) (a' := ?_) #[true, false, false, false, false, false, false, false, false, false, false, false, false, false, false, false] rfl rfl (by kernel_rfl) (fun _ _ _ h => h) (Or.inl ⟨by rfl, ?_⟩) (by assumption) ?_ ?_
  rotate_left
  · intro w' hSw; (try dsimp only at hSw)
    go_simp
    try with_reducible rfl
  rotate_left
  · simp only [Act.put, List.setIfInBounds_toArray, List.set_cons_zero, List.set_cons_succ]
    rfl
  refine take_ (i := 1) (N := (some 28)) (v := ?_) (a' := ?_) #[true, true, false, false, false, false, false, false, false, false, false, false, false, false, false, false] rfl rfl (by kernel_rfl) (fun _ _ _ h => h) (Or.inl ⟨by rfl, ?_⟩) (by assumption) ?_ ?_
  rotate_left
  · intro w' hSw; (try dsimp only at hSw)
    go_simp
    try with_reducible rfl
  rotate_left
  · simp only [Act.put, List.setIfInBounds_toArray, List.set_cons_zero, List.set_cons_succ]
    rfl
  refine take_ (i := 2) (N := (some 29)) (v := ?_) (a' := ?_) #[true, true, true, false, false, false, false, false, false, false, false, false, false, false, false, false] rfl rfl (by kernel_rfl) (fun _ _ _ h => h) (Or.inl ⟨by rfl, ?_⟩) (by assumption) ?_ ?_
  rotate_left
  · intro w' hSw; (try dsimp only at hSw)
    go_simp
    try with_reducible rfl
  rotate_left
  · simp only [Act.put, List.setIfInBounds_toArray, List.set_cons_zero, List.set_cons_succ]
    rfl
  refine take_ (i := 3) (N := (some 30)) (v := ?_) (a' := ?_) #[true, true, true, true, false, false, false, false, false, false, false, false, false, false, false, false] rfl rfl (by kernel_rfl) (fun _ _ _ h => h) (Or.inl ⟨by rfl, ?_⟩) (by assumption) ?_ ?_
  rotate_left
  · intro w' hSw; (try dsimp only at hSw)
    go_simp
    try with_reducible rfl
  rotate_left
  · simp only [Act.put, List.setIfInBounds_toArray, List.set_cons_zero, List.set_cons_succ]
    rfl
  refine take_ (i := 4) (N := (some 31)) (v := ?_) (a' := ?_) #[true, true, true, true, true, false, false, false, false, false, false, false, false, false, false, false] rfl rfl (by kernel_rfl) (fun _ _ _ h => h) (Or.inl ⟨by rfl, ?_⟩) (by assumption) ?_ ?_
  rotate_left
  · intro w' hSw; (try dsimp only at hSw)
    go_simp
    try with_reducible rfl
  rotate_left
  · simp only [Act.put, List.setIfInBounds_toArray, List.set_cons_zero, List.set_cons_succ]
    rfl
  refine take_ (i := 5) (N := (some 32)) (v := ?_) (a' := ?_) #[true, true, true, true, true, true, false, false, false, false, false, false, false, false, false, false] rfl rfl (by kernel_rfl) (fun _ _ _ h => h) (Or.inl ⟨by rfl, ?_⟩) (by assumption) ?_ ?_
  rotate_left
  · intro w' hSw; (try dsimp only at hSw)
    go_simp
    try with_reducible rfl
  rotate_left
  · simp only [Act.put, List.setIfInBounds_toArray, List.set_cons_zero, List.set_cons_succ]
    rfl
  refine take_ (i := 6) (N := (some 33)) (v := ?_) (a' := ?_) #[true, true, true, true, true, true, true, false, false, false, false, false, false, false, false, false] rfl rfl (by kernel_rfl) (fun _ _ _ h => h) (Or.inl ⟨by rfl, ?_⟩) (by assumption) ?_ ?_
  rotate_left
  · intro w' hSw; (try dsimp only at hSw)
    go_simp
    try with_reducible rfl
  rotate_left
  · simp only [Act.put, List.setIfInBounds_toArray, List.set_cons_zero, List.set_cons_succ]
    rfl
  refine take_ (i := 7) (N := (some 34)) (v := ?_) (a' := ?_) #[true, true, true, true, true, true, true, true, false, false, false, false, false, false, false, false] rfl rfl (by kernel_rfl) (fun _ _ _ h => h) (Or.inl ⟨by rfl, ?_⟩) (by assumption) ?_ ?_
  rotate_left
  · intro w' hSw; (try dsimp only at hSw)
    go_simp
    try with_reducible rfl
  rotate_left
  · simp only [Act.put, List.setIfInBounds_toArray, List.set_cons_zero, List.set_cons_succ]
    rfl
  refine take_ (i := 8) (N := (some 35)) (v := ?_) (a' := ?_) #[true, true, true, true, true, true, true, true, true, false, false, false, false, false, false, false] rfl rfl (by kernel_rfl) (fun _ _ _ h => h) (Or.inl ⟨by rfl, ?_⟩) (by assumption) ?_ ?_
  rotate_left
  · intro w' hSw; (try dsimp only at hSw)
    go_simp
    try with_reducible rfl
  rotate_left
  · simp only [Act.put, List.setIfInBounds_toArray, List.set_cons_zero, List.set_cons_succ]
    rfl
  refine take_ (i := 9) (N := (some 36)) (v := ?_) (a' := ?_) #[true, true, true, true, true, true, true, true, true, true, false, false, false, false, false, false] rfl rfl (by kernel_rfl) (fun _ _ _ h => h) (Or.inl ⟨by rfl, ?_⟩) (by assumption) ?_ ?_
  rotate_left
  · intro w' hSw; (try dsimp only at hSw)
    go_simp
    try with_reducible rfl
  rotate_left
  · simp only [Act.put, List.setIfInBounds_toArray, List.set_cons_zero, List.set_cons_succ]
    rfl
  refine take_ (i := 10) (N := (some 37)) (v := ?_) (a' := ?_) #[true, true, true, true, true, true, true, true, true, true, true, false, false, false, false, false] rfl rfl (by kernel_rfl) (fun _ _ _ h => h) (Or.inl ⟨by rfl, ?_⟩) (by assumption) ?_ ?_
  rotate_left
  · intro w' hSw; (try dsimp only at hSw)
    go_simp
    try with_reducible rfl
  rotate_left
  · simp only [Act.put, List.setIfInBounds_toArray, List.set_cons_zero, List.set_cons_succ]
    rfl
  refine take_ (i := 11) (N := (some 38)) (v := ?_) (a' := ?_) #[true, true, true, true, true, true, true, true, true, true, true, true, false, false, false, false] rfl rfl (by kernel_rfl) (fun _ _ _ h => h) (Or.inl ⟨by rfl, ?_⟩) (by assumption) ?_ ?_
  rotate_left
  · intro w' hSw; (try dsimp only at hSw)
    go_simp
    try with_reducible rfl
  rotate_left
  · simp only [Act.put, List.setIfInBounds_toArray, List.set_cons_zero, List.set_cons_succ]
    rfl
  refine take_ (i := 12) (N := (some 39)) (v := ?_) (a' := ?_) #[true, true, true, true, true, true, true, true, true, true, true, true, true, false, false, false] rfl rfl (by kernel_rfl) (fun _ _ _ h => h) (Or.inl ⟨by rfl, ?_⟩) (by assumption) ?_ ?_
  rotate_left
  · intro w' hSw; (try dsimp only at hSw)
    go_simp
    try with_reducible rfl
  rotate_left
  · simp only [Act.put, List.setIfInBounds_toArray, List.set_cons_zero, List.set_cons_succ]
    rfl
  refine take_ (i := 13) (N := (some 40)) (v := ?_) (a' := ?_) #[true, true, true, true, true, true, true, true, true, true, true, true, true, true, false, false] rfl rfl (by kernel_rfl) (fun _ _ _ h => h) (Or.inl ⟨by rfl, ?_⟩) (by assumption) ?_ ?_
  rotate_left
  · intro w' hSw; (try dsimp only at hSw)
    go_simp
    try with_reducible rfl
  rotate_left
  · simp only [Act.put, List.setIfInBounds_toArray, List.set_cons_zero, List.set_cons_succ]
    rfl
  refine take_ (i := 14) (N := (some 2)) (v := ?_) (a' := ?_) #[true, true, true, true, true, true, true, true, true, true, true, true, true, true, true, false] rfl rfl (by kernel_rfl) (fun _ _ _ h => h) (Or.inl ⟨by rfl, ?_⟩) (by assumption) ?_ ?_
  rotate_left
  · intro w' hSw; (try dsimp only at hSw)
    go_simp
    try with_reducible rfl
  rotate_left
  · simp only [Act.put, List.setIfInBounds_toArray, List.set_cons_zero, List.set_cons_succ]
    rfl
  refine take_ (i := 15) (N := (some 3)) (v := ?_) (a' := ?_) #[true, true, true, true, true, true, true, true, true, true, true, true, true, true, true, true] rfl rfl (by kernel_rfl) (fun _ _ _ h => h) (Or.inl ⟨by rfl, ?_⟩) (by assumption) ?_ ?_
  rotate_left
  · intro w' hSw; (try dsimp only at hSw)
    go_simp
    try with_reducible rfl
  rotate_left
  · simp only [Act.put, List.setIfInBounds_toArray, List.set_cons_zero, List.set_cons_succ]
    rfl
  refine done_ (by kernel_rfl) ?_
  go_wp2
  go_ret2
  exact ⟨_, rfl, hM.ext hHeld, HX.out.trans hHeld⟩
set_option maxHeartbeats 4000000 in
theorem read_open (w : World) (blk off c m : Nat) (mx : Int) (x0 u : ByteArray) (r : Int) (h0' : Spells x0 r) (hm : w.cell? ⟨0, 0, none⟩ = some (.int .i64 mx)) (hrow : w.rangeAt blk off ((([⟨#[111, 112, 101, 110]⟩] : List ByteArray) ++ [x0, u]).map .string)) (hc : 3 ≤ c) (hbig : c ≤ 9223372036854775807) :
    Calls Tryz.prog 8 #[.slice (some ⟨blk, off, none⟩) 3 c] w fun e w' => ∃ v, e = .returned (.tuple #[v, .bool true]) ∧ MadeAt w' v r ⟨1, u, ⟨#[]⟩, ⟨0, 0⟩, ⟨0, 0⟩, 0⟩ ∧ Ext w w' := by
  obtain ⟨g, Hg⟩ : ∃ h, Hid (w.heap.size = h) := ⟨_, Lib.hid rfl⟩
  obtain ⟨w1, H1⟩ : ∃ x, Hid (w.alloc (.cells #[.slice (some ⟨blk, off, none⟩) 3 c, .bool false] 51) = x) := ⟨_, Lib.hid rfl⟩
  have b1 : w1.heap[g]? = some (.cells #[.slice (some ⟨blk, off, none⟩) 3 c, .bool false] 51) := by rw [← H1.out, ← Hg.out]; exact Array.getElem?_push_size
  have x1 : Ext w w1 := by rw [← H1.out]; exact (Ext.refl w).alloc _
  have hlt : blk < w.heap.size := World.block_lt_of_cell? _ _ (hrow 0 _ rfl)
  have h0 : 0 < w.heap.size := World.block_lt_of_cell? _ _ hm
  have hgs := Hg.out
  have hg0 : g ≠ 0 := by omega
  have R1 : RdAt w1 g blk off c (([⟨#[111, 112, 101, 110]⟩] : List ByteArray) ++ [x0, u]) := ⟨⟨_, b1, fun _ => rfl⟩, rangeAt_ext hrow x1, hc, hbig, by omega, Nat.lt_of_lt_of_le hlt x1.size⟩
  have Hg0 := Lib.hid hg0
  have Hb := Lib.hid hbig
  have Hrow := Lib.hid hrow
  clear hlt h0 hg0 b1 hc hbig hrow
  have h1 := H1.out
  go_enter Tryz.func8, Tryz.ntmps8
  go_wp2_with fail
  clear h1 hgs
  refine (rword_any w1 g blk off c _ _ R1).mono ?_
  rintro e w2 ⟨rfl, R2, k2⟩
  go_wp2_with fail
  refine (calls_open w2 g blk _ _ x0 r u h0' R2).mono ?_
  rintro e w3 ⟨v, off', c', rfl, hM, R3, k3⟩
  have hx := x1
  have K3 : Chg [g] w1 w3 := k2.trans k3
  obtain ⟨az, d0, d1⟩ := R3.ends
  have r0 : ∀ W, Ext w3 W → W.cell? ⟨g, 0, none⟩ = some (.slice (some az) 0 c') := fun W x => x.cell d0
  have r1 : ∀ W, Ext w3 W → W.cell? ⟨g, 1, none⟩ = some (.bool false) := fun W x => x.cell d1
  have xT := Ext.refl w3
  clear d0 d1 R3 R2 R1 k2 k3 hx
  have HX : Hid (Ext w w3) := Lib.hid (K3.toExt x1 (fun k hk => by
    have e1 : k = g := by simpa using hk
    have e2 := Hg.out
    omega))
  clear K3 x1
  go_wp2_with fail
  refine start_ (n := 16) (S := (fun W => Ext w3 W)) (ds := []) #[false, false, false, false, false, false, false, false, false, false, false, false, false, false, false, false] (by kernel_rfl) (by kernel_rfl) (by kernel_rfl) (xT.drew) (fun hHeld => ?_)
  refine take_ (i := 0) (N := (some 27)) (v := ?_) (a' := ?_) #[true, false, false, false, false, false, false, false, false, false, false, false, false, false, false, false] rfl rfl (by kernel_rfl) (fun _ _ _ h => h) (Or.inl ⟨by rfl, ?_⟩) (by assumption) ?_ ?_
  rotate_left
  · intro w' hSw; (try dsimp only at hSw)
    go_simp
    try with_reducible rfl
  rotate_left
  · simp only [Act.put, List.setIfInBounds_toArray, List.set_cons_zero, List.set_cons_succ]
    rfl
  refine take_ (i := 1) (N := (some 28)) (v := ?_) (a' := ?_) #[true, true, false, false, false, false, false, false, false, false, false, false, false, false, false, false] rfl rfl (by kernel_rfl) (fun _ _ _ h => h) (Or.inl ⟨by rfl, ?_⟩) (by assumption) ?_ ?_
  rotate_left
  · intro w' hSw; (try dsimp only at hSw)
    go_simp
    try with_reducible rfl
  rotate_left
  · simp only [Act.put, List.setIfInBounds_toArray, List.set_cons_zero, List.set_cons_succ]
    rfl
  refine take_ (i := 2) (N := (some 29)) (v := ?_) (a' := ?_) #[true, true, true, false, false, false, false, false, false, false, false, false, false, false, false, false] rfl rfl (by kernel_rfl) (fun _ _ _ h => h) (Or.inl ⟨by rfl, ?_⟩) (by assumption) ?_ ?_
  rotate_left
  · intro w' hSw; (try dsimp only at hSw)
    go_simp
    try with_reducible rfl
  rotate_left
  · simp only [Act.put, List.setIfInBounds_toArray, List.set_cons_zero, List.set_cons_succ]
    rfl
  refine take_ (i := 3) (N := (some 30)) (v := ?_) (a' := ?_) #[true, true, true, true, false, false, false, false, false, false, false, false, false, false, false, false] rfl rfl (by kernel_rfl) (fun _ _ _ h => h) (Or.inl ⟨by rfl, ?_⟩) (by assumption) ?_ ?_
  rotate_left
  · intro w' hSw; (try dsimp only at hSw)
    go_simp
    try with_reducible rfl
  rotate_left
  · simp only [Act.put, List.setIfInBounds_toArray, List.set_cons_zero, List.set_cons_succ]
    rfl
  refine take_ (i := 4) (N := (some 31)) (v := ?_) (a' := ?_) #[true, true, true, true, true, false, false, false, false, false, false, false, false, false, false, false] rfl rfl (by kernel_rfl) (fun _ _ _ h => h) (Or.inl ⟨by rfl, ?_⟩) (by assumption) ?_ ?_
  rotate_left
  · intro w' hSw; (try dsimp only at hSw)
    go_simp
    try with_reducible rfl
  rotate_left
  · simp only [Act.put, List.setIfInBounds_toArray, List.set_cons_zero, List.set_cons_succ]
    rfl
  refine take_ (i := 5) (N := (some 32)) (v := ?_) (a' := ?_) #[true, true, true, true, true, true, false, false, false, false, false, false, false, false, false, false] rfl rfl (by kernel_rfl) (fun _ _ _ h => h) (Or.inl ⟨by rfl, ?_⟩) (by assumption) ?_ ?_
  rotate_left
  · intro w' hSw; (try dsimp only at hSw)
    go_simp
    try with_reducible rfl
  rotate_left
  · simp only [Act.put, List.setIfInBounds_toArray, List.set_cons_zero, List.set_cons_succ]
    rfl
  refine take_ (i := 6) (N := (some 33)) (v := ?_) (a' := ?_) #[true, true, true, true, true, true, true, false, false, false, false, false, false, false, false, false] rfl rfl (by kernel_rfl) (fun _ _ _ h => h) (Or.inl ⟨by rfl, ?_⟩) (by assumption) ?_ ?_
  rotate_left
  · intro w' hSw; (try dsimp only at hSw)
    go_simp
    try with_reducible rfl
  rotate_left
  · simp only [Act.put, List.setIfInBounds_toArray, List.set_cons_zero, List.set_cons_succ]
    rfl
  refine take_ (i := 7) (N := (some 34)) (v := ?_) (a' := ?_) #[true, true, true, true, true, true, true, true, false, false, false, false, false, false, false, false] rfl rfl (by kernel_rfl) (fun _ _ _ h => h) (Or.inl ⟨by rfl, ?_⟩) (by assumption) ?_ ?_
  rotate_left
  · intro w' hSw; (try dsimp only at hSw)
    go_simp
    try with_reducible rfl
  rotate_left
  · simp only [Act.put, List.setIfInBounds_toArray, List.set_cons_zero, List.set_cons_succ]
    rfl
  refine take_ (i := 8) (N := (some 35)) (v := ?_) (a' := ?_) #[true, true, true, true, true, true, true, true, true, false, false, false, false, false, false, false] rfl rfl (by kernel_rfl) (fun _ _ _ h => h) (Or.inl ⟨by rfl, ?_⟩) (by assumption) ?_ ?_
  rotate_left
  · intro w' hSw; (try dsimp only at hSw)
    go_simp
    try with_reducible rfl
  rotate_left
  · simp only [Act.put, List.setIfInBounds_toArray, List.set_cons_zero, List.set_cons_succ]
    rfl
  refine take_ (i := 9) (N := (some 36)) (v := ?_) (a' := ?_) #[true, true, true, true, true, true, true, true, true, true, false, false, false, false, false, false] rfl rfl (by kernel_rfl) (fun _ _ _ h => h) (Or.inl ⟨by rfl, ?_⟩) (by assumption) ?_ ?_
  rotate_left
  · intro w' hSw; (try dsimp only at hSw)
    go_simp
    try with_reducible rfl
  rotate_left
  · simp only [Act.put, List.setIfInBounds_toArray, List.set_cons_zero, List.set_cons_succ]
    rfl
  refine take_ (i := 10) (N := (some 37)) (v := ?_) (a' := ?_) #[true, true, true, true, true, true, true, true, true, true, true, false, false, false, false, false] rfl rfl (by kernel_rfl) (fun _ _ _ h => h) (Or.inl ⟨by rfl, ?_⟩) (by assumption) ?_ ?_
  rotate_left
  · intro w' hSw; (try dsimp only at hSw)
    go_simp
    try with_reducible rfl
  rotate_left
  · simp only [Act.put, List.setIfInBounds_toArray, List.set_cons_zero, List.set_cons_succ]
    rfl
  refine take_ (i := 11) (N := (some 38)) (v := ?_) (a' := ?_) #[true, true, true, true, true, true, true, true, true, true, true, true, false, false, false, false] rfl rfl (by kernel_rfl) (fun _ _ _ h => h) (Or.inl ⟨by rfl, ?_⟩) (by assumption) ?_ ?_
  rotate_left
  · intro w' hSw; (try dsimp only at hSw)
    go_simp
    try with_reducible rfl
  rotate_left
  · simp only [Act.put, List.setIfInBounds_toArray, List.set_cons_zero, List.set_cons_succ]
    rfl
  refine take_ (i := 12) (N := (some 39)) (v := ?_) (a' := ?_) #[true, true, true, true, true, true, true, true, true, true, true, true, true, false, false, false] rfl rfl (by kernel_rfl) (fun _ _ _ h => h) (Or.inl ⟨by rfl, ?_⟩) (by assumption) ?_ ?_
  rotate_left
  · intro w' hSw; (try dsimp only at hSw)
    go_simp
    try with_reducible rfl
  rotate_left
  · simp only [Act.put, List.setIfInBounds_toArray, List.set_cons_zero, List.set_cons_succ]
    rfl
  refine take_ (i := 13) (N := (some 40)) (v := ?_) (a' := ?_) #[true, true, true, true, true, true, true, true, true, true, true, true, true, true, false, false] rfl rfl (by kernel_rfl) (fun _ _ _ h => h) (Or.inl ⟨by rfl, ?_⟩) (by assumption) ?_ ?_
  rotate_left
  · intro w' hSw; (try dsimp only at hSw)
    go_simp
    try with_reducible rfl
  rotate_left
  · simp only [Act.put, List.setIfInBounds_toArray, List.set_cons_zero, List.set_cons_succ]
    rfl
  refine take_ (i := 14) (N := (some 2)) (v := ?_) (a' := ?_) #[true, true, true, true, true, true, true, true, true, true, true, true, true, true, true, false] rfl rfl (by kernel_rfl) (fun _ _ _ h => h) (Or.inl ⟨by rfl, ?_⟩) (by assumption) ?_ ?_
  rotate_left
  · intro w' hSw; (try dsimp only at hSw)
    go_simp
    try with_reducible rfl
  rotate_left
  · simp only [Act.put, List.setIfInBounds_toArray, List.set_cons_zero, List.set_cons_succ]
    rfl
  refine take_ (i := 15) (N := (some 3)) (v := ?_) (a' := ?_) #[true, true, true, true, true, true, true, true, true, true, true, true, true, true, true, true] rfl rfl (by kernel_rfl) (fun _ _ _ h => h) (Or.inl ⟨by rfl, ?_⟩) (by assumption) ?_ ?_
  rotate_left
  · intro w' hSw; (try dsimp only at hSw)
    go_simp
    try with_reducible rfl
  rotate_left
  · simp only [Act.put, List.setIfInBounds_toArray, List.set_cons_zero, List.set_cons_succ]
    rfl
  refine done_ (by kernel_rfl) ?_
  go_wp2
  go_ret2
  exact ⟨_, rfl, hM.ext hHeld, HX.out.trans hHeld⟩
set_option maxHeartbeats 4000000 in
theorem read_bid (w : World) (blk off c m : Nat) (mx : Int) (x0 : ByteArray) (r : Int) (h0' : Spells x0 r) (y a b : ByteArray) (ar an : Int) (hy : y.size < 4294967281) (hcut : Lib.cut y.data.toList [46] = (a.data.toList, b.data.toList, true)) (ha : Spells a ar) (hb : Spells b an) (u z : ByteArray) (am : Int) (hz : Spells z am) (hm : w.cell? ⟨0, 0, none⟩ = some (.int .i64 mx)) (hrow : w.rangeAt blk off ((([⟨#[98, 105, 100]⟩] : List ByteArray) ++ [x0, y, u, z]).map .string)) (hc : 5 ≤ c) (hbig : c ≤ 9223372036854775807) :
    Calls Tryz.prog 8 #[.slice (some ⟨blk, off, none⟩) 5 c] w fun e w' => ∃ v, e = .returned (.tuple #[v, .bool true]) ∧ MadeAt w' v r ⟨2, ⟨#[]⟩, u, ⟨ar, an⟩, ⟨0, 0⟩, am⟩ ∧ Ext w w' := by
  obtain ⟨g, Hg⟩ : ∃ h, Hid (w.heap.size = h) := ⟨_, Lib.hid rfl⟩
  obtain ⟨w1, H1⟩ : ∃ x, Hid (w.alloc (.cells #[.slice (some ⟨blk, off, none⟩) 5 c, .bool false] 51) = x) := ⟨_, Lib.hid rfl⟩
  have b1 : w1.heap[g]? = some (.cells #[.slice (some ⟨blk, off, none⟩) 5 c, .bool false] 51) := by rw [← H1.out, ← Hg.out]; exact Array.getElem?_push_size
  have x1 : Ext w w1 := by rw [← H1.out]; exact (Ext.refl w).alloc _
  have hlt : blk < w.heap.size := World.block_lt_of_cell? _ _ (hrow 0 _ rfl)
  have h0 : 0 < w.heap.size := World.block_lt_of_cell? _ _ hm
  have hgs := Hg.out
  have hg0 : g ≠ 0 := by omega
  have R1 : RdAt w1 g blk off c (([⟨#[98, 105, 100]⟩] : List ByteArray) ++ [x0, y, u, z]) := ⟨⟨_, b1, fun _ => rfl⟩, rangeAt_ext hrow x1, hc, hbig, by omega, Nat.lt_of_lt_of_le hlt x1.size⟩
  have Hg0 := Lib.hid hg0
  have Hb := Lib.hid hbig
  have Hrow := Lib.hid hrow
  clear hlt h0 hg0 b1 hc hbig hrow
  have h1 := H1.out
  go_enter Tryz.func8, Tryz.ntmps8
  go_wp2_with fail
  clear h1 hgs
  refine (rword_any w1 g blk off c _ _ R1).mono ?_
  rintro e w2 ⟨rfl, R2, k2⟩
  go_wp2_with fail
  refine (calls_bid w2 g blk _ _ x0 r mx (by rw [← hm]; exact World.cell?_of_block (((k2.block 0 (Nat.lt_of_lt_of_le (World.block_lt_of_cell? _ _ hm) x1.size) (by have := Hg0.out; simp; omega))).trans (x1.out.block 0 (World.block_lt_of_cell? _ _ hm)))) Hg0.out y a b ar an hy hcut ha hb u z am hz h0' R2).mono ?_
  rintro e w3 ⟨v, off', c', rfl, hM, R3, k3⟩
  have hx := x1
  have K3 : Chg [g] w1 w3 := k2.trans k3
  obtain ⟨az, d0, d1⟩ := R3.ends
  have r0 : ∀ W, Ext w3 W → W.cell? ⟨g, 0, none⟩ = some (.slice (some az) 0 c') := fun W x => x.cell d0
  have r1 : ∀ W, Ext w3 W → W.cell? ⟨g, 1, none⟩ = some (.bool false) := fun W x => x.cell d1
  have xT := Ext.refl w3
  clear d0 d1 R3 R2 R1 k2 k3 hx
  have HX : Hid (Ext w w3) := Lib.hid (K3.toExt x1 (fun k hk => by
    have e1 : k = g := by simpa using hk
    have e2 := Hg.out
    omega))
  clear K3 x1
  go_wp2_with fail
  refine start_ (n := 16) (S := (fun W => Ext w3 W)) (ds := []) #[false, false, false, false, false, false, false, false, false, false, false, false, false, false, false, false] (by kernel_rfl) (by kernel_rfl) (by kernel_rfl) (xT.drew) (fun hHeld => ?_)
  refine take_ (i := 0) (N := (some 27)) (v := ?_) (a' := ?_) #[true, false, false, false, false, false, false, false, false, false, false, false, false, false, false, false] rfl rfl (by kernel_rfl) (fun _ _ _ h => h) (Or.inl ⟨by rfl, ?_⟩) (by assumption) ?_ ?_
  rotate_left
  · intro w' hSw; (try dsimp only at hSw)
    go_simp
    try with_reducible rfl
  rotate_left
  · simp only [Act.put, List.setIfInBounds_toArray, List.set_cons_zero, List.set_cons_succ]
    rfl
  refine take_ (i := 1) (N := (some 28)) (v := ?_) (a' := ?_) #[true, true, false, false, false, false, false, false, false, false, false, false, false, false, false, false] rfl rfl (by kernel_rfl) (fun _ _ _ h => h) (Or.inl ⟨by rfl, ?_⟩) (by assumption) ?_ ?_
  rotate_left
  · intro w' hSw; (try dsimp only at hSw)
    go_simp
    try with_reducible rfl
  rotate_left
  · simp only [Act.put, List.setIfInBounds_toArray, List.set_cons_zero, List.set_cons_succ]
    rfl
  refine take_ (i := 2) (N := (some 29)) (v := ?_) (a' := ?_) #[true, true, true, false, false, false, false, false, false, false, false, false, false, false, false, false] rfl rfl (by kernel_rfl) (fun _ _ _ h => h) (Or.inl ⟨by rfl, ?_⟩) (by assumption) ?_ ?_
  rotate_left
  · intro w' hSw; (try dsimp only at hSw)
    go_simp
    try with_reducible rfl
  rotate_left
  · simp only [Act.put, List.setIfInBounds_toArray, List.set_cons_zero, List.set_cons_succ]
    rfl
  refine take_ (i := 3) (N := (some 30)) (v := ?_) (a' := ?_) #[true, true, true, true, false, false, false, false, false, false, false, false, false, false, false, false] rfl rfl (by kernel_rfl) (fun _ _ _ h => h) (Or.inl ⟨by rfl, ?_⟩) (by assumption) ?_ ?_
  rotate_left
  · intro w' hSw; (try dsimp only at hSw)
    go_simp
    try with_reducible rfl
  rotate_left
  · simp only [Act.put, List.setIfInBounds_toArray, List.set_cons_zero, List.set_cons_succ]
    rfl
  refine take_ (i := 4) (N := (some 31)) (v := ?_) (a' := ?_) #[true, true, true, true, true, false, false, false, false, false, false, false, false, false, false, false] rfl rfl (by kernel_rfl) (fun _ _ _ h => h) (Or.inl ⟨by rfl, ?_⟩) (by assumption) ?_ ?_
  rotate_left
  · intro w' hSw; (try dsimp only at hSw)
    go_simp
    try with_reducible rfl
  rotate_left
  · simp only [Act.put, List.setIfInBounds_toArray, List.set_cons_zero, List.set_cons_succ]
    rfl
  refine take_ (i := 5) (N := (some 32)) (v := ?_) (a' := ?_) #[true, true, true, true, true, true, false, false, false, false, false, false, false, false, false, false] rfl rfl (by kernel_rfl) (fun _ _ _ h => h) (Or.inl ⟨by rfl, ?_⟩) (by assumption) ?_ ?_
  rotate_left
  · intro w' hSw; (try dsimp only at hSw)
    go_simp
    try with_reducible rfl
  rotate_left
  · simp only [Act.put, List.setIfInBounds_toArray, List.set_cons_zero, List.set_cons_succ]
    rfl
  refine take_ (i := 6) (N := (some 33)) (v := ?_) (a' := ?_) #[true, true, true, true, true, true, true, false, false, false, false, false, false, false, false, false] rfl rfl (by kernel_rfl) (fun _ _ _ h => h) (Or.inl ⟨by rfl, ?_⟩) (by assumption) ?_ ?_
  rotate_left
  · intro w' hSw; (try dsimp only at hSw)
    go_simp
    try with_reducible rfl
  rotate_left
  · simp only [Act.put, List.setIfInBounds_toArray, List.set_cons_zero, List.set_cons_succ]
    rfl
  refine take_ (i := 7) (N := (some 34)) (v := ?_) (a' := ?_) #[true, true, true, true, true, true, true, true, false, false, false, false, false, false, false, false] rfl rfl (by kernel_rfl) (fun _ _ _ h => h) (Or.inl ⟨by rfl, ?_⟩) (by assumption) ?_ ?_
  rotate_left
  · intro w' hSw; (try dsimp only at hSw)
    go_simp
    try with_reducible rfl
  rotate_left
  · simp only [Act.put, List.setIfInBounds_toArray, List.set_cons_zero, List.set_cons_succ]
    rfl
  refine take_ (i := 8) (N := (some 35)) (v := ?_) (a' := ?_) #[true, true, true, true, true, true, true, true, true, false, false, false, false, false, false, false] rfl rfl (by kernel_rfl) (fun _ _ _ h => h) (Or.inl ⟨by rfl, ?_⟩) (by assumption) ?_ ?_
  rotate_left
  · intro w' hSw; (try dsimp only at hSw)
    go_simp
    try with_reducible rfl
  rotate_left
  · simp only [Act.put, List.setIfInBounds_toArray, List.set_cons_zero, List.set_cons_succ]
    rfl
  refine take_ (i := 9) (N := (some 36)) (v := ?_) (a' := ?_) #[true, true, true, true, true, true, true, true, true, true, false, false, false, false, false, false] rfl rfl (by kernel_rfl) (fun _ _ _ h => h) (Or.inl ⟨by rfl, ?_⟩) (by assumption) ?_ ?_
  rotate_left
  · intro w' hSw; (try dsimp only at hSw)
    go_simp
    try with_reducible rfl
  rotate_left
  · simp only [Act.put, List.setIfInBounds_toArray, List.set_cons_zero, List.set_cons_succ]
    rfl
  refine take_ (i := 10) (N := (some 37)) (v := ?_) (a' := ?_) #[true, true, true, true, true, true, true, true, true, true, true, false, false, false, false, false] rfl rfl (by kernel_rfl) (fun _ _ _ h => h) (Or.inl ⟨by rfl, ?_⟩) (by assumption) ?_ ?_
  rotate_left
  · intro w' hSw; (try dsimp only at hSw)
    go_simp
    try with_reducible rfl
  rotate_left
  · simp only [Act.put, List.setIfInBounds_toArray, List.set_cons_zero, List.set_cons_succ]
    rfl
  refine take_ (i := 11) (N := (some 38)) (v := ?_) (a' := ?_) #[true, true, true, true, true, true, true, true, true, true, true, true, false, false, false, false] rfl rfl (by kernel_rfl) (fun _ _ _ h => h) (Or.inl ⟨by rfl, ?_⟩) (by assumption) ?_ ?_
  rotate_left
  · intro w' hSw; (try dsimp only at hSw)
    go_simp
    try with_reducible rfl
  rotate_left
  · simp only [Act.put, List.setIfInBounds_toArray, List.set_cons_zero, List.set_cons_succ]
    rfl
  refine take_ (i := 12) (N := (some 39)) (v := ?_) (a' := ?_) #[true, true, true, true, true, true, true, true, true, true, true, true, true, false, false, false] rfl rfl (by kernel_rfl) (fun _ _ _ h => h) (Or.inl ⟨by rfl, ?_⟩) (by assumption) ?_ ?_
  rotate_left
  · intro w' hSw; (try dsimp only at hSw)
    go_simp
    try with_reducible rfl
  rotate_left
  · simp only [Act.put, List.setIfInBounds_toArray, List.set_cons_zero, List.set_cons_succ]
    rfl
  refine take_ (i := 13) (N := (some 40)) (v := ?_) (a' := ?_) #[true, true, true, true, true, true, true, true, true, true, true, true, true, true, false, false] rfl rfl (by kernel_rfl) (fun _ _ _ h => h) (Or.inl ⟨by rfl, ?_⟩) (by assumption) ?_ ?_
  rotate_left
  · intro w' hSw; (try dsimp only at hSw)
    go_simp
    try with_reducible rfl
  rotate_left
  · simp only [Act.put, List.setIfInBounds_toArray, List.set_cons_zero, List.set_cons_succ]
    rfl
  refine take_ (i := 14) (N := (some 2)) (v := ?_) (a' := ?_) #[true, true, true, true, true, true, true, true, true, true, true, true, true, true, true, false] rfl rfl (by kernel_rfl) (fun _ _ _ h => h) (Or.inl ⟨by rfl, ?_⟩) (by assumption) ?_ ?_
  rotate_left
  · intro w' hSw; (try dsimp only at hSw)
    go_simp
    try with_reducible rfl
  rotate_left
  · simp only [Act.put, List.setIfInBounds_toArray, List.set_cons_zero, List.set_cons_succ]
    rfl
  refine take_ (i := 15) (N := (some 3)) (v := ?_) (a' := ?_) #[true, true, true, true, true, true, true, true, true, true, true, true, true, true, true, true] rfl rfl (by kernel_rfl) (fun _ _ _ h => h) (Or.inl ⟨by rfl, ?_⟩) (by assumption) ?_ ?_
  rotate_left
  · intro w' hSw; (try dsimp only at hSw)
    go_simp
    try with_reducible rfl
  rotate_left
  · simp only [Act.put, List.setIfInBounds_toArray, List.set_cons_zero, List.set_cons_succ]
    rfl
  refine done_ (by kernel_rfl) ?_
  go_wp2
  go_ret2
  exact ⟨_, rfl, hM.ext hHeld, HX.out.trans hHeld⟩
set_option maxHeartbeats 4000000 in
theorem read_close (w : World) (blk off c m : Nat) (mx : Int) (x0 : ByteArray) (r : Int) (h0' : Spells x0 r) (y a b : ByteArray) (ar an : Int) (hy : y.size < 4294967281) (hcut : Lib.cut y.data.toList [46] = (a.data.toList, b.data.toList, true)) (ha : Spells a ar) (hb : Spells b an)  (hm : w.cell? ⟨0, 0, none⟩ = some (.int .i64 mx)) (hrow : w.rangeAt blk off ((([⟨#[99, 108, 111, 115, 101]⟩] : List ByteArray) ++ [x0, y]).map .string)) (hc : 3 ≤ c) (hbig : c ≤ 9223372036854775807) :
    Calls Tryz.prog 8 #[.slice (some ⟨blk, off, none⟩) 3 c] w fun e w' => ∃ v, e = .returned (.tuple #[v, .bool true]) ∧ MadeAt w' v r ⟨7, ⟨#[]⟩, ⟨#[]⟩, ⟨ar, an⟩, ⟨0, 0⟩, 0⟩ ∧ Ext w w' := by
  obtain ⟨g, Hg⟩ : ∃ h, Hid (w.heap.size = h) := ⟨_, Lib.hid rfl⟩
  obtain ⟨w1, H1⟩ : ∃ x, Hid (w.alloc (.cells #[.slice (some ⟨blk, off, none⟩) 3 c, .bool false] 51) = x) := ⟨_, Lib.hid rfl⟩
  have b1 : w1.heap[g]? = some (.cells #[.slice (some ⟨blk, off, none⟩) 3 c, .bool false] 51) := by rw [← H1.out, ← Hg.out]; exact Array.getElem?_push_size
  have x1 : Ext w w1 := by rw [← H1.out]; exact (Ext.refl w).alloc _
  have hlt : blk < w.heap.size := World.block_lt_of_cell? _ _ (hrow 0 _ rfl)
  have h0 : 0 < w.heap.size := World.block_lt_of_cell? _ _ hm
  have hgs := Hg.out
  have hg0 : g ≠ 0 := by omega
  have R1 : RdAt w1 g blk off c (([⟨#[99, 108, 111, 115, 101]⟩] : List ByteArray) ++ [x0, y]) := ⟨⟨_, b1, fun _ => rfl⟩, rangeAt_ext hrow x1, hc, hbig, by omega, Nat.lt_of_lt_of_le hlt x1.size⟩
  have Hg0 := Lib.hid hg0
  have Hb := Lib.hid hbig
  have Hrow := Lib.hid hrow
  clear hlt h0 hg0 b1 hc hbig hrow
  have h1 := H1.out
  go_enter Tryz.func8, Tryz.ntmps8
  go_wp2_with fail
  clear h1 hgs
  refine (rword_any w1 g blk off c _ _ R1).mono ?_
  rintro e w2 ⟨rfl, R2, k2⟩
  go_wp2_with fail
  refine (calls_close w2 g blk _ _ x0 r mx (by rw [← hm]; exact World.cell?_of_block (((k2.block 0 (Nat.lt_of_lt_of_le (World.block_lt_of_cell? _ _ hm) x1.size) (by have := Hg0.out; simp; omega))).trans (x1.out.block 0 (World.block_lt_of_cell? _ _ hm)))) Hg0.out y a b ar an hy hcut ha hb h0' R2).mono ?_
  rintro e w3 ⟨v, off', c', rfl, hM, R3, k3⟩
  have hx := x1
  have K3 : Chg [g] w1 w3 := k2.trans k3
  obtain ⟨az, d0, d1⟩ := R3.ends
  have r0 : ∀ W, Ext w3 W → W.cell? ⟨g, 0, none⟩ = some (.slice (some az) 0 c') := fun W x => x.cell d0
  have r1 : ∀ W, Ext w3 W → W.cell? ⟨g, 1, none⟩ = some (.bool false) := fun W x => x.cell d1
  have xT := Ext.refl w3
  clear d0 d1 R3 R2 R1 k2 k3 hx
  have HX : Hid (Ext w w3) := Lib.hid (K3.toExt x1 (fun k hk => by
    have e1 : k = g := by simpa using hk
    have e2 := Hg.out
    omega))
  clear K3 x1
  go_wp2_with fail
  refine start_ (n := 16) (S := (fun W => Ext w3 W)) (ds := []) #[false, false, false, false, false, false, false, false, false, false, false, false, false, false, false, false] (by kernel_rfl) (by kernel_rfl) (by kernel_rfl) (xT.drew) (fun hHeld => ?_)
  refine take_ (i := 0) (N := (some 27)) (v := ?_) (a' := ?_) #[true, false, false, false, false, false, false, false, false, false, false, false, false, false, false, false] rfl rfl (by kernel_rfl) (fun _ _ _ h => h) (Or.inl ⟨by rfl, ?_⟩) (by assumption) ?_ ?_
  rotate_left
  · intro w' hSw; (try dsimp only at hSw)
    go_simp
    try with_reducible rfl
  rotate_left
  · simp only [Act.put, List.setIfInBounds_toArray, List.set_cons_zero, List.set_cons_succ]
    rfl
  refine take_ (i := 1) (N := (some 28)) (v := ?_) (a' := ?_) #[true, true, false, false, false, false, false, false, false, false, false, false, false, false, false, false] rfl rfl (by kernel_rfl) (fun _ _ _ h => h) (Or.inl ⟨by rfl, ?_⟩) (by assumption) ?_ ?_
  rotate_left
  · intro w' hSw; (try dsimp only at hSw)
    go_simp
    try with_reducible rfl
  rotate_left
  · simp only [Act.put, List.setIfInBounds_toArray, List.set_cons_zero, List.set_cons_succ]
    rfl
  refine take_ (i := 2) (N := (some 29)) (v := ?_) (a' := ?_) #[true, true, true, false, false, false, false, false, false, false, false, false, false, false, false, false] rfl rfl (by kernel_rfl) (fun _ _ _ h => h) (Or.inl ⟨by rfl, ?_⟩) (by assumption) ?_ ?_
  rotate_left
  · intro w' hSw; (try dsimp only at hSw)
    go_simp
    try with_reducible rfl
  rotate_left
  · simp only [Act.put, List.setIfInBounds_toArray, List.set_cons_zero, List.set_cons_succ]
    rfl
  refine take_ (i := 3) (N := (some 30)) (v := ?_) (a' := ?_) #[true, true, true, true, false, false, false, false, false, false, false, false, false, false, false, false] rfl rfl (by kernel_rfl) (fun _ _ _ h => h) (Or.inl ⟨by rfl, ?_⟩) (by assumption) ?_ ?_
  rotate_left
  · intro w' hSw; (try dsimp only at hSw)
    go_simp
    try with_reducible rfl
  rotate_left
  · simp only [Act.put, List.setIfInBounds_toArray, List.set_cons_zero, List.set_cons_succ]
    rfl
  refine take_ (i := 4) (N := (some 31)) (v := ?_) (a' := ?_) #[true, true, true, true, true, false, false, false, false, false, false, false, false, false, false, false] rfl rfl (by kernel_rfl) (fun _ _ _ h => h) (Or.inl ⟨by rfl, ?_⟩) (by assumption) ?_ ?_
  rotate_left
  · intro w' hSw; (try dsimp only at hSw)
    go_simp
    try with_reducible rfl
  rotate_left
  · simp only [Act.put, List.setIfInBounds_toArray, List.set_cons_zero, List.set_cons_succ]
    rfl
  refine take_ (i := 5) (N := (some 32)) (v := ?_) (a' := ?_) #[true, true, true, true, true, true, false, false, false, false, false, false, false, false, false, false] rfl rfl (by kernel_rfl) (fun _ _ _ h => h) (Or.inl ⟨by rfl, ?_⟩) (by assumption) ?_ ?_
  rotate_left
  · intro w' hSw; (try dsimp only at hSw)
    go_simp
    try with_reducible rfl
  rotate_left
  · simp only [Act.put, List.setIfInBounds_toArray, List.set_cons_zero, List.set_cons_succ]
    rfl
  refine take_ (i := 6) (N := (some 33)) (v := ?_) (a' := ?_) #[true, true, true, true, true, true, true, false, false, false, false, false, false, false, false, false] rfl rfl (by kernel_rfl) (fun _ _ _ h => h) (Or.inl ⟨by rfl, ?_⟩) (by assumption) ?_ ?_
  rotate_left
  · intro w' hSw; (try dsimp only at hSw)
    go_simp
    try with_reducible rfl
  rotate_left
  · simp only [Act.put, List.setIfInBounds_toArray, List.set_cons_zero, List.set_cons_succ]
    rfl
  refine take_ (i := 7) (N := (some 34)) (v := ?_) (a' := ?_) #[true, true, true, true, true, true, true, true, false, false, false, false, false, false, false, false] rfl rfl (by kernel_rfl) (fun _ _ _ h => h) (Or.inl ⟨by rfl, ?_⟩) (by assumption) ?_ ?_
  rotate_left
  · intro w' hSw; (try dsimp only at hSw)
    go_simp
    try with_reducible rfl
  rotate_left
  · simp only [Act.put, List.setIfInBounds_toArray, List.set_cons_zero, List.set_cons_succ]
    rfl
  refine take_ (i := 8) (N := (some 35)) (v := ?_) (a' := ?_) #[true, true, true, true, true, true, true, true, true, false, false, false, false, false, false, false] rfl rfl (by kernel_rfl) (fun _ _ _ h => h) (Or.inl ⟨by rfl, ?_⟩) (by assumption) ?_ ?_
  rotate_left
  · intro w' hSw; (try dsimp only at hSw)
    go_simp
    try with_reducible rfl
  rotate_left
  · simp only [Act.put, List.setIfInBounds_toArray, List.set_cons_zero, List.set_cons_succ]
    rfl
  refine take_ (i := 9) (N := (some 36)) (v := ?_) (a' := ?_) #[true, true, true, true, true, true, true, true, true, true, false, false, false, false, false, false] rfl rfl (by kernel_rfl) (fun _ _ _ h => h) (Or.inl ⟨by rfl, ?_⟩) (by assumption) ?_ ?_
  rotate_left
  · intro w' hSw; (try dsimp only at hSw)
    go_simp
    try with_reducible rfl
  rotate_left
  · simp only [Act.put, List.setIfInBounds_toArray, List.set_cons_zero, List.set_cons_succ]
    rfl
  refine take_ (i := 10) (N := (some 37)) (v := ?_) (a' := ?_) #[true, true, true, true, true, true, true, true, true, true, true, false, false, false, false, false] rfl rfl (by kernel_rfl) (fun _ _ _ h => h) (Or.inl ⟨by rfl, ?_⟩) (by assumption) ?_ ?_
  rotate_left
  · intro w' hSw; (try dsimp only at hSw)
    go_simp
    try with_reducible rfl
  rotate_left
  · simp only [Act.put, List.setIfInBounds_toArray, List.set_cons_zero, List.set_cons_succ]
    rfl
  refine take_ (i := 11) (N := (some 38)) (v := ?_) (a' := ?_) #[true, true, true, true, true, true, true, true, true, true, true, true, false, false, false, false] rfl rfl (by kernel_rfl) (fun _ _ _ h => h) (Or.inl ⟨by rfl, ?_⟩) (by assumption) ?_ ?_
  rotate_left
  · intro w' hSw; (try dsimp only at hSw)
    go_simp
    try with_reducible rfl
  rotate_left
  · simp only [Act.put, List.setIfInBounds_toArray, List.set_cons_zero, List.set_cons_succ]
    rfl
  refine take_ (i := 12) (N := (some 39)) (v := ?_) (a' := ?_) #[true, true, true, true, true, true, true, true, true, true, true, true, true, false, false, false] rfl rfl (by kernel_rfl) (fun _ _ _ h => h) (Or.inl ⟨by rfl, ?_⟩) (by assumption) ?_ ?_
  rotate_left
  · intro w' hSw; (try dsimp only at hSw)
    go_simp
    try with_reducible rfl
  rotate_left
  · simp only [Act.put, List.setIfInBounds_toArray, List.set_cons_zero, List.set_cons_succ]
    rfl
  refine take_ (i := 13) (N := (some 40)) (v := ?_) (a' := ?_) #[true, true, true, true, true, true, true, true, true, true, true, true, true, true, false, false] rfl rfl (by kernel_rfl) (fun _ _ _ h => h) (Or.inl ⟨by rfl, ?_⟩) (by assumption) ?_ ?_
  rotate_left
  · intro w' hSw; (try dsimp only at hSw)
    go_simp
    try with_reducible rfl
  rotate_left
  · simp only [Act.put, List.setIfInBounds_toArray, List.set_cons_zero, List.set_cons_succ]
    rfl
  refine take_ (i := 14) (N := (some 2)) (v := ?_) (a' := ?_) #[true, true, true, true, true, true, true, true, true, true, true, true, true, true, true, false] rfl rfl (by kernel_rfl) (fun _ _ _ h => h) (Or.inl ⟨by rfl, ?_⟩) (by assumption) ?_ ?_
  rotate_left
  · intro w' hSw; (try dsimp only at hSw)
    go_simp
    try with_reducible rfl
  rotate_left
  · simp only [Act.put, List.setIfInBounds_toArray, List.set_cons_zero, List.set_cons_succ]
    rfl
  refine take_ (i := 15) (N := (some 3)) (v := ?_) (a' := ?_) #[true, true, true, true, true, true, true, true, true, true, true, true, true, true, true, true] rfl rfl (by kernel_rfl) (fun _ _ _ h => h) (Or.inl ⟨by rfl, ?_⟩) (by assumption) ?_ ?_
  rotate_left
  · intro w' hSw; (try dsimp only at hSw)
    go_simp
    try with_reducible rfl
  rotate_left
  · simp only [Act.put, List.setIfInBounds_toArray, List.set_cons_zero, List.set_cons_succ]
    rfl
  refine done_ (by kernel_rfl) ?_
  go_wp2
  go_ret2
  exact ⟨_, rfl, hM.ext hHeld, HX.out.trans hHeld⟩
set_option maxHeartbeats 4000000 in
theorem read_winner (w : World) (blk off c m : Nat) (mx : Int) (y a b : ByteArray) (ar an : Int) (hy : y.size < 4294967281) (hcut : Lib.cut y.data.toList [46] = (a.data.toList, b.data.toList, true)) (ha : Spells a ar) (hb : Spells b an)  (hm : w.cell? ⟨0, 0, none⟩ = some (.int .i64 mx)) (hrow : w.rangeAt blk off ((([⟨#[119, 105, 110, 110, 101, 114]⟩] : List ByteArray) ++ [y]).map .string)) (hc : 2 ≤ c) (hbig : c ≤ 9223372036854775807) :
    Calls Tryz.prog 8 #[.slice (some ⟨blk, off, none⟩) 2 c] w fun e w' => ∃ v, e = .returned (.tuple #[v, .bool true]) ∧ WinAt w' v ar an ∧ Ext w w' := by
  obtain ⟨g, Hg⟩ : ∃ h, Hid (w.heap.size = h) := ⟨_, Lib.hid rfl⟩
  obtain ⟨w1, H1⟩ : ∃ x, Hid (w.alloc (.cells #[.slice (some ⟨blk, off, none⟩) 2 c, .bool false] 51) = x) := ⟨_, Lib.hid rfl⟩
  have b1 : w1.heap[g]? = some (.cells #[.slice (some ⟨blk, off, none⟩) 2 c, .bool false] 51) := by rw [← H1.out, ← Hg.out]; exact Array.getElem?_push_size
  have x1 : Ext w w1 := by rw [← H1.out]; exact (Ext.refl w).alloc _
  have hlt : blk < w.heap.size := World.block_lt_of_cell? _ _ (hrow 0 _ rfl)
  have h0 : 0 < w.heap.size := World.block_lt_of_cell? _ _ hm
  have hgs := Hg.out
  have hg0 : g ≠ 0 := by omega
  have R1 : RdAt w1 g blk off c (([⟨#[119, 105, 110, 110, 101, 114]⟩] : List ByteArray) ++ [y]) := ⟨⟨_, b1, fun _ => rfl⟩, rangeAt_ext hrow x1, hc, hbig, by omega, Nat.lt_of_lt_of_le hlt x1.size⟩
  have Hg0 := Lib.hid hg0
  have Hb := Lib.hid hbig
  have Hrow := Lib.hid hrow
  clear hlt h0 hg0 b1 hc hbig hrow
  have h1 := H1.out
  go_enter Tryz.func8, Tryz.ntmps8
  go_wp2_with fail
  clear h1 hgs
  refine (rword_any w1 g blk off c _ _ R1).mono ?_
  rintro e w2 ⟨rfl, R2, k2⟩
  go_wp2_with fail
  refine (asks_winner w2 g blk _ _ mx (by rw [← hm]; exact World.cell?_of_block (((k2.block 0 (Nat.lt_of_lt_of_le (World.block_lt_of_cell? _ _ hm) x1.size) (by have := Hg0.out; simp; omega))).trans (x1.out.block 0 (World.block_lt_of_cell? _ _ hm)))) Hg0.out y a b ar an hy hcut ha hb R2).mono ?_
  rintro e w3 ⟨v, off', c', rfl, hM, R3, k3⟩
  have hx := x1
  have K3 : Chg [g] w1 w3 := k2.trans k3
  obtain ⟨az, d0, d1⟩ := R3.ends
  have r0 : ∀ W, Ext w3 W → W.cell? ⟨g, 0, none⟩ = some (.slice (some az) 0 c') := fun W x => x.cell d0
  have r1 : ∀ W, Ext w3 W → W.cell? ⟨g, 1, none⟩ = some (.bool false) := fun W x => x.cell d1
  have xT := Ext.refl w3
  clear d0 d1 R3 R2 R1 k2 k3 hx
  have HX : Hid (Ext w w3) := Lib.hid (K3.toExt x1 (fun k hk => by
    have e1 : k = g := by simpa using hk
    have e2 := Hg.out
    omega))
  clear K3 x1
  go_wp2_with fail
  refine start_ (n := 16) (S := (fun W => Ext w3 W)) (ds := []) #[false, false, false, false, false, false, false, false, false, false, false, false, false, false, false, false] (by kernel_rfl) (by kernel_rfl) (by kernel_rfl) (xT.drew) (fun hHeld => ?_)
  refine take_ (i := 0) (N := (some 27)) (v := ?_) (a' := ?_) #[true, false, false, false, false, false, false, false, false, false, false, false, false, false, false, false] rfl rfl (by kernel_rfl) (fun _ _ _ h => h) (Or.inl ⟨by rfl, ?_⟩) (by assumption) ?_ ?_
  rotate_left
  · intro w' hSw; (try dsimp only at hSw)
    go_simp
    try with_reducible rfl
  rotate_left
  · simp only [Act.put, List.setIfInBounds_toArray, List.set_cons_zero, List.set_cons_succ]
    rfl
  refine take_ (i := 1) (N := (some 28)) (v := ?_) (a' := ?_) #[true, true, false, false, false, false, false, false, false, false, false, false, false, false, false, false] rfl rfl (by kernel_rfl) (fun _ _ _ h => h) (Or.inl ⟨by rfl, ?_⟩) (by assumption) ?_ ?_
  rotate_left
  · intro w' hSw; (try dsimp only at hSw)
    go_simp
    try with_reducible rfl
  rotate_left
  · simp only [Act.put, List.setIfInBounds_toArray, List.set_cons_zero, List.set_cons_succ]
    rfl
  refine take_ (i := 2) (N := (some 29)) (v := ?_) (a' := ?_) #[true, true, true, false, false, false, false, false, false, false, false, false, false, false, false, false] rfl rfl (by kernel_rfl) (fun _ _ _ h => h) (Or.inl ⟨by rfl, ?_⟩) (by assumption) ?_ ?_
  rotate_left
  · intro w' hSw; (try dsimp only at hSw)
    go_simp
    try with_reducible rfl
  rotate_left
  · simp only [Act.put, List.setIfInBounds_toArray, List.set_cons_zero, List.set_cons_succ]
    rfl
  refine take_ (i := 3) (N := (some 30)) (v := ?_) (a' := ?_) #[true, true, true, true, false, false, false, false, false, false, false, false, false, false, false, false] rfl rfl (by kernel_rfl) (fun _ _ _ h => h) (Or.inl ⟨by rfl, ?_⟩) (by assumption) ?_ ?_
  rotate_left
  · intro w' hSw; (try dsimp only at hSw)
    go_simp
    try with_reducible rfl
  rotate_left
  · simp only [Act.put, List.setIfInBounds_toArray, List.set_cons_zero, List.set_cons_succ]
    rfl
  refine take_ (i := 4) (N := (some 31)) (v := ?_) (a' := ?_) #[true, true, true, true, true, false, false, false, false, false, false, false, false, false, false, false] rfl rfl (by kernel_rfl) (fun _ _ _ h => h) (Or.inl ⟨by rfl, ?_⟩) (by assumption) ?_ ?_
  rotate_left
  · intro w' hSw; (try dsimp only at hSw)
    go_simp
    try with_reducible rfl
  rotate_left
  · simp only [Act.put, List.setIfInBounds_toArray, List.set_cons_zero, List.set_cons_succ]
    rfl
  refine take_ (i := 5) (N := (some 32)) (v := ?_) (a' := ?_) #[true, true, true, true, true, true, false, false, false, false, false, false, false, false, false, false] rfl rfl (by kernel_rfl) (fun _ _ _ h => h) (Or.inl ⟨by rfl, ?_⟩) (by assumption) ?_ ?_
  rotate_left
  · intro w' hSw; (try dsimp only at hSw)
    go_simp
    try with_reducible rfl
  rotate_left
  · simp only [Act.put, List.setIfInBounds_toArray, List.set_cons_zero, List.set_cons_succ]
    rfl
  refine take_ (i := 6) (N := (some 33)) (v := ?_) (a' := ?_) #[true, true, true, true, true, true, true, false, false, false, false, false, false, false, false, false] rfl rfl (by kernel_rfl) (fun _ _ _ h => h) (Or.inl ⟨by rfl, ?_⟩) (by assumption) ?_ ?_
  rotate_left
  · intro w' hSw; (try dsimp only at hSw)
    go_simp
    try with_reducible rfl
  rotate_left
  · simp only [Act.put, List.setIfInBounds_toArray, List.set_cons_zero, List.set_cons_succ]
    rfl
  refine take_ (i := 7) (N := (some 34)) (v := ?_) (a' := ?_) #[true, true, true, true, true, true, true, true, false, false, false, false, false, false, false, false] rfl rfl (by kernel_rfl) (fun _ _ _ h => h) (Or.inl ⟨by rfl, ?_⟩) (by assumption) ?_ ?_
  rotate_left
  · intro w' hSw; (try dsimp only at hSw)
    go_simp
    try with_reducible rfl
  rotate_left
  · simp only [Act.put, List.setIfInBounds_toArray, List.set_cons_zero, List.set_cons_succ]
    rfl
  refine take_ (i := 8) (N := (some 35)) (v := ?_) (a' := ?_) #[true, true, true, true, true, true, true, true, true, false, false, false, false, false, false, false] rfl rfl (by kernel_rfl) (fun _ _ _ h => h) (Or.inl ⟨by rfl, ?_⟩) (by assumption) ?_ ?_
  rotate_left
  · intro w' hSw; (try dsimp only at hSw)
    go_simp
    try with_reducible rfl
  rotate_left
  · simp only [Act.put, List.setIfInBounds_toArray, List.set_cons_zero, List.set_cons_succ]
    rfl
  refine take_ (i := 9) (N := (some 36)) (v := ?_) (a' := ?_) #[true, true, true, true, true, true, true, true, true, true, false, false, false, false, false, false] rfl rfl (by kernel_rfl) (fun _ _ _ h => h) (Or.inl ⟨by rfl, ?_⟩) (by assumption) ?_ ?_
  rotate_left
  · intro w' hSw; (try dsimp only at hSw)
    go_simp
    try with_reducible rfl
  rotate_left
  · simp only [Act.put, List.setIfInBounds_toArray, List.set_cons_zero, List.set_cons_succ]
    rfl
  refine take_ (i := 10) (N := (some 37)) (v := ?_) (a' := ?_) #[true, true, true, true, true, true, true, true, true, true, true, false, false, false, false, false] rfl rfl (by kernel_rfl) (fun _ _ _ h => h) (Or.inl ⟨by rfl, ?_⟩) (by assumption) ?_ ?_
  rotate_left
  · intro w' hSw; (try dsimp only at hSw)
    go_simp
    try with_reducible rfl
  rotate_left
  · simp only [Act.put, List.setIfInBounds_toArray, List.set_cons_zero, List.set_cons_succ]
    rfl
  refine take_ (i := 11) (N := (some 38)) (v := ?_) (a' := ?_) #[true, true, true, true, true, true, true, true, true, true, true, true, false, false, false, false] rfl rfl (by kernel_rfl) (fun _ _ _ h => h) (Or.inl ⟨by rfl, ?_⟩) (by assumption) ?_ ?_
  rotate_left
  · intro w' hSw; (try dsimp only at hSw)
    go_simp
    try with_reducible rfl
  rotate_left
  · simp only [Act.put, List.setIfInBounds_toArray, List.set_cons_zero, List.set_cons_succ]
    rfl
  refine take_ (i := 12) (N := (some 39)) (v := ?_) (a' := ?_) #[true, true, true, true, true, true, true, true, true, true, true, true, true, false, false, false] rfl rfl (by kernel_rfl) (fun _ _ _ h => h) (Or.inl ⟨by rfl, ?_⟩) (by assumption) ?_ ?_
  rotate_left
  · intro w' hSw; (try dsimp only at hSw)
    go_simp
    try with_reducible rfl
  rotate_left
  · simp only [Act.put, List.setIfInBounds_toArray, List.set_cons_zero, List.set_cons_succ]
    rfl
  refine take_ (i := 13) (N := (some 40)) (v := ?_) (a' := ?_) #[true, true, true, true, true, true, true, true, true, true, true, true, true, true, false, false] rfl rfl (by kernel_rfl) (fun _ _ _ h => h) (Or.inl ⟨by rfl, ?_⟩) (by assumption) ?_ ?_
  rotate_left
  · intro w' hSw; (try dsimp only at hSw)
    go_simp
    try with_reducible rfl
  rotate_left
  · simp only [Act.put, List.setIfInBounds_toArray, List.set_cons_zero, List.set_cons_succ]
    rfl
  refine take_ (i := 14) (N := (some 2)) (v := ?_) (a' := ?_) #[true, true, true, true, true, true, true, true, true, true, true, true, true, true, true, false] rfl rfl (by kernel_rfl) (fun _ _ _ h => h) (Or.inl ⟨by rfl, ?_⟩) (by assumption) ?_ ?_
  rotate_left
  · intro w' hSw; (try dsimp only at hSw)
    go_simp
    try with_reducible rfl
  rotate_left
  · simp only [Act.put, List.setIfInBounds_toArray, List.set_cons_zero, List.set_cons_succ]
    rfl
  refine take_ (i := 15) (N := (some 3)) (v := ?_) (a' := ?_) #[true, true, true, true, true, true, true, true, true, true, true, true, true, true, true, true] rfl rfl (by kernel_rfl) (fun _ _ _ h => h) (Or.inl ⟨by rfl, ?_⟩) (by assumption) ?_ ?_
  rotate_left
  · intro w' hSw; (try dsimp only at hSw)
    go_simp
    try with_reducible rfl
  rotate_left
  · simp only [Act.put, List.setIfInBounds_toArray, List.set_cons_zero, List.set_cons_succ]
    rfl
  refine done_ (by kernel_rfl) ?_
  go_wp2
  go_ret2
  exact ⟨_, rfl, hM.ext hHeld, HX.out.trans hHeld⟩
end Go.Proofs.YtbemkefcaceekaaGreatDoor
