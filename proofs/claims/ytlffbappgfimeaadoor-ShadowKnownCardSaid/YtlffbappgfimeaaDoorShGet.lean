/- ShGet: the walk of shadow.Get. -/
import Derived.Test.YtlffbappgfimeaaDoorShGetBase
set_option linter.unusedVariables false
set_option linter.unusedSimpArgs false
set_option maxRecDepth 100000
namespace Go.Proofs.YtlffbappgfimeaaDoor
open Go.RowKit Go.Lib Go.Proofs.YtlffbappgfimeaaDoorW.PrintWords Go.Proofs.YtlffbappgfimeaaDoorW.PrintLast PackPure

set_option maxHeartbeats 4000000 in
theorem sget_any (A : Option Addr) (n0 c0 : Nat) (B : List UInt8) (w : World) (h : Bs w A B) (hn : n0 = B.length) (hcap : n0 ≤ c0) (hm : B.length ≤ 1000000) (ht : Tabs w) :
    Calls Tryd.prog 8 #[.slice A n0 c0] w fun e w' => (∃ r n v k key text b t L bad, Reads 7 0 0 80 B r n v k key text b t L bad ∧ e = .returned (.tuple #[outV (accS r n v k key text b t L bad) r n v k key text b t, .int .i64 (bif accS r n v k key text b t L bad then 0 else 3)])) ∧ Ext w w' := by
  obtain ⟨hr, Hr⟩ : ∃ h, Hid (w.heap.size = h) := ⟨_, Lib.hid rfl⟩
  obtain ⟨w1, H1, S1, x1, br1⟩ := allocS w 0 0 (fun _ => 0) 0 ⟨#[]⟩ ⟨#[]⟩ 0 0 28 hr Hr.out
  have h1' := h.ext x1
  have hh := Hr.out
  have h1 := H1.out
  have Hn := Lib.hid hn
  clear hn
  have hn2 : n0 ≤ 1000000 := by rw [Hn.out]; exact hm
  go_enter Tryd.func8, Tryd.ntmps8
  go_wp2_with fail
  refine (read_any A n0 c0 B w1 h1' Hn.out (by omega)).mono ?_
  rintro e w2 ⟨g, rfl, hgw, hd, x2⟩
  clear h1 hh
  obtain ⟨hs, Hs⟩ : ∃ h, Hid (w2.heap.size = h) := ⟨_, Lib.hid rfl⟩
  obtain ⟨w3, H3, S3, x3, bs3⟩ := allocS w2 0 0 (fun _ => 0) 0 ⟨#[]⟩ ⟨#[]⟩ 0 0 28 hs Hs.out
  have hgl := hd.lt
  have hs1 := S1.out
  have hs0 := Hr.out
  have hs2 := Hs.out
  have hx2 := x2.size
  have G : GS w g hs hr w3 B false 0 0 (fun _ => 0) 0 ⟨#[]⟩ ⟨#[]⟩ 0 0 := ⟨hd.ext x3, bs3, (br1.ext x2).ext x3, (x1.trans x2).trans x3, by omega, by omega, by omega, by omega, by omega, by omega⟩
  clear hs1 hs0 hx2
  have h3 := H3.out
  go_wp2_with fail
  obtain ⟨r, l1, b1, E0⟩ : ∃ x l b, Hid (rdNum B false 0 7 = (x, l, b)) := ⟨_, _, _, Lib.hid rfl⟩
  have cn := fun W hW => rnum_any g B false 0 7 W hW
  rw [E0.out] at cn
  have le0 : l1.length ≤ 1000000 := Nat.le_trans (rdNum_len E0.out) hm
  have rg0 := rdNum_range B false 0 7 (by decide)
  rw [E0.out] at rg0
  dsimp only at rg0
  refine (cn _ G.rd).mono ?_
  rintro e w' ⟨rfl, hd, hB⟩
  clear h3 hs2
  replace G := G.call hB hd
  clear cn hd hB
  have c0 := G.bs.cell 0 _ rfl
  have f0 := G.bs.fr 0
  go_wp2_with fail
  replace G := G.put ((But.refl _ _).setCell 0 _) (G.bs.set0 r)
  clear c0 f0
  obtain ⟨n, l2, b2, E1⟩ : ∃ x l b, Hid (rdNum l1 b1 0 1099511627776 = (x, l, b)) := ⟨_, _, _, Lib.hid rfl⟩
  have cn := fun W hW => rnum_any g l1 b1 0 1099511627776 W hW
  rw [E1.out] at cn
  have le1 : l2.length ≤ 1000000 := Nat.le_trans (rdNum_len E1.out) le0
  have rg1 := rdNum_range l1 b1 0 1099511627776 (by decide)
  rw [E1.out] at rg1
  dsimp only at rg1
  refine (cn _ G.rd).mono ?_
  rintro e w' ⟨rfl, hd, hB⟩
  replace G := G.call hB hd
  clear cn hd hB
  have c0 := G.bs.cell 1 _ rfl
  have f0 := G.bs.fr 1
  go_wp2_with fail
  replace G := G.put ((But.refl _ _).setCell 1 _) (G.bs.set1 n)
  clear c0 f0
  obtain ⟨v, l3, b3, E2⟩ : ∃ x l b, Hid (getR l2 b2 1099511627776 = (x, l, b)) := ⟨_, _, _, Lib.hid rfl⟩
  have cn := fun W hW => vget_any g l2 b2 W hW
  rw [E2.out] at cn
  unfold vf at cn
  have le2 : l3.length ≤ 1000000 := Nat.le_trans (getR_len E2.out) le1
  refine (cn _ G.rd).mono ?_
  rintro e w' ⟨rfl, hd, hB⟩
  replace G := G.call hB hd
  clear cn hd hB
  have c0 := G.bs.cell 2 _ rfl
  have f0 := G.bs.fr 2
  have c1 := G.bs.cell 3 _ rfl
  have f1 := G.bs.fr 3
  have c2 := G.bs.cell 4 _ rfl
  have f2 := G.bs.fr 4
  have c3 := G.bs.cell 5 _ rfl
  have f3 := G.bs.fr 5
  have c4 := G.bs.cell 6 _ rfl
  have f4 := G.bs.fr 6
  have c5 := G.bs.cell 7 _ rfl
  have f5 := G.bs.fr 7
  have c6 := G.bs.cell 8 _ rfl
  have f6 := G.bs.fr 8
  go_wp2_with fail
  replace G := G.put ((((((((But.refl _ _).setCell 2 _).setCell 3 _).setCell 4 _).setCell 5 _).setCell 6 _).setCell 7 _).setCell 8 _) (G.bs.setv v)
  clear c0 f0 c1 f1 c2 f2 c3 f3 c4 f4 c5 f5 c6 f6
  obtain ⟨k, l4, b4, E3⟩ : ∃ x l b, Hid (rdNum l3 b3 0 4 = (x, l, b)) := ⟨_, _, _, Lib.hid rfl⟩
  have cn := fun W hW => rnum_any g l3 b3 0 4 W hW
  rw [E3.out] at cn
  have le3 : l4.length ≤ 1000000 := Nat.le_trans (rdNum_len E3.out) le2
  have rg3 := rdNum_range l3 b3 0 4 (by decide)
  rw [E3.out] at rg3
  dsimp only at rg3
  refine (cn _ G.rd).mono ?_
  rintro e w' ⟨rfl, hd, hB⟩
  replace G := G.call hB hd
  clear cn hd hB
  have c0 := G.bs.cell 9 _ rfl
  have f0 := G.bs.fr 9
  go_wp2_with fail
  replace G := G.put ((But.refl _ _).setCell 9 _) (G.bs.set9 k)
  clear c0 f0
  obtain ⟨ykey, l5, b5, E4⟩ : ∃ x l b, Hid (rdBytes l4 b4 80 = (x, l, b)) := ⟨_, _, _, Lib.hid rfl⟩
  have cn := fun W hW => rtext_any g l4 b4 80 W hW (by omega)
  rw [E4.out] at cn
  have le4 : l5.length ≤ 1000000 := Nat.le_trans (rdBytes_len E4.out).1 le3
  have lk4 : ykey.length ≤ 1000000 := Nat.le_trans (rdBytes_len E4.out).2 le3
  refine (cn _ G.rd).mono ?_
  rintro e w' ⟨rfl, hd, hB⟩
  replace G := G.call hB hd
  clear cn hd hB
  have c0 := G.bs.cell 10 _ rfl
  have f0 := G.bs.fr 10
  go_wp2_with fail
  replace G := G.put ((But.refl _ _).setCell 10 _) (G.bs.set10 (Str ykey))
  clear c0 f0
  obtain ⟨ytext, l6, b6, E5⟩ : ∃ x l b, Hid (rdBytes l5 b5 100 = (x, l, b)) := ⟨_, _, _, Lib.hid rfl⟩
  have cn := fun W hW => rtext_any g l5 b5 100 W hW (by omega)
  rw [E5.out] at cn
  have le5 : l6.length ≤ 1000000 := Nat.le_trans (rdBytes_len E5.out).1 le4
  have lk5 : ytext.length ≤ 1000000 := Nat.le_trans (rdBytes_len E5.out).2 le4
  refine (cn _ G.rd).mono ?_
  rintro e w' ⟨rfl, hd, hB⟩
  replace G := G.call hB hd
  clear cn hd hB
  have c0 := G.bs.cell 11 _ rfl
  have f0 := G.bs.fr 11
  go_wp2_with fail
  replace G := G.put ((But.refl _ _).setCell 11 _) (G.bs.set11 (Str ytext))
  clear c0 f0
  obtain ⟨b, l7, b7, E6⟩ : ∃ x l b, Hid (rdNum l6 b6 (-1099511627776) 1099511627776 = (x, l, b)) := ⟨_, _, _, Lib.hid rfl⟩
  have cn := fun W hW => rnum_any g l6 b6 (-1099511627776) 1099511627776 W hW
  rw [E6.out] at cn
  have le6 : l7.length ≤ 1000000 := Nat.le_trans (rdNum_len E6.out) le5
  have rg6 := rdNum_range l6 b6 (-1099511627776) 1099511627776 (by decide)
  rw [E6.out] at rg6
  dsimp only at rg6
  refine (cn _ G.rd).mono ?_
  rintro e w' ⟨rfl, hd, hB⟩
  replace G := G.call hB hd
  clear cn hd hB
  have c0 := G.bs.cell 12 _ rfl
  have f0 := G.bs.fr 12
  go_wp2_with fail
  replace G := G.put ((But.refl _ _).setCell 12 _) (G.bs.set12 b)
  clear c0 f0
  obtain ⟨t, l8, b8, E7⟩ : ∃ x l b, Hid (rdNum l7 b7 0 1099511627776 = (x, l, b)) := ⟨_, _, _, Lib.hid rfl⟩
  have cn := fun W hW => rnum_any g l7 b7 0 1099511627776 W hW
  rw [E7.out] at cn
  have le7 : l8.length ≤ 1000000 := Nat.le_trans (rdNum_len E7.out) le6
  have rg7 := rdNum_range l7 b7 0 1099511627776 (by decide)
  rw [E7.out] at rg7
  dsimp only at rg7
  refine (cn _ G.rd).mono ?_
  rintro e w' ⟨rfl, hd, hB⟩
  replace G := G.call hB hd
  clear cn hd hB
  have c0 := G.bs.cell 13 _ rfl
  have f0 := G.bs.fr 13
  go_wp2_with fail
  replace G := G.put ((But.refl _ _).setCell 13 _) (G.bs.set13 t)
  clear c0 f0
  have hread : Reads 7 0 0 80 B r n v k (Str ykey) (Str ytext) b t l8 b8 := ⟨l1, b1, l2, b2, l3, b3, l4, b4, ykey, l5, b5, ytext, l6, b6, l7, b7, E0.out, E1.out, E2.out, E3.out, E4.out, E5.out, E6.out, E7.out, rfl, rfl⟩
  have hks : (Str ykey).size ≤ 1048576 := by rw [str_size]; omega
  have hrk : -9223372036854775808 ≤ k ∧ k ≤ 9223372036854775807 := by omega
  have kg := fun W hW => sgood_any r n v k (Str ykey) (Str ytext) b t W (by omega) hrk hW
  unfold shv at kg
  obtain ⟨gd, Hgd⟩ : ∃ x, Hid (goodS r n v k (Str ykey) (Str ytext) b t = x) := ⟨_, Lib.hid rfl⟩
  rw [Hgd.out] at kg
  obtain ⟨ed, Hed⟩ : ∃ x, Hid ((!b8 && l8.isEmpty) = x) := ⟨_, Lib.hid rfl⟩
  have hacc : accS r n v k (Str ykey) (Str ytext) b t l8 b8 = (ed && gd) := by rw [accS, Hed.out, Hgd.out]
  have Hacc := Lib.hid hacc
  clear hacc
  have Hread := Lib.hid hread
  clear hread
  have cn := fun W hW => end_any g l8 b8 W hW
  rw [Hed.out] at cn
  refine (cn _ G.rd).mono ?_
  rintro e w' ⟨rfl, hw⟩
  obtain rfl := hw
  clear cn
  cases ed with
  | false =>
    obtain ⟨z0, z1, z2, z3, z4, z5, z6, z7, z8, z9, z10, z11, z12, z13⟩ := G.br.cells
    obtain ⟨y0, y1, y2, y3, y4, y5, y6, y7, y8, y9, y10, y11, y12, y13⟩ := G.br.frs
    obtain ⟨w9, H9, br9, kx9, -, -⟩ := putS (r' := 0) (n' := 0) (v' := fun _ => 0) (k' := 0) (key' := ⟨#[]⟩) (text' := ⟨#[]⟩) (b' := 0) (t' := 0) (h := G.br)
    obtain ⟨q0, q1, q2, q3, q4, q5, q6, q7, q8, q9, q10, q11, q12, q13⟩ := br9.cells
    have hX := kx9 w G.ext G.a3
    have h9 := H9.out
    go_wp2
    refine bodyPost_ret (v := .tuple #[outV (accS r n v k (Str ykey) (Str ytext) b t l8 b8) r n v k (Str ykey) (Str ytext) b t, .int .i64 (bif accS r n v k (Str ykey) (Str ytext) b t l8 b8 then 0 else 3)]) (by rw [Hacc.out]; simp [results, Tryd.results8, go_sem, outV, shv, q0, q1, q2, q3, q4, q5, q6, q7, q8, q9, q10, q11, q12, q13]) rfl ⟨⟨r, n, v, k, _, _, b, t, l8, b8, Hread.out, rfl⟩, hX⟩
  | true =>
    obtain ⟨d0, d1, d2, d3, d4, d5, d6, d7, d8, d9, d10, d11, d12, d13⟩ := G.bs.cells
    go_wp2_with fail
    refine (kg _ (ht.ext G.ext)).mono ?_
    rintro e w' ⟨rfl, xg⟩
    clear d0 d1 d2 d3 d4 d5 d6 d7 d8 d9 d10 d11 d12 d13
    replace G : GS w g hs hr w' l8 b8 r n v k (Str ykey) (Str ytext) b t := ⟨G.rd.ext xg, G.bs.ext xg, G.br.ext xg, G.ext.trans xg, G.a1, G.a2, G.a3, G.n1, G.n2, G.n3⟩
    cases gd with
    | false =>
      obtain ⟨z0, z1, z2, z3, z4, z5, z6, z7, z8, z9, z10, z11, z12, z13⟩ := G.br.cells
      obtain ⟨y0, y1, y2, y3, y4, y5, y6, y7, y8, y9, y10, y11, y12, y13⟩ := G.br.frs
      obtain ⟨w9, H9, br9, kx9, -, -⟩ := putS (r' := 0) (n' := 0) (v' := fun _ => 0) (k' := 0) (key' := ⟨#[]⟩) (text' := ⟨#[]⟩) (b' := 0) (t' := 0) (h := G.br)
      obtain ⟨q0, q1, q2, q3, q4, q5, q6, q7, q8, q9, q10, q11, q12, q13⟩ := br9.cells
      have hX := kx9 w G.ext G.a3
      have h9 := H9.out
      go_wp2
      refine bodyPost_ret (v := .tuple #[outV (accS r n v k (Str ykey) (Str ytext) b t l8 b8) r n v k (Str ykey) (Str ytext) b t, .int .i64 (bif accS r n v k (Str ykey) (Str ytext) b t l8 b8 then 0 else 3)]) (by rw [Hacc.out]; simp [results, Tryd.results8, go_sem, outV, shv, q0, q1, q2, q3, q4, q5, q6, q7, q8, q9, q10, q11, q12, q13]) rfl ⟨⟨r, n, v, k, _, _, b, t, l8, b8, Hread.out, rfl⟩, hX⟩
    | true =>
      obtain ⟨z0, z1, z2, z3, z4, z5, z6, z7, z8, z9, z10, z11, z12, z13⟩ := G.br.cells
      obtain ⟨y0, y1, y2, y3, y4, y5, y6, y7, y8, y9, y10, y11, y12, y13⟩ := G.br.frs
      obtain ⟨d0, d1, d2, d3, d4, d5, d6, d7, d8, d9, d10, d11, d12, d13⟩ := G.bs.cells
      obtain ⟨w9, H9, br9, kx9, -, -⟩ := putS (r' := r) (n' := n) (v' := v) (k' := k) (key' := Str ykey) (text' := Str ytext) (b' := b) (t' := t) (h := G.br)
      obtain ⟨q0, q1, q2, q3, q4, q5, q6, q7, q8, q9, q10, q11, q12, q13⟩ := br9.cells
      have hX := kx9 w G.ext G.a3
      have h9 := H9.out
      go_wp2
      refine bodyPost_ret (v := .tuple #[outV (accS r n v k (Str ykey) (Str ytext) b t l8 b8) r n v k (Str ykey) (Str ytext) b t, .int .i64 (bif accS r n v k (Str ykey) (Str ytext) b t l8 b8 then 0 else 3)]) (by rw [Hacc.out]; simp [results, Tryd.results8, go_sem, outV, shv, q0, q1, q2, q3, q4, q5, q6, q7, q8, q9, q10, q11, q12, q13]) rfl ⟨⟨r, n, v, k, _, _, b, t, l8, b8, Hread.out, rfl⟩, hX⟩
end Go.Proofs.YtlffbappgfimeaaDoor
