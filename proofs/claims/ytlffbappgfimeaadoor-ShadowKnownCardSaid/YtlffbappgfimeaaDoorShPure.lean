/- ShPure: what is read of a shadow's bytes, plainly. -/
import Derived.Test.YtlffbappgfimeaaDoorShGetBase
set_option linter.unusedVariables false
set_option linter.unusedSimpArgs false
set_option maxRecDepth 100000
namespace Go.Proofs.YtlffbappgfimeaaDoor
open Go.RowKit Go.Lib Go.Proofs.YtlffbappgfimeaaDoorW.PrintWords PackPure

theorem scan_app (t : List UInt8) : ∀ (l : List UInt8) (i u : Nat) (q : Nat × Nat × UInt8), scan i u l = some q → scan i u (l ++ t) = some q ∧ i ≤ q.2.1 ∧ q.2.1 + 1 ≤ i + l.length
  | [], i, u, q, h => by simp [scan] at h
  | c :: r, i, u, q, h => by
    rw [List.cons_append]
    rw [scan] at h ⊢
    by_cases h1 : 10 ≤ i
    · rw [if_pos h1] at h; cases h
    · rw [if_neg h1] at h ⊢
      by_cases h2 : c.toNat < 128
      · rw [if_pos h2] at h ⊢
        injection h with h
        subst h
        refine ⟨rfl, Nat.le_refl _, ?_⟩
        simp
      · rw [if_neg h2] at h ⊢
        obtain ⟨a1, a2, a3⟩ := scan_app t r (i + 1) _ q h
        refine ⟨a1, by omega, ?_⟩
        rw [List.length_cons]; omega
theorem rdNum_some {l l' : List UInt8} {bad : Bool} {lo hi x : Int} (h : rdNum l bad lo hi = (x, l', false)) :
    ∃ u i c, scan 0 0 l = some (u, i, c) ∧ ¬ ((0 < i ∧ c.toNat = 0) ∨ (i = 9 ∧ 1 < c.toNat)) ∧ unzz u = x ∧ lo ≤ x ∧ x ≤ hi ∧ l.drop (i + 1) = l' ∧ bad = false := by
  unfold rdNum at h
  split at h
  · cases h
  · rename_i u i c hs
    split at h
    · cases h
    · rename_i hc
      injection h with h1 h2
      injection h2 with h2 h3
      subst h1
      exact ⟨u, i, c, hs, fun hh => hc (by rcases hh with hh | hh; exact Or.inl hh; exact Or.inr (Or.inl hh)), rfl, by omega, by omega, h2, h3⟩
theorem rdNum_of {l : List UInt8} {u i : Nat} {c : UInt8} {lo hi : Int} (hs : scan 0 0 l = some (u, i, c)) (hc : ¬ ((0 < i ∧ c.toNat = 0) ∨ (i = 9 ∧ 1 < c.toNat))) (h1 : lo ≤ unzz u) (h2 : unzz u ≤ hi) : rdNum l false lo hi = (unzz u, l.drop (i + 1), false) := by
  unfold rdNum
  rw [hs]
  dsimp only
  rw [if_neg (by omega)]
theorem rdNum_app {l l' : List UInt8} {bad : Bool} {lo hi x : Int} (t : List UInt8) (h : rdNum l bad lo hi = (x, l', false)) : bad = false ∧ rdNum (l ++ t) bad lo hi = (x, l' ++ t, false) := by
  obtain ⟨u, i, c, hs, hc, rfl, h1, h2, rfl, rfl⟩ := rdNum_some h
  obtain ⟨a1, a2, a3⟩ := scan_app t l 0 0 _ hs
  refine ⟨rfl, ?_⟩
  rw [rdNum_of a1 hc h1 h2, List.drop_append_of_le_length (by simpa using a3)]
theorem rdNum_bnd {l l' : List UInt8} {bad : Bool} {lo hi lo' hi' x : Int} (h : rdNum l bad lo hi = (x, l', false)) (h1 : lo' ≤ x) (h2 : x ≤ hi') : rdNum l bad lo' hi' = (x, l', false) := by
  obtain ⟨u, i, c, hs, hc, rfl, _, _, rfl, rfl⟩ := rdNum_some h
  exact rdNum_of hs hc h1 h2
theorem rdNum_in {l l' : List UInt8} {bad : Bool} {lo hi x : Int} (h : rdNum l bad lo hi = (x, l', false)) : lo ≤ x ∧ x ≤ hi ∧ bad = false := by
  obtain ⟨u, i, c, hs, hc, rfl, h1, h2, rfl, rfl⟩ := rdNum_some h
  exact ⟨h1, h2, rfl⟩
theorem rdBytes_some {l l' y : List UInt8} {bad : Bool} {hi : Int} (h : rdBytes l bad hi = (y, l', false)) :
    ∃ x r, rdNum l bad 0 hi = (x, r, false) ∧ ¬ ((r.length : Int) < x) ∧ y = r.take x.toNat ∧ l' = r.drop x.toNat := by
  unfold rdBytes at h
  split at h
  · cases h
  · rename_i hc
    injection h with h1 h2
    injection h2 with h2 h3
    refine ⟨_, _, Prod.ext rfl (Prod.ext rfl h3), hc, h1.symm, h2.symm⟩
theorem rdBytes_of {l r : List UInt8} {bad : Bool} {x hi : Int} (h : rdNum l bad 0 hi = (x, r, false)) (hc : ¬ ((r.length : Int) < x)) : rdBytes l bad hi = (r.take x.toNat, r.drop x.toNat, false) := by
  unfold rdBytes
  rw [h]
  dsimp only
  rw [if_neg hc]
theorem rdBytes_app {l l' y : List UInt8} {bad : Bool} {hi : Int} (t : List UInt8) (h : rdBytes l bad hi = (y, l', false)) : bad = false ∧ rdBytes (l ++ t) bad hi = (y, l' ++ t, false) := by
  obtain ⟨x, r, h1, h2, rfl, rfl⟩ := rdBytes_some h
  obtain ⟨h3, h4⟩ := rdNum_app t h1
  have h5 := (rdNum_in h1).1
  refine ⟨h3, ?_⟩
  rw [rdBytes_of h4 (by rw [List.length_append]; omega), List.take_append_of_le_length (by omega), List.drop_append_of_le_length (by omega)]
theorem rdBytes_bnd {l l' y : List UInt8} {bad : Bool} {hi hi' : Int} (h : rdBytes l bad hi = (y, l', false)) (h1 : (y.length : Int) ≤ hi') : rdBytes l bad hi' = (y, l', false) := by
  obtain ⟨x, r, h2, h3, rfl, rfl⟩ := rdBytes_some h
  have h5 := (rdNum_in h2).1
  rw [List.length_take] at h1
  exact rdBytes_of (rdNum_bnd h2 h5 (by omega)) h3
theorem getV_app (t : List UInt8) (m : Int) {l : List UInt8} {bad : Bool} : ∀ j, (getV l bad m j).2.2 = false → bad = false ∧ getV (l ++ t) bad m j = ((getV l bad m j).1, (getV l bad m j).2.1 ++ t, false)
  | 0, h => by
    simp only [getV] at h ⊢
    subst h
    exact ⟨rfl, rfl⟩
  | j + 1, h => by
    have h1 : rdNum (getV l bad m j).2.1 (getV l bad m j).2.2 0 m = ((rdNum (getV l bad m j).2.1 (getV l bad m j).2.2 0 m).1, (rdNum (getV l bad m j).2.1 (getV l bad m j).2.2 0 m).2.1, false) := by
      simp only [getV] at h
      exact Prod.ext rfl (Prod.ext rfl h)
    obtain ⟨h2, h3⟩ := rdNum_app t h1
    obtain ⟨h4, h5⟩ := getV_app t m j h2
    refine ⟨h4, ?_⟩
    rw [h2] at h3
    simp only [getV, h5, h3, h2]
theorem getR_app {l l' : List UInt8} {bad : Bool} {m : Int} {v : V7} (t : List UInt8) (h : getR l bad m = (v, l', false)) : bad = false ∧ getR (l ++ t) bad m = (v, l' ++ t, false) := by
  have ha := getV_app t m (l := l) (bad := bad) 7
  obtain ⟨f, l1, b1, hE⟩ : ∃ f l1 b1, getV l bad m 7 = (f, l1, b1) := ⟨_, _, _, rfl⟩
  rw [hE] at ha
  dsimp only at ha
  cases b1 with
  | true => rw [getR_bad hE] at h; cases h
  | false =>
    obtain ⟨h1, h2⟩ := ha rfl
    rw [getR_ok hE] at h
    injection h with h3 h4
    injection h4 with h4 _
    subst h3 h4
    exact ⟨h1, getR_ok h2⟩

theorem Reads.app {mr mn mk mkey : Int} {l : List UInt8} {r n : Int} {v : V7} {k : Int} {key text : ByteArray} {b t : Int} {L : List UInt8} (T : List UInt8) (h : Reads mr mn mk mkey l r n v k key text b t L false) :
    Reads mr mn mk mkey (l ++ T) r n v k key text b t (L ++ T) false := by
  obtain ⟨l1, b1, l2, b2, l3, b3, l4, b4, ky, l5, b5, tx, l6, b6, l7, b7, h1, h2, h3, h4, h5, h6, h7, h8, rfl, rfl⟩ := h
  obtain ⟨rfl, g8⟩ := rdNum_app T h8
  obtain ⟨rfl, g7⟩ := rdNum_app T h7
  obtain ⟨rfl, g6⟩ := rdBytes_app T h6
  obtain ⟨rfl, g5⟩ := rdBytes_app T h5
  obtain ⟨rfl, g4⟩ := rdNum_app T h4
  obtain ⟨rfl, g3⟩ := getR_app T h3
  obtain ⟨rfl, g2⟩ := rdNum_app T h2
  obtain ⟨_, g1⟩ := rdNum_app T h1
  exact ⟨_, _, _, _, _, _, _, _, _, _, _, _, _, _, _, _, g1, g2, g3, g4, g5, g6, g7, g8, rfl, rfl⟩
theorem Reads.bnd {mr mn mk mkey mr' mn' mk' mkey' : Int} {l : List UInt8} {r n : Int} {v : V7} {k : Int} {key text : ByteArray} {b t : Int} {L : List UInt8} (h : Reads mr mn mk mkey l r n v k key text b t L false)
    (q1 : r ≤ mr') (q2 : mn' ≤ n) (q3 : mk' ≤ k) (q4 : (key.size : Int) ≤ mkey') : Reads mr' mn' mk' mkey' l r n v k key text b t L false := by
  obtain ⟨l1, b1, l2, b2, l3, b3, l4, b4, ky, l5, b5, tx, l6, b6, l7, b7, h1, h2, h3, h4, h5, h6, h7, h8, rfl, rfl⟩ := h
  obtain ⟨rfl, g8⟩ := rdNum_app [] h8
  obtain ⟨rfl, g7⟩ := rdNum_app [] h7
  obtain ⟨rfl, g6⟩ := rdBytes_app [] h6
  obtain ⟨rfl, g5⟩ := rdBytes_app [] h5
  obtain ⟨rfl, g4⟩ := rdNum_app [] h4
  obtain ⟨rfl, g3⟩ := getR_app [] h3
  obtain ⟨rfl, g2⟩ := rdNum_app [] h2
  rw [str_size] at q4
  have i1 := rdNum_in h1
  have i2 := rdNum_in h2
  have i4 := rdNum_in h4
  exact ⟨_, _, _, _, _, _, _, _, _, _, _, _, _, _, _, _, rdNum_bnd h1 i1.1 q1, rdNum_bnd h2 q2 i2.2.1, h3, rdNum_bnd h4 q3 i4.2.1, rdBytes_bnd h5 q4, h6, h7, h8, rfl, rfl⟩
theorem Reads.det {mr mn mk mkey : Int} {l : List UInt8} {r n : Int} {v : V7} {k : Int} {key text : ByteArray} {b t : Int} {L : List UInt8} {bad : Bool} {r' n' : Int} {v' : V7} {k' : Int} {key' text' : ByteArray} {b' t' : Int} {L' : List UInt8} {bad' : Bool}
    (h : Reads mr mn mk mkey l r n v k key text b t L bad) (g : Reads mr mn mk mkey l r' n' v' k' key' text' b' t' L' bad') :
    r = r' ∧ n = n' ∧ v = v' ∧ k = k' ∧ key = key' ∧ text = text' ∧ b = b' ∧ t = t' ∧ L = L' ∧ bad = bad' := by
  obtain ⟨l1, b1, l2, b2, l3, b3, l4, b4, ky, l5, b5, tx, l6, b6, l7, b7, h1, h2, h3, h4, h5, h6, h7, h8, rfl, rfl⟩ := h
  obtain ⟨l1', b1', l2', b2', l3', b3', l4', b4', ky', l5', b5', tx', l6', b6', l7', b7', g1, g2, g3, g4, g5, g6, g7, g8, rfl, rfl⟩ := g
  rw [h1] at g1; injection g1 with e1 g1; injection g1 with e2 e3; subst e1 e2 e3
  rw [h2] at g2; injection g2 with e1 g2; injection g2 with e2 e3; subst e1 e2 e3
  rw [h3] at g3; injection g3 with e1 g3; injection g3 with e2 e3; subst e1 e2 e3
  rw [h4] at g4; injection g4 with e1 g4; injection g4 with e2 e3; subst e1 e2 e3
  rw [h5] at g5; injection g5 with e1 g5; injection g5 with e2 e3; subst e1 e2 e3
  rw [h6] at g6; injection g6 with e1 g6; injection g6 with e2 e3; subst e1 e2 e3
  rw [h7] at g7; injection g7 with e1 g7; injection g7 with e2 e3; subst e1 e2 e3
  rw [h8] at g8; injection g8 with e1 g8; injection g8 with e2 e3; subst e1 e2 e3
  exact ⟨rfl, rfl, rfl, rfl, rfl, rfl, rfl, rfl, rfl, rfl⟩

theorem rdBytes_putB (x rest : List UInt8) (most : Int) (h : (x.length : Int) ≤ most) (hx : x.length ≤ 9223372036854775807) : rdBytes (putB x ++ rest) false most = (x, rest, false) := by
  have e : rdNum (putB x ++ rest) false 0 most = ((x.length : Int), x ++ rest, false) := by
    rw [putB, List.append_assoc, rdNum_num _ (by omega) (by omega), if_neg (by omega)]
  rw [rdBytes_of e (by rw [List.length_append]; omega), Int.toNat_natCast, List.take_left, List.drop_left]
/-- A shadow's bytes are read again. -/
theorem reads_back {r n : Int} {v : V7} {k : Int} {key text : ByteArray} {b t : Int} (F : Facts r n v k key text b t) : ∃ v', (∀ i, i < 7 → v' i = v i) ∧ Reads 7 0 0 80 (bytesS r n v k key text b t) r n v' k key text b t [] false := by
  have f1 := F.r0
  have f2 := F.r7
  have f3 := F.n1
  have f4 := F.nM
  have f5 := F.b0
  have f6 := F.bM
  have f7 := F.t0
  have f8 := F.tM
  have f9 := F.k1
  have f10 := F.k4
  have f11 := F.ks
  have f12 := F.htext
  obtain ⟨g1, g2⟩ := getV_put (good7_in F.gv) (by decide) (num k ++ (putB (Chars key) ++ (putB (Chars text) ++ (num b ++ num t)))) false 7 (Nat.le_refl _)
  simp only [Nat.sub_self, tailV, List.nil_append] at g1
  refine ⟨_, g2, ?_⟩
  have hb : bytesS r n v k key text b t = num r ++ (num n ++ (putV v 7 ++ (num k ++ (putB (Chars key) ++ (putB (Chars text) ++ (num b ++ (num t ++ []))))))) := by simp [bytesS]
  rw [hb]
  refine ⟨num n ++ (putV v 7 ++ (num k ++ (putB (Chars key) ++ (putB (Chars text) ++ (num b ++ (num t ++ [])))))), false, putV v 7 ++ (num k ++ (putB (Chars key) ++ (putB (Chars text) ++ (num b ++ (num t ++ []))))), false, num k ++ (putB (Chars key) ++ (putB (Chars text) ++ (num b ++ (num t ++ [])))), false, putB (Chars key) ++ (putB (Chars text) ++ (num b ++ (num t ++ []))), false, Chars key, putB (Chars text) ++ (num b ++ (num t ++ [])), false, Chars text, num b ++ (num t ++ []), false, num t ++ [], false, ?_, ?_, ?_, ?_, ?_, ?_, ?_, ?_, (Str_Chars key).symm, (Str_Chars text).symm⟩
  · rw [rdNum_num r (by omega) (by omega), if_neg (by omega)]
  · rw [rdNum_num n (by omega) (by omega), if_neg (by omega)]
  · rw [List.append_nil]
    rw [getR, g1]
    simp
  · rw [rdNum_num k (by omega) (by omega), if_neg (by omega)]
  · exact rdBytes_putB _ _ _ (by rw [Chars_length]; omega) (by rw [Chars_length]; omega)
  · exact rdBytes_putB _ _ _ (by rw [Chars_length]; omega) (by rw [Chars_length]; omega)
  · rw [rdNum_num b (by omega) (by omega), if_neg (by omega)]
  · rw [rdNum_num t (by omega) (by omega), if_neg (by omega)]

theorem goodS_congr {r n : Int} {v v' : V7} {k : Int} {key text : ByteArray} {b t : Int} (h : ∀ i, i < 7 → v' i = v i) : goodS r n v' k key text b t = goodS r n v k key text b t := by
  have h1 : good7 v' = good7 v := by simp only [good7, all7, h 0 (by omega), h 1 (by omega), h 2 (by omega), h 3 (by omega), h 4 (by omega), h 5 (by omega), h 6 (by omega)]
  unfold goodS firstS
  rw [h1]
  cases hd : dot7 r n with
  | false => simp
  | true =>
    have hr : r.toNat < 7 := by
      simp only [dot7, rep7, Bool.and_eq_true, decide_eq_true_eq] at hd
      omega
    rw [h _ hr]
theorem shv_congr {r n : Int} {v v' : V7} {k : Int} {key text : ByteArray} {b t : Int} (h : ∀ i, i < 7 → v' i = v i) : shv r n v' k key text b t = shv r n v k key text b t := by
  unfold shv
  rw [h 0 (by omega), h 1 (by omega), h 2 (by omega), h 3 (by omega), h 4 (by omega), h 5 (by omega), h 6 (by omega)]
theorem acc_of {r n : Int} {v : V7} {k : Int} {key text : ByteArray} {b t : Int} {L : List UInt8} {bad : Bool} (h : accS r n v k key text b t L bad = true) : bad = false ∧ L = [] ∧ goodS r n v k key text b t = true := by
  simp only [accS, Bool.and_eq_true, Bool.not_eq_true', List.isEmpty_iff] at h
  exact ⟨h.1.1, h.1.2, h.2⟩
theorem acc_mk {r n : Int} {v : V7} {k : Int} {key text : ByteArray} {b t : Int} (h : goodS r n v k key text b t = true) : accS r n v k key text b t [] false = true := by simp [accS, h]
/-- Both readers take the same bytes, and read the same of them. -/
theorem acc_both {B : List UInt8} {r n : Int} {v : V7} {k : Int} {key text : ByteArray} {b t : Int} {L : List UInt8} {bad : Bool} {r' n' : Int} {v' : V7} {k' : Int} {key' text' : ByteArray} {b' t' : Int} {L' : List UInt8} {bad' : Bool}
    (h : Reads 7 0 0 80 B r n v k key text b t L bad) (g : Reads 6 1 1 200 B r' n' v' k' key' text' b' t' L' bad') :
    accS r n v k key text b t L bad = accS r' n' v' k' key' text' b' t' L' bad' ∧ outV (accS r n v k key text b t L bad) r n v k key text b t = outV (accS r' n' v' k' key' text' b' t' L' bad') r' n' v' k' key' text' b' t' := by
  by_cases ha : accS r n v k key text b t L bad = true
  · obtain ⟨rfl, rfl, hg⟩ := acc_of ha
    have F := facts hg
    have h2 := Reads.bnd (mr' := 6) (mn' := 1) (mk' := 1) (mkey' := 200) h (by have := F.r7; omega) F.n1 F.k1 (by have := F.ks; omega)
    obtain ⟨rfl, rfl, rfl, rfl, rfl, rfl, rfl, rfl, rfl, rfl⟩ := h2.det g
    exact ⟨rfl, rfl⟩
  · by_cases hb : accS r' n' v' k' key' text' b' t' L' bad' = true
    · obtain ⟨rfl, rfl, hg⟩ := acc_of hb
      have F := facts hg
      have h2 := Reads.bnd (mr' := 7) (mn' := 0) (mk' := 0) (mkey' := 80) g (by have := F.r7; omega) (by have := F.n1; omega) (by have := F.k1; omega) (by have := F.ks; omega)
      obtain ⟨rfl, rfl, rfl, rfl, rfl, rfl, rfl, rfl, rfl, rfl⟩ := h.det h2
      exact absurd hb ha
    · rw [Bool.eq_false_iff.2 ha, Bool.eq_false_iff.2 hb]
      exact ⟨rfl, rfl⟩
/-- What was put is taken, and is the same. -/
theorem acc_back {r n : Int} {v : V7} {k : Int} {key text : ByteArray} {b t : Int} {r' n' : Int} {v' : V7} {k' : Int} {key' text' : ByteArray} {b' t' : Int} {L' : List UInt8} {bad' : Bool}
    (hg : goodS r n v k key text b t = true) (h : Reads 7 0 0 80 (bytesS r n v k key text b t) r' n' v' k' key' text' b' t' L' bad') :
    accS r' n' v' k' key' text' b' t' L' bad' = true ∧ shv r' n' v' k' key' text' b' t' = shv r n v k key text b t := by
  obtain ⟨w, hw, h2⟩ := reads_back (facts hg)
  obtain ⟨rfl, rfl, rfl, rfl, rfl, rfl, rfl, rfl, rfl, rfl⟩ := h.det h2
  exact ⟨acc_mk (by rw [goodS_congr hw]; exact hg), shv_congr hw⟩
/-- What is cut short is not taken. -/
theorem acc_cut {r n : Int} {v : V7} {k : Int} {key text : ByteArray} {b t : Int} {r' n' : Int} {v' : V7} {k' : Int} {key' text' : ByteArray} {b' t' : Int} {L' : List UInt8} {bad' : Bool} {c : Nat}
    (hg : goodS r n v k key text b t = true) (hc : c < (bytesS r n v k key text b t).length) (h : Reads 7 0 0 80 ((bytesS r n v k key text b t).take c) r' n' v' k' key' text' b' t' L' bad') :
    accS r' n' v' k' key' text' b' t' L' bad' = false := by
  by_cases ha : accS r' n' v' k' key' text' b' t' L' bad' = true
  · obtain ⟨rfl, rfl, _⟩ := acc_of ha
    have h2 := h.app ((bytesS r n v k key text b t).drop c)
    rw [List.take_append_drop] at h2
    obtain ⟨w, hw, h3⟩ := reads_back (facts hg)
    obtain ⟨_, _, _, _, _, _, _, _, hL, _⟩ := h2.det h3
    have := congrArg List.length hL
    rw [List.nil_append, List.length_drop, List.length_nil] at this
    omega
  · exact Bool.eq_false_iff.2 ha
/-- Unlike shadows have unlike bytes. -/
theorem bytes_inj {r n : Int} {v : V7} {k : Int} {key text : ByteArray} {b t : Int} {r' n' : Int} {v' : V7} {k' : Int} {key' text' : ByteArray} {b' t' : Int}
    (hg : goodS r n v k key text b t = true) (hg' : goodS r' n' v' k' key' text' b' t' = true) (h : bytesS r n v k key text b t = bytesS r' n' v' k' key' text' b' t') :
    r = r' ∧ n = n' ∧ (∀ i, i < 7 → v i = v' i) ∧ k = k' ∧ key = key' ∧ text = text' ∧ b = b' ∧ t = t' := by
  obtain ⟨w, hw, h3⟩ := reads_back (facts hg)
  obtain ⟨w', hw', h4⟩ := reads_back (facts hg')
  rw [h] at h3
  obtain ⟨rfl, rfl, rfl, rfl, rfl, rfl, rfl, rfl, _, _⟩ := h3.det h4
  exact ⟨rfl, rfl, fun i hi => (hw i hi).symm.trans (hw' i hi), rfl, rfl, rfl, rfl, rfl⟩
end Go.Proofs.YtlffbappgfimeaaDoor
