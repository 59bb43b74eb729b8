/- ShPutPure: a shadow's bytes; what Good tells of one. -/
import Derived.Test.YtlffbappgfimeaaDoorShGood
import Derived.Test.YtlffbappgfimeaaDoorVecBack
import Derived.Test.YtlffbappgfimeaaDoorPackPut
set_option linter.unusedVariables false
set_option linter.unusedSimpArgs false
set_option maxRecDepth 100000
namespace Go.Proofs.YtlffbappgfimeaaDoor
open Go.RowKit Go.Lib Go.Proofs.YtlffbappgfimeaaDoorW.PrintWords PackPure

/-- A shadow's bytes. -/
def bytesS (r n : Int) (v : V7) (k : Int) (key text : ByteArray) (b t : Int) : List UInt8 := num r ++ num n ++ putV v 7 ++ num k ++ putB (Chars key) ++ putB (Chars text) ++ num b ++ num t
def putS_ (r n : Int) (v : V7) (k : Int) (key text : ByteArray) (b t : Int) : List UInt8 := if goodS r n v k key text b t = true then bytesS r n v k key text b t else []
structure Facts (r n : Int) (v : V7) (k : Int) (key text : ByteArray) (b t : Int) : Prop where
  r0 : 0 ≤ r
  r7 : r < 7
  n1 : 1 ≤ n
  nM : n ≤ 1099511627776
  gv : good7 v = true
  idx : v r.toNat = n - 1
  hkey : goodL (CH key) = true
  htext : text.size ≤ 100
  b0 : -1099511627776 ≤ b
  bM : b ≤ 1099511627776
  t0 : 0 ≤ t
  tM : t ≤ 1099511627776
  k1 : 1 ≤ k
  k4 : k ≤ 4
  ks : key.size ≤ 80
theorem decodeL_width4 (l : List UInt8) : (decodeL l).2 ≤ 4 := by
  rw [decodeL_N]
  rcases decodeN_shape l.length (l.getD 0 0).toNat (l.getD 1 0).toNat (l.getD 2 0).toNat (l.getD 3 0).toNat with ⟨_, e⟩ | ⟨_, _, _, _, e⟩ | ⟨_, _, _, _, _, _, e⟩ | ⟨_, _, _, _, _, _, _, e⟩ | e
  all_goals rw [e]
  all_goals simp
theorem chunks_width : ∀ l : List UInt8, ∀ c ∈ chunks l, c.1.length ≤ 4 := by
  intro l
  induction l using by_piece with
  | h0 => intro c hc; simp [chunks_nil] at hc
  | h1 l hne ih =>
    intro c hc
    rw [chunks_step l hne] at hc
    rcases List.mem_cons.1 hc with rfl | hc
    · have := decodeL_width4 l
      rw [List.length_take]
      omega
    · exact ih c hc
theorem flat_le : ∀ l : List (List UInt8 × Nat), (∀ c ∈ l, c.1.length ≤ 4) → (flat l).length ≤ 4 * l.length
  | [], _ => Nat.le_refl _
  | c :: l, h => by
    have ih := flat_le l (fun d hd => h d (List.mem_cons_of_mem _ hd))
    have := h c List.mem_cons_self
    rw [flat_cons, List.length_append, List.length_cons]
    omega
theorem good_size (s : ByteArray) (h : goodL (CH s) = true) : s.size ≤ 80 := by
  have h1 : (CH s).length ≤ 20 := by
    unfold goodL at h
    simp only [Bool.and_eq_true, decide_eq_true_eq] at h
    exact h.2.2
  have h2 := flat_le (CH s) (chunks_width _)
  have h3 : flat (CH s) = s.data.toList := chunks_flat _
  rw [h3, slen] at h2
  omega
theorem facts {r n : Int} {v : V7} {k : Int} {key text : ByteArray} {b t : Int} (h : goodS r n v k key text b t = true) : Facts r n v k key text b t := by
  simp only [goodS, firstS, dot7, rep7, rangeS, Bool.and_eq_true, decide_eq_true_eq] at h
  obtain ⟨⟨⟨⟨⟨h1, h2⟩, h3⟩, h4⟩, h5, h6, h7, h8⟩, ⟨⟨⟨h9, h10⟩, h11⟩, h12⟩, h13⟩ := h
  have hk : 1 ≤ k ∧ k ≤ 4 := by
    unfold kindS at h13
    split at h13
    · omega
    · split at h13
      · omega
      · split at h13
        · omega
        · cases h13
  exact ⟨h1, h2, h3, h4, h5, h6, h7, h8, h9, h10, h11, h12, hk.1, hk.2, good_size key h7⟩
theorem putB_le (l : List UInt8) (h : l.length ≤ 9223372036854775807) : (putB l).length ≤ 10 + l.length := by
  rw [putB, List.length_append]
  have := num_le (l.length : Int) (by omega) (by omega)
  omega

/-- What a call that writes behind bytes leaves. -/
structure Ou (w : World) (A : Option Addr) (m c : Nat) (L l : List UInt8) : Prop where
  eq : l = L
  len : m = L.length
  cap : m ≤ c
  bs : Bs w A L
theorem ou_of {w : World} {base : Nat} {x : Value} {l : List UInt8} (h : Ob w base x l) : ∃ A m c L, x = .slice A m c ∧ Ou w A m c L l := by
  obtain ⟨A, c, h1, h2, h3⟩ := h.reads
  exact ⟨A, l.length, c, l, h1, rfl, rfl, h2, h3⟩
end Go.Proofs.YtlffbappgfimeaaDoor
