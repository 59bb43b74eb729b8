/- ShGetBase: what both readers of shadows read. -/
import Derived.Test.YtlffbappgfimeaaDoorShPutPure
import Derived.Test.YtlffbappgfimeaaDoorRefGetV
import Derived.Test.YtlffbappgfimeaaDoorPackRdB
set_option linter.unusedVariables false
set_option linter.unusedSimpArgs false
set_option maxRecDepth 100000
namespace Go.Proofs.YtlffbappgfimeaaDoor
open Go.RowKit Go.Lib Go.Proofs.YtlffbappgfimeaaDoorW.PrintWords PackPure

/-- Read one behind the other: the numbers' bounds are given. -/
def Reads (mr mn mk mkey : Int) (l : List UInt8) (r n : Int) (v : V7) (k : Int) (key text : ByteArray) (b t : Int) (L : List UInt8) (bad : Bool) : Prop :=
  ∃ l1 b1 l2 b2 l3 b3 l4 b4 ky l5 b5 tx l6 b6 l7 b7, rdNum l false 0 mr = (r, l1, b1) ∧ rdNum l1 b1 mn 1099511627776 = (n, l2, b2) ∧ getR l2 b2 1099511627776 = (v, l3, b3) ∧ rdNum l3 b3 mk 4 = (k, l4, b4) ∧
    rdBytes l4 b4 mkey = (ky, l5, b5) ∧ rdBytes l5 b5 100 = (tx, l6, b6) ∧ rdNum l6 b6 (-1099511627776) 1099511627776 = (b, l7, b7) ∧ rdNum l7 b7 0 1099511627776 = (t, L, bad) ∧ key = Str ky ∧ text = Str tx
/-- Taken? -/
def accS (r n : Int) (v : V7) (k : Int) (key text : ByteArray) (b t : Int) (L : List UInt8) (bad : Bool) : Bool := (!bad && L.isEmpty) && goodS r n v k key text b t
def outV (a : Bool) (r n : Int) (v : V7) (k : Int) (key text : ByteArray) (b t : Int) : Value := bif a then shv r n v k key text b t else shv 0 0 (fun _ => 0) 0 ⟨#[]⟩ ⟨#[]⟩ 0 0
theorem rdNum_len {l l' : List UInt8} {bad b' : Bool} {lo hi x : Int} (h : rdNum l bad lo hi = (x, l', b')) : l'.length ≤ l.length := by
  have h2 : l' = (rdNum l bad lo hi).2.1 := by rw [h]
  rw [h2]
  unfold rdNum
  split
  · simp
  · split
    · simp
    · simp only [List.length_drop]; omega
theorem rdBytes_len {l l' y : List UInt8} {bad b' : Bool} {hi : Int} (h : rdBytes l bad hi = (y, l', b')) : l'.length ≤ l.length ∧ y.length ≤ l.length := by
  have h1 := rdBytes_length l bad hi
  rw [h] at h1
  exact ⟨h1.2, h1.1⟩
theorem getV_len (l : List UInt8) (bad : Bool) (m : Int) : ∀ j, (getV l bad m j).2.1.length ≤ l.length
  | 0 => Nat.le_refl _
  | j + 1 => by
    have ih := getV_len l bad m j
    have h : (rdNum (getV l bad m j).2.1 (getV l bad m j).2.2 0 m).2.1.length ≤ (getV l bad m j).2.1.length := rdNum_len (x := (rdNum (getV l bad m j).2.1 (getV l bad m j).2.2 0 m).1) (l' := (rdNum (getV l bad m j).2.1 (getV l bad m j).2.2 0 m).2.1) (b' := (rdNum (getV l bad m j).2.1 (getV l bad m j).2.2 0 m).2.2) rfl
    simp only [getV]
    exact Nat.le_trans h ih
theorem getR_len {l l' : List UInt8} {bad b' : Bool} {m : Int} {v : V7} (h : getR l bad m = (v, l', b')) : l'.length ≤ l.length := by
  have h2 : l' = (getV l bad m 7).2.1 := by rw [getR] at h; injection h with _ h; injection h with h _; exact h.symm
  rw [h2]
  exact getV_len l bad m 7
theorem str_size (l : List UInt8) : (Str l).size = l.length := by
  rw [← Chars_length, Chars_Str]
theorem str_nil : (Str []) = ⟨#[]⟩ := rfl

/-- In the midst of reading: the reader, the shadow under way, the result's place. -/
structure GS (w0 : World) (g hs hr : Nat) (w : World) (l : List UInt8) (bad : Bool) (r n : Int) (v : V7) (k : Int) (key text : ByteArray) (b t : Int) : Prop where
  rd : Rd w g l bad
  bs : BkS 28 w hs r n v k key text b t
  br : BkS 28 w hr 0 0 (fun _ => 0) 0 ⟨#[]⟩ ⟨#[]⟩ 0 0
  ext : Ext w0 w
  a1 : w0.heap.size ≤ g
  a2 : w0.heap.size ≤ hs
  a3 : w0.heap.size ≤ hr
  n1 : g ≠ hs
  n2 : g ≠ hr
  n3 : hs ≠ hr
section
variable {w0 : World} {g hs hr : Nat} {w : World} {l : List UInt8} {bad : Bool} {r n : Int} {v : V7} {k : Int} {key text : ByteArray} {b t : Int}
theorem GS.call {w' : World} {l' : List UInt8} {bad' : Bool} (h : GS w0 g hs hr w l bad r n v k key text b t) (hB : But g w w') (hd : Rd w' g l' bad') : GS w0 g hs hr w' l' bad' r n v k key text b t :=
  ⟨hd, h.bs.but hB h.n1.symm, h.br.but hB h.n2.symm, h.ext.but hB h.a1, h.a1, h.a2, h.a3, h.n1, h.n2, h.n3⟩
theorem GS.put {w' : World} {r' n' : Int} {v' : V7} {k' : Int} {key' text' : ByteArray} {b' t' : Int} (h : GS w0 g hs hr w l bad r n v k key text b t) (hB : But hs w w') (hb : BkS 28 w' hs r' n' v' k' key' text' b' t') : GS w0 g hs hr w' l bad r' n' v' k' key' text' b' t' :=
  ⟨h.rd.but hB h.n1 h.bs.no, hb, h.br.but hB h.n3.symm, h.ext.but hB h.a2, h.a1, h.a2, h.a3, h.n1, h.n2, h.n3⟩
end

/-- In the midst of reading: the reader, the shadow under way, the result's place. -/
structure GQ (w0 : World) (g hs hr : Nat) (b0 : List UInt8) (w : World) (l : List UInt8) (bad : Bool) (r n : Int) (v : V7) (k : Int) (key text : ByteArray) (b t : Int) : Prop where
  rd : RQ w g b0 l bad
  bs : BkS 38 w hs r n v k key text b t
  br : BkS 38 w hr 0 0 (fun _ => 0) 0 ⟨#[]⟩ ⟨#[]⟩ 0 0
  ext : Ext w0 w
  a1 : w0.heap.size ≤ g
  a2 : w0.heap.size ≤ hs
  a3 : w0.heap.size ≤ hr
  n1 : g ≠ hs
  n2 : g ≠ hr
  n3 : hs ≠ hr
section
variable {w0 : World} {g hs hr : Nat} {b0 : List UInt8} {w : World} {l : List UInt8} {bad : Bool} {r n : Int} {v : V7} {k : Int} {key text : ByteArray} {b t : Int}
theorem GQ.call {w' : World} {l' : List UInt8} {bad' : Bool} (h : GQ w0 g hs hr b0 w l bad r n v k key text b t) (hB : But g w w') (hd : RQ w' g b0 l' bad') : GQ w0 g hs hr b0 w' l' bad' r n v k key text b t :=
  ⟨hd, h.bs.but hB h.n1.symm, h.br.but hB h.n2.symm, h.ext.but hB h.a1, h.a1, h.a2, h.a3, h.n1, h.n2, h.n3⟩
theorem GQ.put {w' : World} {r' n' : Int} {v' : V7} {k' : Int} {key' text' : ByteArray} {b' t' : Int} (h : GQ w0 g hs hr b0 w l bad r n v k key text b t) (hB : But hs w w') (hb : BkS 38 w' hs r' n' v' k' key' text' b' t') : GQ w0 g hs hr b0 w' l bad r' n' v' k' key' text' b' t' :=
  ⟨h.rd.but hB h.n1 h.bs.no, hb, h.br.but hB h.n3.symm, h.ext.but hB h.a2, h.a1, h.a2, h.a3, h.n1, h.n2, h.n3⟩
end
end Go.Proofs.YtlffbappgfimeaaDoor
