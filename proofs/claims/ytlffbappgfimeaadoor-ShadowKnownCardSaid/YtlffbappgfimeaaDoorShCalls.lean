/- ShCalls: Put and Get of what may be, Get of what is cut short. -/
import Derived.Test.YtlffbappgfimeaaDoorShPut
import Derived.Test.YtlffbappgfimeaaDoorShGet
import Derived.Test.YtlffbappgfimeaaDoorShPure
import Derived.Test.YtlffbappgfimeaaDoorShEq
set_option linter.unusedVariables false
set_option linter.unusedSimpArgs false
set_option maxRecDepth 100000
namespace Go.Proofs.YtlffbappgfimeaaDoor
open Go.RowKit Go.Lib Go.Proofs.YtlffbappgfimeaaDoorW.PrintWords PackPure

theorem bytes_len {r n : Int} {v : V7} {k : Int} {key text : ByteArray} {b t : Int} (F : Facts r n v k key text b t) : (bytesS r n v k key text b t).length ≤ 1000 := by
  have f1 := F.r0
  have f2 := F.r7
  have f3 := F.n1
  have f4 := F.nM
  have f5 := F.b0
  have f6 := F.bM
  have f7 := F.t0
  have f8 := F.tM
  have f9 := F.k1
  have f10 := F.k4
  have f11 := F.ks
  have f12 := F.htext
  have nr := num_le r (by omega) (by omega)
  have nn := num_le n (by omega) (by omega)
  have nk := num_le k (by omega) (by omega)
  have nb := num_le b (by omega) (by omega)
  have nt := num_le t (by omega) (by omega)
  have nv := putV_le (good7_64 F.gv) 7 (by omega)
  have pk := putB_le (Chars key) (by rw [Chars_length]; omega)
  have pt := putB_le (Chars text) (by rw [Chars_length]; omega)
  rw [Chars_length] at pk pt
  simp only [bytesS, List.length_append]
  omega
theorem sput_good (r n : Int) (v : V7) (k : Int) (key text : ByteArray) (b t : Int) (w : World) (hg : goodS r n v k key text b t = true) (ht : Tabs w) :
    Calls Tryd.prog 9 #[shv r n v k key text b t] w fun e w' => ∃ A m c, e = .returned (.slice A m c) ∧ m = (bytesS r n v k key text b t).length ∧ m ≤ c ∧ Bs w' A (bytesS r n v k key text b t) ∧ Ob w' w.heap.size (.slice A m c) (bytesS r n v k key text b t) ∧ Ext w w' := by
  have F := facts hg
  have f9 := F.k1
  have f10 := F.k4
  have f11 := F.ks
  refine (sput_any r n v k key text b t w (by omega) (by omega) ht).mono ?_
  rintro e w' ⟨x, rfl, ho, hx⟩
  rw [putS_, if_pos hg] at ho
  obtain ⟨A, c, rfl, h1, h2⟩ := ho.reads
  exact ⟨A, _, c, rfl, rfl, h1, h2, ho, hx⟩
theorem sget_good (r n : Int) (v : V7) (k : Int) (key text : ByteArray) (b t : Int) (A : Option Addr) (m c : Nat) (w : World) (hg : goodS r n v k key text b t = true) (hB : Bs w A (bytesS r n v k key text b t)) (hm : m = (bytesS r n v k key text b t).length) (hc : m ≤ c) (ht : Tabs w) :
    Calls Tryd.prog 8 #[.slice A m c] w fun e w' => e = .returned (.tuple #[shv r n v k key text b t, .int .i64 0]) ∧ Ext w w' := by
  have hl := bytes_len (facts hg)
  refine (sget_any A m c _ w hB hm hc (by omega) ht).mono ?_
  rintro e w' ⟨⟨r', n', v', k', key', text', b', t', L, bad, hr, rfl⟩, hx⟩
  obtain ⟨h1, h2⟩ := acc_back hg hr
  rw [h1, outV]
  exact ⟨by rw [cond_true, cond_true, h2], hx⟩
theorem sget_cut (r n : Int) (v : V7) (k : Int) (key text : ByteArray) (b t : Int) (A : Option Addr) (m c i : Nat) (w : World) (hg : goodS r n v k key text b t = true) (hB : Bs w A ((bytesS r n v k key text b t).take i)) (hi : i < (bytesS r n v k key text b t).length) (hm : m = i) (hc : m ≤ c) (ht : Tabs w) :
    Calls Tryd.prog 8 #[.slice A m c] w fun e w' => e = .returned (.tuple #[shv 0 0 (fun _ => 0) 0 ⟨#[]⟩ ⟨#[]⟩ 0 0, .int .i64 3]) ∧ Ext w w' := by
  have hl := bytes_len (facts hg)
  have hlen : ((bytesS r n v k key text b t).take i).length = i := by rw [List.length_take]; omega
  refine (sget_any A m c _ w hB (by rw [hlen]; exact hm) hc (by rw [hlen]; omega) ht).mono ?_
  rintro e w' ⟨⟨r', n', v', k', key', text', b', t', L, bad, hr, rfl⟩, hx⟩
  have h1 := acc_cut hg hi hr
  rw [h1, outV]
  exact ⟨rfl, hx⟩
theorem eqS_refl (r n : Int) (v : V7) (k : Int) (key text : ByteArray) (b t : Int) : eqS r n v k key text b t r n v k key text b t = true := eqS_iff.2 ⟨rfl, rfl, fun _ _ => rfl, rfl, rfl, rfl, rfl, rfl⟩
end Go.Proofs.YtlffbappgfimeaaDoor
