/- ShMany: a region with many allocations of open order; small vectors. -/
import Derived.Test.YtlffbappgfimeaaDoorShAwake
import Derived.Test.YtlffbappgfimeaaDoorRegion
set_option linter.unusedVariables false
set_option linter.unusedSimpArgs false
set_option maxRecDepth 100000
namespace Go.Proofs.YtlffbappgfimeaaDoor
open Go.RowKit Go.Lib Go.Proofs.YtlffbappgfimeaaDoorW.PrintWords Go.Proofs.YtlffbappgfimeaaDoorW.PrintLast

section
variable {P : Program} {ops : Array Oper} {Q : Exit → Act → World → Prop} {md : Region.Mode} {S : World → Prop} {ds : List Nat}
theorem many_ {fuel : Nat} {l : Array Bool} {a : Act} {w : World} (rs : List Nat) (hr : (Region.ready md ops l == rs) = true) (hne : rs ≠ []) (h : AllReadyL P md ops Q S ds fuel l a w rs) : wpAnyLast P md ops Q S ds (fuel + 1) l a w :=
  wpAnyLast_ready (eq_of_beq hr) hne h
theorem armL_ {i : Nat} {N : Option Tmp} {oi : Oper} {rs : List Nat} {fuel : Nat} {l : Array Bool} {a : Act} {w : World} (l' : Array Bool) (hi : ops[i]? = some oi) (hN : oi.dst = N) (hc : (l.setIfInBounds i true == l') = true) (hd : i ∉ ds)
    (h : ∀ K : Act → World → Prop, Shut (∀ a' w', S w' → (S w' → wpAnyLast P md ops Q S ds fuel l' a' w') → K a' w') → if Region.wanted oi (yielded ops a.tmps) = true then Oper.wp P oi a w K Q else K (a.put N undef) w)
    (hs : AllReadyL P md ops Q S ds fuel l a w rs) : AllReadyL P md ops Q S ds fuel l a w (i :: rs) := by
  subst hN
  obtain rfl := eq_of_beq hc
  exact AllReadyL.cons hi hd (fun K hK => h K hK) hs
end
def vK (a b : Int) : V7 := fun i => match i with | 0 => a | 1 => b | _ => 0
theorem vK0 (a b : Int) : vK a b 0 = a := rfl
theorem vK1 (a b : Int) : vK a b 1 = b := rfl
theorem vK2 (a b : Int) : vK a b 2 = 0 := rfl
theorem vK3 (a b : Int) : vK a b 3 = 0 := rfl
theorem vK4 (a b : Int) : vK a b 4 = 0 := rfl
theorem vK5 (a b : Int) : vK a b 5 = 0 := rfl
theorem vK6 (a b : Int) : vK a b 6 = 0 := rfl
/-- New blocks of zeroes, none twice. -/
def Zks (z w : World) (l : List Nat) : Prop := Ext z w ∧ (∀ g ∈ l, z.heap.size ≤ g ∧ BkS 28 w g 0 0 (fun _ => 0) 0 ⟨#[]⟩ ⟨#[]⟩ 0 0) ∧ l.Nodup
theorem Zks.nil (z : World) : Zks z z [] := ⟨Ext.refl z, fun g h => by simp at h, List.nodup_nil⟩
theorem Zks.drew {z w : World} {l : List Nat} (h : Zks z w l) : Zks z w.drew l := ⟨h.1.drew, fun g hg => ⟨(h.2.1 g hg).1, (h.2.1 g hg).2.ext (Ext.refl w).drew⟩, h.2.2⟩
theorem Zks.ins {z w w' : World} {a b : List Nat} {g : Nat} (h : Zks z w (a ++ b)) (hx : Ext w w') (hg : w.heap.size = g) (hb : BkS 28 w' g 0 0 (fun _ => 0) 0 ⟨#[]⟩ ⟨#[]⟩ 0 0) : Zks z w' (a ++ g :: b) := by
  subst hg
  refine ⟨h.1.trans hx, fun k hk => ?_, ?_⟩
  · rcases List.mem_append.1 hk with hk | hk
    · exact ⟨(h.2.1 k (List.mem_append_left _ hk)).1, (h.2.1 k (List.mem_append_left _ hk)).2.ext hx⟩
    · rcases List.mem_cons.1 hk with rfl | hk
      · exact ⟨h.1.size, hb⟩
      · exact ⟨(h.2.1 k (List.mem_append_right _ hk)).1, (h.2.1 k (List.mem_append_right _ hk)).2.ext hx⟩
  · have hn : w.heap.size ∉ a ++ b := fun hm => by
      have := (h.2.1 _ hm).2.lt
      omega
    exact (List.perm_middle.symm.nodup_iff).1 (List.nodup_cons.2 ⟨hn, h.2.2⟩)
/-- Nothing is no shadow. -/
theorem nil_acc {r n : Int} {v : V7} {k : Int} {key text : ByteArray} {b t : Int} {L : List UInt8} {bad : Bool} (h : Reads 7 0 0 80 [] r n v k key text b t L bad) : accS r n v k key text b t L bad = false := by
  by_cases ha : accS r n v k key text b t L bad = true
  · obtain ⟨rfl, rfl, _⟩ := acc_of ha
    obtain ⟨l1, b1, l2, b2, l3, b3, l4, b4, ky, l5, b5, tx, l6, b6, l7, b7, h1, h2, h3, h4, h5, h6, h7, h8, rfl, rfl⟩ := h
    obtain ⟨rfl, _⟩ := rdNum_app [] h8
    obtain ⟨rfl, _⟩ := rdNum_app [] h7
    obtain ⟨rfl, _⟩ := rdBytes_app [] h6
    obtain ⟨rfl, _⟩ := rdBytes_app [] h5
    obtain ⟨rfl, _⟩ := rdNum_app [] h4
    obtain ⟨rfl, _⟩ := getR_app [] h3
    obtain ⟨rfl, _⟩ := rdNum_app [] h2
    have h0 : PackPure.rdNum [] false 0 7 = (0, [], true) := rfl
    rw [h0] at h1
    cases h1
  · exact Bool.eq_false_iff.2 ha
/-- What is longer is no shadow. -/
theorem acc_more {r n : Int} {v : V7} {k : Int} {key text : ByteArray} {b t : Int} {r' n' : Int} {v' : V7} {k' : Int} {key' text' : ByteArray} {b' t' : Int} {L' : List UInt8} {bad' : Bool} (x : UInt8)
    (hg : goodS r n v k key text b t = true) (h : Reads 7 0 0 80 (bytesS r n v k key text b t ++ [x]) r' n' v' k' key' text' b' t' L' bad') : accS r' n' v' k' key' text' b' t' L' bad' = false := by
  obtain ⟨w, hw, h3⟩ := reads_back (facts hg)
  obtain ⟨rfl, rfl, rfl, rfl, rfl, rfl, rfl, rfl, rfl, rfl⟩ := h.det (h3.app [x])
  simp [accS]
theorem get_nil (w : World) (ht : Tabs w) : Calls Tryd.prog 8 #[.slice none 0 0] w fun e w' => e = .returned (.tuple #[shv 0 0 (fun _ => 0) 0 ⟨#[]⟩ ⟨#[]⟩ 0 0, .int .i64 3]) ∧ Ext w w' := by
  refine (sget_any none 0 0 [] w (Bs.nil w) rfl (Nat.le_refl _) (by decide) ht).mono ?_
  rintro e w' ⟨⟨r', n', v', k', key', text', b', t', L, bad, hr, rfl⟩, hx⟩
  rw [nil_acc hr, outV]
  exact ⟨rfl, hx⟩
theorem get_more (A : Option Addr) (m c : Nat) (r n : Int) (v : V7) (k : Int) (key text : ByteArray) (b t : Int) (x : UInt8) (w : World) (hg : goodS r n v k key text b t = true) (hB : Bs w A (bytesS r n v k key text b t ++ [x])) (hm : m = (bytesS r n v k key text b t ++ [x]).length) (hc : m ≤ c) (ht : Tabs w) :
    Calls Tryd.prog 8 #[.slice A m c] w fun e w' => e = .returned (.tuple #[shv 0 0 (fun _ => 0) 0 ⟨#[]⟩ ⟨#[]⟩ 0 0, .int .i64 3]) ∧ Ext w w' := by
  have hl := bytes_len (facts hg)
  refine (sget_any A m c _ w hB hm hc (by rw [List.length_append, List.length_singleton]; omega) ht).mono ?_
  rintro e w' ⟨⟨r', n', v', k', key', text', b', t', L, bad, hr, rfl⟩, hx⟩
  rw [acc_more x hg hr, outV]
  exact ⟨rfl, hx⟩
end Go.Proofs.YtlffbappgfimeaaDoor
