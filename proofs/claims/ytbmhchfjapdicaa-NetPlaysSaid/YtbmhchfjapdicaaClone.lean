/- Clone: the walk of bytes.Clone. -/
import Derived.Test.YtbmhchfjapdicaaBase
import Derived.WalkSpells
set_option linter.unusedVariables false
set_option maxRecDepth 100000
namespace Go.Proofs.Ytbmhchfjapdicaa
open Go.RowKit Go.Proofs.YtbmhchfjapdicaaW.PrintWords

theorem ret_i {k : IntKind} {a b : Int} (h : a = b) : Ending.returned (.int k a) = .returned (.int k b) := by rw [h]

set_option maxHeartbeats 400000 in
theorem clone_any (A : Option Addr) (n c : Nat) (l : List UInt8) (w : World) (h : Bs w A l) (hn : n = l.length) (hm : n ≤ 140737488355328) :
    Calls Try.prog 22 #[.slice A n c] w fun e w' => ∃ v, e = .returned v ∧ Ob w' w.heap.size v l ∧ Ext w w' := by
  subst hn
  rcases A with _ | ad
  · have h0 : l = [] := by
      rcases l with _ | ⟨b, l⟩
      · rfl
      · obtain ⟨ad, h', _⟩ := h.at 0 (by simp)
        cases h'
    subst h0
    have hnil := @Lib.run_eql_slice_nil Try.prog
    go_enter Try.func22, Try.ntmps22
    go_wp2
    go_ret
    exact ⟨_, rfl, Ob.nil _ _, Ext.refl _⟩
  · have hnil := @Lib.run_eql_slice_nil Try.prog
    go_enter Try.func22, Try.ntmps22
    go_wp2_with ((with_reducible refine gate_dst (N := 7) rfl ?_); refine halt ?_)
    refine unhalt (wp_append rfl _ _ rfl (.slice (some ⟨w.heap.size, 0, none⟩) 0 0) [] rfl (some ad) l l.length c rfl rfl w.heap.size (Ob.alloc_at _ _ [] (Nat.le_refl _) (by decide) _ rfl _ rfl _ rfl) (h.ext ((Ext.refl _).alloc _)) ((Ext.refl _).alloc _).size (by simp; omega) ?_)
    intro v1 w2 ho1 hg1 _
    have hb2 : Ext w w2 := ((Ext.refl w).alloc _).grown (Ob.alloc_at (l := []) _ w.heap.size (Nat.le_refl _) (by decide) _ rfl _ rfl _ rfl) (Nat.le_refl _) hg1
    rw [List.nil_append] at ho1
    go_wp2
    go_ret
    exact ⟨_, rfl, ho1, hb2⟩

end Go.Proofs.Ytbmhchfjapdicaa
