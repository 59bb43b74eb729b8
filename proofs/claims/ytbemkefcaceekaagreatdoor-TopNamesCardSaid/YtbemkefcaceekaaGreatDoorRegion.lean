import Derived.Test.YtbemkefcaceekaaGreatDoorWLast
-- One straight line through a region of open order: what holds of the world may be strengthened on the way. By an AI agent, this session.
namespace Go.Proofs.YtbemkefcaceekaaGreatDoor
open Go.Proofs.YtbemkefcaceekaaGreatDoorW.PrintLast

theorem switch_ {P : Program} {ops : Array Oper} {Q : Exit → Act → World → Prop} {md : Region.Mode} {S S' : World → Prop} (hsub : ∀ w, S' w → S w) :
    ∀ {fuel : Nat} {l : Array Bool} {a : Act} {w : World}, S' w → wpAnyLast P md ops Q S' [] fuel l a w → wpAnyLast P md ops Q S [] fuel l a w := by
  intro fuel
  induction fuel with
  | zero => intro l a w _ h; exact h
  | succ fuel ih =>
    intro l a w h0 h
    refine ⟨h.1, fun i hi => wpOp_mono (fun a' w' h' => ?_) (h.2 i hi)⟩
    have h1 := h'.1 (by simp) h0
    exact ⟨fun _ _ => hsub _ h1, ih h1 h'.2⟩

end Go.Proofs.YtbemkefcaceekaaGreatDoor
