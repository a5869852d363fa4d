/- What 'gradus/graduslaw1.ShapeWider' computes is true: by Lean's kernel, as nothing of the argument is looked at but that its length is not below 0. -/
import Derived.Test.YtpjcidlkdfebhaaQShapeWider
set_option linter.unusedVariables false
set_option linter.unusedSimpArgs false
namespace Go.Proofs.Ytpjcidlkdfebhaa.Pure
open Go.RowKit Go.Proofs.Ytpjcidlkdfebhaa.PT Go.Proofs.YtpjcidlkdfebhaaW.PrintWords Go.Proofs.YtpjcidlkdfebhaaW.PrintLast Go.Proofs.YtpjcidlkdfebhaaW.PrintMore
theorem wider_none (x0 x1 : List (List Int)) (x2 : List Int) (x3 : List S34) : ∀ k,
    (∀ a b, graduslaw1_ShapeWider.l0 k a b x0 x1 x2 x3 = graduslaw1_ShapeWider.l0 k a b [] [] [] [])
    ∧ (∀ a b c, graduslaw1_ShapeWider.l1 k a b c x0 x1 x2 x3 = graduslaw1_ShapeWider.l1 k a b c [] [] [] [])
    ∧ (∀ a b, graduslaw1_ShapeWider.l2 k a b x0 x1 x2 x3 = graduslaw1_ShapeWider.l2 k a b [] [] [] [])
    ∧ (∀ a b c, graduslaw1_ShapeWider.l3 k a b c x0 x1 x2 x3 = graduslaw1_ShapeWider.l3 k a b c [] [] [] [])
    ∧ (∀ a b c d, graduslaw1_ShapeWider.l4 k a b c d x0 x1 x2 x3 = graduslaw1_ShapeWider.l4 k a b c d [] [] [] [])
  | 0 => ⟨fun _ _ => rfl, fun _ _ _ => rfl, fun _ _ => rfl, fun _ _ _ => rfl, fun _ _ _ _ => rfl⟩
  | k + 1 => by
    obtain ⟨h0, h1, h2, h3, h4⟩ := wider_none x0 x1 x2 x3 k
    refine ⟨fun a b => ?_, fun a b c => ?_, fun a b => ?_, fun a b c => ?_, fun a b c d => ?_⟩
    · simp only [graduslaw1_ShapeWider.l0, h1, h2]
    · simp only [graduslaw1_ShapeWider.l1, h1, h0]
    · simp only [graduslaw1_ShapeWider.l2, h3]
      rw [if_pos (c := (x0.length : Int) ≥ 0) (by omega), if_pos (c := ((([] : List (List Int)).length : Nat) : Int) ≥ 0) (by omega)]
    · simp only [graduslaw1_ShapeWider.l3, h3, h4]
    · simp only [graduslaw1_ShapeWider.l4, h4, h2]
theorem ShapeWider : shapeWiderQ.Pure := by
  intro x _
  refine ⟨300, ?_⟩
  have h : graduslaw1_ShapeWider.f 300 [] [] [] [] = some true := by kernel_rfl
  exact (((wider_none x.f0 x.f1 x.f2 x.f3 300).1 _ _).trans h)
end Go.Proofs.Ytpjcidlkdfebhaa.Pure
