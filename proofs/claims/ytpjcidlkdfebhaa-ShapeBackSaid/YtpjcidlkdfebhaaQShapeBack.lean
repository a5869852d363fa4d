/- The pure statement of 'gradus/graduslaw1.ShapeBack': about lists and numbers alone; and how the law's argument is opened. By a program of this session (wip/mkrow.py). -/
import Derived.Test.YtpjcidlkdfebhaaPTx7
import Derived.Test.YtpjcidlkdfebhaaOpen
import Derived.KernelRfl
namespace Go.Proofs.Ytpjcidlkdfebhaa.shapeBackQ
open Go.RowKit Go.Proofs.Ytpjcidlkdfebhaa.PT Go.Proofs.YtpjcidlkdfebhaaW.PrintWords Go.Proofs.OpenW
def G34 (x : S34) : Prop := (x.f0.length * 8 ≤ 140737488351232 ∧ x.f0.length ≤ 9223372036854775807 ∧ ∀ y0 ∈ x.f0, (Lit.int .i64 y0).wf = true) ∧ (x.f1.length * 8 ≤ 140737488351232 ∧ x.f1.length ≤ 9223372036854775807 ∧ ∀ y0 ∈ x.f1, (Lit.int .i64 y0).wf = true)
theorem op34 {H : Type} {enc : TypeId × Value → H} {W : World} : Opens enc Try.prog W 34 k34 G34 := by
  have h1 := OpensF.one (enc := enc) (P := Try.prog) (W := W) (off := 1) (by kernel_rfl) (Opens.slice (B := 8) Try.underlying23 (by kernel_rfl) (by kernel_rfl) (Opens.int Try.underlying3) (0))
  have h0 := OpensF.cons (enc := enc) (P := Try.prog) (W := W) (off := 0) (by kernel_rfl) rfl (Opens.slice (B := 8) Try.underlying23 (by kernel_rfl) (by kernel_rfl) (Opens.int Try.underlying3) (0)) h1
  exact Opens.iso (fun x : S34 => (x.f0, x.f1)) (fun y => ⟨y.1, y.2⟩) (fun _ => rfl) (fun _ h => h) (Opens.struct Try.underlying34 rfl (by kernel_rfl) h0)
def G26 (x : S26) : Prop := (x.f0.length * 24 ≤ 140737488351232 ∧ x.f0.length ≤ 9223372036854775807 ∧ ∀ y0 ∈ x.f0, (y0.length * 8 ≤ 140737488351232 ∧ y0.length ≤ 9223372036854775807 ∧ ∀ y1 ∈ y0, (Lit.int .i64 y1).wf = true)) ∧ (x.f1.length * 24 ≤ 140737488351232 ∧ x.f1.length ≤ 9223372036854775807 ∧ ∀ y0 ∈ x.f1, (y0.length * 8 ≤ 140737488351232 ∧ y0.length ≤ 9223372036854775807 ∧ ∀ y1 ∈ y0, (Lit.int .i64 y1).wf = true)) ∧ (x.f2.length * 8 ≤ 140737488351232 ∧ x.f2.length ≤ 9223372036854775807 ∧ ∀ y0 ∈ x.f2, (Lit.int .i64 y0).wf = true) ∧ (x.f3.length * 48 ≤ 140737488351232 ∧ x.f3.length ≤ 9223372036854775807 ∧ ∀ y0 ∈ x.f3, G34 y0)
theorem op26 {H : Type} {enc : TypeId × Value → H} {W : World} : Opens enc Try.prog W 26 k26 G26 := by
  have h3 := OpensF.one (enc := enc) (P := Try.prog) (W := W) (off := 3) (by kernel_rfl) (Opens.slice (B := 48) Try.underlying24 (by kernel_rfl) (by kernel_rfl) op34 (z34))
  have h2 := OpensF.cons (enc := enc) (P := Try.prog) (W := W) (off := 2) (by kernel_rfl) rfl (Opens.slice (B := 8) Try.underlying23 (by kernel_rfl) (by kernel_rfl) (Opens.int Try.underlying3) (0)) h3
  have h1 := OpensF.cons (enc := enc) (P := Try.prog) (W := W) (off := 1) (by kernel_rfl) rfl (Opens.slice (B := 24) Try.underlying22 (by kernel_rfl) (by kernel_rfl) (Opens.slice (B := 8) Try.underlying23 (by kernel_rfl) (by kernel_rfl) (Opens.int Try.underlying3) (0)) ([])) h2
  have h0 := OpensF.cons (enc := enc) (P := Try.prog) (W := W) (off := 0) (by kernel_rfl) rfl (Opens.slice (B := 24) Try.underlying22 (by kernel_rfl) (by kernel_rfl) (Opens.slice (B := 8) Try.underlying23 (by kernel_rfl) (by kernel_rfl) (Opens.int Try.underlying3) (0)) ([])) h1
  exact Opens.iso (fun x : S26 => (x.f0, x.f1, x.f2, x.f3)) (fun y => ⟨y.1, y.2.1, y.2.2.1, y.2.2.2⟩) (fun _ => rfl) (fun _ h => h) (Opens.struct Try.underlying26 rfl (by kernel_rfl) h0)
/-- What is left to prove of the law. -/
def Pure : Prop := ∀ x : S26, G26 x → ∃ k, graduslaw1_ShapeBack.f k x.f0 x.f1 x.f2 x.f3 = some true
end Go.Proofs.Ytpjcidlkdfebhaa.shapeBackQ
