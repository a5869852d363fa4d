/- The pure statement of 'gradus/graduslaw3.TurnBack': about lists and numbers alone; and how the law's argument is opened. By a program of this session (wip/mkrow.py). -/
import Derived.Test.YtpjcidlkdfebhaaPTx42
import Derived.Test.YtpjcidlkdfebhaaOpen
import Derived.KernelRfl
namespace Go.Proofs.Ytpjcidlkdfebhaa.turnBackQ
open Go.RowKit Go.Proofs.Ytpjcidlkdfebhaa.PT Go.Proofs.YtpjcidlkdfebhaaW.PrintWords Go.Proofs.OpenW
def G34 (x : S34) : Prop := (x.f0.length * 8 ≤ 140737488351232 ∧ x.f0.length ≤ 9223372036854775807 ∧ ∀ y0 ∈ x.f0, (Lit.int .i64 y0).wf = true) ∧ (x.f1.length * 8 ≤ 140737488351232 ∧ x.f1.length ≤ 9223372036854775807 ∧ ∀ y0 ∈ x.f1, (Lit.int .i64 y0).wf = true)
theorem op34 {H : Type} {enc : TypeId × Value → H} {W : World} : Opens enc Try.prog W 34 k34 G34 := by
  have h1 := OpensF.one (enc := enc) (P := Try.prog) (W := W) (off := 1) (by kernel_rfl) (Opens.slice (B := 8) Try.underlying23 (by kernel_rfl) (by kernel_rfl) (Opens.int Try.underlying3) (0))
  have h0 := OpensF.cons (enc := enc) (P := Try.prog) (W := W) (off := 0) (by kernel_rfl) rfl (Opens.slice (B := 8) Try.underlying23 (by kernel_rfl) (by kernel_rfl) (Opens.int Try.underlying3) (0)) h1
  exact Opens.iso (fun x : S34 => (x.f0, x.f1)) (fun y => ⟨y.1, y.2⟩) (fun _ => rfl) (fun _ h => h) (Opens.struct Try.underlying34 rfl (by kernel_rfl) h0)
def G46 (x : S46) : Prop := (x.f0.length * 48 ≤ 140737488351232 ∧ x.f0.length ≤ 9223372036854775807 ∧ ∀ y0 ∈ x.f0, G34 y0) ∧ (x.f1.length * 8 ≤ 140737488351232 ∧ x.f1.length ≤ 9223372036854775807 ∧ ∀ y0 ∈ x.f1, (Lit.int .i64 y0).wf = true)
theorem op46 {H : Type} {enc : TypeId × Value → H} {W : World} : Opens enc Try.prog W 46 k46 G46 := by
  have h1 := OpensF.one (enc := enc) (P := Try.prog) (W := W) (off := 1) (by kernel_rfl) (Opens.slice (B := 8) Try.underlying23 (by kernel_rfl) (by kernel_rfl) (Opens.int Try.underlying3) (0))
  have h0 := OpensF.cons (enc := enc) (P := Try.prog) (W := W) (off := 0) (by kernel_rfl) rfl (Opens.slice (B := 48) Try.underlying24 (by kernel_rfl) (by kernel_rfl) op34 (z34)) h1
  exact Opens.iso (fun x : S46 => (x.f0, x.f1)) (fun y => ⟨y.1, y.2⟩) (fun _ => rfl) (fun _ h => h) (Opens.struct Try.underlying46 rfl (by kernel_rfl) h0)
def G67 (x : S67) : Prop := G46 x.f0 ∧ (x.f1.length * 24 ≤ 140737488351232 ∧ x.f1.length ≤ 9223372036854775807 ∧ ∀ y0 ∈ x.f1, (y0.length * 8 ≤ 140737488351232 ∧ y0.length ≤ 9223372036854775807 ∧ ∀ y1 ∈ y0, (Lit.int .i64 y1).wf = true))
theorem op67 {H : Type} {enc : TypeId × Value → H} {W : World} : Opens enc Try.prog W 67 k67 G67 := by
  have h1 := OpensF.one (enc := enc) (P := Try.prog) (W := W) (off := 2) (by kernel_rfl) (Opens.slice (B := 24) Try.underlying22 (by kernel_rfl) (by kernel_rfl) (Opens.slice (B := 8) Try.underlying23 (by kernel_rfl) (by kernel_rfl) (Opens.int Try.underlying3) (0)) ([]))
  have h0 := OpensF.cons (enc := enc) (P := Try.prog) (W := W) (off := 0) (by kernel_rfl) rfl op46 h1
  exact Opens.iso (fun x : S67 => (x.f0, x.f1)) (fun y => ⟨y.1, y.2⟩) (fun _ => rfl) (fun _ h => h) (Opens.struct Try.underlying67 rfl (by kernel_rfl) h0)
/-- What is left to prove of the law. -/
def Pure : Prop := ∀ x : S67, G67 x → ∃ k, graduslaw3_TurnBack.f k x.f0.f0 x.f0.f1 x.f1 = some true
end Go.Proofs.Ytpjcidlkdfebhaa.turnBackQ
