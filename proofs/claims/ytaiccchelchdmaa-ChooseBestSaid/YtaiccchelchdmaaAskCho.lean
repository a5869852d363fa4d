/- How the arguments of the laws of choose are read. -/
import Derived.Test.YtaiccchelchdmaaAlo
import Derived.Test.YtaiccchelchdmaaBb
import Derived.Test.YtaiccchelchdmaaAs
import Derived.Test.YtaiccchelchdmaaProg
namespace Go.Proofs.Ytaiccchelchdmaa.F
open Go Go.RowKit Go.ChangeShapes Go.WideShapes Go.Proofs.Al
section
variable {H : Type} {enc : TypeId × Value → H} {W : World}
def Gd (l : List Int) : Prop := l.length * 8 ≤ 140737488351232 ∧ ∀ x ∈ l, (Lit.int .i64 x).wf = true
def GIt (x : It) : Prop := (Lit.int .i64 x.s).wf = true ∧ (Lit.int .i64 x.a).wf = true ∧ (Lit.int .i64 x.m).wf = true
theorem opI : Opens enc Try.prog W 23 (fun l : List Int => ints l) 1 Gd := Opens.slice (B := 8) Try.underlying23 (by kernel_rfl) (by decide) (by kernel_rfl) (Opens.int Try.underlying3) 0
theorem op27 : Opens enc Try.prog W 27 itv 3 GIt := by
  have h2 := OpensF.one (enc := enc) (P := Try.prog) (W := W) (off := 2) (by kernel_rfl) (Opens.int Try.underlying3)
  have h1 := OpensF.cons (enc := enc) (P := Try.prog) (W := W) (off := 1) (by kernel_rfl) rfl (Opens.int Try.underlying3) h2
  have h0 := OpensF.cons (enc := enc) (P := Try.prog) (W := W) (off := 0) (by kernel_rfl) rfl (Opens.int Try.underlying3) h1
  exact Opens.iso (fun y : Int × Int × Int => (⟨y.1, y.2.1, y.2.2⟩ : It)) (fun _ => rfl) (fun _ h => h) (Opens.struct Try.underlying27 rfl (by kernel_rfl) h0)
theorem opIs : Opens enc Try.prog W 22 (fun l : List It => items l) 1 (fun l => l.length * 24 ≤ 140737488351232 ∧ ∀ t ∈ l, GIt t) := Opens.slice (B := 24) Try.underlying22 (by kernel_rfl) (by decide) (by kernel_rfl) op27 ⟨0, 0, 0⟩
/-- Items, choices, numbers. -/
abbrev AskC := List It × List Int × List Int
def enc25 (x : AskC) : AV := .agg [items x.1, ints x.2.1, ints x.2.2]
def G25 (x : AskC) : Prop := (x.1.length * 24 ≤ 140737488351232 ∧ ∀ t ∈ x.1, GIt t) ∧ Gd x.2.1 ∧ Gd x.2.2
theorem op25 : Opens enc Try.prog W 25 enc25 3 G25 := by
  have h2 := OpensF.one (enc := enc) (P := Try.prog) (W := W) (off := 2) (by kernel_rfl) opI
  have h1 := OpensF.cons (enc := enc) (P := Try.prog) (W := W) (off := 1) (by kernel_rfl) rfl opI h2
  have h0 := OpensF.cons (enc := enc) (P := Try.prog) (W := W) (off := 0) (by kernel_rfl) rfl opIs h1
  exact Opens.iso (fun y : AskC => y) (fun _ => rfl) (fun _ h => h) (Opens.struct Try.underlying25 rfl (by kernel_rfl) h0)
theorem G25.ok {x : AskC} (h : G25 x) : x.1.length ≤ 17592186044416 ∧ x.2.1.length ≤ 17592186044416 ∧ x.2.2.length ≤ 17592186044416 := ⟨by have := h.1.1; omega, by have := h.2.1.1; omega, by have := h.2.2.1; omega⟩
end
end Go.Proofs.Ytaiccchelchdmaa.F
