/- How the arguments of the laws of turn are read. -/
import Derived.Test.YtpjcidlkdfebhaaAskTen
import Derived.Test.YtpjcidlkdfebhaaAs
namespace Go.Proofs.Ytpjcidlkdfebhaa.F
open Go Go.RowKit Go.ChangeShapes Go.WideShapes Go.Proofs.Al
section
variable {H : Type} {enc : TypeId × Value → H} {W : World}
/-- Tensors and numbers, and dims. -/
abbrev Ask3 := Ask2 × List (List Int)
def enc67 (x : Ask3) : AV := .agg [enc46 x.1, .list false 1 (x.2.map ints)]
def G67 (x : Ask3) : Prop := G46 x.1 ∧ (x.2.length * 24 ≤ 140737488351232 ∧ ∀ t ∈ x.2, Gd t)
theorem op67 : Opens enc Try.prog W 67 enc67 3 G67 := by
  have h1 := OpensF.one (enc := enc) (P := Try.prog) (W := W) (off := 2) (by kernel_rfl) opLs
  have h0 := OpensF.cons (enc := enc) (P := Try.prog) (W := W) (off := 0) (by kernel_rfl) rfl op46 h1
  exact Opens.iso (fun y : Ask3 => y) (fun _ => rfl) (fun _ h => h) (Opens.struct Try.underlying67 rfl (by kernel_rfl) h0)
theorem G67.ok {x : Ask3} (h : G67 x) : x.2.length ≤ 17592186044416 ∧ ∀ t ∈ x.2, t.length ≤ 17592186044416 := ⟨by have := h.2.1; omega, fun t ht => by have := (h.2.2 t ht).1; omega⟩
theorem GT.inT' {t : Tn} (h : GT t) : ∀ x ∈ t.x, inI x := fun x hx => wfI (h.2.2 x hx)
end
end Go.Proofs.Ytpjcidlkdfebhaa.F
