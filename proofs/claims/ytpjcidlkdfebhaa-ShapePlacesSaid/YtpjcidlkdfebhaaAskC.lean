/- How the arguments of the laws of shape are read. -/
import Derived.Test.YtpjcidlkdfebhaaAskTen
import Derived.Test.YtpjcidlkdfebhaaAs
namespace Go.Proofs.Ytpjcidlkdfebhaa.F
open Go Go.RowKit Go.ChangeShapes Go.WideShapes Go.Proofs.Al
section
variable {H : Type} {enc : TypeId × Value → H} {W : World}
/-- Dims, places, numbers, tensors. -/
abbrev Ask1 := List (List Int) × List (List Int) × List Int × List Tn
def enc26 (x : Ask1) : AV := .agg [.list false 1 (x.1.map ints), .list false 1 (x.2.1.map ints), ints x.2.2.1, .list false 2 (x.2.2.2.map tv)]
def GL (l : List (List Int)) : Prop := l.length * 24 ≤ 140737488351232 ∧ ∀ t ∈ l, Gd t
def G26 (x : Ask1) : Prop := GL x.1 ∧ GL x.2.1 ∧ Gd x.2.2.1 ∧ (x.2.2.2.length * 48 ≤ 140737488351232 ∧ ∀ t ∈ x.2.2.2, GT t)
theorem op26 : Opens enc Try.prog W 26 enc26 4 G26 := by
  have h3 := OpensF.one (enc := enc) (P := Try.prog) (W := W) (off := 3) (by kernel_rfl) opTs
  have h2 := OpensF.cons (enc := enc) (P := Try.prog) (W := W) (off := 2) (by kernel_rfl) rfl opI h3
  have h1 := OpensF.cons (enc := enc) (P := Try.prog) (W := W) (off := 1) (by kernel_rfl) rfl opLs h2
  have h0 := OpensF.cons (enc := enc) (P := Try.prog) (W := W) (off := 0) (by kernel_rfl) rfl opLs h1
  exact Opens.iso (fun y : Ask1 => y) (fun _ => rfl) (fun _ h => h) (Opens.struct Try.underlying26 rfl (by kernel_rfl) h0)
theorem GL.ok {x : List (List Int)} (h : GL x) : x.length ≤ 17592186044416 ∧ ∀ t ∈ x, t.length ≤ 17592186044416 := ⟨by have := h.1; omega, fun t ht => by have := (h.2 t ht).1; omega⟩
end
end Go.Proofs.Ytpjcidlkdfebhaa.F
