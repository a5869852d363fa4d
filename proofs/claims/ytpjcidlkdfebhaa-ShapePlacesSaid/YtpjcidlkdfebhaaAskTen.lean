/- How the arguments of the laws of shape, ring, turn, mat and gate are read. -/
import Derived.Test.YtpjcidlkdfebhaaAlo
import Derived.Test.YtpjcidlkdfebhaaAr
import Derived.Test.YtpjcidlkdfebhaaProg
namespace Go.Proofs.Ytpjcidlkdfebhaa.F
open Go Go.RowKit Go.ChangeShapes Go.WideShapes Go.Proofs.Al
section
variable {H : Type} {enc : TypeId × Value → H} {W : World}
def Gd (l : List Int) : Prop := l.length * 8 ≤ 140737488351232 ∧ ∀ x ∈ l, (Lit.int .i64 x).wf = true
def GT (t : Tn) : Prop := Gd t.d ∧ Gd t.x
theorem opI : Opens enc Try.prog W 23 (fun l : List Int => ints l) 1 Gd := Opens.slice (B := 8) Try.underlying23 (by kernel_rfl) (by decide) (by kernel_rfl) (Opens.int Try.underlying3) 0
theorem op34 : Opens enc Try.prog W 34 tv 2 GT := by
  have h1 := OpensF.one (enc := enc) (P := Try.prog) (W := W) (off := 1) (by kernel_rfl) opI
  have h0 := OpensF.cons (enc := enc) (P := Try.prog) (W := W) (off := 0) (by kernel_rfl) rfl opI h1
  exact Opens.iso (fun y : List Int × List Int => (⟨y.1, y.2⟩ : Tn)) (fun _ => rfl) (fun _ h => h) (Opens.struct Try.underlying34 rfl (by kernel_rfl) h0)
theorem opTs : Opens enc Try.prog W 24 (fun l : List Tn => .list false 2 (l.map tv)) 1 (fun l => l.length * 48 ≤ 140737488351232 ∧ ∀ t ∈ l, GT t) := Opens.slice (B := 48) Try.underlying24 (by kernel_rfl) (by decide) (by kernel_rfl) op34 ⟨[], []⟩
theorem opLs : Opens enc Try.prog W 22 (fun l : List (List Int) => .list false 1 (l.map ints)) 1 (fun l => l.length * 24 ≤ 140737488351232 ∧ ∀ t ∈ l, Gd t) := Opens.slice (B := 24) Try.underlying22 (by kernel_rfl) (by decide) (by kernel_rfl) opI []
/-- Tensors and numbers. -/
abbrev Ask2 := List Tn × List Int
def enc46 (x : Ask2) : AV := .agg [.list false 2 (x.1.map tv), ints x.2]
def G46 (x : Ask2) : Prop := (x.1.length * 48 ≤ 140737488351232 ∧ ∀ t ∈ x.1, GT t) ∧ Gd x.2
theorem op46 : Opens enc Try.prog W 46 enc46 2 G46 := by
  have h1 := OpensF.one (enc := enc) (P := Try.prog) (W := W) (off := 1) (by kernel_rfl) opI
  have h0 := OpensF.cons (enc := enc) (P := Try.prog) (W := W) (off := 0) (by kernel_rfl) rfl opTs h1
  exact Opens.iso (fun y : List Tn × List Int => y) (fun _ => rfl) (fun _ h => h) (Opens.struct Try.underlying46 rfl (by kernel_rfl) h0)
theorem GT.fit {t : Tn} (h : GT t) : t.fit := ⟨by have := h.1.1; omega, by have := h.2.1; omega⟩
theorem G46.ok {x : Ask2} (h : G46 x) : x.1.length ≤ 17592186044416 ∧ x.2.length ≤ 17592186044416 ∧ ∀ t ∈ x.1, t.fit := ⟨by have := h.1.1; omega, by have := h.2.1; omega, fun t ht => (h.1.2 t ht).fit⟩
end
end Go.Proofs.Ytpjcidlkdfebhaa.F
