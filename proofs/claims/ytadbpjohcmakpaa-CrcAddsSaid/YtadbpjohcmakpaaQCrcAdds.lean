/- The pure statement of 'gradus/graduslaw17.CrcAdds': about lists and numbers alone; and how the law's argument is opened. By a program of this session (wip/mkrow.py). -/
import Derived.Test.YtadbpjohcmakpaaPCx5
import Derived.Test.YtadbpjohcmakpaaOpen
import Derived.KernelRfl
namespace Go.Proofs.Ytadbpjohcmakpaa.crcAddsQ
open Go.RowKit Go.Proofs.Ytadbpjohcmakpaa.PC Go.Proofs.YtadbpjohcmakpaaW.PrintWords Go.Proofs.OpenW
def G25 (x : S25) : Prop := (x.f0.length * 16 ≤ 140737488351232 ∧ x.f0.length ≤ 9223372036854775807 ∧ ∀ y ∈ x.f0, y.size ≤ 140737488351232) ∧ (x.f1.length * 8 ≤ 140737488351232 ∧ x.f1.length ≤ 9223372036854775807 ∧ ∀ y ∈ x.f1, (Lit.int .i64 y).wf = true)
theorem op25 {H : Type} {enc : TypeId × Value → H} {W : World} : Opens enc Try.prog W 25 k25 G25 := by
  have h1 := OpensF.one (enc := enc) (P := Try.prog) (W := W) (off := 1) (by kernel_rfl) (Opens.slice (B := 8) Try.underlying23 (by kernel_rfl) (by kernel_rfl) (Opens.int Try.underlying3) (0))
  have h0 := OpensF.cons (enc := enc) (P := Try.prog) (W := W) (off := 0) (by kernel_rfl) rfl (Opens.slice (B := 16) Try.underlying22 (by kernel_rfl) (by kernel_rfl) (Opens.string Try.underlying9) ((⟨#[]⟩ : ByteArray))) h1
  exact Opens.iso (fun x : S25 => (x.f0, x.f1)) (fun y => ⟨y.1, y.2⟩) (fun _ => rfl) (fun _ h => h) (Opens.struct Try.underlying25 rfl (by kernel_rfl) h0)
/-- What is left to prove of the law. -/
def Pure : Prop := ∀ x : S25, G25 x → ∃ k, graduslaw17_CrcAdds.f k x.f0 x.f1 = some true
end Go.Proofs.Ytadbpjohcmakpaa.crcAddsQ
