/- What copying numbers computes. About lists and numbers alone. No memory and no program here: the printed functions alone. -/
import Derived.Test.YtpjcidlkdfebhaaPTx4
import Derived.Test.YtpjcidlkdfebhaaShA
set_option linter.unusedVariables false
set_option linter.unusedSimpArgs false
namespace Go.Proofs.Ytpjcidlkdfebhaa.ShEv
open Go.RowKit Go.Proofs.EvW Go.Proofs.Ytpjcidlkdfebhaa.PT Go.Proofs.YtpjcidlkdfebhaaW.PrintWords Go.Proofs.YtpjcidlkdfebhaaW.PrintLast Go.Proofs.YtpjcidlkdfebhaaW.PrintMore
/-! ### copies, equality -/
theorem copy_loop (l : List Int) (hl : l.length ≤ 17592186044416) (m : Nat) : ∀ (i : Nat), i + m = l.length → Ev (fun k => gradusref0_CopyNumbers.l0 k l (l.take i) (i : Int)) l := by
  induction m with
  | zero =>
    intro i hi
    refine Ev.step (f := fun _ => some l) (fun k => ?_) (Ev.now _)
    simp only [gradusref0_CopyNumbers.l0]
    rw [if_neg (by omega), List.take_of_length_le (by omega)]
  | succ m ih =>
    intro i hi
    have hlt : i < l.length := by omega
    refine Ev.step (fun k => ?_) (ih (i + 1) (by omega))
    simp only [gradusref0_CopyNumbers.l0]
    rw [if_pos (by omega), if_pos (by omega), if_pos (by rw [List.length_take]; omega), rdI hlt, List.take_append_getElem hlt, w64s (by omega)]
theorem copy_ev (l : List Int) (hl : l.length ≤ 17592186044416) : Ev (fun k => gradusref0_CopyNumbers.f k l) l := copy_loop l hl l.length 0 (by omega)
end Go.Proofs.Ytpjcidlkdfebhaa.ShEv
