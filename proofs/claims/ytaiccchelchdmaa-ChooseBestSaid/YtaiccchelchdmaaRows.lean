/-
  No cell of these rows narrows 'for every input' (looked for: loops, veiled, ifaces, maps, wideKeys, modest, calm, conditions, laid).
  DERIVED. THE GIVEN ROWS OF THIS SEAT. 4 by the template 'for every input the law returns true; each argument reads behind the call as it read before'; 0 by the template 'total and deterministic' (their statements: YtaiccchelchdmaaTotals.lean).
  GIVEN WITH THE SEED: the statements are not yours to turn. If you find one false, say at which input.
  Laid BY PROGRAM, IN A SANDBOX (cutbox-rows.mjs): the forced cells as the released guide's own fill.sh prints them over the translation 887994854e4e421a… (all of the seat's roots in one cut). By AI agents, Wed Nov 11 2026. No macro, syntax, notation, axiom, sorry.
-/
import Derived.Test.YtaiccchelchdmaaChecked
import GoSem.Claim
import GoSem.ClaimJoined
import GoSem.ClaimMapViews
import Derived.JoinedTies
import Derived.KernelRfl
namespace Go.Proofs.Ytaiccchelchdmaa
/- THE CELL 'sum', in the pinned program and in every row, IS THE sha256 OF THE DUMP (.gsa) THAT YtaiccchelchdmaaProg.lean LOADS. Nothing in Lean hashes anything: it is a label: what it is worth is what the hold of that sum in a sandbox is worth. -/
noncomputable def Try.pinned : Pinned := { name := "ytaiccchelchdmaa", sum := "887994854e4e421afd95ca51d7d567d31b152435eaac25a4d5d2f54a4e694c2a", checked := Try.checked }
namespace Rows
def none {H : Type} : Left H := { results := [], args := [] }

/-- 'graduslaw15.ChooseTies': WHATEVER THE INPUT: true; the input reads as it did. -/
def chooseTiesSpec : ChangeSpec := { name := "chooseTies", fn := fun _ => fun
  | [d] => { results := [.lit (.bool true)], args := [d] }
  | _ => none }
def chooseTiesRow : OpenClaim := { program := "ytaiccchelchdmaa", sum := "887994854e4e421afd95ca51d7d567d31b152435eaac25a4d5d2f54a4e694c2a", func := "gradus/graduslaw15.ChooseTies", spec := "chooseTies", unfollowed := true, recurses := true, apart := false }
def ChooseTiesSaid : Prop := chooseTiesRow.holds Try.pinned (OpenSpec.ofChange chooseTiesSpec)

/-- ITS FALSE NEIGHBOUR: 'it returns false'. Refute it at one input. -/
def chooseTiesWrong : ChangeSpec := { name := "chooseTies", fn := fun _ => fun
  | [d] => { results := [.lit (.bool false)], args := [d] }
  | _ => none }
def ChooseTiesWrongFalsely : Prop := chooseTiesRow.holds Try.pinned (OpenSpec.ofChange chooseTiesWrong)

/-- 'graduslaw15.ChooseBest': WHATEVER THE INPUT: true; the input reads as it did. -/
def chooseBestSpec : ChangeSpec := { name := "chooseBest", fn := fun _ => fun
  | [d] => { results := [.lit (.bool true)], args := [d] }
  | _ => none }
def chooseBestRow : OpenClaim := { program := "ytaiccchelchdmaa", sum := "887994854e4e421afd95ca51d7d567d31b152435eaac25a4d5d2f54a4e694c2a", func := "gradus/graduslaw15.ChooseBest", spec := "chooseBest", unfollowed := true, recurses := true, apart := false }
def ChooseBestSaid : Prop := chooseBestRow.holds Try.pinned (OpenSpec.ofChange chooseBestSpec)

/-- ITS FALSE NEIGHBOUR: 'it returns false'. Refute it at one input. -/
def chooseBestWrong : ChangeSpec := { name := "chooseBest", fn := fun _ => fun
  | [d] => { results := [.lit (.bool false)], args := [d] }
  | _ => none }
def ChooseBestWrongFalsely : Prop := chooseBestRow.holds Try.pinned (OpenSpec.ofChange chooseBestWrong)

/-- 'graduslaw15.ChooseLess': WHATEVER THE INPUT: true; the input reads as it did. -/
def chooseLessSpec : ChangeSpec := { name := "chooseLess", fn := fun _ => fun
  | [d] => { results := [.lit (.bool true)], args := [d] }
  | _ => none }
def chooseLessRow : OpenClaim := { program := "ytaiccchelchdmaa", sum := "887994854e4e421afd95ca51d7d567d31b152435eaac25a4d5d2f54a4e694c2a", func := "gradus/graduslaw15.ChooseLess", spec := "chooseLess", unfollowed := true, recurses := true, apart := false }
def ChooseLessSaid : Prop := chooseLessRow.holds Try.pinned (OpenSpec.ofChange chooseLessSpec)

/-- ITS FALSE NEIGHBOUR: 'it returns false'. Refute it at one input. -/
def chooseLessWrong : ChangeSpec := { name := "chooseLess", fn := fun _ => fun
  | [d] => { results := [.lit (.bool false)], args := [d] }
  | _ => none }
def ChooseLessWrongFalsely : Prop := chooseLessRow.holds Try.pinned (OpenSpec.ofChange chooseLessWrong)

/-- 'graduslaw15.ChooseFew': WHATEVER THE INPUT: true; the input reads as it did. -/
def chooseFewSpec : ChangeSpec := { name := "chooseFew", fn := fun _ => fun
  | [d] => { results := [.lit (.bool true)], args := [d] }
  | _ => none }
def chooseFewRow : OpenClaim := { program := "ytaiccchelchdmaa", sum := "887994854e4e421afd95ca51d7d567d31b152435eaac25a4d5d2f54a4e694c2a", func := "gradus/graduslaw15.ChooseFew", spec := "chooseFew", unfollowed := true, recurses := true, apart := false }
def ChooseFewSaid : Prop := chooseFewRow.holds Try.pinned (OpenSpec.ofChange chooseFewSpec)

/-- ITS FALSE NEIGHBOUR: 'it returns false'. Refute it at one input. -/
def chooseFewWrong : ChangeSpec := { name := "chooseFew", fn := fun _ => fun
  | [d] => { results := [.lit (.bool false)], args := [d] }
  | _ => none }
def ChooseFewWrongFalsely : Prop := chooseFewRow.holds Try.pinned (OpenSpec.ofChange chooseFewWrong)

/- THE SECOND FORM. 'bulk': how many values and letters a reading holds, each counted each time it is reached (what is shared counts as often as it is met; a slice's spare places count too). A statement '..UptoSaid' is the law's where the arguments, and the package variables that the reading takes, are together of bulk at most 1048576: NARROWER than '..Said'. Prove '..Said' where nothing that the law and all that it calls make is longer than what came in: it says more and counts as full. Else prove '..UptoSaid'. A law counts once. -/
mutual
def uptoBulk {H : Type} : DataW H → Nat
  | .lit (.string bytes) => bytes.length + 1
  | .lit _ => 1
  | .nil => 1
  | .ptr d => uptoBulk d + 1
  | .slice elems spare => uptoBulkAll elems + uptoBulkAll spare + 1
  | .agg parts => uptoBulkAll parts + 1
  | .iface _ d => uptoBulk d + 1
  | .map entries => uptoBulkEntries entries + 1
  | .held _ => 1
def uptoBulkAll {H : Type} : List (DataW H) → Nat
  | [] => 0
  | d :: r => uptoBulk d + uptoBulkAll r
def uptoBulkEntries {H : Type} : List (Lit × DataW H) → Nat
  | [] => 0
  | x :: r => uptoBulkEntry x + uptoBulkEntries r
def uptoBulkEntry {H : Type} : Lit × DataW H → Nat
  | (.string bytes, d) => bytes.length + uptoBulk d + 1
  | (_, d) => uptoBulk d + 1
 end
def uptoSmall : (H : Type) → List (DataW H) → Bool := fun _ ds => decide (uptoBulkAll ds ≤ 1048576)
def OpenSpec.upto (s : _root_.Go.ChangeSpec) : _root_.Go.OpenSpec := { _root_.Go.OpenSpec.ofChange s with cond := some uptoSmall }

/-- 'graduslaw15.ChooseTies', WHERE WHAT IT READS IS OF BULK AT MOST 1048576: true; the input reads as it did. -/
def chooseTiesUptoRow : OpenClaim := { program := "ytaiccchelchdmaa", sum := "887994854e4e421afd95ca51d7d567d31b152435eaac25a4d5d2f54a4e694c2a", func := "gradus/graduslaw15.ChooseTies", spec := "chooseTies", unfollowed := true, recurses := true, apart := false, narrowed := true }
def ChooseTiesUptoSaid : Prop := chooseTiesUptoRow.holds Try.pinned (OpenSpec.upto chooseTiesSpec)

/-- 'graduslaw15.ChooseBest', WHERE WHAT IT READS IS OF BULK AT MOST 1048576: true; the input reads as it did. -/
def chooseBestUptoRow : OpenClaim := { program := "ytaiccchelchdmaa", sum := "887994854e4e421afd95ca51d7d567d31b152435eaac25a4d5d2f54a4e694c2a", func := "gradus/graduslaw15.ChooseBest", spec := "chooseBest", unfollowed := true, recurses := true, apart := false, narrowed := true }
def ChooseBestUptoSaid : Prop := chooseBestUptoRow.holds Try.pinned (OpenSpec.upto chooseBestSpec)

/-- 'graduslaw15.ChooseLess', WHERE WHAT IT READS IS OF BULK AT MOST 1048576: true; the input reads as it did. -/
def chooseLessUptoRow : OpenClaim := { program := "ytaiccchelchdmaa", sum := "887994854e4e421afd95ca51d7d567d31b152435eaac25a4d5d2f54a4e694c2a", func := "gradus/graduslaw15.ChooseLess", spec := "chooseLess", unfollowed := true, recurses := true, apart := false, narrowed := true }
def ChooseLessUptoSaid : Prop := chooseLessUptoRow.holds Try.pinned (OpenSpec.upto chooseLessSpec)

/-- 'graduslaw15.ChooseFew', WHERE WHAT IT READS IS OF BULK AT MOST 1048576: true; the input reads as it did. -/
def chooseFewUptoRow : OpenClaim := { program := "ytaiccchelchdmaa", sum := "887994854e4e421afd95ca51d7d567d31b152435eaac25a4d5d2f54a4e694c2a", func := "gradus/graduslaw15.ChooseFew", spec := "chooseFew", unfollowed := true, recurses := true, apart := false, narrowed := true }
def ChooseFewUptoSaid : Prop := chooseFewUptoRow.holds Try.pinned (OpenSpec.upto chooseFewSpec)

end Rows
end Go.Proofs.Ytaiccchelchdmaa
