/-
  No cell of these rows narrows 'for every input' (looked for: loops, veiled, ifaces, maps, wideKeys, modest, calm, conditions, laid).
  DERIVED. THE GIVEN ROWS OF THIS SEAT. 17 by the template 'for every input the law returns true; each argument reads behind the call as it read before'; 0 by the template 'total and deterministic' (their statements: YtpjcidlkdfebhaaTotals.lean).
  GIVEN WITH THE SEED: the statements are not yours to turn. If you find one false, say at which input.
  Laid BY PROGRAM, IN A SANDBOX (cutbox-rows.mjs): the forced cells as the released guide's own fill.sh prints them over the translation 05ba1686bf93a646… (all of the seat's roots in one cut). By AI agents, Wed Nov 11 2026. No macro, syntax, notation, axiom, sorry.
-/
import Derived.Test.YtpjcidlkdfebhaaChecked
import GoSem.Claim
import GoSem.ClaimJoined
import GoSem.ClaimMapViews
import Derived.JoinedTies
import Derived.KernelRfl
namespace Go.Proofs.Ytpjcidlkdfebhaa
/- THE CELL 'sum', in the pinned program and in every row, IS THE sha256 OF THE DUMP (.gsa) THAT YtpjcidlkdfebhaaProg.lean LOADS. Nothing in Lean hashes anything: it is a label: what it is worth is what the hold of that sum in a sandbox is worth. -/
noncomputable def Try.pinned : Pinned := { name := "ytpjcidlkdfebhaa", sum := "05ba1686bf93a6465c4ae4c265e8f6151fd800f1b1a0e2be148f4b4491b1ac5c", checked := Try.checked }
namespace Rows
def none {H : Type} : Left H := { results := [], args := [] }

/-- 'graduslaw1.ShapeWider': WHATEVER THE INPUT: true; the input reads as it did. -/
def shapeWiderSpec : ChangeSpec := { name := "shapeWider", fn := fun _ => fun
  | [d] => { results := [.lit (.bool true)], args := [d] }
  | _ => none }
def shapeWiderRow : OpenClaim := { program := "ytpjcidlkdfebhaa", sum := "05ba1686bf93a6465c4ae4c265e8f6151fd800f1b1a0e2be148f4b4491b1ac5c", func := "gradus/graduslaw1.ShapeWider", spec := "shapeWider", unfollowed := true, recurses := true, apart := false }
def ShapeWiderSaid : Prop := shapeWiderRow.holds Try.pinned (OpenSpec.ofChange shapeWiderSpec)

/-- ITS FALSE NEIGHBOUR: 'it returns false'. Refute it at one input. -/
def shapeWiderWrong : ChangeSpec := { name := "shapeWider", fn := fun _ => fun
  | [d] => { results := [.lit (.bool false)], args := [d] }
  | _ => none }
def ShapeWiderWrongFalsely : Prop := shapeWiderRow.holds Try.pinned (OpenSpec.ofChange shapeWiderWrong)

/-- 'graduslaw1.ShapeFills': WHATEVER THE INPUT: true; the input reads as it did. -/
def shapeFillsSpec : ChangeSpec := { name := "shapeFills", fn := fun _ => fun
  | [d] => { results := [.lit (.bool true)], args := [d] }
  | _ => none }
def shapeFillsRow : OpenClaim := { program := "ytpjcidlkdfebhaa", sum := "05ba1686bf93a6465c4ae4c265e8f6151fd800f1b1a0e2be148f4b4491b1ac5c", func := "gradus/graduslaw1.ShapeFills", spec := "shapeFills", unfollowed := true, recurses := true, apart := false }
def ShapeFillsSaid : Prop := shapeFillsRow.holds Try.pinned (OpenSpec.ofChange shapeFillsSpec)

/-- ITS FALSE NEIGHBOUR: 'it returns false'. Refute it at one input. -/
def shapeFillsWrong : ChangeSpec := { name := "shapeFills", fn := fun _ => fun
  | [d] => { results := [.lit (.bool false)], args := [d] }
  | _ => none }
def ShapeFillsWrongFalsely : Prop := shapeFillsRow.holds Try.pinned (OpenSpec.ofChange shapeFillsWrong)

/-- 'graduslaw1.ShapeBack': WHATEVER THE INPUT: true; the input reads as it did. -/
def shapeBackSpec : ChangeSpec := { name := "shapeBack", fn := fun _ => fun
  | [d] => { results := [.lit (.bool true)], args := [d] }
  | _ => none }
def shapeBackRow : OpenClaim := { program := "ytpjcidlkdfebhaa", sum := "05ba1686bf93a6465c4ae4c265e8f6151fd800f1b1a0e2be148f4b4491b1ac5c", func := "gradus/graduslaw1.ShapeBack", spec := "shapeBack", unfollowed := true, recurses := true, apart := false }
def ShapeBackSaid : Prop := shapeBackRow.holds Try.pinned (OpenSpec.ofChange shapeBackSpec)

/-- ITS FALSE NEIGHBOUR: 'it returns false'. Refute it at one input. -/
def shapeBackWrong : ChangeSpec := { name := "shapeBack", fn := fun _ => fun
  | [d] => { results := [.lit (.bool false)], args := [d] }
  | _ => none }
def ShapeBackWrongFalsely : Prop := shapeBackRow.holds Try.pinned (OpenSpec.ofChange shapeBackWrong)

/-- 'graduslaw4.MatMuls': WHATEVER THE INPUT: true; the input reads as it did. -/
def matMulsSpec : ChangeSpec := { name := "matMuls", fn := fun _ => fun
  | [d] => { results := [.lit (.bool true)], args := [d] }
  | _ => none }
def matMulsRow : OpenClaim := { program := "ytpjcidlkdfebhaa", sum := "05ba1686bf93a6465c4ae4c265e8f6151fd800f1b1a0e2be148f4b4491b1ac5c", func := "gradus/graduslaw4.MatMuls", spec := "matMuls", unfollowed := true, recurses := true, apart := false }
def MatMulsSaid : Prop := matMulsRow.holds Try.pinned (OpenSpec.ofChange matMulsSpec)

/-- ITS FALSE NEIGHBOUR: 'it returns false'. Refute it at one input. -/
def matMulsWrong : ChangeSpec := { name := "matMuls", fn := fun _ => fun
  | [d] => { results := [.lit (.bool false)], args := [d] }
  | _ => none }
def MatMulsWrongFalsely : Prop := matMulsRow.holds Try.pinned (OpenSpec.ofChange matMulsWrong)

/-- 'graduslaw4.MatOnes': WHATEVER THE INPUT: true; the input reads as it did. -/
def matOnesSpec : ChangeSpec := { name := "matOnes", fn := fun _ => fun
  | [d] => { results := [.lit (.bool true)], args := [d] }
  | _ => none }
def matOnesRow : OpenClaim := { program := "ytpjcidlkdfebhaa", sum := "05ba1686bf93a6465c4ae4c265e8f6151fd800f1b1a0e2be148f4b4491b1ac5c", func := "gradus/graduslaw4.MatOnes", spec := "matOnes", unfollowed := true, recurses := true, apart := false }
def MatOnesSaid : Prop := matOnesRow.holds Try.pinned (OpenSpec.ofChange matOnesSpec)

/-- ITS FALSE NEIGHBOUR: 'it returns false'. Refute it at one input. -/
def matOnesWrong : ChangeSpec := { name := "matOnes", fn := fun _ => fun
  | [d] => { results := [.lit (.bool false)], args := [d] }
  | _ => none }
def MatOnesWrongFalsely : Prop := matOnesRow.holds Try.pinned (OpenSpec.ofChange matOnesWrong)

/-- 'graduslaw2.RingEach': WHATEVER THE INPUT: true; the input reads as it did. -/
def ringEachSpec : ChangeSpec := { name := "ringEach", fn := fun _ => fun
  | [d] => { results := [.lit (.bool true)], args := [d] }
  | _ => none }
def ringEachRow : OpenClaim := { program := "ytpjcidlkdfebhaa", sum := "05ba1686bf93a6465c4ae4c265e8f6151fd800f1b1a0e2be148f4b4491b1ac5c", func := "gradus/graduslaw2.RingEach", spec := "ringEach", unfollowed := true, recurses := true, apart := false }
def RingEachSaid : Prop := ringEachRow.holds Try.pinned (OpenSpec.ofChange ringEachSpec)

/-- ITS FALSE NEIGHBOUR: 'it returns false'. Refute it at one input. -/
def ringEachWrong : ChangeSpec := { name := "ringEach", fn := fun _ => fun
  | [d] => { results := [.lit (.bool false)], args := [d] }
  | _ => none }
def RingEachWrongFalsely : Prop := ringEachRow.holds Try.pinned (OpenSpec.ofChange ringEachWrong)

/-- 'graduslaw2.RingLaws': WHATEVER THE INPUT: true; the input reads as it did. -/
def ringLawsSpec : ChangeSpec := { name := "ringLaws", fn := fun _ => fun
  | [d] => { results := [.lit (.bool true)], args := [d] }
  | _ => none }
def ringLawsRow : OpenClaim := { program := "ytpjcidlkdfebhaa", sum := "05ba1686bf93a6465c4ae4c265e8f6151fd800f1b1a0e2be148f4b4491b1ac5c", func := "gradus/graduslaw2.RingLaws", spec := "ringLaws", unfollowed := true, recurses := true, apart := false }
def RingLawsSaid : Prop := ringLawsRow.holds Try.pinned (OpenSpec.ofChange ringLawsSpec)

/-- ITS FALSE NEIGHBOUR: 'it returns false'. Refute it at one input. -/
def ringLawsWrong : ChangeSpec := { name := "ringLaws", fn := fun _ => fun
  | [d] => { results := [.lit (.bool false)], args := [d] }
  | _ => none }
def RingLawsWrongFalsely : Prop := ringLawsRow.holds Try.pinned (OpenSpec.ofChange ringLawsWrong)

/-- 'graduslaw2.RingScales': WHATEVER THE INPUT: true; the input reads as it did. -/
def ringScalesSpec : ChangeSpec := { name := "ringScales", fn := fun _ => fun
  | [d] => { results := [.lit (.bool true)], args := [d] }
  | _ => none }
def ringScalesRow : OpenClaim := { program := "ytpjcidlkdfebhaa", sum := "05ba1686bf93a6465c4ae4c265e8f6151fd800f1b1a0e2be148f4b4491b1ac5c", func := "gradus/graduslaw2.RingScales", spec := "ringScales", unfollowed := true, recurses := true, apart := false }
def RingScalesSaid : Prop := ringScalesRow.holds Try.pinned (OpenSpec.ofChange ringScalesSpec)

/-- ITS FALSE NEIGHBOUR: 'it returns false'. Refute it at one input. -/
def ringScalesWrong : ChangeSpec := { name := "ringScales", fn := fun _ => fun
  | [d] => { results := [.lit (.bool false)], args := [d] }
  | _ => none }
def RingScalesWrongFalsely : Prop := ringScalesRow.holds Try.pinned (OpenSpec.ofChange ringScalesWrong)

/-- 'graduslaw2.RingWraps': WHATEVER THE INPUT: true; the input reads as it did. -/
def ringWrapsSpec : ChangeSpec := { name := "ringWraps", fn := fun _ => fun
  | [d] => { results := [.lit (.bool true)], args := [d] }
  | _ => none }
def ringWrapsRow : OpenClaim := { program := "ytpjcidlkdfebhaa", sum := "05ba1686bf93a6465c4ae4c265e8f6151fd800f1b1a0e2be148f4b4491b1ac5c", func := "gradus/graduslaw2.RingWraps", spec := "ringWraps", unfollowed := true, recurses := true, apart := false }
def RingWrapsSaid : Prop := ringWrapsRow.holds Try.pinned (OpenSpec.ofChange ringWrapsSpec)

/-- ITS FALSE NEIGHBOUR: 'it returns false'. Refute it at one input. -/
def ringWrapsWrong : ChangeSpec := { name := "ringWraps", fn := fun _ => fun
  | [d] => { results := [.lit (.bool false)], args := [d] }
  | _ => none }
def RingWrapsWrongFalsely : Prop := ringWrapsRow.holds Try.pinned (OpenSpec.ofChange ringWrapsWrong)

/-- 'graduslaw3.TurnBack': WHATEVER THE INPUT: true; the input reads as it did. -/
def turnBackSpec : ChangeSpec := { name := "turnBack", fn := fun _ => fun
  | [d] => { results := [.lit (.bool true)], args := [d] }
  | _ => none }
def turnBackRow : OpenClaim := { program := "ytpjcidlkdfebhaa", sum := "05ba1686bf93a6465c4ae4c265e8f6151fd800f1b1a0e2be148f4b4491b1ac5c", func := "gradus/graduslaw3.TurnBack", spec := "turnBack", unfollowed := true, recurses := true, apart := false }
def TurnBackSaid : Prop := turnBackRow.holds Try.pinned (OpenSpec.ofChange turnBackSpec)

/-- ITS FALSE NEIGHBOUR: 'it returns false'. Refute it at one input. -/
def turnBackWrong : ChangeSpec := { name := "turnBack", fn := fun _ => fun
  | [d] => { results := [.lit (.bool false)], args := [d] }
  | _ => none }
def TurnBackWrongFalsely : Prop := turnBackRow.holds Try.pinned (OpenSpec.ofChange turnBackWrong)

/-- 'graduslaw5.GateTies': WHATEVER THE INPUT: true; the input reads as it did. -/
def gateTiesSpec : ChangeSpec := { name := "gateTies", fn := fun _ => fun
  | [d] => { results := [.lit (.bool true)], args := [d] }
  | _ => none }
def gateTiesRow : OpenClaim := { program := "ytpjcidlkdfebhaa", sum := "05ba1686bf93a6465c4ae4c265e8f6151fd800f1b1a0e2be148f4b4491b1ac5c", func := "gradus/graduslaw5.GateTies", spec := "gateTies", unfollowed := true, recurses := true, apart := false }
def GateTiesSaid : Prop := gateTiesRow.holds Try.pinned (OpenSpec.ofChange gateTiesSpec)

/-- ITS FALSE NEIGHBOUR: 'it returns false'. Refute it at one input. -/
def gateTiesWrong : ChangeSpec := { name := "gateTies", fn := fun _ => fun
  | [d] => { results := [.lit (.bool false)], args := [d] }
  | _ => none }
def GateTiesWrongFalsely : Prop := gateTiesRow.holds Try.pinned (OpenSpec.ofChange gateTiesWrong)

/-- 'graduslaw3.TurnDims': WHATEVER THE INPUT: true; the input reads as it did. -/
def turnDimsSpec : ChangeSpec := { name := "turnDims", fn := fun _ => fun
  | [d] => { results := [.lit (.bool true)], args := [d] }
  | _ => none }
def turnDimsRow : OpenClaim := { program := "ytpjcidlkdfebhaa", sum := "05ba1686bf93a6465c4ae4c265e8f6151fd800f1b1a0e2be148f4b4491b1ac5c", func := "gradus/graduslaw3.TurnDims", spec := "turnDims", unfollowed := true, recurses := true, apart := false }
def TurnDimsSaid : Prop := turnDimsRow.holds Try.pinned (OpenSpec.ofChange turnDimsSpec)

/-- ITS FALSE NEIGHBOUR: 'it returns false'. Refute it at one input. -/
def turnDimsWrong : ChangeSpec := { name := "turnDims", fn := fun _ => fun
  | [d] => { results := [.lit (.bool false)], args := [d] }
  | _ => none }
def TurnDimsWrongFalsely : Prop := turnDimsRow.holds Try.pinned (OpenSpec.ofChange turnDimsWrong)

/-- 'graduslaw5.GateOpens': WHATEVER THE INPUT: true; the input reads as it did. -/
def gateOpensSpec : ChangeSpec := { name := "gateOpens", fn := fun _ => fun
  | [d] => { results := [.lit (.bool true)], args := [d] }
  | _ => none }
def gateOpensRow : OpenClaim := { program := "ytpjcidlkdfebhaa", sum := "05ba1686bf93a6465c4ae4c265e8f6151fd800f1b1a0e2be148f4b4491b1ac5c", func := "gradus/graduslaw5.GateOpens", spec := "gateOpens", unfollowed := true, recurses := true, apart := false }
def GateOpensSaid : Prop := gateOpensRow.holds Try.pinned (OpenSpec.ofChange gateOpensSpec)

/-- ITS FALSE NEIGHBOUR: 'it returns false'. Refute it at one input. -/
def gateOpensWrong : ChangeSpec := { name := "gateOpens", fn := fun _ => fun
  | [d] => { results := [.lit (.bool false)], args := [d] }
  | _ => none }
def GateOpensWrongFalsely : Prop := gateOpensRow.holds Try.pinned (OpenSpec.ofChange gateOpensWrong)

/-- 'graduslaw4.MatLaws': WHATEVER THE INPUT: true; the input reads as it did. -/
def matLawsSpec : ChangeSpec := { name := "matLaws", fn := fun _ => fun
  | [d] => { results := [.lit (.bool true)], args := [d] }
  | _ => none }
def matLawsRow : OpenClaim := { program := "ytpjcidlkdfebhaa", sum := "05ba1686bf93a6465c4ae4c265e8f6151fd800f1b1a0e2be148f4b4491b1ac5c", func := "gradus/graduslaw4.MatLaws", spec := "matLaws", unfollowed := true, recurses := true, apart := false }
def MatLawsSaid : Prop := matLawsRow.holds Try.pinned (OpenSpec.ofChange matLawsSpec)

/-- ITS FALSE NEIGHBOUR: 'it returns false'. Refute it at one input. -/
def matLawsWrong : ChangeSpec := { name := "matLaws", fn := fun _ => fun
  | [d] => { results := [.lit (.bool false)], args := [d] }
  | _ => none }
def MatLawsWrongFalsely : Prop := matLawsRow.holds Try.pinned (OpenSpec.ofChange matLawsWrong)

/-- 'graduslaw1.ShapePlaces': WHATEVER THE INPUT: true; the input reads as it did. -/
def shapePlacesSpec : ChangeSpec := { name := "shapePlaces", fn := fun _ => fun
  | [d] => { results := [.lit (.bool true)], args := [d] }
  | _ => none }
def shapePlacesRow : OpenClaim := { program := "ytpjcidlkdfebhaa", sum := "05ba1686bf93a6465c4ae4c265e8f6151fd800f1b1a0e2be148f4b4491b1ac5c", func := "gradus/graduslaw1.ShapePlaces", spec := "shapePlaces", unfollowed := true, recurses := true, apart := false }
def ShapePlacesSaid : Prop := shapePlacesRow.holds Try.pinned (OpenSpec.ofChange shapePlacesSpec)

/-- ITS FALSE NEIGHBOUR: 'it returns false'. Refute it at one input. -/
def shapePlacesWrong : ChangeSpec := { name := "shapePlaces", fn := fun _ => fun
  | [d] => { results := [.lit (.bool false)], args := [d] }
  | _ => none }
def ShapePlacesWrongFalsely : Prop := shapePlacesRow.holds Try.pinned (OpenSpec.ofChange shapePlacesWrong)

/-- 'graduslaw5.GateDots': WHATEVER THE INPUT: true; the input reads as it did. -/
def gateDotsSpec : ChangeSpec := { name := "gateDots", fn := fun _ => fun
  | [d] => { results := [.lit (.bool true)], args := [d] }
  | _ => none }
def gateDotsRow : OpenClaim := { program := "ytpjcidlkdfebhaa", sum := "05ba1686bf93a6465c4ae4c265e8f6151fd800f1b1a0e2be148f4b4491b1ac5c", func := "gradus/graduslaw5.GateDots", spec := "gateDots", unfollowed := true, recurses := true, apart := false }
def GateDotsSaid : Prop := gateDotsRow.holds Try.pinned (OpenSpec.ofChange gateDotsSpec)

/-- ITS FALSE NEIGHBOUR: 'it returns false'. Refute it at one input. -/
def gateDotsWrong : ChangeSpec := { name := "gateDots", fn := fun _ => fun
  | [d] => { results := [.lit (.bool false)], args := [d] }
  | _ => none }
def GateDotsWrongFalsely : Prop := gateDotsRow.holds Try.pinned (OpenSpec.ofChange gateDotsWrong)

/-- 'graduslaw3.TurnDots': WHATEVER THE INPUT: true; the input reads as it did. -/
def turnDotsSpec : ChangeSpec := { name := "turnDots", fn := fun _ => fun
  | [d] => { results := [.lit (.bool true)], args := [d] }
  | _ => none }
def turnDotsRow : OpenClaim := { program := "ytpjcidlkdfebhaa", sum := "05ba1686bf93a6465c4ae4c265e8f6151fd800f1b1a0e2be148f4b4491b1ac5c", func := "gradus/graduslaw3.TurnDots", spec := "turnDots", unfollowed := true, recurses := true, apart := false }
def TurnDotsSaid : Prop := turnDotsRow.holds Try.pinned (OpenSpec.ofChange turnDotsSpec)

/-- ITS FALSE NEIGHBOUR: 'it returns false'. Refute it at one input. -/
def turnDotsWrong : ChangeSpec := { name := "turnDots", fn := fun _ => fun
  | [d] => { results := [.lit (.bool false)], args := [d] }
  | _ => none }
def TurnDotsWrongFalsely : Prop := turnDotsRow.holds Try.pinned (OpenSpec.ofChange turnDotsWrong)

/- THE SECOND FORM. 'bulk': how many values and letters a reading holds, each counted each time it is reached (what is shared counts as often as it is met; a slice's spare places count too). A statement '..UptoSaid' is the law's where the arguments, and the package variables that the reading takes, are together of bulk at most 1048576: NARROWER than '..Said'. Prove '..Said' where nothing that the law and all that it calls make is longer than what came in: it says more and counts as full. Else prove '..UptoSaid'. A law counts once. -/
mutual
def uptoBulk {H : Type} : DataW H → Nat
  | .lit (.string bytes) => bytes.length + 1
  | .lit _ => 1
  | .nil => 1
  | .ptr d => uptoBulk d + 1
  | .slice elems spare => uptoBulkAll elems + uptoBulkAll spare + 1
  | .agg parts => uptoBulkAll parts + 1
  | .iface _ d => uptoBulk d + 1
  | .map entries => uptoBulkEntries entries + 1
  | .held _ => 1
def uptoBulkAll {H : Type} : List (DataW H) → Nat
  | [] => 0
  | d :: r => uptoBulk d + uptoBulkAll r
def uptoBulkEntries {H : Type} : List (Lit × DataW H) → Nat
  | [] => 0
  | x :: r => uptoBulkEntry x + uptoBulkEntries r
def uptoBulkEntry {H : Type} : Lit × DataW H → Nat
  | (.string bytes, d) => bytes.length + uptoBulk d + 1
  | (_, d) => uptoBulk d + 1
 end
def uptoSmall : (H : Type) → List (DataW H) → Bool := fun _ ds => decide (uptoBulkAll ds ≤ 1048576)
def OpenSpec.upto (s : _root_.Go.ChangeSpec) : _root_.Go.OpenSpec := { _root_.Go.OpenSpec.ofChange s with cond := some uptoSmall }

/-- 'graduslaw1.ShapeWider', WHERE WHAT IT READS IS OF BULK AT MOST 1048576: true; the input reads as it did. -/
def shapeWiderUptoRow : OpenClaim := { program := "ytpjcidlkdfebhaa", sum := "05ba1686bf93a6465c4ae4c265e8f6151fd800f1b1a0e2be148f4b4491b1ac5c", func := "gradus/graduslaw1.ShapeWider", spec := "shapeWider", unfollowed := true, recurses := true, apart := false, narrowed := true }
def ShapeWiderUptoSaid : Prop := shapeWiderUptoRow.holds Try.pinned (OpenSpec.upto shapeWiderSpec)

/-- 'graduslaw1.ShapeFills', WHERE WHAT IT READS IS OF BULK AT MOST 1048576: true; the input reads as it did. -/
def shapeFillsUptoRow : OpenClaim := { program := "ytpjcidlkdfebhaa", sum := "05ba1686bf93a6465c4ae4c265e8f6151fd800f1b1a0e2be148f4b4491b1ac5c", func := "gradus/graduslaw1.ShapeFills", spec := "shapeFills", unfollowed := true, recurses := true, apart := false, narrowed := true }
def ShapeFillsUptoSaid : Prop := shapeFillsUptoRow.holds Try.pinned (OpenSpec.upto shapeFillsSpec)

/-- 'graduslaw1.ShapeBack', WHERE WHAT IT READS IS OF BULK AT MOST 1048576: true; the input reads as it did. -/
def shapeBackUptoRow : OpenClaim := { program := "ytpjcidlkdfebhaa", sum := "05ba1686bf93a6465c4ae4c265e8f6151fd800f1b1a0e2be148f4b4491b1ac5c", func := "gradus/graduslaw1.ShapeBack", spec := "shapeBack", unfollowed := true, recurses := true, apart := false, narrowed := true }
def ShapeBackUptoSaid : Prop := shapeBackUptoRow.holds Try.pinned (OpenSpec.upto shapeBackSpec)

/-- 'graduslaw4.MatMuls', WHERE WHAT IT READS IS OF BULK AT MOST 1048576: true; the input reads as it did. -/
def matMulsUptoRow : OpenClaim := { program := "ytpjcidlkdfebhaa", sum := "05ba1686bf93a6465c4ae4c265e8f6151fd800f1b1a0e2be148f4b4491b1ac5c", func := "gradus/graduslaw4.MatMuls", spec := "matMuls", unfollowed := true, recurses := true, apart := false, narrowed := true }
def MatMulsUptoSaid : Prop := matMulsUptoRow.holds Try.pinned (OpenSpec.upto matMulsSpec)

/-- 'graduslaw4.MatOnes', WHERE WHAT IT READS IS OF BULK AT MOST 1048576: true; the input reads as it did. -/
def matOnesUptoRow : OpenClaim := { program := "ytpjcidlkdfebhaa", sum := "05ba1686bf93a6465c4ae4c265e8f6151fd800f1b1a0e2be148f4b4491b1ac5c", func := "gradus/graduslaw4.MatOnes", spec := "matOnes", unfollowed := true, recurses := true, apart := false, narrowed := true }
def MatOnesUptoSaid : Prop := matOnesUptoRow.holds Try.pinned (OpenSpec.upto matOnesSpec)

/-- 'graduslaw2.RingEach', WHERE WHAT IT READS IS OF BULK AT MOST 1048576: true; the input reads as it did. -/
def ringEachUptoRow : OpenClaim := { program := "ytpjcidlkdfebhaa", sum := "05ba1686bf93a6465c4ae4c265e8f6151fd800f1b1a0e2be148f4b4491b1ac5c", func := "gradus/graduslaw2.RingEach", spec := "ringEach", unfollowed := true, recurses := true, apart := false, narrowed := true }
def RingEachUptoSaid : Prop := ringEachUptoRow.holds Try.pinned (OpenSpec.upto ringEachSpec)

/-- 'graduslaw2.RingLaws', WHERE WHAT IT READS IS OF BULK AT MOST 1048576: true; the input reads as it did. -/
def ringLawsUptoRow : OpenClaim := { program := "ytpjcidlkdfebhaa", sum := "05ba1686bf93a6465c4ae4c265e8f6151fd800f1b1a0e2be148f4b4491b1ac5c", func := "gradus/graduslaw2.RingLaws", spec := "ringLaws", unfollowed := true, recurses := true, apart := false, narrowed := true }
def RingLawsUptoSaid : Prop := ringLawsUptoRow.holds Try.pinned (OpenSpec.upto ringLawsSpec)

/-- 'graduslaw2.RingScales', WHERE WHAT IT READS IS OF BULK AT MOST 1048576: true; the input reads as it did. -/
def ringScalesUptoRow : OpenClaim := { program := "ytpjcidlkdfebhaa", sum := "05ba1686bf93a6465c4ae4c265e8f6151fd800f1b1a0e2be148f4b4491b1ac5c", func := "gradus/graduslaw2.RingScales", spec := "ringScales", unfollowed := true, recurses := true, apart := false, narrowed := true }
def RingScalesUptoSaid : Prop := ringScalesUptoRow.holds Try.pinned (OpenSpec.upto ringScalesSpec)

/-- 'graduslaw2.RingWraps', WHERE WHAT IT READS IS OF BULK AT MOST 1048576: true; the input reads as it did. -/
def ringWrapsUptoRow : OpenClaim := { program := "ytpjcidlkdfebhaa", sum := "05ba1686bf93a6465c4ae4c265e8f6151fd800f1b1a0e2be148f4b4491b1ac5c", func := "gradus/graduslaw2.RingWraps", spec := "ringWraps", unfollowed := true, recurses := true, apart := false, narrowed := true }
def RingWrapsUptoSaid : Prop := ringWrapsUptoRow.holds Try.pinned (OpenSpec.upto ringWrapsSpec)

/-- 'graduslaw3.TurnBack', WHERE WHAT IT READS IS OF BULK AT MOST 1048576: true; the input reads as it did. -/
def turnBackUptoRow : OpenClaim := { program := "ytpjcidlkdfebhaa", sum := "05ba1686bf93a6465c4ae4c265e8f6151fd800f1b1a0e2be148f4b4491b1ac5c", func := "gradus/graduslaw3.TurnBack", spec := "turnBack", unfollowed := true, recurses := true, apart := false, narrowed := true }
def TurnBackUptoSaid : Prop := turnBackUptoRow.holds Try.pinned (OpenSpec.upto turnBackSpec)

/-- 'graduslaw5.GateTies', WHERE WHAT IT READS IS OF BULK AT MOST 1048576: true; the input reads as it did. -/
def gateTiesUptoRow : OpenClaim := { program := "ytpjcidlkdfebhaa", sum := "05ba1686bf93a6465c4ae4c265e8f6151fd800f1b1a0e2be148f4b4491b1ac5c", func := "gradus/graduslaw5.GateTies", spec := "gateTies", unfollowed := true, recurses := true, apart := false, narrowed := true }
def GateTiesUptoSaid : Prop := gateTiesUptoRow.holds Try.pinned (OpenSpec.upto gateTiesSpec)

/-- 'graduslaw3.TurnDims', WHERE WHAT IT READS IS OF BULK AT MOST 1048576: true; the input reads as it did. -/
def turnDimsUptoRow : OpenClaim := { program := "ytpjcidlkdfebhaa", sum := "05ba1686bf93a6465c4ae4c265e8f6151fd800f1b1a0e2be148f4b4491b1ac5c", func := "gradus/graduslaw3.TurnDims", spec := "turnDims", unfollowed := true, recurses := true, apart := false, narrowed := true }
def TurnDimsUptoSaid : Prop := turnDimsUptoRow.holds Try.pinned (OpenSpec.upto turnDimsSpec)

/-- 'graduslaw5.GateOpens', WHERE WHAT IT READS IS OF BULK AT MOST 1048576: true; the input reads as it did. -/
def gateOpensUptoRow : OpenClaim := { program := "ytpjcidlkdfebhaa", sum := "05ba1686bf93a6465c4ae4c265e8f6151fd800f1b1a0e2be148f4b4491b1ac5c", func := "gradus/graduslaw5.GateOpens", spec := "gateOpens", unfollowed := true, recurses := true, apart := false, narrowed := true }
def GateOpensUptoSaid : Prop := gateOpensUptoRow.holds Try.pinned (OpenSpec.upto gateOpensSpec)

/-- 'graduslaw4.MatLaws', WHERE WHAT IT READS IS OF BULK AT MOST 1048576: true; the input reads as it did. -/
def matLawsUptoRow : OpenClaim := { program := "ytpjcidlkdfebhaa", sum := "05ba1686bf93a6465c4ae4c265e8f6151fd800f1b1a0e2be148f4b4491b1ac5c", func := "gradus/graduslaw4.MatLaws", spec := "matLaws", unfollowed := true, recurses := true, apart := false, narrowed := true }
def MatLawsUptoSaid : Prop := matLawsUptoRow.holds Try.pinned (OpenSpec.upto matLawsSpec)

/-- 'graduslaw1.ShapePlaces', WHERE WHAT IT READS IS OF BULK AT MOST 1048576: true; the input reads as it did. -/
def shapePlacesUptoRow : OpenClaim := { program := "ytpjcidlkdfebhaa", sum := "05ba1686bf93a6465c4ae4c265e8f6151fd800f1b1a0e2be148f4b4491b1ac5c", func := "gradus/graduslaw1.ShapePlaces", spec := "shapePlaces", unfollowed := true, recurses := true, apart := false, narrowed := true }
def ShapePlacesUptoSaid : Prop := shapePlacesUptoRow.holds Try.pinned (OpenSpec.upto shapePlacesSpec)

/-- 'graduslaw5.GateDots', WHERE WHAT IT READS IS OF BULK AT MOST 1048576: true; the input reads as it did. -/
def gateDotsUptoRow : OpenClaim := { program := "ytpjcidlkdfebhaa", sum := "05ba1686bf93a6465c4ae4c265e8f6151fd800f1b1a0e2be148f4b4491b1ac5c", func := "gradus/graduslaw5.GateDots", spec := "gateDots", unfollowed := true, recurses := true, apart := false, narrowed := true }
def GateDotsUptoSaid : Prop := gateDotsUptoRow.holds Try.pinned (OpenSpec.upto gateDotsSpec)

/-- 'graduslaw3.TurnDots', WHERE WHAT IT READS IS OF BULK AT MOST 1048576: true; the input reads as it did. -/
def turnDotsUptoRow : OpenClaim := { program := "ytpjcidlkdfebhaa", sum := "05ba1686bf93a6465c4ae4c265e8f6151fd800f1b1a0e2be148f4b4491b1ac5c", func := "gradus/graduslaw3.TurnDots", spec := "turnDots", unfollowed := true, recurses := true, apart := false, narrowed := true }
def TurnDotsUptoSaid : Prop := turnDotsUptoRow.holds Try.pinned (OpenSpec.upto turnDotsSpec)

end Rows
end Go.Proofs.Ytpjcidlkdfebhaa
