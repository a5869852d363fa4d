/- For every input the law 'gradus/graduslaw1.ShapeBack' returns true and leaves its argument as it was: the given statement, without any further condition. Its walk was made by a program of this session; what it computes is proved in YtpjcidlkdfebhaaPureShapeBack. -/
import Derived.Test.YtpjcidlkdfebhaaRows
import Derived.Test.YtpjcidlkdfebhaaQShapeBack
import Derived.Test.YtpjcidlkdfebhaaPureShapeBack
import Derived.WalkKit
import Derived.ProofKit
import Derived.OpenShut
import Derived.ShutString
import Derived.ChangeOld
import Derived.Below
import Derived.SizedLaws
namespace Go.Proofs.Ytpjcidlkdfebhaa.shapeBack
open Go.ChangeShapes Go.WideShapes Go.ChangeAt Go.RowKit Go.Proofs.OpenW Go.Proofs.YtpjcidlkdfebhaaW.PrintWords
open Go.Proofs.Ytpjcidlkdfebhaa.PT
set_option linter.unusedVariables false
theorem own : ownKnob Try.prog.godebug = none := by kernel_rfl
theorem laidOut : laidOutB Try.prog = true := by kernel_rfl
/-- The law's call, at any argument that can be read. -/
theorem walk (P : shapeBackQ.Pure) (cs : Array Value) (x : S26) (w : World) (hk : k26.K w x cs.toList) (hx : shapeBackQ.G26 x) : Calls Try.prog 5 #[.agg cs] w fun e w' => e = .returned (.bool true) ∧ Below w.heap.size w w' := by
  obtain ⟨k, h⟩ := P x hx
  obtain ⟨A0, c0, A1, c1, A2, c2, A3, c3, hcs, hl0, hr0, hl1, hr1, hl2, hr2, hl3, hr3⟩ := k26_open hk
  obtain rfl : cs = #[.slice A0 x.f0.length c0, .slice A1 x.f1.length c1, .slice A2 x.f2.length c2, .slice A3 x.f3.length c3] := by cases cs; simpa using hcs
  refine (graduslaw1_ShapeBack.calls k _ _ x.f0 _ _ x.f1 _ _ x.f2 _ _ x.f3 true w hr0 hl0 hr1 hl1 hr2 hl2 hr3 hl3 h).mono ?_
  rintro e w' ⟨rfl, hd⟩
  exact ⟨rfl, hd⟩
set_option maxRecDepth 100000 in
theorem lifted (os : Os) (started : os.Started) (H : Type) (enc : TypeId × Value → H) :
    ReturnsInHanded {} Try.checked os 5 .any (Rows.shapeBackSpec.pre6 enc Try.prog Try.f5 Rows.shapeBackRow.domain false) (Rows.shapeBackSpec.post enc Try.prog Try.f5 false true false false) := by
  refine returnsInHanded_of_change_sized (C := Try.checked) own started (by kernel_rfl) Try.func5
    (ChangeSpec.witness6 (enc := enc) (C := Try.checked) false ⟨#[], #[.agg #[.slice none 0 0, .slice none 0 0, .slice none 0 0, .slice none 0 0]], []⟩ 8 (by kernel_rfl) (by kernel_rfl) (by kernel_rfl) (by kernel_rfl)) ?_
  intro W base args ds gs before hval0 hW hcnd hsz0 _
  have hsz : (DataW.weightsEach Try.prog (Try.f5.params.toList ++ Rows.shapeBackSpec.plain.varTypes Try.prog) (ds ++ gs)).all (· ≤ reachBytes) = true := hsz0
  have hval : ∀ (j : Nat) t v, Try.f5.params[j]? = some t → args[j]? = some v → Value.okWide Try.prog W .any base t v := hval0
  have hW' := hW
  obtain ⟨p, q, hA0, hV, rfl, hfz, hnd⟩ := hW
  have hA : DataW.TrodAll enc Try.prog W 0 (fun _ => true) true Try.f5.params.toList args.toList ds p := hA0
  rw [Try.params5] at hA hval hsz
  obtain ⟨v0, vs0, d0, ds0, p0, q0, hargs, rfl, rfl, h0, r0⟩ := trodAll_cons hA
  obtain ⟨rfl, rfl, rfl⟩ := trodAll_nil r0
  obtain rfl : args = #[v0] := by cases args; simp_all
  obtain ⟨rfl, rfl⟩ := trodVars_none hV
  obtain ⟨cs, rfl, hcz⟩ := okWide_struct Try.underlying26 (hval 0 26 v0 rfl rfl)
  have k0 := h0
  have lt0 : ∀ x ∈ p0, x.block < W.heap.size := by obtain ⟨m, hm⟩ := k0; exact DataW.trod_lt m _ _ _ hm
  obtain ⟨x, hK, hx⟩ : ∃ x, k26.K W x cs.toList ∧ shapeBackQ.G26 x := by
    obtain ⟨m, hm⟩ := h0
    exact shapeBackQ.op26 m _ _ hm (fun m hm => by
      have := List.all_eq_true.1 hsz m (DataW.weights_mem_each (j := 0) (t := 26) (d := d0) rfl rfl m hm)
      simpa using this)
  clear hA0 hval0 hsz0 hsz
  refine (walk Pure.ShapeBack cs x W hK hx).mono fun e W' ⟨he, bel⟩ => ?_
  subst he
  exact ⟨_, rfl, _, _, _, [], _, [], hW', trodAll_mk1 (shut_bool Try.underlying4 _), (trodAll_cons_mk (Below.trod laidOut (by kernel_rfl) (of_decide_eq_true (by kernel_rfl)) k0 bel lt0) trodAll_mk0), rfl, bel.frame _, fun h => by cases h⟩
theorem over : Rows.shapeBackRow.holds Try.pinned (OpenSpec.ofChange Rows.shapeBackSpec) :=
  OpenClaim.holds_of_wide 5 Try.f5 rfl rfl rfl rfl rfl rfl rfl ⟨rfl, rfl, rfl, rfl, rfl⟩ rfl rfl rfl rfl rfl (by kernel_rfl) Try.func5 (by kernel_rfl)
    (of_decide_eq_true (by kernel_rfl)) (by unfold Func.isWrapper; first | (rw [if_pos (by decide +kernel)]; kernel_rfl) | (rw [if_neg (by decide +kernel)]; exact ⟨rfl, rfl⟩))
    (fun os started H enc _ => lifted os started H enc)
theorem proved : Rows.ShapeBackSaid := over
end Go.Proofs.Ytpjcidlkdfebhaa.shapeBack
namespace Go.Proofs.Ytpjcidlkdfebhaa
/-- The given statement. -/
theorem shapeBack_holds : Rows.ShapeBackSaid := shapeBack.proved
#print axioms shapeBack_holds
end Go.Proofs.Ytpjcidlkdfebhaa
