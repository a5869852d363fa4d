/- For every input the law 'gradus/graduslaw3.TurnBack' returns true and leaves its argument as it was: the given statement, without any further condition. Its walk was made by a program of this session; what it computes is proved in YtpjcidlkdfebhaaPureTurnBack. -/
import Derived.Test.YtpjcidlkdfebhaaRows
import Derived.Test.YtpjcidlkdfebhaaQTurnBack
import Derived.Test.YtpjcidlkdfebhaaPureTurnBack
import Derived.WalkKit
import Derived.ProofKit
import Derived.OpenShut
import Derived.ShutString
import Derived.ChangeOld
import Derived.Below
import Derived.SizedLaws
namespace Go.Proofs.Ytpjcidlkdfebhaa.turnBack
open Go.ChangeShapes Go.WideShapes Go.ChangeAt Go.RowKit Go.Proofs.OpenW Go.Proofs.YtpjcidlkdfebhaaW.PrintWords
open Go.Proofs.Ytpjcidlkdfebhaa.PT
set_option linter.unusedVariables false
theorem own : ownKnob Try.prog.godebug = none := by kernel_rfl
theorem laidOut : laidOutB Try.prog = true := by kernel_rfl
/-- The law's call, at any argument that can be read. -/
theorem walk (P : turnBackQ.Pure) (cs : Array Value) (x : S67) (w : World) (hk : k67.K w x cs.toList) (hx : turnBackQ.G67 x) : Calls Try.prog 12 #[.agg cs] w fun e w' => e = .returned (.bool true) ∧ Below w.heap.size w w' := by
  obtain ⟨k, h⟩ := P x hx
  obtain ⟨A0, c0, A1, c1, A2, c2, hcs, hl0, hr0, hl1, hr1, hl2, hr2⟩ := k67_open hk
  obtain rfl : cs = #[.slice A0 x.f0.f0.length c0, .slice A1 x.f0.f1.length c1, .slice A2 x.f1.length c2] := by cases cs; simpa using hcs
  refine (graduslaw3_TurnBack.calls k _ _ x.f0.f0 _ _ x.f0.f1 _ _ x.f1 true w hr0 hl0 hr1 hl1 hr2 hl2 h).mono ?_
  rintro e w' ⟨rfl, hd⟩
  exact ⟨rfl, hd⟩
set_option maxRecDepth 100000 in
theorem lifted (os : Os) (started : os.Started) (H : Type) (enc : TypeId × Value → H) :
    ReturnsInHanded {} Try.checked os 12 .any (Rows.turnBackSpec.pre6 enc Try.prog Try.f12 Rows.turnBackRow.domain false) (Rows.turnBackSpec.post enc Try.prog Try.f12 false true false false) := by
  refine returnsInHanded_of_change_sized (C := Try.checked) own started (by kernel_rfl) Try.func12
    (ChangeSpec.witness6 (enc := enc) (C := Try.checked) false ⟨#[], #[.agg #[.slice none 0 0, .slice none 0 0, .slice none 0 0]], []⟩ 8 (by kernel_rfl) (by kernel_rfl) (by kernel_rfl) (by kernel_rfl)) ?_
  intro W base args ds gs before hval0 hW hcnd hsz0 _
  have hsz : (DataW.weightsEach Try.prog (Try.f12.params.toList ++ Rows.turnBackSpec.plain.varTypes Try.prog) (ds ++ gs)).all (· ≤ reachBytes) = true := hsz0
  have hval : ∀ (j : Nat) t v, Try.f12.params[j]? = some t → args[j]? = some v → Value.okWide Try.prog W .any base t v := hval0
  have hW' := hW
  obtain ⟨p, q, hA0, hV, rfl, hfz, hnd⟩ := hW
  have hA : DataW.TrodAll enc Try.prog W 0 (fun _ => true) true Try.f12.params.toList args.toList ds p := hA0
  rw [Try.params12] at hA hval hsz
  obtain ⟨v0, vs0, d0, ds0, p0, q0, hargs, rfl, rfl, h0, r0⟩ := trodAll_cons hA
  obtain ⟨rfl, rfl, rfl⟩ := trodAll_nil r0
  obtain rfl : args = #[v0] := by cases args; simp_all
  obtain ⟨rfl, rfl⟩ := trodVars_none hV
  obtain ⟨cs, rfl, hcz⟩ := okWide_struct Try.underlying67 (hval 0 67 v0 rfl rfl)
  have k0 := h0
  have lt0 : ∀ x ∈ p0, x.block < W.heap.size := by obtain ⟨m, hm⟩ := k0; exact DataW.trod_lt m _ _ _ hm
  obtain ⟨x, hK, hx⟩ : ∃ x, k67.K W x cs.toList ∧ turnBackQ.G67 x := by
    obtain ⟨m, hm⟩ := h0
    exact turnBackQ.op67 m _ _ hm (fun m hm => by
      have := List.all_eq_true.1 hsz m (DataW.weights_mem_each (j := 0) (t := 67) (d := d0) rfl rfl m hm)
      simpa using this)
  clear hA0 hval0 hsz0 hsz
  refine (walk Pure.TurnBack cs x W hK hx).mono fun e W' ⟨he, bel⟩ => ?_
  subst he
  exact ⟨_, rfl, _, _, _, [], _, [], hW', trodAll_mk1 (shut_bool Try.underlying4 _), (trodAll_cons_mk (Below.trod laidOut (by kernel_rfl) (of_decide_eq_true (by kernel_rfl)) k0 bel lt0) trodAll_mk0), rfl, bel.frame _, fun h => by cases h⟩
theorem over : Rows.turnBackRow.holds Try.pinned (OpenSpec.ofChange Rows.turnBackSpec) :=
  OpenClaim.holds_of_wide 12 Try.f12 rfl rfl rfl rfl rfl rfl rfl ⟨rfl, rfl, rfl, rfl, rfl⟩ rfl rfl rfl rfl rfl (by kernel_rfl) Try.func12 (by kernel_rfl)
    (of_decide_eq_true (by kernel_rfl)) (by unfold Func.isWrapper; first | (rw [if_pos (by decide +kernel)]; kernel_rfl) | (rw [if_neg (by decide +kernel)]; exact ⟨rfl, rfl⟩))
    (fun os started H enc _ => lifted os started H enc)
theorem proved : Rows.TurnBackSaid := over
end Go.Proofs.Ytpjcidlkdfebhaa.turnBack
namespace Go.Proofs.Ytpjcidlkdfebhaa
/-- The given statement. -/
theorem turnBack_holds : Rows.TurnBackSaid := turnBack.proved
#print axioms turnBack_holds
end Go.Proofs.Ytpjcidlkdfebhaa
