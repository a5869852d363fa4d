/- Functions of the program and of the references: what they compute, by the layer Al. Made by a program of this session (wip/al/alfill.py) out of wip/al/specs. -/
import Derived.Test.YtpjcidlkdfebhaaGj
import Derived.Test.YtpjcidlkdfebhaaAz
import Derived.Test.YtpjcidlkdfebhaaProg
namespace Go.Proofs.Ytpjcidlkdfebhaa.F
open Go Go.Proofs.Al
set_option linter.unusedVariables false
set_option linter.unusedSimpArgs false
set_option maxRecDepth 10000 in
theorem graduslaw5_num (e : Int) : Pure Try.prog 70 [iv e] (iv e) := by
  intro σ
  refine acalls Try.func70 rfl rfl (by decide) rfl rfl ?_
  refine aseq ?_
  refine areg rfl ?_
  refine s_det (D.assign rfl) rfl ?_
  refine s_nil ?_
  refine aseq ?_
  refine areg rfl ?_
  refine s_det (D.move rfl) rfl ?_
  refine s_det (D.assign rfl) rfl ?_
  refine s_nil ?_
  refine aret ?_
  exact ⟨[_], ⟨⟨rfl, rfl⟩, trivial⟩, rfl, rfl⟩

abbrev wk5 : Tn := ⟨[3], [1, 3, 3]⟩
abbrev wk5b : Tn := ⟨[1], [9]⟩

set_option maxRecDepth 10000 in
theorem graduslaw5_wakes : Pure Try.prog 71 [] (bv true) := by
  intro σ
  refine acalls Try.func71 rfl rfl (by decide) rfl rfl ?_
  refine aseq ?_
  refine areg rfl ?_
  refine s_det (D.assign rfl) rfl ?_
  refine s_nil ?_
  refine aseq ?_
  refine areg rfl ?_
  refine s_det (D.lit sl_int (pc rfl rfl p0) rfl rfl (by decide)) rfl ?_
  refine s_det (D.lit sl_int (pc rfl rfl (pc rfl rfl (pc rfl rfl p0))) rfl rfl (by decide)) rfl ?_
  refine s_det (D.build rfl rfl ⟨_, rfl, rfl, rfl, by simp, ⟨_, rfl, rfl, rfl, by simp, rfl⟩⟩) rfl ?_
  refine s_act rfl (A.alloc rfl rfl rfl fun b1 hb1 => ?_)
  refine s_do (A.store rfl rfl (AH.set_self ..) rfl rfl (by rfl) rfl rfl ?_)
  refine s_nil ?_
  rw [AH.set_set]
  refine afix (d := 1) rfl hb1 ?_
  refine aseq ?_
  refine areg rfl ?_
  refine s_det (D.load_i rfl rfl) rfl ?_
  refine s_det (D.call (evw rfl (wkT (t := wk5) rfl rfl) (evc rfl ev0)) b_gate_Max (gate_Max wk5 3)) rfl ?_
  refine s_det (D.move rfl) rfl ?_
  refine s_det (D.extract rfl rfl) rfl ?_
  refine s_det (D.extract rfl rfl) rfl ?_
  refine s_act rfl (A.alloc rfl rfl rfl fun b2 hb2 => ?_)
  refine s_do (A.store rfl rfl (AH.set_self ..) rfl rfl (by rfl) rfl rfl ?_)
  refine s_det (D.assign rfl) rfl ?_
  refine s_nil ?_
  rw [AH.set_set]
  refine afix (d := 2) rfl hb2 ?_
  refine aseq ?_
  refine areg rfl ?_
  refine s_det (D.load_i rfl rfl) rfl ?_
  refine s_det (D.lit sl_int (pc rfl rfl p0) rfl rfl (by decide)) rfl ?_
  refine s_det (D.lit sl_int (pc rfl rfl p0) rfl rfl (by decide)) rfl ?_
  refine s_det (D.build rfl rfl ⟨_, rfl, rfl, rfl, by simp, ⟨_, rfl, rfl, rfl, by simp, rfl⟩⟩) rfl ?_
  refine s_det (D.call (evw rfl (wkT (t := wk5) rfl rfl) (evw rfl (wkT (t := wk5b) rfl rfl) (evc rfl ev0))) b_gate_Pick (gate_Pick wk5 wk5b 3)) rfl ?_
  refine s_det (D.move rfl) rfl ?_
  refine s_det (D.extract rfl rfl) rfl ?_
  refine s_det (D.extract rfl rfl) rfl ?_
  refine s_act rfl (A.alloc rfl rfl rfl fun b4 hb4 => ?_)
  refine s_do (A.store rfl rfl (AH.set_self ..) rfl rfl (by rfl) rfl rfl ?_)
  refine s_det (D.assign rfl) rfl ?_
  refine s_nil ?_
  rw [AH.set_set]
  refine afix (d := 4) rfl hb4 ?_
  refine aseq ?_
  refine areg rfl ?_
  refine s_det (D.move rfl) rfl ?_
  refine s_det (D.call (evc rfl ev0) b_graduslaw5_num (graduslaw5_num _)) rfl ?_
  refine s_det (D.eql rfl rfl (decide_eq_true (by decide +kernel))) rfl ?_
  refine s_det (D.move rfl) rfl ?_
  refine s_yes rfl rfl ?_
  refine s_det (D.move rfl) rfl ?_
  refine s_yes rfl rfl ?_
  refine s_det (D.call (evc rfl ev0) b_graduslaw5_num (graduslaw5_num _)) rfl ?_
  refine s_yes rfl rfl ?_
  refine s_det (D.eql rfl rfl (decide_eq_true (by decide +kernel))) rfl ?_
  refine s_det (D.pick rfl rfl rfl rfl) rfl ?_
  refine s_det (D.move rfl) rfl ?_
  refine s_yes rfl rfl ?_
  refine s_det (D.field_i rfl rfl rfl) rfl ?_
  refine s_yes rfl rfl ?_
  refine s_det (D.load_i rfl rfl) rfl ?_
  refine s_yes rfl rfl ?_
  refine s_det (D.lit sl_int (pc rfl rfl p0) rfl rfl (by decide)) rfl ?_
  refine s_yes rfl rfl ?_
  refine s_det (D.call (evc rfl (evw rfl Wk.less ev0)) b_gradusref0_EqNumbers (Pure.toT (gradusref0_EqNumbers (maxS wk5 3).1.x [3] (by decide +kernel) (by decide)) (by decide +kernel))) rfl ?_
  refine s_det (D.pick rfl rfl rfl rfl) rfl ?_
  refine s_det (D.move rfl) rfl ?_
  refine s_yes rfl rfl ?_
  refine s_det (D.field_i rfl rfl rfl) rfl ?_
  refine s_yes rfl rfl ?_
  refine s_det (D.load_i rfl rfl) rfl ?_
  refine s_yes rfl rfl ?_
  refine s_det (D.lit sl_int (pc rfl rfl (pc rfl rfl (pc rfl rfl p0))) rfl rfl (by decide)) rfl ?_
  refine s_yes rfl rfl ?_
  refine s_det (D.call (evc rfl (evw rfl Wk.less ev0)) b_gradusref0_EqNumbers (Pure.toT (gradusref0_EqNumbers (pickS wk5 wk5b 3).1.x [0, 9, 0] (by decide +kernel) (by decide)) (by decide +kernel))) rfl ?_
  refine s_det (D.pick rfl rfl rfl rfl) rfl ?_
  refine s_det (D.assign rfl) rfl ?_
  refine s_nil ?_
  refine aret ?_
  exact ⟨[_], ⟨⟨rfl, rfl⟩, trivial⟩, rfl, rfl⟩

end Go.Proofs.Ytpjcidlkdfebhaa.F
