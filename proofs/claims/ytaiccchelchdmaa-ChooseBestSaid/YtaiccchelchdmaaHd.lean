/- Functions of the program and of the references: what they compute, by the layer Al. Made by a program of this session (wip/al/alfill.py) out of wip/al/specs. -/
import Derived.Test.YtaiccchelchdmaaHc
import Derived.Test.YtaiccchelchdmaaBc
import Derived.Test.YtaiccchelchdmaaProg
namespace Go.Proofs.Ytaiccchelchdmaa.F
open Go Go.Proofs.Al
set_option linter.unusedVariables false
set_option linter.unusedSimpArgs false
set_option maxRecDepth 10000 in
theorem graduslaw15_num (n : Int) : Pure Try.prog 8 [iv n] (iv n) := by
  intro σ
  refine acalls Try.func8 rfl rfl (by decide) rfl rfl ?_
  refine aseq ?_
  refine areg rfl ?_
  refine s_det (D.assign rfl) rfl ?_
  refine s_nil ?_
  refine aseq ?_
  refine areg rfl ?_
  refine s_det (D.move rfl) rfl ?_
  refine s_det (D.assign rfl) rfl ?_
  refine s_nil ?_
  refine aret ?_
  exact ⟨[_], ⟨⟨rfl, rfl⟩, trivial⟩, rfl, rfl⟩

set_option maxRecDepth 10000 in
theorem graduslaw15_wakes : Pure Try.prog 9 [] (bv true) := by
  intro σ
  refine acalls Try.func9 rfl rfl (by decide) rfl rfl ?_
  refine aseq ?_
  refine areg rfl ?_
  refine s_det (D.assign rfl) rfl ?_
  refine s_nil ?_
  refine aseq ?_
  refine areg rfl ?_
  refine s_det (D.build rfl rfl ⟨_, rfl, rfl, rfl, by simp, ⟨_, rfl, rfl, rfl, by simp, ⟨_, rfl, rfl, rfl, by simp, rfl⟩⟩⟩) rfl ?_
  refine s_det (D.lit sl_Item (pc rfl rfl p0) rfl rfl (by decide)) rfl ?_
  refine s_det (D.call (evw rfl Wk.less (evc rfl (evc rfl ev0))) b_choose_Best (Pure.to (y' := .tup [ints [0], iv 0]) (choose_Best [⟨2, 3, 4⟩] 2 0 (by decide)) (by rw [wake1]))) rfl ?_
  refine s_det (D.move rfl) rfl ?_
  refine s_det (D.extract rfl rfl) rfl ?_
  refine s_det (D.extract rfl rfl) rfl ?_
  refine s_det (D.assign rfl) rfl ?_
  refine s_det (D.assign rfl) rfl ?_
  refine s_nil ?_
  refine aseq ?_
  refine areg rfl ?_
  refine s_det (D.build rfl rfl ⟨_, rfl, rfl, rfl, by simp, ⟨_, rfl, rfl, rfl, by simp, ⟨_, rfl, rfl, rfl, by simp, rfl⟩⟩⟩) rfl ?_
  refine s_det (D.lit sl_Item (pc rfl rfl p0) rfl rfl (by decide)) rfl ?_
  refine s_det (D.call (evw rfl Wk.less (evc rfl (evc rfl ev0))) b_choose_Best (Pure.to (y' := .tup [ints [1], iv 0]) (choose_Best [⟨2, 3, 4⟩] 1 9 (by decide)) (by rw [wake2]))) rfl ?_
  refine s_det (D.move rfl) rfl ?_
  refine s_det (D.extract rfl rfl) rfl ?_
  refine s_det (D.extract rfl rfl) rfl ?_
  refine s_det (D.assign rfl) rfl ?_
  refine s_det (D.assign rfl) rfl ?_
  refine s_nil ?_
  refine aseq ?_
  refine areg rfl ?_
  refine s_det (D.move rfl) rfl ?_
  refine s_det (D.call (evc rfl ev0) b_graduslaw15_num (graduslaw15_num _)) rfl ?_
  refine s_det (D.eql rfl rfl (decide_eq_true (by omega))) rfl ?_
  refine s_det (D.move rfl) rfl ?_
  refine s_yes rfl rfl ?_
  refine s_det (D.move rfl) rfl ?_
  refine s_yes rfl rfl ?_
  refine s_det (D.call (evc rfl ev0) b_graduslaw15_num (graduslaw15_num _)) rfl ?_
  refine s_yes rfl rfl ?_
  refine s_det (D.eql rfl rfl (decide_eq_true (by omega))) rfl ?_
  refine s_det (D.pick rfl rfl rfl rfl) rfl ?_
  refine s_det (D.move rfl) rfl ?_
  refine s_yes rfl rfl ?_
  refine s_det (D.move rfl) rfl ?_
  refine s_yes rfl rfl ?_
  refine s_det (D.lit sl_int (pc rfl rfl p0) rfl rfl (by decide)) rfl ?_
  refine s_yes rfl rfl ?_
  refine s_det (D.call (evc rfl (evw rfl Wk.less ev0)) b_gradusref0_EqNumbers (Pure.toT (gradusref0_EqNumbers [0] [0] (by decide) (by decide)) (by simp))) rfl ?_
  refine s_det (D.pick rfl rfl rfl rfl) rfl ?_
  refine s_det (D.move rfl) rfl ?_
  refine s_yes rfl rfl ?_
  refine s_det (D.move rfl) rfl ?_
  refine s_yes rfl rfl ?_
  refine s_det (D.lit sl_int (pc rfl rfl p0) rfl rfl (by decide)) rfl ?_
  refine s_yes rfl rfl ?_
  refine s_det (D.call (evc rfl (evw rfl Wk.less ev0)) b_gradusref0_EqNumbers (gradusref0_EqNumbers [1] [1] (by decide) (by decide))) rfl ?_
  refine s_det (D.pick rfl rfl rfl rfl) rfl ?_
  refine s_det (D.assign rfl) rfl ?_
  refine s_nil ?_
  refine aret ?_
  exact ⟨[_], ⟨⟨rfl, rfl⟩, trivial⟩, rfl, rfl⟩

end Go.Proofs.Ytaiccchelchdmaa.F
