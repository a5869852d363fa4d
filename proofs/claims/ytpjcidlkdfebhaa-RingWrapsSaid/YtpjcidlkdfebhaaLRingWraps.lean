/- Functions of the program and of the references: what they compute, by the layer Al. Made by a program of this session (wip/al/alfill.py) out of wip/al/specs. -/
import Derived.Test.YtpjcidlkdfebhaaGa
import Derived.Test.YtpjcidlkdfebhaaAskTen
import Derived.Test.YtpjcidlkdfebhaaProg
namespace Go.Proofs.Ytpjcidlkdfebhaa.F
open Go Go.Proofs.Al
set_option linter.unusedVariables false
abbrev aW : Tn := ⟨[4], [9223372036854775807, -9223372036854775808, 9223372036854775807, 4611686018427387904]⟩
abbrev bW : Tn := ⟨[4], [1, -1, 2, 4]⟩

set_option maxRecDepth 10000 in
theorem graduslaw2_RingWraps (ts : List Tn) (ns : List Int) (ht : ts.length ≤ 4611686018427387904) (hn : ns.length ≤ 4611686018427387904) : Pure Try.prog 11 [.agg [.list false 2 (ts.map tv), ints ns]] (bv true) := by
  intro σ
  refine acalls Try.func11 rfl rfl (by decide) rfl rfl ?_
  refine aseq ?_
  refine areg rfl ?_
  refine s_det (D.box_i rfl rfl) rfl ?_
  refine s_det (D.assign rfl) rfl ?_
  refine s_nil ?_
  refine aseq ?_
  refine areg rfl ?_
  refine s_det (D.assign rfl) rfl ?_
  refine s_det (D.assign rfl) rfl ?_
  refine s_nil ?_
  refine aseq ?_
  refine areg rfl ?_
  refine s_det (D.lit sl_int (pc rfl rfl p0) rfl rfl (by decide)) rfl ?_
  refine s_det (D.move rfl) rfl ?_
  refine s_det (D.move rfl) rfl ?_
  refine s_det (D.move rfl) rfl ?_
  refine s_det (D.lit sl_int (pc rfl rfl (pc rfl rfl (pc rfl rfl (pc rfl rfl p0)))) rfl rfl (by decide)) rfl ?_
  refine s_det (D.build rfl rfl ⟨_, rfl, rfl, rfl, by simp, ⟨_, rfl, rfl, rfl, by simp, rfl⟩⟩) rfl ?_
  refine s_act rfl (A.alloc rfl rfl rfl fun b5 hb5 => ?_)
  refine s_do (A.store rfl rfl (AH.set_self ..) rfl rfl (by rfl) rfl rfl ?_)
  refine s_nil ?_
  rw [AH.set_set]
  refine afix (d := 5) rfl hb5 ?_
  refine aseq ?_
  refine areg rfl ?_
  refine s_det (D.lit sl_int (pc rfl rfl p0) rfl rfl (by decide)) rfl ?_
  refine s_det (D.lit sl_int (pc rfl rfl (pc rfl rfl (pc rfl rfl (pc rfl rfl p0)))) rfl rfl (by decide)) rfl ?_
  refine s_det (D.build rfl rfl ⟨_, rfl, rfl, rfl, by simp, ⟨_, rfl, rfl, rfl, by simp, rfl⟩⟩) rfl ?_
  refine s_act rfl (A.alloc rfl rfl rfl fun b6 hb6 => ?_)
  refine s_do (A.store rfl rfl (AH.set_self ..) rfl rfl (by rfl) rfl rfl ?_)
  refine s_nil ?_
  rw [AH.set_set]
  refine afix (d := 6) rfl hb6 ?_
  refine aseq ?_
  refine areg rfl ?_
  refine s_det (D.load_i rfl rfl) rfl ?_
  refine s_det (D.load_i rfl rfl) rfl ?_
  refine s_det (D.call (evw rfl (wkT (t := aW) rfl rfl) (evw rfl (wkT (t := bW) rfl rfl) ev0)) b_ring_Add (ring_Add aW bW)) rfl ?_
  refine s_det (D.move rfl) rfl ?_
  refine s_det (D.extract rfl rfl) rfl ?_
  refine s_det (D.extract rfl rfl) rfl ?_
  refine s_act rfl (A.alloc rfl rfl rfl fun b7 hb7 => ?_)
  refine s_do (A.store rfl rfl (AH.set_self ..) rfl rfl (by rfl) rfl rfl ?_)
  refine s_det (D.assign rfl) rfl ?_
  refine s_nil ?_
  rw [AH.set_set]
  refine afix (d := 7) rfl hb7 ?_
  refine aseq ?_
  refine areg rfl ?_
  refine s_det (D.load_i rfl rfl) rfl ?_
  refine s_det (D.load_i rfl rfl) rfl ?_
  refine s_det (D.call (evw rfl (wkT (t := aW) rfl rfl) (evw rfl (wkT (t := bW) rfl rfl) ev0)) b_ring_Mul (ring_Mul aW bW)) rfl ?_
  refine s_det (D.move rfl) rfl ?_
  refine s_det (D.extract rfl rfl) rfl ?_
  refine s_det (D.extract rfl rfl) rfl ?_
  refine s_act rfl (A.alloc rfl rfl rfl fun b9 hb9 => ?_)
  refine s_do (A.store rfl rfl (AH.set_self ..) rfl rfl (by rfl) rfl rfl ?_)
  refine s_det (D.assign rfl) rfl ?_
  refine s_nil ?_
  rw [AH.set_set]
  refine afix (d := 9) rfl hb9 ?_
  refine aseq ?_
  refine areg rfl ?_
  refine s_det (D.load_i rfl rfl) rfl ?_
  refine s_det (D.call (evw rfl (wkT (t := aW) rfl rfl) ev0) b_ring_Neg (ring_Neg aW)) rfl ?_
  refine s_det (D.move rfl) rfl ?_
  refine s_det (D.extract rfl rfl) rfl ?_
  refine s_det (D.extract rfl rfl) rfl ?_
  refine s_act rfl (A.alloc rfl rfl rfl fun b11 hb11 => ?_)
  refine s_do (A.store rfl rfl (AH.set_self ..) rfl rfl (by rfl) rfl rfl ?_)
  refine s_det (D.assign rfl) rfl ?_
  refine s_nil ?_
  rw [AH.set_set]
  refine afix (d := 11) rfl hb11 ?_
  refine aseq ?_
  refine areg rfl ?_
  refine s_det (D.load_i rfl rfl) rfl ?_
  refine s_det (D.call (evw rfl (wkT (t := aW) rfl rfl) ev0) b_ring_Total (ring_Total aW)) rfl ?_
  refine s_det (D.move rfl) rfl ?_
  refine s_det (D.extract rfl rfl) rfl ?_
  refine s_det (D.extract rfl rfl) rfl ?_
  refine s_det (D.assign rfl) rfl ?_
  refine s_det (D.assign rfl) rfl ?_
  refine s_nil ?_
  refine aseq ?_
  refine areg rfl ?_
  refine s_det (D.move rfl) rfl ?_
  refine s_det (D.call (evc rfl ev0) b_graduslaw2_num (graduslaw2_num _)) rfl ?_
  refine s_det (D.move rfl) rfl ?_
  refine s_det (D.call (evc rfl ev0) b_graduslaw2_num (graduslaw2_num _)) rfl ?_
  refine s_det (D.add rfl rfl (r := 0) (by decide +kernel)) rfl ?_
  refine s_det (D.move rfl) rfl ?_
  refine s_det (D.call (evc rfl ev0) b_graduslaw2_num (graduslaw2_num _)) rfl ?_
  refine s_det (D.add rfl rfl (r := 0) (by decide +kernel)) rfl ?_
  refine s_det (D.move rfl) rfl ?_
  refine s_det (D.call (evc rfl ev0) b_graduslaw2_num (graduslaw2_num _)) rfl ?_
  refine s_det (D.add rfl rfl (r := 0) (by decide +kernel)) rfl ?_
  refine s_det (D.eql rfl rfl (decide_eq_true (by decide))) rfl ?_
  refine s_det (D.move rfl) rfl ?_
  refine s_yes rfl rfl ?_
  refine s_det (D.field_i rfl rfl rfl) rfl ?_
  refine s_yes rfl rfl ?_
  refine s_det (D.load_i rfl rfl) rfl ?_
  refine s_yes rfl rfl ?_
  refine s_det (D.move rfl) rfl ?_
  refine s_yes rfl rfl ?_
  refine s_det (D.move rfl) rfl ?_
  refine s_yes rfl rfl ?_
  refine s_det (D.move rfl) rfl ?_
  refine s_yes rfl rfl ?_
  refine s_det (D.add rfl rfl (r := -9223372036854775807) (by decide +kernel)) rfl ?_
  refine s_yes rfl rfl ?_
  refine s_det (D.lit sl_int (pc rfl rfl (pc rfl rfl (pc rfl rfl (pc rfl rfl p0)))) rfl rfl (by decide)) rfl ?_
  refine s_yes rfl rfl ?_
  refine s_det (D.call (evc rfl (evw rfl Wk.less ev0)) b_gradusref0_EqNumbers (Pure.toT (gradusref0_EqNumbers (twoS opA aW bW).1.x [-9223372036854775808, 9223372036854775807, -9223372036854775807, 4611686018427387908] (by decide +kernel) (by decide)) (by decide +kernel))) rfl ?_
  refine s_det (D.pick rfl rfl rfl rfl) rfl ?_
  refine s_det (D.move rfl) rfl ?_
  refine s_yes rfl rfl ?_
  refine s_det (D.field_i rfl rfl rfl) rfl ?_
  refine s_yes rfl rfl ?_
  refine s_det (D.load_i rfl rfl) rfl ?_
  refine s_yes rfl rfl ?_
  refine s_det (D.move rfl) rfl ?_
  refine s_yes rfl rfl ?_
  refine s_det (D.move rfl) rfl ?_
  refine s_yes rfl rfl ?_
  refine s_det (D.lit sl_int (pc rfl rfl (pc rfl rfl (pc rfl rfl (pc rfl rfl p0)))) rfl rfl (by decide)) rfl ?_
  refine s_yes rfl rfl ?_
  refine s_det (D.call (evc rfl (evw rfl Wk.less ev0)) b_gradusref0_EqNumbers (Pure.toT (gradusref0_EqNumbers (twoS opM aW bW).1.x [9223372036854775807, -9223372036854775808, -2, 0] (by decide +kernel) (by decide)) (by decide +kernel))) rfl ?_
  refine s_det (D.pick rfl rfl rfl rfl) rfl ?_
  refine s_det (D.move rfl) rfl ?_
  refine s_yes rfl rfl ?_
  refine s_det (D.field_i rfl rfl rfl) rfl ?_
  refine s_yes rfl rfl ?_
  refine s_det (D.load_i rfl rfl) rfl ?_
  refine s_yes rfl rfl ?_
  refine s_det (D.move rfl) rfl ?_
  refine s_yes rfl rfl ?_
  refine s_det (D.neg rfl (r := -9223372036854775807) (by decide +kernel)) rfl ?_
  refine s_yes rfl rfl ?_
  refine s_det (D.move rfl) rfl ?_
  refine s_yes rfl rfl ?_
  refine s_det (D.move rfl) rfl ?_
  refine s_yes rfl rfl ?_
  refine s_det (D.neg rfl (r := -9223372036854775807) (by decide +kernel)) rfl ?_
  refine s_yes rfl rfl ?_
  refine s_det (D.lit sl_int (pc rfl rfl (pc rfl rfl (pc rfl rfl (pc rfl rfl p0)))) rfl rfl (by decide)) rfl ?_
  refine s_yes rfl rfl ?_
  refine s_det (D.call (evc rfl (evw rfl Wk.less ev0)) b_gradusref0_EqNumbers (Pure.toT (gradusref0_EqNumbers (scaleS aW (-1)).1.x [-9223372036854775807, -9223372036854775808, -9223372036854775807, -4611686018427387904] (by decide +kernel) (by decide)) (by decide +kernel))) rfl ?_
  refine s_det (D.pick rfl rfl rfl rfl) rfl ?_
  refine s_det (D.move rfl) rfl ?_
  refine s_yes rfl rfl ?_
  refine s_det (D.move rfl) rfl ?_
  refine s_yes rfl rfl ?_
  refine s_det (D.field_i rfl rfl rfl) rfl ?_
  refine s_yes rfl rfl ?_
  refine s_det (D.load_i rfl rfl) rfl ?_
  refine s_yes rfl rfl ?_
  refine s_det (D.call (evw rfl Wk.less ev0) b_graduslaw2_sum (graduslaw2_sum aW.x (by decide))) rfl ?_
  refine s_yes rfl rfl ?_
  refine s_det (D.eql rfl rfl (decide_eq_true (by decide +kernel))) rfl ?_
  refine s_det (D.pick rfl rfl rfl rfl) rfl ?_
  refine s_det (D.move rfl) rfl ?_
  refine s_yes rfl rfl ?_
  refine s_det (D.field_i rfl rfl rfl) rfl ?_
  refine s_yes rfl rfl ?_
  refine s_det (D.load_i rfl rfl) rfl ?_
  refine s_yes rfl rfl ?_
  refine s_det (D.len_m rfl rfl) rfl ?_
  refine s_yes rfl rfl ?_
  refine s_det (D.geq rfl rfl (decide_eq_true (by omega))) rfl ?_
  refine s_det (D.pick rfl rfl rfl rfl) rfl ?_
  refine s_det (D.move rfl) rfl ?_
  refine s_yes rfl rfl ?_
  refine s_det (D.call ev0 b_graduslaw2_wakes graduslaw2_wakes) rfl ?_
  refine s_det (D.pick rfl rfl rfl rfl) rfl ?_
  refine s_det (D.assign rfl) rfl ?_
  refine s_nil ?_
  refine aret ?_
  exact ⟨[_], ⟨⟨rfl, rfl⟩, trivial⟩, rfl, rfl⟩

theorem ringWraps_pure (x : Ask2) (hx : G46 x) : Pure Try.prog 11 [enc46 x] (bv true) := graduslaw2_RingWraps x.1 x.2 (by have := hx.1.1; omega) (by have := hx.2.1; omega)

end Go.Proofs.Ytpjcidlkdfebhaa.F
