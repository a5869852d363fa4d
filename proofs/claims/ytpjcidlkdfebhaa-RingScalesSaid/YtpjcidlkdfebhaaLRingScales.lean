/- Functions of the program and of the references: what they compute, by the layer Al. Made by a program of this session (wip/al/alfill.py) out of wip/al/specs. -/
import Derived.Test.YtpjcidlkdfebhaaGa
import Derived.Test.YtpjcidlkdfebhaaAskTen
import Derived.Test.YtpjcidlkdfebhaaProg
namespace Go.Proofs.Ytpjcidlkdfebhaa.F
open Go Go.Proofs.Al
set_option linter.unusedVariables false
abbrev nsL (ns : List Int) : List Int := 0 :: 1 :: -1 :: 7 :: 4611686018427387904 :: ns

set_option maxRecDepth 10000 in
theorem graduslaw2_RingScales (ts : List Tn) (ns : List Int) (ht : ts.length ≤ 17592186044416) (hn : ns.length ≤ 17592186044416) (hf : ∀ t ∈ ts, t.fit) : Pure Try.prog 10 [.agg [.list false 2 (ts.map tv), ints ns]] (bv true) := by
  have hwt := wtT_le hf ht
  intro σ
  refine acalls Try.func10 rfl rfl (by decide) rfl rfl ?_
  refine aseq ?_
  refine areg rfl ?_
  refine s_det (D.box_i rfl rfl) rfl ?_
  refine s_det (D.assign rfl) rfl ?_
  refine s_nil ?_
  refine aseq ?_
  refine aseq ?_
  refine areg rfl ?_
  refine s_det (D.load_i rfl rfl) rfl ?_
  refine s_cmp (D.call (evc rfl ev0) b_graduslaw2_Heavy (graduslaw2_Heavy ts ns (by omega) (by omega) hf hwt)) rfl (fun h18 => ?_) (fun h18 => ?_)
  · replace h18 := of_decide_eq_true h18
    refine s_nil ?_
    refine acond_t rfl ?_
    refine aseq ?_
    refine areg rfl ?_
    refine s_det (D.assign rfl) rfl ?_
    refine s_nil ?_
    refine aret ?_
    exact ⟨[_], ⟨⟨rfl, rfl⟩, trivial⟩, rfl, rfl⟩
  · replace h18 := of_decide_eq_false h18
    obtain ⟨hts, hsm⟩ := wtT_small (l := ts) (by omega)
    refine s_nil ?_
    refine acond_f rfl ?_
    refine askip ?_
    refine aseq ?_
    refine areg rfl ?_
    refine s_det (D.lit sl_int (pc rfl rfl (pc rfl rfl (pc rfl rfl (pc rfl rfl (pc rfl rfl p0))))) rfl rfl (by decide)) rfl ?_
    refine s_det (D.field_i rfl rfl rfl) rfl ?_
    refine s_det (D.load_i rfl rfl) rfl ?_
    refine s_det (D.append_l rfl rfl sl_int rfl (by simp; omega) (by decide)) rfl ?_
    refine s_det (D.assign rfl) rfl ?_
    refine s_nil ?_
    refine aseq ?_
    refine aseq ?_
    refine areg rfl ?_
    refine s_det (D.assign rfl) rfl ?_
    refine s_nil ?_
    refine ablock ?_
    -- LOOP writes [4] keeps [1, 3]
    refine aloop (ι := Nat) (fun i => i ≤ ts.length) (fun i => ts.length - i) (fun i => [(1, .iptr (.agg [.list false 2 (ts.map tv), ints ns])), (3, ints (nsL ns)), (4, iv i)]) (fun i => σ) 0 (by omega) ?_ rfl fun i hi => ?_
    · exact (.cons rfl (.cons rfl (.cons rfl .nil)))
    refine aseq ?_
    refine aseq ?_
    refine areg rfl ?_
    refine s_det (D.move rfl) rfl ?_
    refine s_det (D.field_i rfl rfl rfl) rfl ?_
    refine s_det (D.load_i rfl rfl) rfl ?_
    refine s_det (D.len_m rfl rfl) rfl ?_
    refine s_cmp (D.lss rfl rfl rfl) rfl (fun h27 => ?_) (fun h27 => ?_)
    · replace h27 := of_decide_eq_true h27
      refine s_det (D.move rfl) rfl ?_
      refine s_yes rfl rfl ?_
      refine s_det (D.move rfl) rfl ?_
      refine s_yes rfl rfl ?_
      refine s_cmp (D.lss rfl rfl rfl) rfl (fun h30 => ?_) (fun h30 => ?_)
      · replace h30 := of_decide_eq_true h30
        have hlt : i < ts.length := by omega
        obtain ⟨a, hv⟩ : ∃ a, ts[i]? = some a := ⟨_, get_lt hlt⟩
        have hsa : a.sm := by have := hsm a (List.mem_of_getElem? hv); exact ⟨by omega, by omega⟩
        have hs1 := scaleS_sm a (-1)
        refine s_det (D.pick rfl rfl rfl rfl) rfl ?_
        refine s_nil ?_
        refine acond_t rfl ?_
        refine askip ?_
        refine aseq ?_
        refine ablock ?_
        refine aseq ?_
        refine areg rfl ?_
        refine s_det (D.field_i rfl rfl rfl) rfl ?_
        refine s_det (D.load_i rfl rfl) rfl ?_
        refine s_det (D.move rfl) rfl ?_
        refine s_det (D.idx_m rfl rfl (by omega) hv rfl) rfl ?_
        refine s_det (D.load_i rfl rfl) rfl ?_
        refine s_det (D.call (evc rfl ev0) b_gradusref0_CopyTensor (gradusref0_CopyTensor _ (by first | assumption | omega))) rfl ?_
        refine s_act rfl (A.alloc rfl rfl rfl fun b5 hb5 => ?_)
        refine s_do (A.store rfl rfl (AH.set_self ..) rfl rfl (by rfl) rfl rfl ?_)
        refine s_nil ?_
        rw [AH.set_set]
        refine afix (d := 5) rfl hb5 ?_
        refine aseq ?_
        refine areg rfl ?_
        refine s_det (D.load_i rfl rfl) rfl ?_
        refine s_det (D.call (evc rfl ev0) b_ring_Neg (ring_Neg _)) rfl ?_
        refine s_det (D.move rfl) rfl ?_
        refine s_det (D.extract rfl rfl) rfl ?_
        refine s_det (D.extract rfl rfl) rfl ?_
        refine s_act rfl (A.alloc rfl rfl rfl fun b6 hb6 => ?_)
        refine s_do (A.store rfl rfl (AH.set_self ..) rfl rfl (by rfl) rfl rfl ?_)
        refine s_det (D.assign rfl) rfl ?_
        refine s_nil ?_
        rw [AH.set_set]
        refine afix (d := 6) rfl hb6 ?_
        refine aseq ?_
        refine areg rfl ?_
        refine s_det (D.load_i rfl rfl) rfl ?_
        refine s_det (D.call (evc rfl ev0) b_ring_Total (ring_Total _)) rfl ?_
        refine s_det (D.move rfl) rfl ?_
        refine s_det (D.extract rfl rfl) rfl ?_
        refine s_det (D.extract rfl rfl) rfl ?_
        refine s_det (D.assign rfl) rfl ?_
        refine s_det (D.assign rfl) rfl ?_
        refine s_nil ?_
        refine aseq ?_
        refine areg rfl ?_
        refine s_det (D.assign rfl) rfl ?_
        refine s_det (D.assign rfl) rfl ?_
        refine s_nil ?_
        refine aseq ?_
        refine areg rfl ?_
        refine s_act rfl (A.alloc rfl rfl rfl fun b12 hb12 => ?_)
        refine s_nil ?_
        refine amidz (fun _ : Unit => True) (fun _ => [(1, .iptr (.agg [.list false 2 (ts.map tv), ints ns])), (3, ints (nsL ns)), (4, iv i), (5, .iptr (tv a)), (6, .iptr (tv (scaleS a (-1)).1)), (7, iv (scaleS a (-1)).2), (8, iv (if okTn a then sumW a.x else 0)), (9, iv (if okTn a then 0 else 1)), (10, iv (if okTn a then 0 else 1)), (11, iv (if okTn a then sumW a.x else 0)), (12, .iptr (tv (scaleS a (-1)).1))]) (fun _ => σ) ?_ ?_
        · refine aseq ?_
          refine areg rfl ?_
          refine s_det (D.load_i rfl rfl) rfl ?_
          refine s_cmp (D.call (evc rfl ev0) b_gradusref1_Tensor (gradusref1_Tensor _)) rfl (fun h51 => ?_) (fun h51 => ?_)
          · replace h51 := of_decide_eq_true h51
            refine s_nil ?_
            refine acond_t rfl ?_
            refine adraw [.det 0, .det 1, .det 2, .det 3, .det 4, .det 5, .act 6] rfl (by kernel_rfl) ?_
            refine d_det rfl (D.load_i rfl rfl) rfl ?_
            refine d_det rfl (D.call (evc rfl ev0) b_gradusref1_Total (gradusref1_Total _ (by first | assumption | omega))) rfl ?_
            refine d_det rfl (D.load_i rfl rfl) rfl ?_
            refine d_det rfl (D.call (evc rfl (evc rfl ev0)) b_gradusref1_Scale (gradusref1_Scale _ _ (by first | assumption | omega))) rfl ?_
            refine d_det rfl (D.assign rfl) rfl ?_
            refine d_det rfl (D.assign rfl) rfl ?_
            refine d_do rfl (by kernel_rfl) (A.store rfl rfl (AH.set_self ..) rfl rfl (by rfl) rfl rfl ?_)
            refine d_nil ?_
            exact ⟨(), trivial, ((Sub.refl σ).set hb12 _).set hb12 _, .cons rfl (.cons rfl (.cons rfl (.cons rfl (.cons rfl (.cons rfl (.cons rfl (.cons rfl (.cons (congrArg (fun e => some (iv e)) (if_pos h51).symm) (.cons (congrArg (fun e => some (iv e)) (if_pos h51).symm) (.fix rfl (AH.set_self ..) hb12 (by rw [scaleS, if_pos h51]; exact .refl _) .nil))))))))))⟩
          · replace h51 := of_decide_eq_false h51
            refine s_nil ?_
            refine acond_f rfl ?_
            refine askip ?_
            exact ⟨(), trivial, (Sub.refl σ).set hb12 _, .cons rfl (.cons rfl (.cons rfl (.cons rfl (.cons rfl (.cons rfl (.cons rfl (.cons rfl (.cons (congrArg (fun e => some (iv e)) (if_neg h51).symm) (.cons (congrArg (fun e => some (iv e)) (if_neg h51).symm) (.fix rfl (AH.set_self ..) hb12 (wkI (by rw [scaleS, if_neg h51])) .nil))))))))))⟩
        · intro _ _
          refine aseq ?_
          refine aseq ?_
          refine areg rfl ?_
          refine s_det (D.move rfl) rfl ?_
          refine s_det (D.call (evc rfl ev0) b_graduslaw2_num (graduslaw2_num _)) rfl ?_
          refine s_det (D.move rfl) rfl ?_
          refine s_det (D.neq rfl rfl (decide_eq_false (by rw [scaleS_err]; exact fun h => h rfl))) rfl ?_
          refine s_det (D.move rfl) rfl ?_
          refine s_yes rfl rfl ?_
          refine s_det (D.move rfl) rfl ?_
          refine s_yes rfl rfl ?_
          refine s_det (D.call (evc rfl ev0) b_graduslaw2_num (graduslaw2_num _)) rfl ?_
          refine s_yes rfl rfl ?_
          refine s_det (D.move rfl) rfl ?_
          refine s_yes rfl rfl ?_
          refine s_det (D.neq rfl rfl (decide_eq_false (fun h => h rfl))) rfl ?_
          refine s_det (D.pick rfl rfl rfl rfl) rfl ?_
          refine s_det (D.move rfl) rfl ?_
          refine s_yes rfl rfl ?_
          refine s_det (D.load_i rfl rfl) rfl ?_
          refine s_yes rfl rfl ?_
          refine s_det (D.load_i rfl rfl) rfl ?_
          refine s_yes rfl rfl ?_
          refine s_det (D.call (evc rfl (evc rfl ev0)) b_gradusref0_EqTensor (Pure.toT (gradusref0_EqTensor _ _ hs1 hs1) rfl)) rfl ?_
          refine s_yes rfl rfl ?_
          refine s_det (D.not rfl rfl) rfl ?_
          refine s_det (D.pick rfl rfl rfl rfl) rfl ?_
          refine s_det (D.move rfl) rfl ?_
          refine s_yes rfl rfl ?_
          refine s_det (D.move rfl) rfl ?_
          refine s_yes rfl rfl ?_
          refine s_det (D.move rfl) rfl ?_
          refine s_yes rfl rfl ?_
          refine s_det (D.neq rfl rfl (decide_eq_false (fun h => h rfl))) rfl ?_
          refine s_det (D.pick rfl rfl rfl rfl) rfl ?_
          refine s_nil ?_
          refine acond_f rfl ?_
          refine askip ?_
          refine aseq ?_
          refine areg rfl ?_
          refine s_det (D.assign rfl) rfl ?_
          refine s_nil ?_
          refine ablock ?_
          -- LOOP writes [13] keeps [1, 3, 4, 5, 10]
          refine aloop (ι := Nat) (fun k => k ≤ (nsL ns).length) (fun k => (nsL ns).length - k) (fun k => [(1, .iptr (.agg [.list false 2 (ts.map tv), ints ns])), (3, ints (nsL ns)), (4, iv i), (5, .iptr (tv a)), (10, iv (if okTn a then 0 else 1)), (13, iv k)]) (fun k => σ) 0 (by omega) ?_ rfl fun k hk => ?_
          · exact (.cons rfl (.cons rfl (.cons rfl (.cons rfl (.cons rfl (.cons rfl .nil))))))
          refine aseq ?_
          refine aseq ?_
          refine areg rfl ?_
          refine s_det (D.move rfl) rfl ?_
          refine s_det (D.move rfl) rfl ?_
          refine s_det (D.len_m rfl rfl) rfl ?_
          refine s_cmp (D.lss rfl rfl rfl) rfl (fun h80 => ?_) (fun h80 => ?_)
          · replace h80 := of_decide_eq_true h80
            refine s_det (D.move rfl) rfl ?_
            refine s_yes rfl rfl ?_
            refine s_det (D.move rfl) rfl ?_
            refine s_yes rfl rfl ?_
            refine s_cmp (D.lss rfl rfl rfl) rfl (fun h83 => ?_) (fun h83 => ?_)
            · replace h83 := of_decide_eq_true h83
              have hltk : k < (nsL ns).length := by omega
              obtain ⟨n, hvn⟩ : ∃ n, (nsL ns)[k]? = some n := ⟨_, get_lt hltk⟩
              have hsn := scaleS_sm a n
              have hnl : (nsL ns).length = ns.length + 5 := by simp
              have hk11 : k < 11 := by omega
              refine s_det (D.pick rfl rfl rfl rfl) rfl ?_
              refine s_nil ?_
              refine acond_t rfl ?_
              refine askip ?_
              refine aseq ?_
              refine ablock ?_
              refine aseq ?_
              refine adraw [.det 0, .det 1, .det 2, .det 3, .det 4, .det 5, .det 6, .det 7, .det 8, .act 9, .act 10, .det 11] rfl (by kernel_rfl) ?_
              refine d_det rfl (D.load_i rfl rfl) rfl ?_
              refine d_det rfl (D.move rfl) rfl ?_
              refine d_det rfl (D.move rfl) rfl ?_
              refine d_det rfl (D.idx_m rfl rfl (by omega) hvn rfl) rfl ?_
              refine d_det rfl (D.load_i rfl rfl) rfl ?_
              refine d_det rfl (D.call (evc rfl (evc rfl ev0)) b_ring_Scale (ring_Scale _ _)) rfl ?_
              refine d_det rfl (D.move rfl) rfl ?_
              refine d_det rfl (D.extract rfl rfl) rfl ?_
              refine d_det rfl (D.extract rfl rfl) rfl ?_
              refine d_act rfl rfl rfl (A.alloc rfl rfl rfl fun b14 hb14 => ?_)
              refine d_do rfl (by kernel_rfl) (A.store rfl rfl (AH.set_self ..) rfl rfl (by rfl) rfl rfl ?_)
              refine d_det rfl (D.assign rfl) rfl ?_
              refine d_nil ?_
              rw [AH.set_set]
              refine afix (d := 14) rfl hb14 ?_
              refine aseq ?_
              refine areg rfl ?_
              refine s_act rfl (A.alloc rfl rfl rfl fun b16 hb16 => ?_)
              refine s_nil ?_
              refine amidz (fun _ : Unit => True) (fun _ => [(1, .iptr (.agg [.list false 2 (ts.map tv), ints ns])), (3, ints (nsL ns)), (4, iv i), (5, .iptr (tv a)), (10, iv (if okTn a then 0 else 1)), (13, iv k), (14, .iptr (tv (scaleS a n).1)), (15, iv (scaleS a n).2), (16, .iptr (tv (scaleS a n).1))]) (fun _ => σ) ?_ ?_
              · refine aseq ?_
                refine areg rfl ?_
                refine s_det (D.move rfl) rfl ?_
                refine s_cmp (D.eql rfl rfl rfl) rfl (fun h97 => ?_) (fun h97 => ?_)
                · replace h97 := of_decide_eq_true h97
                  rw [err0] at h97
                  refine s_nil ?_
                  refine acond_t rfl ?_
                  refine adraw [.det 0, .det 1, .det 2, .det 3, .det 4, .det 5, .act 6] rfl (by kernel_rfl) ?_
                  refine d_det rfl (D.load_i rfl rfl) rfl ?_
                  refine d_det rfl (D.move rfl) rfl ?_
                  refine d_det rfl (D.move rfl) rfl ?_
                  refine d_det rfl (D.idx_m rfl rfl (by omega) hvn rfl) rfl ?_
                  refine d_det rfl (D.load_i rfl rfl) rfl ?_
                  refine d_det rfl (D.call (evc rfl (evc rfl ev0)) b_gradusref1_Scale (gradusref1_Scale _ _ (by first | assumption | omega))) rfl ?_
                  refine d_do rfl (by kernel_rfl) (A.store rfl rfl (AH.set_self ..) rfl rfl (by rfl) rfl rfl ?_)
                  refine d_nil ?_
                  exact ⟨(), trivial, ((Sub.refl σ).set hb16 _).set hb16 _, .cons rfl (.cons rfl (.cons rfl (.cons rfl (.cons rfl (.cons rfl (.cons rfl (.cons rfl (.fix rfl (AH.set_self ..) hb16 (by rw [scaleS, if_pos h97]; exact .refl _) .nil))))))))⟩
                · replace h97 := of_decide_eq_false h97
                  rw [err0] at h97
                  refine s_nil ?_
                  refine acond_f rfl ?_
                  refine askip ?_
                  exact ⟨(), trivial, (Sub.refl σ).set hb16 _, .cons rfl (.cons rfl (.cons rfl (.cons rfl (.cons rfl (.cons rfl (.cons rfl (.cons rfl (.fix rfl (AH.set_self ..) hb16 (wkI (by rw [scaleS, if_neg h97])) .nil))))))))⟩
              · intro _ _
                refine aseq ?_
                refine adraw [.det 0, .det 1, .det 2, .det 3, .det 4, .det 5, .det 6, .det 7, .det 8, .det 9, .det 10, .det 11, .det 12, .det 13, .det 14, .det 15, .det 16, .det 17, .det 18, .det 19] rfl (by kernel_rfl) ?_
                refine d_det rfl (D.move rfl) rfl ?_
                refine d_det rfl (D.call (evc rfl ev0) b_graduslaw2_num (graduslaw2_num _)) rfl ?_
                refine d_det rfl (D.move rfl) rfl ?_
                refine d_det rfl (D.neq rfl rfl (decide_eq_false (by rw [scaleS_err]; exact fun h => h rfl))) rfl ?_
                refine d_det rfl (D.move rfl) rfl ?_
                refine d_yes rfl rfl rfl (D.load_i rfl rfl) rfl ?_
                refine d_yes rfl rfl rfl (D.load_i rfl rfl) rfl ?_
                refine d_yes rfl rfl rfl (D.call (evc rfl (evc rfl ev0)) b_gradusref0_EqTensor (Pure.toT (gradusref0_EqTensor _ _ hsn hsn) rfl)) rfl ?_
                refine d_yes rfl rfl rfl (D.not rfl rfl) rfl ?_
                refine d_det rfl (D.pick rfl rfl rfl rfl) rfl ?_
                refine d_det rfl (D.move rfl) rfl ?_
                refine d_yes rfl rfl rfl (D.load_i rfl rfl) rfl ?_
                refine d_yes rfl rfl rfl (D.field_i rfl rfl rfl) rfl ?_
                refine d_yes rfl rfl rfl (D.load_i rfl rfl) rfl ?_
                refine d_yes rfl rfl rfl (D.move rfl) rfl ?_
                refine d_yes rfl rfl rfl (D.idx_m rfl rfl (by omega) hv rfl) rfl ?_
                refine d_yes rfl rfl rfl (D.load_i rfl rfl) rfl ?_
                refine d_yes rfl rfl rfl (D.call (evc rfl (evc rfl ev0)) b_gradusref0_EqTensor (Pure.toT (gradusref0_EqTensor _ _ hsa hsa) rfl)) rfl ?_
                refine d_yes rfl rfl rfl (D.not rfl rfl) rfl ?_
                refine d_det rfl (D.pick rfl rfl rfl rfl) rfl ?_
                refine d_nil ?_
                refine acond_f rfl ?_
                refine askip ?_
                refine areg rfl ?_
                refine s_det (D.move rfl) rfl ?_
                refine s_det (D.add rfl rfl (w64 (by omega) (by omega))) rfl ?_
                refine s_det (D.assign rfl) rfl ?_
                refine s_nil ?_
                exact ⟨k + 1, by omega, by omega, (.cons rfl (.cons rfl (.cons rfl (.cons rfl (.cons rfl (.cons rfl .nil)))))), rfl⟩
            · replace h83 := of_decide_eq_false h83
              refine s_det (D.pick rfl rfl rfl rfl) rfl ?_
              refine s_nil ?_
              refine acond_f rfl ?_
              refine aexit ?_
              refine areg rfl ?_
              refine s_det (D.move rfl) rfl ?_
              refine s_det (D.add rfl rfl (w64 (by omega) (by omega))) rfl ?_
              refine s_det (D.assign rfl) rfl ?_
              refine s_nil ?_
              exact ⟨i + 1, by omega, by omega, (.cons rfl (.cons rfl (.cons rfl .nil))), rfl⟩
          · replace h80 := of_decide_eq_false h80
            refine s_det (D.move rfl) rfl ?_
            refine s_no rfl rfl rfl rfl ?_
            refine s_no rfl rfl rfl rfl ?_
            refine s_det (D.pick rfl rfl rfl rfl) rfl ?_
            refine s_nil ?_
            refine acond_f rfl ?_
            refine aexit ?_
            refine areg rfl ?_
            refine s_det (D.move rfl) rfl ?_
            refine s_det (D.add rfl rfl (w64 (by omega) (by omega))) rfl ?_
            refine s_det (D.assign rfl) rfl ?_
            refine s_nil ?_
            exact ⟨i + 1, by omega, by omega, (.cons rfl (.cons rfl (.cons rfl .nil))), rfl⟩
      · replace h30 := of_decide_eq_false h30
        refine s_det (D.pick rfl rfl rfl rfl) rfl ?_
        refine s_nil ?_
        refine acond_f rfl ?_
        refine aexit ?_
        refine aseq ?_
        refine areg rfl ?_
        refine s_det (D.call ev0 b_graduslaw2_wakes graduslaw2_wakes) rfl ?_
        refine s_det (D.assign rfl) rfl ?_
        refine s_nil ?_
        refine aret ?_
        exact ⟨[_], ⟨⟨rfl, rfl⟩, trivial⟩, rfl, rfl⟩
    · replace h27 := of_decide_eq_false h27
      refine s_det (D.move rfl) rfl ?_
      refine s_no rfl rfl rfl rfl ?_
      refine s_no rfl rfl rfl rfl ?_
      refine s_det (D.pick rfl rfl rfl rfl) rfl ?_
      refine s_nil ?_
      refine acond_f rfl ?_
      refine aexit ?_
      refine aseq ?_
      refine areg rfl ?_
      refine s_det (D.call ev0 b_graduslaw2_wakes graduslaw2_wakes) rfl ?_
      refine s_det (D.assign rfl) rfl ?_
      refine s_nil ?_
      refine aret ?_
      exact ⟨[_], ⟨⟨rfl, rfl⟩, trivial⟩, rfl, rfl⟩

theorem ringScales_pure (x : Ask2) (hx : G46 x) : Pure Try.prog 10 [enc46 x] (bv true) := graduslaw2_RingScales x.1 x.2 hx.ok.1 hx.ok.2.1 hx.ok.2.2

end Go.Proofs.Ytpjcidlkdfebhaa.F
