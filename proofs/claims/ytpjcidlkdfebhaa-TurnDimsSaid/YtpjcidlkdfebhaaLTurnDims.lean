/- Functions of the program and of the references: what they compute, by the layer Al. Made by a program of this session (wip/al/alfill.py) out of wip/al/specs. -/
import Derived.Test.YtpjcidlkdfebhaaGh
import Derived.Test.YtpjcidlkdfebhaaAskB
import Derived.Test.YtpjcidlkdfebhaaProg
namespace Go.Proofs.Ytpjcidlkdfebhaa.F
open Go Go.Proofs.Al
set_option linter.unusedVariables false
set_option linter.unusedSimpArgs false
set_option maxRecDepth 10000 in
theorem graduslaw3_TurnDims (ts : List Tn) (ns : List Int) (ds : List (List Int)) (ht : ts.length ≤ 17592186044416) (hn : ns.length ≤ 17592186044416) (hf : ∀ t ∈ ts, t.fit) (hD : ds.length ≤ 17592186044416) (hg : ∀ t ∈ ds, t.length ≤ 17592186044416) : Pure Try.prog 14 [.agg [.agg [.list false 2 (ts.map tv), ints ns], .list false 1 (ds.map ints)]] (bv true) := by
  intro σ
  refine acalls Try.func14 rfl rfl (by decide) rfl rfl ?_
  refine aseq ?_
  refine areg rfl ?_
  refine s_det (D.box_i rfl rfl) rfl ?_
  refine s_det (D.assign rfl) rfl ?_
  refine s_nil ?_
  refine aseq ?_
  refine aseq ?_
  refine areg rfl ?_
  refine s_det (D.load_i rfl rfl) rfl ?_
  refine s_cmp (D.call (evc rfl ev0) b_graduslaw3_Heavy (graduslaw3_Heavy ts ns ds ht hn hf hD hg)) rfl (fun h26 => ?_) (fun h26 => ?_)
  · replace h26 := of_decide_eq_true h26
    refine s_nil ?_
    refine acond_t rfl ?_
    refine aseq ?_
    refine areg rfl ?_
    refine s_det (D.assign rfl) rfl ?_
    refine s_nil ?_
    refine aret ?_
    exact ⟨[_], ⟨⟨rfl, rfl⟩, trivial⟩, rfl, rfl⟩
  · replace h26 := of_decide_eq_false h26
    obtain ⟨hts, hsm⟩ := wtT_small (l := ts) (by omega)
    obtain ⟨hdl, hds⟩ := wtL_small (l := ds) (by omega)
    refine s_nil ?_
    refine acond_f rfl ?_
    refine askip ?_
    refine amidz (fun _ : Unit => True) (fun _ => []) (fun _ => σ) ?_ ?_
    · refine aseq ?_
      refine areg rfl ?_
      refine s_det (D.assign rfl) rfl ?_
      refine s_nil ?_
      refine ablock ?_
      -- LOOP writes [3] keeps [1]
      refine aloop (ι := Nat) (fun i => i ≤ ts.length) (fun i => ts.length - i) (fun i => [(1, .iptr (.agg [.agg [.list false 2 (ts.map tv), ints ns], .list false 1 (ds.map ints)])), (3, iv i)]) (fun i => σ) 0 (by omega) ?_ rfl fun i hi => ?_
      · exact (.cons rfl (.cons rfl .nil))
      refine aseq ?_
      refine aseq ?_
      refine areg rfl ?_
      refine s_det (D.move rfl) rfl ?_
      refine s_det (D.field_i rfl rfl rfl) rfl ?_
      refine s_det (D.field_i rfl rfl rfl) rfl ?_
      refine s_det (D.load_i rfl rfl) rfl ?_
      refine s_det (D.len_m rfl rfl) rfl ?_
      refine s_cmp (D.lss rfl rfl rfl) rfl (fun h32 => ?_) (fun h32 => ?_)
      · replace h32 := of_decide_eq_true h32
        refine s_det (D.move rfl) rfl ?_
        refine s_yes rfl rfl ?_
        refine s_det (D.move rfl) rfl ?_
        refine s_yes rfl rfl ?_
        refine s_cmp (D.lss rfl rfl rfl) rfl (fun h35 => ?_) (fun h35 => ?_)
        · replace h35 := of_decide_eq_true h35
          obtain ⟨a, hva⟩ : ∃ a, ts[i]? = some a := ⟨_, get_lt (by omega)⟩
          have hsa : a.sm := by have := hsm a (List.mem_of_getElem? hva); exact ⟨by omega, by omega⟩
          have hsl := hsm a (List.mem_of_getElem? hva)
          refine s_det (D.pick rfl rfl rfl rfl) rfl ?_
          refine s_nil ?_
          refine acond_t rfl ?_
          refine askip ?_
          refine aseq ?_
          refine ablock ?_
          refine aseq ?_
          refine areg rfl ?_
          refine s_det (D.field_i rfl rfl rfl) rfl ?_
          refine s_det (D.field_i rfl rfl rfl) rfl ?_
          refine s_det (D.load_i rfl rfl) rfl ?_
          refine s_det (D.move rfl) rfl ?_
          refine s_det (D.idx_m rfl rfl (by omega) hva rfl) rfl ?_
          refine s_det (D.load_i rfl rfl) rfl ?_
          refine s_det (D.call (evc rfl ev0) b_gradusref0_CopyTensor (gradusref0_CopyTensor a hsa)) rfl ?_
          refine s_act rfl (A.alloc rfl rfl rfl fun b4 hb4 => ?_)
          refine s_do (A.store rfl rfl (AH.set_self ..) rfl rfl (by rfl) rfl rfl ?_)
          refine s_nil ?_
          rw [AH.set_set]
          refine afix (d := 4) rfl hb4 ?_
          refine aseq ?_
          refine areg rfl ?_
          refine s_det (D.load_i rfl rfl) rfl ?_
          refine s_det (D.call (evc rfl ev0) b_gradusref1_Tensor (gradusref1_Tensor a)) rfl ?_
          refine s_det (D.assign rfl) rfl ?_
          refine s_nil ?_
          refine aseq ?_
          refine areg rfl ?_
          refine s_det (D.load_i rfl rfl) rfl ?_
          refine s_act rfl (A.call (evc rfl ev0) b_turn_Turn (turn_Turn_own a _) fun y σ' hy => ?_)
          obtain ⟨_, rfl, b50, c50, hb50, hc50, hn50, rfl, rfl⟩ := hy
          refine s_det (D.move rfl) rfl ?_
          refine s_det (D.extract rfl rfl) rfl ?_
          refine s_det (D.extract rfl rfl) rfl ?_
          refine s_act rfl (A.alloc rfl rfl rfl fun b6 hb6 => ?_)
          refine s_do (A.store rfl rfl (AH.set_self ..) rfl rfl (by rfl) rfl rfl ?_)
          refine s_det (D.assign rfl) rfl ?_
          refine s_nil ?_
          rw [AH.set_set]
          refine afix (d := 6) rfl hb6 ?_
          refine aseq ?_
          refine areg rfl ?_
          refine s_det (D.assign rfl) rfl ?_
          refine s_nil ?_
          refine aseq ?_
          refine areg rfl ?_
          refine s_act rfl (A.alloc rfl rfl rfl fun b9 hb9 => ?_)
          refine s_nil ?_
          refine amidz (fun _ : Unit => True) (fun _ => [(1, .iptr (.agg [.agg [.list false 2 (ts.map tv), ints ns], .list false 1 (ds.map ints)])), (3, iv i), (4, .iptr (tv a)), (5, bv (decide (okTn a))), (6, .iptr (.agg [.ref b50 1 0 (turnS a).1.d.length, .ref c50 1 0 (turnS a).1.x.length])), (7, iv (turnS a).2), (8, iv (turnS a).2), (9, .iptr (tv (turnS a).1))]) (fun _ => σ.ten b50 c50 (turnS a).1.d (turnS a).1.x) ?_ ?_
          · refine acase (d := 5) rfl (fun h5 => ?_) (fun h5 => ?_)
            · replace h5 := of_decide_eq_true h5
              refine aseq ?_
              refine areg rfl ?_
              refine s_det (D.move rfl) rfl ?_
              refine s_nil ?_
              refine acond_t rfl ?_
              refine aseq ?_
              refine areg rfl ?_
              refine s_det (D.assign rfl) rfl ?_
              refine s_nil ?_
              refine aseq ?_
              refine areg rfl ?_
              refine s_det (D.field_i rfl rfl rfl) rfl ?_
              refine s_det (D.load_i rfl rfl) rfl ?_
              refine s_det (D.len_m rfl rfl) rfl ?_
              refine s_cmp (D.eql rfl rfl rfl) rfl (fun h57 => ?_) (fun h57 => ?_)
              · replace h57 := of_decide_eq_true h57
                obtain ⟨r, c, x, rfl, hx, hr, hr8, hc, hc8⟩ := h5.mat (by omega)
                have hp := turnS_k h5
                refine s_nil ?_
                refine acond_t rfl ?_
                refine areg rfl ?_
                refine s_det (D.load_i rfl rfl) rfl ?_
                refine s_det (D.call (evc rfl ev0) b_gradusref1_Turn (gradusref1_Turn r c x hr hr8 hc hc8 hx)) rfl ?_
                refine s_det (D.assign rfl) rfl ?_
                refine s_do (A.store rfl rfl (AH.set_self ..) rfl rfl (by rfl) rfl rfl ?_)
                refine s_nil ?_
                exact ⟨(), trivial, (by repeat (first | exact Sub.refl _ | refine Sub.set ?_ (by first | assumption | exact (AH.set_none (by assumption)).1 | exact (AH.set_none (AH.set_none (by assumption)).1).1 | exact (AH.set_none (AH.set_none (AH.set_none (by assumption)).1).1).1 | exact (AH.set_none (AH.set_none (AH.set_none (AH.set_none (by assumption)).1).1).1).1 | exact (AH.set_none (AH.set_none (AH.set_none (AH.set_none (AH.set_none (by assumption)).1).1).1).1).1 | exact (AH.set_none (AH.set_none (AH.set_none (AH.set_none (AH.set_none (AH.set_none (by assumption)).1).1).1).1).1).1) _)), .cons rfl (.cons rfl (.cons rfl (.cons (congrArg (fun e => some (bv e)) (decide_eq_true h5).symm) (.cons rfl (.cons rfl (.cons (congrArg (fun e : Tn × Int => some (iv e.2)) hp.symm) (.fix rfl (AH.set_self ..) (by first | assumption | exact (AH.set_none (by assumption)).1 | exact (AH.set_none (AH.set_none (by assumption)).1).1 | exact (AH.set_none (AH.set_none (AH.set_none (by assumption)).1).1).1 | exact (AH.set_none (AH.set_none (AH.set_none (AH.set_none (by assumption)).1).1).1).1 | exact (AH.set_none (AH.set_none (AH.set_none (AH.set_none (AH.set_none (by assumption)).1).1).1).1).1 | exact (AH.set_none (AH.set_none (AH.set_none (AH.set_none (AH.set_none (AH.set_none (by assumption)).1).1).1).1).1).1) (by rw [hp]; exact .refl _) .nil)))))))⟩
              · replace h57 := of_decide_eq_false h57
                have hp := turnS_e h5 (by omega)
                refine s_nil ?_
                refine acond_f rfl ?_
                refine askip ?_
                exact ⟨(), trivial, (by repeat (first | exact Sub.refl _ | refine Sub.set ?_ (by first | assumption | exact (AH.set_none (by assumption)).1 | exact (AH.set_none (AH.set_none (by assumption)).1).1 | exact (AH.set_none (AH.set_none (AH.set_none (by assumption)).1).1).1 | exact (AH.set_none (AH.set_none (AH.set_none (AH.set_none (by assumption)).1).1).1).1 | exact (AH.set_none (AH.set_none (AH.set_none (AH.set_none (AH.set_none (by assumption)).1).1).1).1).1 | exact (AH.set_none (AH.set_none (AH.set_none (AH.set_none (AH.set_none (AH.set_none (by assumption)).1).1).1).1).1).1) _)), .cons rfl (.cons rfl (.cons rfl (.cons (congrArg (fun e => some (bv e)) (decide_eq_true h5).symm) (.cons rfl (.cons rfl (.cons (congrArg (fun e : Tn × Int => some (iv e.2)) hp.symm) (.fix rfl (AH.set_self ..) (by first | assumption | exact (AH.set_none (by assumption)).1 | exact (AH.set_none (AH.set_none (by assumption)).1).1 | exact (AH.set_none (AH.set_none (AH.set_none (by assumption)).1).1).1 | exact (AH.set_none (AH.set_none (AH.set_none (AH.set_none (by assumption)).1).1).1).1 | exact (AH.set_none (AH.set_none (AH.set_none (AH.set_none (AH.set_none (by assumption)).1).1).1).1).1 | exact (AH.set_none (AH.set_none (AH.set_none (AH.set_none (AH.set_none (AH.set_none (by assumption)).1).1).1).1).1).1) (wkI (congrArg Prod.fst hp)) .nil)))))))⟩
            · replace h5 := of_decide_eq_false h5
              have hp := turnS_f h5
              refine aseq ?_
              refine areg rfl ?_
              refine s_det (D.move rfl) rfl ?_
              refine s_nil ?_
              refine acond_f rfl ?_
              refine askip ?_
              exact ⟨(), trivial, (by repeat (first | exact Sub.refl _ | refine Sub.set ?_ (by first | assumption | exact (AH.set_none (by assumption)).1 | exact (AH.set_none (AH.set_none (by assumption)).1).1 | exact (AH.set_none (AH.set_none (AH.set_none (by assumption)).1).1).1 | exact (AH.set_none (AH.set_none (AH.set_none (AH.set_none (by assumption)).1).1).1).1 | exact (AH.set_none (AH.set_none (AH.set_none (AH.set_none (AH.set_none (by assumption)).1).1).1).1).1 | exact (AH.set_none (AH.set_none (AH.set_none (AH.set_none (AH.set_none (AH.set_none (by assumption)).1).1).1).1).1).1) _)), .cons rfl (.cons rfl (.cons rfl (.cons (congrArg (fun e => some (bv e)) (decide_eq_false h5).symm) (.cons rfl (.cons rfl (.cons (congrArg (fun e : Tn × Int => some (iv e.2)) hp.symm) (.fix rfl (AH.set_self ..) (by first | assumption | exact (AH.set_none (by assumption)).1 | exact (AH.set_none (AH.set_none (by assumption)).1).1 | exact (AH.set_none (AH.set_none (AH.set_none (by assumption)).1).1).1 | exact (AH.set_none (AH.set_none (AH.set_none (AH.set_none (by assumption)).1).1).1).1 | exact (AH.set_none (AH.set_none (AH.set_none (AH.set_none (AH.set_none (by assumption)).1).1).1).1).1 | exact (AH.set_none (AH.set_none (AH.set_none (AH.set_none (AH.set_none (AH.set_none (by assumption)).1).1).1).1).1).1) (wkI (congrArg Prod.fst hp)) .nil)))))))⟩
          · intro _ _
            refine aseq ?_
            refine aseq ?_
            refine areg rfl ?_
            refine s_det (D.move rfl) rfl ?_
            refine s_det (D.call (evc rfl ev0) b_graduslaw3_num (graduslaw3_num _)) rfl ?_
            refine s_det (D.move rfl) rfl ?_
            refine s_det (D.neq rfl rfl (decide_eq_false (fun h => h rfl))) rfl ?_
            refine s_det (D.move rfl) rfl ?_
            refine s_yes rfl rfl ?_
            refine s_det (D.load_i rfl rfl) rfl ?_
            refine s_yes rfl rfl ?_
            refine s_det (D.load_i rfl rfl) rfl ?_
            refine s_yes rfl rfl ?_
            refine s_act rfl (A.call (evc rfl (evc rfl ev0)) b_gradusref0_EqTensor (Pure.reads (Pure.toT (gradusref0_EqTensor _ _ (turnS_sm a) (turnS_sm a)) rfl) rfl rfl (pz2 (Pz.ten (ten_d hn50) ten_x rfl rfl) (.refl _))) fun y σ' hy => ?_)
            obtain ⟨rfl, rfl⟩ := hy
            refine s_yes rfl rfl ?_
            refine s_det (D.not rfl rfl) rfl ?_
            refine s_det (D.pick rfl rfl rfl rfl) rfl ?_
            refine s_nil ?_
            refine acond_f rfl ?_
            refine askip ?_
            refine aseq ?_
            refine areg rfl ?_
            refine s_det (D.load_i rfl rfl) rfl ?_
            refine s_act rfl (A.call (evc rfl ev0) b_graduslaw0_Tensor (graduslaw0_Tensor (turnS a).1 b50 c50 _ (ten_d hn50) ten_x hn50 (turnS_sm a).fit) fun y σ' hy => ?_)
            obtain ⟨rfl, d1, x1, rfl⟩ := hy
            refine s_nil ?_
            refine afreezew [(1, .iptr (.agg [.agg [.list false 2 (ts.map tv), ints ns], .list false 1 (ds.map ints)])), (3, iv i), (4, .iptr (tv a)), (5, bv (decide (okTn a)))] σ (by repeat (first | exact Sub.refl _ | refine Sub.set ?_ (by first | assumption | exact (AH.set_none (by assumption)).1 | exact (AH.set_none (AH.set_none (by assumption)).1).1 | exact (AH.set_none (AH.set_none (AH.set_none (by assumption)).1).1).1 | exact (AH.set_none (AH.set_none (AH.set_none (AH.set_none (by assumption)).1).1).1).1 | exact (AH.set_none (AH.set_none (AH.set_none (AH.set_none (AH.set_none (by assumption)).1).1).1).1).1 | exact (AH.set_none (AH.set_none (AH.set_none (AH.set_none (AH.set_none (AH.set_none (by assumption)).1).1).1).1).1).1) _)) (.cons rfl (.cons rfl (.cons rfl (.cons rfl .nil)))) ?_
            refine aseq ?_
            refine areg rfl ?_
            refine s_det (D.load_i rfl rfl) rfl ?_
            refine s_det (D.load_i rfl rfl) rfl ?_
            refine s_det (D.call (evc rfl (evc rfl ev0)) b_graduslaw3_dims (graduslaw3_dims ts ns ds a (by omega) hsa)) rfl ?_
            refine s_det (D.assign rfl) rfl ?_
            refine s_nil ?_
            refine aseq ?_
            refine areg rfl ?_
            refine s_det (D.assign rfl) rfl ?_
            refine s_nil ?_
            refine ablock ?_
            -- LOOP writes [11] keeps [1, 3, 4, 5, 10]
            refine aloop (ι := Nat) (fun k => k ≤ (dimsS ds a).length) (fun k => (dimsS ds a).length - k) (fun k => [(1, .iptr (.agg [.agg [.list false 2 (ts.map tv), ints ns], .list false 1 (ds.map ints)])), (3, iv i), (4, .iptr (tv a)), (5, bv (decide (okTn a))), (10, .list false 1 ((dimsS ds a).map fun x => ints x)), (11, iv k)]) (fun k => σ) 0 (by omega) ?_ rfl fun k hk => ?_
            · exact (.cons rfl (.cons rfl (.cons rfl (.cons rfl (.cons rfl (.cons rfl .nil))))))
            refine aseq ?_
            refine aseq ?_
            refine areg rfl ?_
            refine s_det (D.move rfl) rfl ?_
            refine s_det (D.move rfl) rfl ?_
            refine s_det (D.len_m rfl rfl) rfl ?_
            refine s_cmp (D.lss rfl rfl rfl) rfl (fun h78 => ?_) (fun h78 => ?_)
            · replace h78 := of_decide_eq_true h78
              obtain ⟨d, hvd⟩ : ∃ d, (dimsS ds a)[k]? = some d := ⟨_, get_lt (by omega)⟩
              have hsd : d.length ≤ 1000 := dimsS_sm hds d (List.mem_of_getElem? hvd)
              have hdn := dimsS_len ds a
              refine s_nil ?_
              refine acond_t rfl ?_
              refine askip ?_
              refine aseq ?_
              refine ablock ?_
              refine aseq ?_
              refine areg rfl ?_
              refine s_det (D.move rfl) rfl ?_
              refine s_det (D.move rfl) rfl ?_
              refine s_det (D.idx_m rfl rfl (by omega) hvd rfl) rfl ?_
              refine s_det (D.load_i rfl rfl) rfl ?_
              refine s_det (D.call (evc rfl ev0) b_gradusref0_CopyNumbers (gradusref0_CopyNumbers d (by omega))) rfl ?_
              refine s_det (D.assign rfl) rfl ?_
              refine s_nil ?_
              refine aseq ?_
              refine areg rfl ?_
              refine s_det (D.load_i rfl rfl) rfl ?_
              refine s_det (D.move rfl) rfl ?_
              refine s_act rfl (A.call (evc rfl (evc rfl ev0)) b_turn_Shape (turn_Shape_own a d _) fun y σ' hy => ?_)
              obtain ⟨_, rfl, b89, c89, hb89, hc89, hn89, rfl, rfl⟩ := hy
              refine s_det (D.move rfl) rfl ?_
              refine s_det (D.extract rfl rfl) rfl ?_
              refine s_det (D.extract rfl rfl) rfl ?_
              refine s_act rfl (A.alloc rfl rfl rfl fun b13 hb13 => ?_)
              refine s_do (A.store rfl rfl (AH.set_self ..) rfl rfl (by rfl) rfl rfl ?_)
              refine s_det (D.assign rfl) rfl ?_
              refine s_nil ?_
              rw [AH.set_set]
              refine afix (d := 13) rfl hb13 ?_
              refine aseq ?_
              refine areg rfl ?_
              refine s_det (D.load_i rfl rfl) rfl ?_
              refine s_det (D.move rfl) rfl ?_
              refine s_act rfl (A.call (evc rfl (evc rfl ev0)) b_turn_Wide (turn_Wide_own a d _) fun y σ' hy => ?_)
              obtain ⟨_, rfl, b95, c95, hb95, hc95, hn95, rfl, rfl⟩ := hy
              refine s_det (D.move rfl) rfl ?_
              refine s_det (D.extract rfl rfl) rfl ?_
              refine s_det (D.extract rfl rfl) rfl ?_
              refine s_act rfl (A.alloc rfl rfl rfl fun b15 hb15 => ?_)
              refine s_do (A.store rfl rfl (AH.set_self ..) rfl rfl (by rfl) rfl rfl ?_)
              refine s_det (D.assign rfl) rfl ?_
              refine s_nil ?_
              rw [AH.set_set]
              refine afix (d := 15) rfl hb15 ?_
              refine aseq ?_
              refine areg rfl ?_
              refine s_det (D.load_i rfl rfl) rfl ?_
              refine s_det (D.move rfl) rfl ?_
              refine s_act rfl (A.call (evc rfl (evc rfl ev0)) b_turn_Sum (turn_Sum_own a d _) fun y σ' hy => ?_)
              obtain ⟨_, rfl, b101, c101, hb101, hc101, hn101, rfl, rfl⟩ := hy
              refine s_det (D.move rfl) rfl ?_
              refine s_det (D.extract rfl rfl) rfl ?_
              refine s_det (D.extract rfl rfl) rfl ?_
              refine s_act rfl (A.alloc rfl rfl rfl fun b17 hb17 => ?_)
              refine s_do (A.store rfl rfl (AH.set_self ..) rfl rfl (by rfl) rfl rfl ?_)
              refine s_det (D.assign rfl) rfl ?_
              refine s_nil ?_
              rw [AH.set_set]
              refine afix (d := 17) rfl hb17 ?_
              refine aseq ?_
              refine areg rfl ?_
              refine s_det (D.assign rfl) rfl ?_
              refine s_det (D.assign rfl) rfl ?_
              refine s_det (D.assign rfl) rfl ?_
              refine s_nil ?_
              refine aseq ?_
              refine areg rfl ?_
              refine s_act rfl (A.alloc rfl rfl rfl fun b22 hb22 => ?_)
              refine s_act rfl (A.alloc rfl rfl rfl fun b23 hb23 => ?_)
              refine s_act rfl (A.alloc rfl rfl rfl fun b24 hb24 => ?_)
              have n32 := (AH.set_none hb23).2
              have n42 := (AH.set_none (AH.set_none hb24).1).2
              have n43 := (AH.set_none hb24).2
              have t23 := (AH.set_none hb23).1
              have t24 := (AH.set_none (AH.set_none hb24).1).1
              refine s_nil ?_
              refine amidz (fun _ : Unit => True) (fun _ => [(1, .iptr (.agg [.agg [.list false 2 (ts.map tv), ints ns], .list false 1 (ds.map ints)])), (3, iv i), (4, .iptr (tv a)), (5, bv (decide (okTn a))), (10, .list false 1 ((dimsS ds a).map fun x => ints x)), (11, iv k), (12, ints d), (13, .iptr (.agg [.ref b89 1 0 (shapeS a d).1.d.length, .ref c89 1 0 (shapeS a d).1.x.length])), (14, iv (shapeS a d).2), (15, .iptr (.agg [.ref b95 1 0 (wideS a d).1.d.length, .ref c95 1 0 (wideS a d).1.x.length])), (16, iv (wideS a d).2), (17, .iptr (.agg [.ref b101 1 0 (sumS a d).1.d.length, .ref c101 1 0 (sumS a d).1.x.length])), (18, iv (sumS a d).2), (19, iv (shapeS a d).2), (20, iv (wideS a d).2), (21, iv (sumS a d).2), (22, .iptr (tv (shapeS a d).1)), (23, .iptr (tv (wideS a d).1)), (24, .iptr (tv (sumS a d).1))]) (fun _ => ((σ.ten b89 c89 (shapeS a d).1.d (shapeS a d).1.x).ten b95 c95 (wideS a d).1.d (wideS a d).1.x).ten b101 c101 (sumS a d).1.d (sumS a d).1.x) ?_ ?_
              · refine acase (d := 5) rfl (fun h5 => ?_) (fun h5 => ?_)
                · replace h5 := of_decide_eq_true h5
                  refine aseq ?_
                  refine areg rfl ?_
                  refine s_det (D.move rfl) rfl ?_
                  refine s_det (D.move rfl) rfl ?_
                  refine s_yes rfl rfl ?_
                  refine s_det (D.move rfl) rfl ?_
                  refine s_yes rfl rfl ?_
                  refine s_cmp (D.call (evc rfl ev0) b_gradusref1_Dims (gradusref1_Dims d)) rfl (fun h107 => ?_) (fun h107 => ?_)
                  · replace h107 := of_decide_eq_true h107
                    refine s_det (D.pick rfl rfl rfl rfl) rfl ?_
                    refine s_nil ?_
                    refine acond_t rfl ?_
                    refine aseq ?_
                    refine areg rfl ?_
                    refine s_det (D.assign rfl) rfl ?_
                    refine s_det (D.assign rfl) rfl ?_
                    refine s_det (D.assign rfl) rfl ?_
                    refine s_nil ?_
                    refine amidz (fun _ : Unit => True) (fun _ => [(1, .iptr (.agg [.agg [.list false 2 (ts.map tv), ints ns], .list false 1 (ds.map ints)])), (3, iv i), (4, .iptr (tv a)), (5, bv true), (10, .list false 1 ((dimsS ds a).map fun x => ints x)), (11, iv k), (12, ints d), (13, .iptr (.agg [.ref b89 1 0 (shapeS a d).1.d.length, .ref c89 1 0 (shapeS a d).1.x.length])), (14, iv (shapeS a d).2), (15, .iptr (.agg [.ref b95 1 0 (wideS a d).1.d.length, .ref c95 1 0 (wideS a d).1.x.length])), (16, iv (wideS a d).2), (17, .iptr (.agg [.ref b101 1 0 (sumS a d).1.d.length, .ref c101 1 0 (sumS a d).1.x.length])), (18, iv (sumS a d).2), (19, iv (shapeS a d).2), (20, iv 4), (21, iv 4), (22, .iptr (tv (shapeS a d).1)), (23, .ptr b23 0 [] 0), (24, .ptr b24 0 [] 0)]) (fun _ => ((((σ.ten b89 c89 (shapeS a d).1.d (shapeS a d).1.x).ten b95 c95 (wideS a d).1.d (wideS a d).1.x).ten b101 c101 (sumS a d).1.d (sumS a d).1.x).set b23 (.row 2 [nilT])).set b24 (.row 2 [nilT])) ?_ ?_
                    · refine aseq ?_
                      refine adraw [.det 0, .det 1, .det 2, .det 3, .det 4, .det 5] rfl (by kernel_rfl) ?_
                      refine d_det rfl (D.move rfl) rfl ?_
                      refine d_det rfl (D.call (evc rfl ev0) b_gradusref1_Cells (gradusref1_Cells d h107)) rfl ?_
                      refine d_det rfl (D.field_i rfl rfl rfl) rfl ?_
                      refine d_det rfl (D.load_i rfl rfl) rfl ?_
                      refine d_det rfl (D.len_m rfl rfl) rfl ?_
                      refine d_cmp rfl (D.eql rfl rfl rfl) rfl (fun h114 => ?_) (fun h114 => ?_)
                      · replace h114 := of_decide_eq_true h114
                        have hp : shapeS a d = (⟨d, a.x⟩, 0) := wayS_k ⟨h5, h107⟩ h114
                        have hr2 : (((((σ.ten b89 c89 (shapeS a d).1.d (shapeS a d).1.x).ten b95 c95 (wideS a d).1.d (wideS a d).1.x).ten b101 c101 (sumS a d).1.d (sumS a d).1.x).set b23 (.row 2 [nilT])).set b24 (.row 2 [nilT])) b22 = none := by rw [AH.set_ne (Ne.symm n42), AH.set_ne (Ne.symm n32)]; exact hb22
                        refine d_nil ?_
                        refine acond_t rfl ?_
                        refine adraw [.det 0, .det 1, .det 2, .det 3, .det 4, .act 5] rfl (by kernel_rfl) ?_
                        refine d_det rfl (D.move rfl) rfl ?_
                        refine d_det rfl (D.field_i rfl rfl rfl) rfl ?_
                        refine d_det rfl (D.load_i rfl rfl) rfl ?_
                        refine d_det rfl (D.build rfl rfl ⟨_, rfl, rfl, rfl, by simp, ⟨_, rfl, rfl, rfl, by simp, rfl⟩⟩) rfl ?_
                        refine d_det rfl (D.assign rfl) rfl ?_
                        refine d_do rfl (by kernel_rfl) (A.store rfl rfl (get3a n32 n42) rfl rfl (by rfl) rfl rfl ?_)
                        refine d_nil ?_
                        exact ⟨(), trivial, (sub3 hb22 n32 n42).set hr2 _, .cons rfl (.cons rfl (.cons rfl (.cons rfl (.cons rfl (.cons rfl (.cons rfl (.cons rfl (.cons rfl (.cons rfl (.cons rfl (.cons rfl (.cons rfl (.cons (congrArg (fun e : Tn × Int => some (iv e.2)) hp.symm) (.cons rfl (.cons rfl (.fix rfl (AH.set_self ..) hr2 (by rw [hp]; exact .refl _) (.cons rfl (.cons rfl .nil))))))))))))))))))⟩
                      · replace h114 := of_decide_eq_false h114
                        have hp : shapeS a d = (⟨[], []⟩, 4) := wayS_e ⟨h5, h107⟩ h114
                        have hr2 : (((((σ.ten b89 c89 (shapeS a d).1.d (shapeS a d).1.x).ten b95 c95 (wideS a d).1.d (wideS a d).1.x).ten b101 c101 (sumS a d).1.d (sumS a d).1.x).set b23 (.row 2 [nilT])).set b24 (.row 2 [nilT])) b22 = none := by rw [AH.set_ne (Ne.symm n42), AH.set_ne (Ne.symm n32)]; exact hb22
                        refine d_nil ?_
                        refine acond_f rfl ?_
                        refine askip ?_
                        exact ⟨(), trivial, sub3 hb22 n32 n42, .cons rfl (.cons rfl (.cons rfl (.cons rfl (.cons rfl (.cons rfl (.cons rfl (.cons rfl (.cons rfl (.cons rfl (.cons rfl (.cons rfl (.cons rfl (.cons (congrArg (fun e : Tn × Int => some (iv e.2)) hp.symm) (.cons rfl (.cons rfl (.fix rfl (get3a n32 n42) hr2 (wkI (congrArg Prod.fst hp)) (.cons rfl (.cons rfl .nil))))))))))))))))))⟩
                    · intro _ _
                      have hr3 : ((((σ.ten b89 c89 (shapeS a d).1.d (shapeS a d).1.x).ten b95 c95 (wideS a d).1.d (wideS a d).1.x).ten b101 c101 (sumS a d).1.d (sumS a d).1.x).set b24 (.row 2 [nilT])) b23 = none := by rw [AH.set_ne (Ne.symm n43)]; exact t23
                      refine amidz (fun _ : Unit => True) (fun _ => [(1, .iptr (.agg [.agg [.list false 2 (ts.map tv), ints ns], .list false 1 (ds.map ints)])), (3, iv i), (4, .iptr (tv a)), (5, bv true), (10, .list false 1 ((dimsS ds a).map fun x => ints x)), (11, iv k), (12, ints d), (13, .iptr (.agg [.ref b89 1 0 (shapeS a d).1.d.length, .ref c89 1 0 (shapeS a d).1.x.length])), (14, iv (shapeS a d).2), (15, .iptr (.agg [.ref b95 1 0 (wideS a d).1.d.length, .ref c95 1 0 (wideS a d).1.x.length])), (16, iv (wideS a d).2), (17, .iptr (.agg [.ref b101 1 0 (sumS a d).1.d.length, .ref c101 1 0 (sumS a d).1.x.length])), (18, iv (sumS a d).2), (19, iv (shapeS a d).2), (20, iv (wideS a d).2), (21, iv 4), (22, .iptr (tv (shapeS a d).1)), (23, .iptr (tv (wideS a d).1)), (24, .ptr b24 0 [] 0)]) (fun _ => (((σ.ten b89 c89 (shapeS a d).1.d (shapeS a d).1.x).ten b95 c95 (wideS a d).1.d (wideS a d).1.x).ten b101 c101 (sumS a d).1.d (sumS a d).1.x).set b24 (.row 2 [nilT])) ?_ ?_
                      · refine aseq ?_
                        refine areg rfl ?_
                        refine s_det (D.field_i rfl rfl rfl) rfl ?_
                        refine s_det (D.load_i rfl rfl) rfl ?_
                        refine s_det (D.move rfl) rfl ?_
                        refine s_cmp (D.call (evc rfl (evc rfl ev0)) b_gradusref1_Wider (gradusref1_Wider a.d d hsa.1 (by omega))) rfl (fun h122 => ?_) (fun h122 => ?_)
                        · replace h122 := of_decide_eq_true h122
                          have hp : wideS a d = (wideT a d, 0) := wayS_k ⟨h5, h107⟩ h122
                          refine s_nil ?_
                          refine acond_t rfl ?_
                          refine areg rfl ?_
                          refine s_det (D.load_i rfl rfl) rfl ?_
                          refine s_det (D.move rfl) rfl ?_
                          refine s_det (D.call (evc rfl (evc rfl ev0)) b_gradusref1_Wide (gradusref1_Wide a d h5 h107 h122)) rfl ?_
                          refine s_det (D.assign rfl) rfl ?_
                          refine s_do (A.store rfl rfl (get2a n43) rfl rfl (by rfl) rfl rfl ?_)
                          refine s_nil ?_
                          exact ⟨(), trivial, (sub2 t23 n43).set hr3 _, .cons rfl (.cons rfl (.cons rfl (.cons rfl (.cons rfl (.cons rfl (.cons rfl (.cons rfl (.cons rfl (.cons rfl (.cons rfl (.cons rfl (.cons rfl (.cons rfl (.cons (congrArg (fun e : Tn × Int => some (iv e.2)) hp.symm) (.cons rfl (.cons rfl (.fix rfl (AH.set_self ..) hr3 (by rw [hp]; exact .refl _) (.cons rfl .nil))))))))))))))))))⟩
                        · replace h122 := of_decide_eq_false h122
                          have hp : wideS a d = (⟨[], []⟩, 4) := wayS_e ⟨h5, h107⟩ h122
                          refine s_nil ?_
                          refine acond_f rfl ?_
                          refine askip ?_
                          exact ⟨(), trivial, sub2 t23 n43, .cons rfl (.cons rfl (.cons rfl (.cons rfl (.cons rfl (.cons rfl (.cons rfl (.cons rfl (.cons rfl (.cons rfl (.cons rfl (.cons rfl (.cons rfl (.cons rfl (.cons (congrArg (fun e : Tn × Int => some (iv e.2)) hp.symm) (.cons rfl (.cons rfl (.fix rfl (get2a n43) hr3 (wkI (congrArg Prod.fst hp)) (.cons rfl .nil))))))))))))))))))⟩
                      · intro _ _
                        refine aseq ?_
                        refine areg rfl ?_
                        refine s_det (D.move rfl) rfl ?_
                        refine s_det (D.field_i rfl rfl rfl) rfl ?_
                        refine s_det (D.load_i rfl rfl) rfl ?_
                        refine s_cmp (D.call (evc rfl (evc rfl ev0)) b_gradusref1_Wider (gradusref1_Wider d a.d (by omega) hsa.1)) rfl (fun h129 => ?_) (fun h129 => ?_)
                        · replace h129 := of_decide_eq_true h129
                          have hp : sumS a d = (sumT a d, 0) := wayS_k ⟨h5, h107⟩ h129
                          refine s_nil ?_
                          refine acond_t rfl ?_
                          refine areg rfl ?_
                          refine s_det (D.load_i rfl rfl) rfl ?_
                          refine s_det (D.move rfl) rfl ?_
                          refine s_det (D.call (evc rfl (evc rfl ev0)) b_gradusref1_Sum (gradusref1_Sum a d h5 h107 h129)) rfl ?_
                          refine s_det (D.assign rfl) rfl ?_
                          refine s_do (A.store rfl rfl (AH.set_self ..) rfl rfl (by rfl) rfl rfl ?_)
                          refine s_nil ?_
                          exact ⟨(), trivial, ((Sub.refl _).set t24 _).set t24 _, .cons rfl (.cons rfl (.cons rfl (.cons (congrArg (fun e => some (bv e)) (decide_eq_true h5).symm) (.cons rfl (.cons rfl (.cons rfl (.cons rfl (.cons rfl (.cons rfl (.cons rfl (.cons rfl (.cons rfl (.cons rfl (.cons rfl (.cons (congrArg (fun e : Tn × Int => some (iv e.2)) hp.symm) (.cons rfl (.cons rfl (.fix rfl (AH.set_self ..) t24 (by rw [hp]; exact .refl _) .nil))))))))))))))))))⟩
                        · replace h129 := of_decide_eq_false h129
                          have hp : sumS a d = (⟨[], []⟩, 4) := wayS_e ⟨h5, h107⟩ h129
                          refine s_nil ?_
                          refine acond_f rfl ?_
                          refine askip ?_
                          exact ⟨(), trivial, (Sub.refl _).set t24 _, .cons rfl (.cons rfl (.cons rfl (.cons (congrArg (fun e => some (bv e)) (decide_eq_true h5).symm) (.cons rfl (.cons rfl (.cons rfl (.cons rfl (.cons rfl (.cons rfl (.cons rfl (.cons rfl (.cons rfl (.cons rfl (.cons rfl (.cons (congrArg (fun e : Tn × Int => some (iv e.2)) hp.symm) (.cons rfl (.cons rfl (.fix rfl (AH.set_self ..) t24 (wkI (congrArg Prod.fst hp)) .nil))))))))))))))))))⟩
                  · replace h107 := of_decide_eq_false h107
                    have hp1 : shapeS a d = (⟨[], []⟩, 1) := wayS_f (fun h => h107 h.2)
                    have hp2 : wideS a d = (⟨[], []⟩, 1) := wayS_f (fun h => h107 h.2)
                    have hp3 : sumS a d = (⟨[], []⟩, 1) := wayS_f (fun h => h107 h.2)
                    refine s_det (D.pick rfl rfl rfl rfl) rfl ?_
                    refine s_nil ?_
                    refine acond_f rfl ?_
                    refine askip ?_
                    exact ⟨(), trivial, ((Sub.refl _).set hb22 _).set t23 _ |>.set t24 _, .cons rfl (.cons rfl (.cons rfl (.cons (congrArg (fun e => some (bv e)) (decide_eq_true h5).symm) (.cons rfl (.cons rfl (.cons rfl (.cons rfl (.cons rfl (.cons rfl (.cons rfl (.cons rfl (.cons rfl (.cons (congrArg (fun e : Tn × Int => some (iv e.2)) hp1.symm) (.cons (congrArg (fun e : Tn × Int => some (iv e.2)) hp2.symm) (.cons (congrArg (fun e : Tn × Int => some (iv e.2)) hp3.symm) (.fix rfl (get3a n32 n42) hb22 (wkI (congrArg Prod.fst hp1)) (.fix rfl (get3b n43) t23 (wkI (congrArg Prod.fst hp2)) (.fix rfl (AH.set_self ..) t24 (wkI (congrArg Prod.fst hp3)) .nil))))))))))))))))))⟩
                · replace h5 := of_decide_eq_false h5
                  have hp1 : shapeS a d = (⟨[], []⟩, 1) := wayS_f (fun h => h5 h.1)
                  have hp2 : wideS a d = (⟨[], []⟩, 1) := wayS_f (fun h => h5 h.1)
                  have hp3 : sumS a d = (⟨[], []⟩, 1) := wayS_f (fun h => h5 h.1)
                  refine aseq ?_
                  refine areg rfl ?_
                  refine s_det (D.move rfl) rfl ?_
                  refine s_det (D.move rfl) rfl ?_
                  refine s_no rfl rfl rfl rfl ?_
                  refine s_no rfl rfl rfl rfl ?_
                  refine s_det (D.pick rfl rfl rfl rfl) rfl ?_
                  refine s_nil ?_
                  refine acond_f rfl ?_
                  refine askip ?_
                  exact ⟨(), trivial, ((Sub.refl _).set hb22 _).set t23 _ |>.set t24 _, .cons rfl (.cons rfl (.cons rfl (.cons (congrArg (fun e => some (bv e)) (decide_eq_false h5).symm) (.cons rfl (.cons rfl (.cons rfl (.cons rfl (.cons rfl (.cons rfl (.cons rfl (.cons rfl (.cons rfl (.cons (congrArg (fun e : Tn × Int => some (iv e.2)) hp1.symm) (.cons (congrArg (fun e : Tn × Int => some (iv e.2)) hp2.symm) (.cons (congrArg (fun e : Tn × Int => some (iv e.2)) hp3.symm) (.fix rfl (get3a n32 n42) hb22 (wkI (congrArg Prod.fst hp1)) (.fix rfl (get3b n43) t23 (wkI (congrArg Prod.fst hp2)) (.fix rfl (AH.set_self ..) t24 (wkI (congrArg Prod.fst hp3)) .nil))))))))))))))))))⟩
              · intro _ _
                refine aseq ?_
                refine aseq ?_
                refine adraw [.det 0, .det 1, .det 2, .det 3, .det 4, .det 5, .det 6, .det 7, .det 8, .det 9, .det 10, .det 11, .det 12, .det 13, .det 14, .det 15, .det 16, .det 17, .det 18, .act 19, .det 20, .det 21, .det 22, .det 23, .det 24, .act 25, .det 26, .det 27, .det 28, .det 29, .det 30, .act 31, .det 32, .det 33, .det 34, .det 35, .det 36, .det 37, .det 38, .det 39, .det 40, .det 41, .det 42, .det 43, .det 44, .det 45, .det 46, .det 47, .det 48, .det 49, .det 50, .det 51, .det 52, .det 53] rfl (by kernel_rfl) ?_
                refine d_det rfl (D.move rfl) rfl ?_
                refine d_det rfl (D.call (evc rfl ev0) b_graduslaw3_num (graduslaw3_num _)) rfl ?_
                refine d_det rfl (D.move rfl) rfl ?_
                refine d_det rfl (D.neq rfl rfl (decide_eq_false (fun h => h rfl))) rfl ?_
                refine d_det rfl (D.move rfl) rfl ?_
                refine d_yes rfl rfl rfl (D.move rfl) rfl ?_
                refine d_yes rfl rfl rfl (D.call (evc rfl ev0) b_graduslaw3_num (graduslaw3_num _)) rfl ?_
                refine d_yes rfl rfl rfl (D.move rfl) rfl ?_
                refine d_yes rfl rfl rfl (D.neq rfl rfl (decide_eq_false (fun h => h rfl))) rfl ?_
                refine d_det rfl (D.pick rfl rfl rfl rfl) rfl ?_
                refine d_det rfl (D.move rfl) rfl ?_
                refine d_yes rfl rfl rfl (D.move rfl) rfl ?_
                refine d_yes rfl rfl rfl (D.call (evc rfl ev0) b_graduslaw3_num (graduslaw3_num _)) rfl ?_
                refine d_yes rfl rfl rfl (D.move rfl) rfl ?_
                refine d_yes rfl rfl rfl (D.neq rfl rfl (decide_eq_false (fun h => h rfl))) rfl ?_
                refine d_det rfl (D.pick rfl rfl rfl rfl) rfl ?_
                refine d_det rfl (D.move rfl) rfl ?_
                refine d_yes rfl rfl rfl (D.load_i rfl rfl) rfl ?_
                refine d_yes rfl rfl rfl (D.load_i rfl rfl) rfl ?_
                refine d_yesA rfl rfl rfl rfl (by kernel_rfl) (A.call (evc rfl (evc rfl ev0)) b_gradusref0_EqTensor (Pure.reads (Pure.toT (gradusref0_EqTensor _ _ (shapeS_sm a d) (shapeS_sm a d)) rfl) rfl rfl (pz2 (Pz.ten (ten_get hb101 hc101 (ten_get hb95 hc95 (ten_d hn89))) (ten_get hb101 hc101 (ten_get hb95 hc95 ten_x)) rfl rfl) (.refl _))) fun y σ' hy => ?_)
                obtain ⟨rfl, rfl⟩ := hy
                refine d_yes rfl rfl rfl (D.not rfl rfl) rfl ?_
                refine d_det rfl (D.pick rfl rfl rfl rfl) rfl ?_
                refine d_det rfl (D.move rfl) rfl ?_
                refine d_yes rfl rfl rfl (D.load_i rfl rfl) rfl ?_
                refine d_yes rfl rfl rfl (D.load_i rfl rfl) rfl ?_
                refine d_yesA rfl rfl rfl rfl (by kernel_rfl) (A.call (evc rfl (evc rfl ev0)) b_gradusref0_EqTensor (Pure.reads (Pure.toT (gradusref0_EqTensor _ _ (wideS_sm a d) (wideS_sm a d)) rfl) rfl rfl (pz2 (Pz.ten (ten_get hb101 hc101 (ten_d hn95)) (ten_get hb101 hc101 ten_x) rfl rfl) (.refl _))) fun y σ' hy => ?_)
                obtain ⟨rfl, rfl⟩ := hy
                refine d_yes rfl rfl rfl (D.not rfl rfl) rfl ?_
                refine d_det rfl (D.pick rfl rfl rfl rfl) rfl ?_
                refine d_det rfl (D.move rfl) rfl ?_
                refine d_yes rfl rfl rfl (D.load_i rfl rfl) rfl ?_
                refine d_yes rfl rfl rfl (D.load_i rfl rfl) rfl ?_
                refine d_yesA rfl rfl rfl rfl (by kernel_rfl) (A.call (evc rfl (evc rfl ev0)) b_gradusref0_EqTensor (Pure.reads (Pure.toT (gradusref0_EqTensor _ _ (sumS_sm a d) (sumS_sm a d)) rfl) rfl rfl (pz2 (Pz.ten (ten_d hn101) ten_x rfl rfl) (.refl _))) fun y σ' hy => ?_)
                obtain ⟨rfl, rfl⟩ := hy
                refine d_yes rfl rfl rfl (D.not rfl rfl) rfl ?_
                refine d_det rfl (D.pick rfl rfl rfl rfl) rfl ?_
                refine d_det rfl (D.move rfl) rfl ?_
                refine d_yes rfl rfl rfl (D.move rfl) rfl ?_
                refine d_yes rfl rfl rfl (D.move rfl) rfl ?_
                refine d_yes rfl rfl rfl (D.move rfl) rfl ?_
                refine d_yes rfl rfl rfl (D.idx_m rfl rfl (by omega) hvd rfl) rfl ?_
                refine d_yes rfl rfl rfl (D.load_i rfl rfl) rfl ?_
                refine d_yes rfl rfl rfl (D.call (evc rfl (evc rfl ev0)) b_gradusref0_EqNumbers (Pure.toT (gradusref0_EqNumbers d d (by omega) (by omega)) rfl)) rfl ?_
                refine d_yes rfl rfl rfl (D.not rfl rfl) rfl ?_
                refine d_det rfl (D.pick rfl rfl rfl rfl) rfl ?_
                refine d_det rfl (D.move rfl) rfl ?_
                refine d_yes rfl rfl rfl (D.load_i rfl rfl) rfl ?_
                refine d_yes rfl rfl rfl (D.field_i rfl rfl rfl) rfl ?_
                refine d_yes rfl rfl rfl (D.field_i rfl rfl rfl) rfl ?_
                refine d_yes rfl rfl rfl (D.load_i rfl rfl) rfl ?_
                refine d_yes rfl rfl rfl (D.move rfl) rfl ?_
                refine d_yes rfl rfl rfl (D.idx_m rfl rfl (by omega) hva rfl) rfl ?_
                refine d_yes rfl rfl rfl (D.load_i rfl rfl) rfl ?_
                refine d_yes rfl rfl rfl (D.call (evc rfl (evc rfl ev0)) b_gradusref0_EqTensor (Pure.toT (gradusref0_EqTensor _ _ hsa hsa) rfl)) rfl ?_
                refine d_yes rfl rfl rfl (D.not rfl rfl) rfl ?_
                refine d_det rfl (D.pick rfl rfl rfl rfl) rfl ?_
                refine d_nil ?_
                refine acond_f rfl ?_
                refine askip ?_
                refine aseq ?_
                refine areg rfl ?_
                refine s_det (D.load_i rfl rfl) rfl ?_
                refine s_act rfl (A.call (evc rfl ev0) b_graduslaw0_Tensor (graduslaw0_Tensor (shapeS a d).1 b89 c89 _ (ten_get hb101 hc101 (ten_get hb95 hc95 (ten_d hn89))) (ten_get hb101 hc101 (ten_get hb95 hc95 ten_x)) hn89 (shapeS_sm a d).fit) fun y σ' hy => ?_)
                obtain ⟨rfl, d1, x1, rfl⟩ := hy
                refine s_nil ?_
                refine aseq ?_
                refine areg rfl ?_
                refine s_det (D.load_i rfl rfl) rfl ?_
                refine s_act rfl (A.call (evc rfl ev0) b_graduslaw0_Tensor (graduslaw0_Tensor (wideS a d).1 b95 c95 _ (by rw [AH.set_ne (ten_fresh hb95).2.2, AH.set_ne (ten_fresh hb95).2.1]; exact ten_get hb101 hc101 (ten_d hn95)) (by rw [AH.set_ne (ten_fresh hc95).2.2, AH.set_ne (ten_fresh hc95).2.1]; exact ten_get hb101 hc101 ten_x) hn95 (wideS_sm a d).fit) fun y σ' hy => ?_)
                obtain ⟨rfl, d2, x2, rfl⟩ := hy
                refine s_nil ?_
                refine aseq ?_
                refine areg rfl ?_
                refine s_det (D.load_i rfl rfl) rfl ?_
                refine s_act rfl (A.call (evc rfl ev0) b_graduslaw0_Tensor (graduslaw0_Tensor (sumS a d).1 b101 c101 _ (by rw [AH.set_ne (ten_fresh hb101).2.2, AH.set_ne (ten_fresh hb101).2.1, AH.set_ne (ten_fresh (ten_fresh hb101).1).2.2, AH.set_ne (ten_fresh (ten_fresh hb101).1).2.1]; exact ten_d hn101) (by rw [AH.set_ne (ten_fresh hc101).2.2, AH.set_ne (ten_fresh hc101).2.1, AH.set_ne (ten_fresh (ten_fresh hc101).1).2.2, AH.set_ne (ten_fresh (ten_fresh hc101).1).2.1]; exact ten_x) hn101 (sumS_sm a d).fit) fun y σ' hy => ?_)
                obtain ⟨rfl, d3, x3, rfl⟩ := hy
                refine s_nil ?_
                refine afreezew [(1, .iptr (.agg [.agg [.list false 2 (ts.map tv), ints ns], .list false 1 (ds.map ints)])), (3, iv i), (4, .iptr (tv a)), (5, bv (decide (okTn a))), (10, .list false 1 ((dimsS ds a).map fun x => ints x)), (11, iv k), (12, ints d)] σ (by repeat (first | exact Sub.refl _ | refine Sub.set ?_ (by first | assumption | exact (AH.set_none (by assumption)).1 | exact (AH.set_none (AH.set_none (by assumption)).1).1 | exact (AH.set_none (AH.set_none (AH.set_none (by assumption)).1).1).1 | exact (AH.set_none (AH.set_none (AH.set_none (AH.set_none (by assumption)).1).1).1).1 | exact (AH.set_none (AH.set_none (AH.set_none (AH.set_none (AH.set_none (by assumption)).1).1).1).1).1 | exact (AH.set_none (AH.set_none (AH.set_none (AH.set_none (AH.set_none (AH.set_none (by assumption)).1).1).1).1).1).1) _)) (.cons rfl (.cons rfl (.cons rfl (.cons rfl (.cons rfl (.cons rfl (.cons rfl .nil))))))) ?_
                refine aseq ?_
                refine adraw [.det 0, .det 1, .det 2, .det 3, .det 4, .det 5, .det 6, .det 7, .det 8, .det 9, .det 10, .det 11, .det 12, .det 13, .det 14, .det 15, .det 16, .det 17] rfl (by kernel_rfl) ?_
                refine d_det rfl (D.move rfl) rfl ?_
                refine d_det rfl (D.move rfl) rfl ?_
                refine d_det rfl (D.move rfl) rfl ?_
                refine d_det rfl (D.idx_m rfl rfl (by omega) hvd rfl) rfl ?_
                refine d_det rfl (D.load_i rfl rfl) rfl ?_
                refine d_det rfl (D.call (evc rfl (evc rfl ev0)) b_gradusref0_EqNumbers (Pure.toT (gradusref0_EqNumbers d d (by omega) (by omega)) rfl)) rfl ?_
                refine d_det rfl (D.not rfl rfl) rfl ?_
                refine d_det rfl (D.move rfl) rfl ?_
                refine d_yes rfl rfl rfl (D.load_i rfl rfl) rfl ?_
                refine d_yes rfl rfl rfl (D.field_i rfl rfl rfl) rfl ?_
                refine d_yes rfl rfl rfl (D.field_i rfl rfl rfl) rfl ?_
                refine d_yes rfl rfl rfl (D.load_i rfl rfl) rfl ?_
                refine d_yes rfl rfl rfl (D.move rfl) rfl ?_
                refine d_yes rfl rfl rfl (D.idx_m rfl rfl (by omega) hva rfl) rfl ?_
                refine d_yes rfl rfl rfl (D.load_i rfl rfl) rfl ?_
                refine d_yes rfl rfl rfl (D.call (evc rfl (evc rfl ev0)) b_gradusref0_EqTensor (Pure.toT (gradusref0_EqTensor _ _ hsa hsa) rfl)) rfl ?_
                refine d_yes rfl rfl rfl (D.not rfl rfl) rfl ?_
                refine d_det rfl (D.pick rfl rfl rfl rfl) rfl ?_
                refine d_nil ?_
                refine acond_f rfl ?_
                refine askip ?_
                refine areg rfl ?_
                refine s_det (D.move rfl) rfl ?_
                refine s_det (D.add rfl rfl (w64 (by omega) (by omega))) rfl ?_
                refine s_det (D.assign rfl) rfl ?_
                refine s_nil ?_
                exact ⟨k + 1, by omega, by omega, (.cons rfl (.cons rfl (.cons rfl (.cons rfl (.cons rfl (.cons rfl .nil)))))), rfl⟩
            · replace h78 := of_decide_eq_false h78
              refine s_nil ?_
              refine acond_f rfl ?_
              refine aexit ?_
              refine areg rfl ?_
              refine s_det (D.move rfl) rfl ?_
              refine s_det (D.add rfl rfl (w64 (by omega) (by omega))) rfl ?_
              refine s_det (D.assign rfl) rfl ?_
              refine s_nil ?_
              exact ⟨i + 1, by omega, by omega, (.cons rfl (.cons rfl .nil)), rfl⟩
        · replace h35 := of_decide_eq_false h35
          refine s_det (D.pick rfl rfl rfl rfl) rfl ?_
          refine s_nil ?_
          refine acond_f rfl ?_
          refine aexit ?_
          exact ⟨(), trivial, Sub.refl _, .nil⟩
      · replace h32 := of_decide_eq_false h32
        refine s_det (D.move rfl) rfl ?_
        refine s_no rfl rfl rfl rfl ?_
        refine s_no rfl rfl rfl rfl ?_
        refine s_det (D.pick rfl rfl rfl rfl) rfl ?_
        refine s_nil ?_
        refine acond_f rfl ?_
        refine aexit ?_
        exact ⟨(), trivial, Sub.refl _, .nil⟩
    · intro _ _
      refine aseq ?_
      refine areg rfl ?_
      refine s_det (D.call ev0 b_graduslaw3_wakes graduslaw3_wakes) rfl ?_
      refine s_det (D.assign rfl) rfl ?_
      refine s_nil ?_
      refine aret ?_
      exact ⟨[_], ⟨⟨rfl, rfl⟩, trivial⟩, rfl, rfl⟩

theorem turnDims_pure (x : Ask3) (hx : G67 x) : Pure Try.prog 14 [enc67 x] (bv true) := graduslaw3_TurnDims x.1.1 x.1.2 x.2 hx.1.ok.1 hx.1.ok.2.1 hx.1.ok.2.2 hx.ok.1 hx.ok.2

end Go.Proofs.Ytpjcidlkdfebhaa.F
