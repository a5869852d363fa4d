/- Functions of the program and of the references: what they compute, by the layer Al. Made by a program of this session (wip/al/alfill.py) out of wip/al/specs. -/
import Derived.Test.YtpjcidlkdfebhaaGh
import Derived.Test.YtpjcidlkdfebhaaAx
import Derived.Test.YtpjcidlkdfebhaaAskB
import Derived.Test.YtpjcidlkdfebhaaProg
namespace Go.Proofs.Ytpjcidlkdfebhaa.F
open Go Go.Proofs.Al
set_option linter.unusedVariables false
set_option linter.unusedSimpArgs false
set_option maxRecDepth 10000 in
theorem graduslaw3_TurnDots (ts : List Tn) (ns : List Int) (ds : List (List Int)) (ht : ts.length ≤ 17592186044416) (hn : ns.length ≤ 17592186044416) (hf : ∀ t ∈ ts, t.fit) (hD : ds.length ≤ 17592186044416) (hg : ∀ t ∈ ds, t.length ≤ 17592186044416) : Pure Try.prog 19 [.agg [.agg [.list false 2 (ts.map tv), ints ns], .list false 1 (ds.map ints)]] (bv true) := by
  intro σ
  refine acalls Try.func19 rfl rfl (by decide) rfl rfl ?_
  refine aseq ?_
  refine areg rfl ?_
  refine s_det (D.box_i rfl rfl) rfl ?_
  refine s_det (D.assign rfl) rfl ?_
  refine s_nil ?_
  refine aseq ?_
  refine aseq ?_
  refine areg rfl ?_
  refine s_det (D.load_i rfl rfl) rfl ?_
  refine s_cmp (D.call (evc rfl ev0) b_graduslaw3_Heavy (graduslaw3_Heavy ts ns ds ht hn hf hD hg)) rfl (fun h25 => ?_) (fun h25 => ?_)
  · replace h25 := of_decide_eq_true h25
    refine s_nil ?_
    refine acond_t rfl ?_
    refine aseq ?_
    refine areg rfl ?_
    refine s_det (D.assign rfl) rfl ?_
    refine s_nil ?_
    refine aret ?_
    exact ⟨[_], ⟨⟨rfl, rfl⟩, trivial⟩, rfl, rfl⟩
  · replace h25 := of_decide_eq_false h25
    obtain ⟨hts, hsm⟩ := wtT_small (l := ts) (by omega)
    obtain ⟨hdl, hds⟩ := wtL_small (l := ds) (by omega)
    refine s_nil ?_
    refine acond_f rfl ?_
    refine askip ?_
    refine amidz (fun _ : Unit => True) (fun _ => []) (fun _ => σ) ?_ ?_
    · refine aseq ?_
      refine areg rfl ?_
      refine s_det (D.assign rfl) rfl ?_
      refine s_nil ?_
      refine ablock ?_
      -- LOOP writes [3] keeps [1]
      refine aloop (ι := Nat) (fun i => i ≤ ts.length) (fun i => ts.length - i) (fun i => [(1, .iptr (.agg [.agg [.list false 2 (ts.map tv), ints ns], .list false 1 (ds.map ints)])), (3, iv i)]) (fun i => σ) 0 (by omega) ?_ rfl fun i hi => ?_
      · exact (.cons rfl (.cons rfl .nil))
      refine aseq ?_
      refine aseq ?_
      refine areg rfl ?_
      refine s_det (D.move rfl) rfl ?_
      refine s_det (D.field_i rfl rfl rfl) rfl ?_
      refine s_det (D.field_i rfl rfl rfl) rfl ?_
      refine s_det (D.load_i rfl rfl) rfl ?_
      refine s_det (D.len_m rfl rfl) rfl ?_
      refine s_cmp (D.lss rfl rfl rfl) rfl (fun h31 => ?_) (fun h31 => ?_)
      · replace h31 := of_decide_eq_true h31
        refine s_det (D.move rfl) rfl ?_
        refine s_yes rfl rfl ?_
        refine s_det (D.move rfl) rfl ?_
        refine s_yes rfl rfl ?_
        refine s_cmp (D.lss rfl rfl rfl) rfl (fun h34 => ?_) (fun h34 => ?_)
        · replace h34 := of_decide_eq_true h34
          obtain ⟨a, hva⟩ : ∃ a, ts[i]? = some a := ⟨_, get_lt (by omega)⟩
          have hsa : a.sm := by have := hsm a (List.mem_of_getElem? hva); exact ⟨by omega, by omega⟩
          have hsl := hsm a (List.mem_of_getElem? hva)
          refine s_det (D.pick rfl rfl rfl rfl) rfl ?_
          refine s_nil ?_
          refine acond_t rfl ?_
          refine askip ?_
          refine aseq ?_
          refine ablock ?_
          refine aseq ?_
          refine areg rfl ?_
          refine s_det (D.field_i rfl rfl rfl) rfl ?_
          refine s_det (D.field_i rfl rfl rfl) rfl ?_
          refine s_det (D.load_i rfl rfl) rfl ?_
          refine s_det (D.move rfl) rfl ?_
          refine s_det (D.idx_m rfl rfl (by omega) hva rfl) rfl ?_
          refine s_det (D.load_i rfl rfl) rfl ?_
          refine s_act rfl (A.alloc rfl rfl rfl fun b4 hb4 => ?_)
          refine s_do (A.store rfl rfl (AH.set_self ..) rfl rfl (by rfl) rfl rfl ?_)
          refine s_nil ?_
          rw [AH.set_set]
          refine afix (d := 4) rfl hb4 ?_
          refine aseq ?_
          refine areg rfl ?_
          refine s_det (D.load_i rfl rfl) rfl ?_
          refine s_det (D.call (evc rfl ev0) b_turn_Turn (turn_Turn a)) rfl ?_
          refine s_det (D.move rfl) rfl ?_
          refine s_det (D.extract rfl rfl) rfl ?_
          refine s_det (D.extract rfl rfl) rfl ?_
          refine s_act rfl (A.alloc rfl rfl rfl fun b5 hb5 => ?_)
          refine s_do (A.store rfl rfl (AH.set_self ..) rfl rfl (by rfl) rfl rfl ?_)
          refine s_det (D.assign rfl) rfl ?_
          refine s_nil ?_
          rw [AH.set_set]
          refine afix (d := 5) rfl hb5 ?_
          refine amidz (fun _ : Unit => True) (fun _ => [(1, .iptr (.agg [.agg [.list false 2 (ts.map tv), ints ns], .list false 1 (ds.map ints)])), (3, iv i), (4, .iptr (tv a))]) (fun _ => σ) ?_ ?_
          · refine aseq ?_
            refine areg rfl ?_
            refine s_det (D.move rfl) rfl ?_
            refine s_det (D.call (evc rfl ev0) b_graduslaw3_num (graduslaw3_num _)) rfl ?_
            refine s_cmp (D.eql rfl rfl rfl) rfl (fun h51 => ?_) (fun h51 => ?_)
            · replace h51 := of_decide_eq_true h51
              obtain ⟨ha, hl2⟩ := turnS_zero h51
              obtain ⟨r, c, x, rfl, hx, hr, hr8, hc, hc8⟩ := ha.mat hl2
              have hq : turnS (turnS ⟨[(r : Int), (c : Int)], x⟩).1 = (⟨[(r : Int), (c : Int)], x⟩, 0) := by
                rw [turnS_k ha]
                exact (turnS_mx (Mx.turn r c _) hc hc8 hr hr8).trans (congrArg (fun e => (e, (0 : Int))) (turn_turn (Mx.lit hx)))
              refine s_nil ?_
              refine acond_t rfl ?_
              refine aseq ?_
              refine areg rfl ?_
              refine s_det (D.load_i rfl rfl) rfl ?_
              refine s_det (D.call (evc rfl ev0) b_turn_Turn ((turn_Turn (turnS ⟨[(r : Int), (c : Int)], x⟩).1).to (y' := .tup [tv ⟨[(r : Int), (c : Int)], x⟩, iv 0]) (by rw [hq]))) rfl ?_
              refine s_det (D.move rfl) rfl ?_
              refine s_det (D.extract rfl rfl) rfl ?_
              refine s_det (D.extract rfl rfl) rfl ?_
              refine s_act rfl (A.alloc rfl rfl rfl fun b7 hb7 => ?_)
              refine s_do (A.store rfl rfl (AH.set_self ..) rfl rfl (by rfl) rfl rfl ?_)
              refine s_det (D.assign rfl) rfl ?_
              refine s_nil ?_
              rw [AH.set_set]
              refine afix (d := 7) rfl hb7 ?_
              refine aseq ?_
              refine areg rfl ?_
              refine s_det (D.move rfl) rfl ?_
              refine s_det (D.call (evc rfl ev0) b_graduslaw3_num (graduslaw3_num _)) rfl ?_
              refine s_det (D.neq rfl rfl (decide_eq_false (by omega))) rfl ?_
              refine s_det (D.move rfl) rfl ?_
              refine s_yes rfl rfl ?_
              refine s_det (D.load_i rfl rfl) rfl ?_
              refine s_yes rfl rfl ?_
              refine s_det (D.load_i rfl rfl) rfl ?_
              refine s_yes rfl rfl ?_
              refine s_det (D.call (evc rfl (evc rfl ev0)) b_gradusref0_EqTensor (eqT_k ha ha rfl)) rfl ?_
              refine s_yes rfl rfl ?_
              refine s_det (D.not rfl rfl) rfl ?_
              refine s_det (D.pick rfl rfl rfl rfl) rfl ?_
              refine s_nil ?_
              refine acond_f rfl ?_
              refine askip ?_
              exact ⟨(), trivial, Sub.refl σ, (.cons rfl (.cons rfl (.cons rfl .nil)))⟩
            · replace h51 := of_decide_eq_false h51
              refine s_nil ?_
              refine acond_f rfl ?_
              refine askip ?_
              exact ⟨(), trivial, Sub.refl σ, (.cons rfl (.cons rfl (.cons rfl .nil)))⟩
          · intro _ _
            refine aseq ?_
            refine areg rfl ?_
            refine s_det (D.load_i rfl rfl) rfl ?_
            refine s_det (D.load_i rfl rfl) rfl ?_
            refine s_det (D.call (evc rfl (evc rfl ev0)) b_graduslaw3_dims (graduslaw3_dims ts ns ds a (by omega) hsa)) rfl ?_
            refine s_det (D.assign rfl) rfl ?_
            refine s_nil ?_
            refine aseq ?_
            refine areg rfl ?_
            refine s_det (D.assign rfl) rfl ?_
            refine s_nil ?_
            refine ablock ?_
            -- LOOP writes [10] keeps [1, 3, 4, 9]
            refine aloop (ι := Nat) (fun k => k ≤ (dimsS ds a).length) (fun k => (dimsS ds a).length - k) (fun k => [(1, .iptr (.agg [.agg [.list false 2 (ts.map tv), ints ns], .list false 1 (ds.map ints)])), (3, iv i), (4, .iptr (tv a)), (9, .list false 1 ((dimsS ds a).map fun x => ints x)), (10, iv k)]) (fun k => σ) 0 (by omega) ?_ rfl fun k hk => ?_
            · exact (.cons rfl (.cons rfl (.cons rfl (.cons rfl (.cons rfl .nil)))))
            refine aseq ?_
            refine aseq ?_
            refine areg rfl ?_
            refine s_det (D.move rfl) rfl ?_
            refine s_det (D.move rfl) rfl ?_
            refine s_det (D.len_m rfl rfl) rfl ?_
            refine s_cmp (D.lss rfl rfl rfl) rfl (fun h72 => ?_) (fun h72 => ?_)
            · replace h72 := of_decide_eq_true h72
              obtain ⟨d, hvd⟩ : ∃ d, (dimsS ds a)[k]? = some d := ⟨_, get_lt (by omega)⟩
              have hsd : d.length ≤ 1000 := dimsS_sm hds d (List.mem_of_getElem? hvd)
              have hdn := dimsS_len ds a
              refine s_nil ?_
              refine acond_t rfl ?_
              refine askip ?_
              refine aseq ?_
              refine ablock ?_
              refine aseq ?_
              refine adraw [.det 0, .det 1, .det 2, .det 3, .det 4, .det 5, .det 6, .det 7, .det 8, .act 9, .act 10, .det 11] rfl (by kernel_rfl) ?_
              refine d_det rfl (D.load_i rfl rfl) rfl ?_
              refine d_det rfl (D.move rfl) rfl ?_
              refine d_det rfl (D.move rfl) rfl ?_
              refine d_det rfl (D.idx_m rfl rfl (by omega) hvd rfl) rfl ?_
              refine d_det rfl (D.load_i rfl rfl) rfl ?_
              refine d_det rfl (D.call (evc rfl (evc rfl ev0)) b_turn_Wide (turn_Wide a d)) rfl ?_
              refine d_det rfl (D.move rfl) rfl ?_
              refine d_det rfl (D.extract rfl rfl) rfl ?_
              refine d_det rfl (D.extract rfl rfl) rfl ?_
              refine d_act rfl rfl rfl (A.alloc rfl rfl rfl fun b11 hb11 => ?_)
              refine d_do rfl (by kernel_rfl) (A.store rfl rfl (AH.set_self ..) rfl rfl (by rfl) rfl rfl ?_)
              refine d_det rfl (D.assign rfl) rfl ?_
              refine d_nil ?_
              rw [AH.set_set]
              refine afix (d := 11) rfl hb11 ?_
              refine amidz (fun _ : Unit => True) (fun _ => [(1, .iptr (.agg [.agg [.list false 2 (ts.map tv), ints ns], .list false 1 (ds.map ints)])), (3, iv i), (4, .iptr (tv a)), (9, .list false 1 ((dimsS ds a).map fun x => ints x)), (10, iv k)]) (fun _ => σ) ?_ ?_
              · refine aseq ?_
                refine areg rfl ?_
                refine s_det (D.move rfl) rfl ?_
                refine s_det (D.call (evc rfl ev0) b_graduslaw3_num (graduslaw3_num _)) rfl ?_
                refine s_cmp (D.eql rfl rfl rfl) rfl (fun h86 => ?_) (fun h86 => ?_)
                · replace h86 := of_decide_eq_true h86
                  obtain ⟨⟨ha, hd⟩, hg2⟩ := wayS_zero h86
                  have hw : (wideS a d).1 = wideT a d := congrArg Prod.fst (wayS_k ⟨ha, hd⟩ hg2)
                  have oW : okTn (wideS a d).1 := by rw [hw]; exact wideT_ok hd
                  have oB := dotB_ok oW
                  have h64 := oW.len.2.1
                  have hs : sumS (dotB (wideS a d).1) a.d = (sumT (dotB (wideS a d).1) a.d, 0) := wayS_k ⟨oB, ha.1⟩ (by show growsD a.d (wideS a d).1.d; rw [hw]; exact hg2)
                  refine s_nil ?_
                  refine acond_t rfl ?_
                  refine aseq ?_
                  refine areg rfl ?_
                  refine s_det (D.load_i rfl rfl) rfl ?_
                  refine s_act rfl (A.call (evc rfl ev0) b_gradusref0_CopyTensor (gradusref0_CopyTensor_own (wideS a d).1 (wideS_sm a d) _) fun y σ' hy => ?_)
                  obtain ⟨b88, c88, hb88, hc88, hn88, rfl, rfl⟩ := hy
                  refine s_act rfl (A.alloc rfl rfl rfl fun b13 hb13 => ?_)
                  refine s_do (A.store rfl rfl (AH.set_self ..) rfl rfl (by rfl) rfl rfl ?_)
                  refine s_nil ?_
                  rw [AH.set_set]
                  refine afix (d := 13) rfl hb13 ?_
                  refine amidz (fun _ : Unit => True) (fun _ => [(1, .iptr (.agg [.agg [.list false 2 (ts.map tv), ints ns], .list false 1 (ds.map ints)])), (3, iv i), (4, .iptr (tv a)), (9, .list false 1 ((dimsS ds a).map fun x => ints x)), (10, iv k), (11, .iptr (tv (wideS a d).1)), (13, .iptr (tv (dotB (wideS a d).1)))]) (fun _ => σ) ?_ ?_
                  · refine aseq ?_
                    refine areg rfl ?_
                    refine s_det (D.assign rfl) rfl ?_
                    refine s_nil ?_
                    refine ablock ?_
                    -- LOOP writes [14] keeps [1, 3, 4, 9, 10, 11, 13]
                    refine aloop (ι := Nat) (fun j => j ≤ (wideS a d).1.x.length) (fun j => (wideS a d).1.x.length - j) (fun j => [(1, .iptr (.agg [.agg [.list false 2 (ts.map tv), ints ns], .list false 1 (ds.map ints)])), (3, iv i), (4, .iptr (tv a)), (9, .list false 1 ((dimsS ds a).map fun x => ints x)), (10, iv k), (11, .iptr (tv (wideS a d).1)), (13, .iptr (.agg [.ref b88 1 0 (wideS a d).1.d.length, .ref c88 1 0 (wideS a d).1.x.length])), (14, iv j)]) (fun j => σ.ten b88 c88 (wideS a d).1.d ((dotB (wideS a d).1).x.take j ++ (wideS a d).1.x.drop j)) 0 (by omega) ?_ rfl fun j hj => ?_
                    · exact (.cons rfl (.cons rfl (.cons rfl (.cons rfl (.cons rfl (.cons rfl (.cons rfl (.cons rfl .nil))))))))
                    refine aseq ?_
                    refine aseq ?_
                    refine areg rfl ?_
                    refine s_det (D.move rfl) rfl ?_
                    refine s_det (D.field_i rfl rfl rfl) rfl ?_
                    refine s_det (D.load_i rfl rfl) rfl ?_
                    refine s_det (D.len_r rfl rfl) rfl ?_
                    refine s_cmp (D.lss rfl rfl rfl) rfl (fun h93 => ?_) (fun h93 => ?_)
                    · replace h93 := of_decide_eq_true h93
                      have hlt : j < (wideS a d).1.x.length := by omega
                      have hjj : j * j ≤ 64 * 64 := Nat.mul_le_mul (by omega) (by omega)
                      refine s_nil ?_
                      refine acond_t rfl ?_
                      refine askip ?_
                      refine aseq ?_
                      refine ablock ?_
                      refine adraw [.det 0, .det 1, .det 2, .det 3, .det 4, .det 5, .det 6, .det 7, .det 8, .det 9, .det 10, .det 11, .det 12, .det 13, .act 14] rfl (by kernel_rfl) ?_
                      refine d_det rfl (D.field_i rfl rfl rfl) rfl ?_
                      refine d_det rfl (D.load_i rfl rfl) rfl ?_
                      refine d_det rfl (D.move rfl) rfl ?_
                      refine d_det rfl (D.field_i rfl rfl rfl) rfl ?_
                      refine d_det rfl (D.load_i rfl rfl) rfl ?_
                      refine d_det rfl (D.move rfl) rfl ?_
                      refine d_det rfl (D.idx_r rfl rfl (by omega) rfl) rfl ?_
                      refine d_own ten_x rfl (D.load_x rfl (mix_get (A := (dotB (wideS a d).1).x) (B := (wideS a d).1.x) (dotB_len _) (by rw [dotB_len]; omega) (Nat.le_refl _) hlt) rfl) rfl ?_
                      refine d_det rfl (D.mul rfl rfl rfl) rfl ?_
                      refine d_det rfl (D.move rfl) rfl ?_
                      refine d_det rfl (D.move rfl) rfl ?_
                      refine d_det rfl (D.mul rfl rfl (mulN (a := j) (b := j) (by omega))) rfl ?_
                      refine d_det rfl (D.add rfl rfl rfl) rfl ?_
                      refine d_det rfl (D.idx_r rfl rfl (by omega) rfl) rfl ?_
                      refine d_do rfl (by kernel_rfl) (A.store_t rfl rfl (by rw [mix_len (dotB_len _) (by rw [dotB_len]; omega), dotB_len]; exact hlt) rfl ?_)
                      refine d_nil ?_
                      refine areg rfl ?_
                      refine s_det (D.move rfl) rfl ?_
                      refine s_det (D.add rfl rfl (w64 (by omega) (by omega))) rfl ?_
                      refine s_det (D.assign rfl) rfl ?_
                      refine s_nil ?_
                      exact ⟨j + 1, by omega, by omega, (.cons rfl (.cons rfl (.cons rfl (.cons rfl (.cons rfl (.cons rfl (.cons rfl (.cons rfl .nil)))))))), congrArg (AH.ten _ b88 c88 _) (mix_set (dotB_len _) (by rw [dotB_len]; exact hlt) (by simp only [dotB, tab_getE]; rw [rdN_get hlt]))⟩
                    · replace h93 := of_decide_eq_false h93
                      refine s_nil ?_
                      refine acond_f rfl ?_
                      rw [mix_all (dotB_len _) (by rw [dotB_len]; omega)]
                      refine afreezex [(1, .iptr (.agg [.agg [.list false 2 (ts.map tv), ints ns], .list false 1 (ds.map ints)])), (3, iv i), (4, .iptr (tv a)), (9, .list false 1 ((dimsS ds a).map fun x => ints x)), (10, iv k), (11, .iptr (tv (wideS a d).1)), (13, .iptr (tv (dotB (wideS a d).1)))] σ (by repeat (first | exact Sub.refl _ | refine Sub.set ?_ (by first | assumption | exact (AH.set_none (by assumption)).1 | exact (AH.set_none (AH.set_none (by assumption)).1).1 | exact (AH.set_none (AH.set_none (AH.set_none (by assumption)).1).1).1 | exact (AH.set_none (AH.set_none (AH.set_none (AH.set_none (by assumption)).1).1).1).1 | exact (AH.set_none (AH.set_none (AH.set_none (AH.set_none (AH.set_none (by assumption)).1).1).1).1).1 | exact (AH.set_none (AH.set_none (AH.set_none (AH.set_none (AH.set_none (AH.set_none (by assumption)).1).1).1).1).1).1) _)) (.cons rfl (.cons rfl (.cons rfl (.cons rfl (.cons rfl (.cons rfl (.fz rfl (.iptr (by have := Pz.ten (ρ := σ) (t := dotB (wideS a d).1) (ten_d (σ := σ) (d := (wideS a d).1.d) hn88) ten_x hb88 hc88; rw [dotB_len] at this; exact this)) .nil))))))) ?_
                      refine aexit ?_
                      exact ⟨(), trivial, Sub.refl _, (.cons rfl (.cons rfl (.cons rfl (.cons rfl (.cons rfl (.cons rfl (.cons rfl .nil)))))))⟩
                  · intro _ _
                    refine aseq ?_
                    refine areg rfl ?_
                    refine s_det (D.load_i rfl rfl) rfl ?_
                    refine s_det (D.field_i rfl rfl rfl) rfl ?_
                    refine s_det (D.load_i rfl rfl) rfl ?_
                    refine s_det (D.call (evc rfl (evc rfl ev0)) b_turn_Sum ((turn_Sum (dotB (wideS a d).1) a.d).to (y' := .tup [tv (sumT (dotB (wideS a d).1) a.d), iv 0]) (by rw [hs]))) rfl ?_
                    skip
                    refine s_det (D.move rfl) rfl ?_
                    refine s_det (D.extract rfl rfl) rfl ?_
                    refine s_det (D.extract rfl rfl) rfl ?_
                    refine s_act rfl (A.alloc rfl rfl rfl fun b15 hb15 => ?_)
                    refine s_do (A.store rfl rfl (AH.set_self ..) rfl rfl (by rfl) rfl rfl ?_)
                    refine s_det (D.assign rfl) rfl ?_
                    refine s_nil ?_
                    rw [AH.set_set]
                    refine afix (d := 15) rfl hb15 ?_
                    refine aseq ?_
                    refine areg rfl ?_
                    refine s_det (D.load_i rfl rfl) rfl ?_
                    refine s_det (D.load_i rfl rfl) rfl ?_
                    refine s_det (D.call (evc rfl (evc rfl ev0)) b_ring_Dot ((ring_Dot (wideS a d).1 (dotB (wideS a d).1)).to (y' := .tup [iv (sumW (zipT opM (wideS a d).1 (dotB (wideS a d).1)).x), iv 0]) (by rw [two_ok oW oB rfl]))) rfl ?_
                    skip
                    refine s_det (D.move rfl) rfl ?_
                    refine s_det (D.extract rfl rfl) rfl ?_
                    refine s_det (D.extract rfl rfl) rfl ?_
                    refine s_det (D.assign rfl) rfl ?_
                    refine s_det (D.assign rfl) rfl ?_
                    refine s_nil ?_
                    refine aseq ?_
                    refine areg rfl ?_
                    refine s_det (D.load_i rfl rfl) rfl ?_
                    refine s_det (D.load_i rfl rfl) rfl ?_
                    refine s_det (D.call (evc rfl (evc rfl ev0)) b_ring_Dot ((ring_Dot a (sumT (dotB (wideS a d).1) a.d)).to (y' := .tup [iv (sumW (zipT opM a (sumT (dotB (wideS a d).1) a.d)).x), iv 0]) (by rw [two_ok ha (sumT_ok ha.1) rfl]))) rfl ?_
                    refine s_det (D.move rfl) rfl ?_
                    refine s_det (D.extract rfl rfl) rfl ?_
                    refine s_det (D.extract rfl rfl) rfl ?_
                    refine s_det (D.assign rfl) rfl ?_
                    refine s_det (D.assign rfl) rfl ?_
                    refine s_nil ?_
                    refine aseq ?_
                    refine areg rfl ?_
                    refine s_det (D.move rfl) rfl ?_
                    refine s_det (D.call (evc rfl ev0) b_graduslaw3_num (graduslaw3_num _)) rfl ?_
                    refine s_det (D.neq rfl rfl (decide_eq_false (by omega))) rfl ?_
                    refine s_det (D.move rfl) rfl ?_
                    refine s_yes rfl rfl ?_
                    refine s_det (D.move rfl) rfl ?_
                    refine s_yes rfl rfl ?_
                    refine s_det (D.call (evc rfl ev0) b_graduslaw3_num (graduslaw3_num _)) rfl ?_
                    refine s_yes rfl rfl ?_
                    refine s_det (D.neq rfl rfl (decide_eq_false (by omega))) rfl ?_
                    refine s_det (D.pick rfl rfl rfl rfl) rfl ?_
                    refine s_det (D.move rfl) rfl ?_
                    refine s_yes rfl rfl ?_
                    refine s_det (D.move rfl) rfl ?_
                    refine s_yes rfl rfl ?_
                    refine s_det (D.call (evc rfl ev0) b_graduslaw3_num (graduslaw3_num _)) rfl ?_
                    refine s_yes rfl rfl ?_
                    refine s_det (D.neq rfl rfl (decide_eq_false (by omega))) rfl ?_
                    refine s_det (D.pick rfl rfl rfl rfl) rfl ?_
                    refine s_det (D.move rfl) rfl ?_
                    refine s_yes rfl rfl ?_
                    refine s_det (D.move rfl) rfl ?_
                    refine s_yes rfl rfl ?_
                    refine s_det (D.move rfl) rfl ?_
                    refine s_yes rfl rfl ?_
                    refine s_det (D.neq rfl rfl (decide_eq_false (fun h => h (by rw [hw]; exact dot_wide ha hd hg2 (by rw [dotB_len]; simp [wideT, tab_len]))))) rfl ?_
                    refine s_det (D.pick rfl rfl rfl rfl) rfl ?_
                    refine s_nil ?_
                    refine acond_f rfl ?_
                    refine askip ?_
                    exact ⟨(), trivial, Sub.refl σ, (.cons rfl (.cons rfl (.cons rfl (.cons rfl (.cons rfl .nil)))))⟩
                · replace h86 := of_decide_eq_false h86
                  refine s_nil ?_
                  refine acond_f rfl ?_
                  refine askip ?_
                  exact ⟨(), trivial, Sub.refl σ, (.cons rfl (.cons rfl (.cons rfl (.cons rfl (.cons rfl .nil)))))⟩
              · intro _ _
                refine aseq ?_
                refine adraw [.det 0, .det 1, .det 2, .det 3, .det 4, .det 5, .det 6, .det 7, .det 8, .act 9, .act 10, .det 11] rfl (by kernel_rfl) ?_
                refine d_det rfl (D.load_i rfl rfl) rfl ?_
                refine d_det rfl (D.move rfl) rfl ?_
                refine d_det rfl (D.move rfl) rfl ?_
                refine d_det rfl (D.idx_m rfl rfl (by omega) hvd rfl) rfl ?_
                refine d_det rfl (D.load_i rfl rfl) rfl ?_
                refine d_det rfl (D.call (evc rfl (evc rfl ev0)) b_turn_Shape (turn_Shape a d)) rfl ?_
                refine d_det rfl (D.move rfl) rfl ?_
                refine d_det rfl (D.extract rfl rfl) rfl ?_
                refine d_det rfl (D.extract rfl rfl) rfl ?_
                refine d_act rfl rfl rfl (A.alloc rfl rfl rfl fun b21 hb21 => ?_)
                refine d_do rfl (by kernel_rfl) (A.store rfl rfl (AH.set_self ..) rfl rfl (by rfl) rfl rfl ?_)
                refine d_det rfl (D.assign rfl) rfl ?_
                refine d_nil ?_
                rw [AH.set_set]
                refine afix (d := 21) rfl hb21 ?_
                refine aseq ?_
                refine areg rfl ?_
                refine s_det (D.move rfl) rfl ?_
                refine s_det (D.call (evc rfl ev0) b_graduslaw3_num (graduslaw3_num _)) rfl ?_
                refine s_cmp (D.eql rfl rfl rfl) rfl (fun h158 => ?_) (fun h158 => ?_)
                · replace h158 := of_decide_eq_true h158
                  obtain ⟨⟨ha, hd⟩, hpd⟩ := wayS_zero h158
                  have hq : shapeS (shapeS a d).1 a.d = (a, 0) := by
                    rw [show shapeS a d = (⟨d, a.x⟩, 0) from wayS_k ⟨ha, hd⟩ hpd]
                    exact wayS_k ⟨⟨hd, hpd.symm⟩, ha.1⟩ ha.2.symm
                  refine s_nil ?_
                  refine acond_t rfl ?_
                  refine aseq ?_
                  refine areg rfl ?_
                  refine s_det (D.load_i rfl rfl) rfl ?_
                  refine s_det (D.field_i rfl rfl rfl) rfl ?_
                  refine s_det (D.load_i rfl rfl) rfl ?_
                  refine s_det (D.call (evc rfl (evc rfl ev0)) b_turn_Shape ((turn_Shape (shapeS a d).1 a.d).to (y' := .tup [tv a, iv 0]) (by rw [hq]))) rfl ?_
                  refine s_det (D.move rfl) rfl ?_
                  refine s_det (D.extract rfl rfl) rfl ?_
                  refine s_det (D.extract rfl rfl) rfl ?_
                  refine s_act rfl (A.alloc rfl rfl rfl fun b22 hb22 => ?_)
                  refine s_do (A.store rfl rfl (AH.set_self ..) rfl rfl (by rfl) rfl rfl ?_)
                  refine s_det (D.assign rfl) rfl ?_
                  refine s_nil ?_
                  rw [AH.set_set]
                  refine afix (d := 22) rfl hb22 ?_
                  refine aseq ?_
                  refine areg rfl ?_
                  refine s_det (D.move rfl) rfl ?_
                  refine s_det (D.call (evc rfl ev0) b_graduslaw3_num (graduslaw3_num _)) rfl ?_
                  refine s_det (D.neq rfl rfl (decide_eq_false (by omega))) rfl ?_
                  refine s_det (D.move rfl) rfl ?_
                  refine s_yes rfl rfl ?_
                  refine s_det (D.load_i rfl rfl) rfl ?_
                  refine s_yes rfl rfl ?_
                  refine s_det (D.load_i rfl rfl) rfl ?_
                  refine s_yes rfl rfl ?_
                  refine s_det (D.call (evc rfl (evc rfl ev0)) b_gradusref0_EqTensor (eqT_k ha ha rfl)) rfl ?_
                  refine s_yes rfl rfl ?_
                  refine s_det (D.not rfl rfl) rfl ?_
                  refine s_det (D.pick rfl rfl rfl rfl) rfl ?_
                  refine s_nil ?_
                  refine acond_f rfl ?_
                  refine askip ?_
                  refine areg rfl ?_
                  refine s_det (D.move rfl) rfl ?_
                  refine s_det (D.add rfl rfl (w64 (by omega) (by omega))) rfl ?_
                  refine s_det (D.assign rfl) rfl ?_
                  refine s_nil ?_
                  exact ⟨k + 1, by omega, by omega, (.cons rfl (.cons rfl (.cons rfl (.cons rfl (.cons rfl .nil))))), rfl⟩
                · replace h158 := of_decide_eq_false h158
                  refine s_nil ?_
                  refine acond_f rfl ?_
                  refine askip ?_
                  refine areg rfl ?_
                  refine s_det (D.move rfl) rfl ?_
                  refine s_det (D.add rfl rfl (w64 (by omega) (by omega))) rfl ?_
                  refine s_det (D.assign rfl) rfl ?_
                  refine s_nil ?_
                  exact ⟨k + 1, by omega, by omega, (.cons rfl (.cons rfl (.cons rfl (.cons rfl (.cons rfl .nil))))), rfl⟩
            · replace h72 := of_decide_eq_false h72
              refine s_nil ?_
              refine acond_f rfl ?_
              refine aexit ?_
              refine areg rfl ?_
              refine s_det (D.move rfl) rfl ?_
              refine s_det (D.add rfl rfl (w64 (by omega) (by omega))) rfl ?_
              refine s_det (D.assign rfl) rfl ?_
              refine s_nil ?_
              exact ⟨i + 1, by omega, by omega, (.cons rfl (.cons rfl .nil)), rfl⟩
        · replace h34 := of_decide_eq_false h34
          refine s_det (D.pick rfl rfl rfl rfl) rfl ?_
          refine s_nil ?_
          refine acond_f rfl ?_
          refine aexit ?_
          exact ⟨(), trivial, Sub.refl _, .nil⟩
      · replace h31 := of_decide_eq_false h31
        refine s_det (D.move rfl) rfl ?_
        refine s_no rfl rfl rfl rfl ?_
        refine s_no rfl rfl rfl rfl ?_
        refine s_det (D.pick rfl rfl rfl rfl) rfl ?_
        refine s_nil ?_
        refine acond_f rfl ?_
        refine aexit ?_
        exact ⟨(), trivial, Sub.refl _, .nil⟩
    · intro _ _
      refine aseq ?_
      refine areg rfl ?_
      refine s_det (D.call ev0 b_graduslaw3_wakes graduslaw3_wakes) rfl ?_
      refine s_det (D.assign rfl) rfl ?_
      refine s_nil ?_
      refine aret ?_
      exact ⟨[_], ⟨⟨rfl, rfl⟩, trivial⟩, rfl, rfl⟩

theorem turnDots_pure (x : Ask3) (hx : G67 x) : Pure Try.prog 19 [enc67 x] (bv true) := graduslaw3_TurnDots x.1.1 x.1.2 x.2 hx.1.ok.1 hx.1.ok.2.1 hx.1.ok.2.2 hx.ok.1 hx.ok.2

end Go.Proofs.Ytpjcidlkdfebhaa.F
