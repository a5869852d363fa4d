/- Functions of the program and of the references: what they compute, by the layer Al. Made by a program of this session (wip/al/alfill.py) out of wip/al/specs. -/
import Derived.Test.YtpjcidlkdfebhaaGl
import Derived.Test.YtpjcidlkdfebhaaAskTen
import Derived.Test.YtpjcidlkdfebhaaProg
namespace Go.Proofs.Ytpjcidlkdfebhaa.F
open Go Go.Proofs.Al
set_option linter.unusedVariables false
set_option linter.unusedSimpArgs false
theorem sub_both {ρ σ : AH} (h : Sub ρ σ) (b : Nat) (x : Blk) : Sub (ρ.set b x) (σ.set b x) := fun c y hc => by
  by_cases e : c = b
  · subst e; rw [AH.set_self] at hc ⊢; exact hc
  · rw [AH.set_ne e] at hc ⊢; exact h c y hc
theorem del_ne {σ : AH} {b c : Nat} (h : c ≠ b) : (σ.del b) c = σ c := by simp only [AH.del]; rw [if_neg h]

set_option maxRecDepth 10000 in
theorem graduslaw5_GateOpens (ts : List Tn) (ns : List Int) (ht : ts.length ≤ 17592186044416) (hn : ns.length ≤ 17592186044416) (hf : ∀ t ∈ ts, t.fit) : Pure Try.prog 15 [.agg [.list false 2 (ts.map tv), ints ns]] (bv true) := by
  have hwt := wtT_le hf ht
  intro σ
  refine acalls Try.func15 rfl rfl (by decide) rfl rfl ?_
  refine aseq ?_
  refine areg rfl ?_
  refine s_det (D.box_i rfl rfl) rfl ?_
  refine s_det (D.assign rfl) rfl ?_
  refine s_nil ?_
  refine aseq ?_
  refine aseq ?_
  refine areg rfl ?_
  refine s_det (D.load_i rfl rfl) rfl ?_
  refine s_cmp (D.call (evc rfl ev0) b_graduslaw2_Heavy (graduslaw2_Heavy ts ns (by omega) (by omega) hf hwt)) rfl (fun h30 => ?_) (fun h30 => ?_)
  · replace h30 := of_decide_eq_true h30
    refine s_nil ?_
    refine acond_t rfl ?_
    refine aseq ?_
    refine areg rfl ?_
    refine s_det (D.assign rfl) rfl ?_
    refine s_nil ?_
    refine aret ?_
    exact ⟨[_], ⟨⟨rfl, rfl⟩, trivial⟩, rfl, rfl⟩
  · replace h30 := of_decide_eq_false h30
    obtain ⟨hts, hsm⟩ := wtT_small (l := ts) (by omega)
    have hsm2 : ∀ t ∈ ts, t.sm := fun t h => by have := hsm t h; exact ⟨by omega, by omega⟩
    refine s_nil ?_
    refine acond_f rfl ?_
    refine askip ?_
    refine amidz (fun _ : Unit => True) (fun _ => []) (fun _ => σ) ?_ ?_
    · refine aseq ?_
      refine areg rfl ?_
      refine s_det (D.assign rfl) rfl ?_
      refine s_nil ?_
      refine ablock ?_
      -- LOOP writes [3] keeps [1]
      refine aloop (ι := Nat) (fun i => i ≤ ts.length) (fun i => ts.length - i) (fun i => [(1, .iptr (.agg [.list false 2 (ts.map tv), ints ns])), (3, iv i)]) (fun i => σ) 0 (by omega) ?_ rfl fun i hi => ?_
      · exact (.cons rfl (.cons rfl .nil))
      refine aseq ?_
      refine aseq ?_
      refine areg rfl ?_
      refine s_det (D.move rfl) rfl ?_
      refine s_det (D.field_i rfl rfl rfl) rfl ?_
      refine s_det (D.load_i rfl rfl) rfl ?_
      refine s_det (D.len_m rfl rfl) rfl ?_
      refine s_cmp (D.lss rfl rfl rfl) rfl (fun h35 => ?_) (fun h35 => ?_)
      · replace h35 := of_decide_eq_true h35
        refine s_det (D.move rfl) rfl ?_
        refine s_yes rfl rfl ?_
        refine s_det (D.move rfl) rfl ?_
        refine s_yes rfl rfl ?_
        refine s_cmp (D.lss rfl rfl rfl) rfl (fun h38 => ?_) (fun h38 => ?_)
        · replace h38 := of_decide_eq_true h38
          obtain ⟨a, hva⟩ : ∃ a, ts[i]? = some a := ⟨_, get_lt (by omega)⟩
          have hsa := hsm2 a (List.mem_of_getElem? hva)
          refine s_det (D.pick rfl rfl rfl rfl) rfl ?_
          refine s_nil ?_
          refine acond_t rfl ?_
          refine askip ?_
          refine aseq ?_
          refine ablock ?_
          refine aseq ?_
          refine areg rfl ?_
          refine s_det (D.field_i rfl rfl rfl) rfl ?_
          refine s_det (D.load_i rfl rfl) rfl ?_
          refine s_det (D.move rfl) rfl ?_
          refine s_det (D.idx_m rfl rfl (by omega) hva rfl) rfl ?_
          refine s_det (D.load_i rfl rfl) rfl ?_
          refine s_det (D.call (evc rfl ev0) b_gradusref0_CopyTensor (gradusref0_CopyTensor a hsa)) rfl ?_
          refine s_act rfl (A.alloc rfl rfl rfl fun b4 hb4 => ?_)
          refine s_do (A.store rfl rfl (AH.set_self ..) rfl rfl (by rfl) rfl rfl ?_)
          refine s_nil ?_
          rw [AH.set_set]
          refine afix (d := 4) rfl hb4 ?_
          refine aseq ?_
          refine areg rfl ?_
          refine s_det (D.load_i rfl rfl) rfl ?_
          refine s_det (D.call (evc rfl ev0) b_gradusref1_Tensor (gradusref1_Tensor a)) rfl ?_
          refine s_det (D.assign rfl) rfl ?_
          refine s_nil ?_
          refine aseq ?_
          refine areg rfl ?_
          refine s_det (D.load_i rfl rfl) rfl ?_
          refine s_det (D.call (evc rfl ev0) b_gate_Relu (gate_Relu a)) rfl ?_
          refine s_det (D.move rfl) rfl ?_
          refine s_det (D.extract rfl rfl) rfl ?_
          refine s_det (D.extract rfl rfl) rfl ?_
          refine s_act rfl (A.alloc rfl rfl rfl fun b6 hb6 => ?_)
          refine s_do (A.store rfl rfl (AH.set_self ..) rfl rfl (by rfl) rfl rfl ?_)
          refine s_det (D.assign rfl) rfl ?_
          refine s_nil ?_
          rw [AH.set_set]
          refine afix (d := 6) rfl hb6 ?_
          refine aseq ?_
          refine areg rfl ?_
          refine s_det (D.assign rfl) rfl ?_
          refine s_nil ?_
          refine aseq ?_
          refine areg rfl ?_
          refine s_act rfl (A.alloc rfl rfl rfl fun b9 hb9 => ?_)
          refine s_nil ?_
          refine amidz (fun _ : Unit => True) (fun _ => [(1, .iptr (.agg [.list false 2 (ts.map tv), ints ns])), (3, iv i), (4, .iptr (tv a)), (5, bv (decide (okTn a))), (6, .iptr (tv (stepS a a).1)), (7, iv (stepS a a).2), (8, iv (stepS a a).2), (9, .iptr (tv (stepS a a).1))]) (fun _ => σ) ?_ ?_
          · refine acase (d := 5) rfl (fun h5 => ?_) (fun h5 => ?_)
            · replace h5 := of_decide_eq_true h5
              refine aseq ?_
              refine areg rfl ?_
              refine s_det (D.move rfl) rfl ?_
              refine s_nil ?_
              refine acond_t rfl ?_
              refine areg rfl ?_
              refine s_det (D.load_i rfl rfl) rfl ?_
              refine s_det (D.load_i rfl rfl) rfl ?_
              refine s_det (D.call (evc rfl (evc rfl ev0)) b_gradusref1_Gate (gradusref1_Gate a a hsa hsa rfl)) rfl ?_
              refine s_det (D.assign rfl) rfl ?_
              refine s_do (A.store rfl rfl (AH.set_self ..) rfl rfl (by rfl) rfl rfl ?_)
              have hp : stepS a a = (gateT a a, 0) := wayS_k ⟨h5, h5⟩ rfl
              refine s_nil ?_
              exact ⟨(), trivial, (by repeat (first | exact Sub.refl _ | refine Sub.set ?_ (by first | assumption | exact (AH.set_none (by assumption)).1 | exact (AH.set_none (AH.set_none (by assumption)).1).1 | exact (AH.set_none (AH.set_none (AH.set_none (by assumption)).1).1).1 | exact (AH.set_none (AH.set_none (AH.set_none (AH.set_none (by assumption)).1).1).1).1 | exact (AH.set_none (AH.set_none (AH.set_none (AH.set_none (AH.set_none (by assumption)).1).1).1).1).1 | exact (AH.set_none (AH.set_none (AH.set_none (AH.set_none (AH.set_none (AH.set_none (by assumption)).1).1).1).1).1).1) _)), .cons rfl (.cons rfl (.cons rfl (.cons (congrArg (fun e => some (bv e)) (decide_eq_true h5).symm) (.cons rfl (.cons rfl (.cons (congrArg (fun e : Tn × Int => some (iv e.2)) hp.symm) (.fix rfl (AH.set_self ..) (by first | assumption | exact (AH.set_none (by assumption)).1 | exact (AH.set_none (AH.set_none (by assumption)).1).1 | exact (AH.set_none (AH.set_none (AH.set_none (by assumption)).1).1).1 | exact (AH.set_none (AH.set_none (AH.set_none (AH.set_none (by assumption)).1).1).1).1 | exact (AH.set_none (AH.set_none (AH.set_none (AH.set_none (AH.set_none (by assumption)).1).1).1).1).1 | exact (AH.set_none (AH.set_none (AH.set_none (AH.set_none (AH.set_none (AH.set_none (by assumption)).1).1).1).1).1).1) (by rw [hp]; exact .refl _) .nil)))))))⟩
            · replace h5 := of_decide_eq_false h5
              have hp : stepS a a = (⟨[], []⟩, 1) := wayS_f (fun h => h5 h.1)
              refine aseq ?_
              refine areg rfl ?_
              refine s_det (D.move rfl) rfl ?_
              refine s_nil ?_
              refine acond_f rfl ?_
              refine askip ?_
              exact ⟨(), trivial, (by repeat (first | exact Sub.refl _ | refine Sub.set ?_ (by first | assumption | exact (AH.set_none (by assumption)).1 | exact (AH.set_none (AH.set_none (by assumption)).1).1 | exact (AH.set_none (AH.set_none (AH.set_none (by assumption)).1).1).1 | exact (AH.set_none (AH.set_none (AH.set_none (AH.set_none (by assumption)).1).1).1).1 | exact (AH.set_none (AH.set_none (AH.set_none (AH.set_none (AH.set_none (by assumption)).1).1).1).1).1 | exact (AH.set_none (AH.set_none (AH.set_none (AH.set_none (AH.set_none (AH.set_none (by assumption)).1).1).1).1).1).1) _)), .cons rfl (.cons rfl (.cons rfl (.cons (congrArg (fun e => some (bv e)) (decide_eq_false h5).symm) (.cons rfl (.cons rfl (.cons (congrArg (fun e : Tn × Int => some (iv e.2)) hp.symm) (.fix rfl (AH.set_self ..) (by first | assumption | exact (AH.set_none (by assumption)).1 | exact (AH.set_none (AH.set_none (by assumption)).1).1 | exact (AH.set_none (AH.set_none (AH.set_none (by assumption)).1).1).1 | exact (AH.set_none (AH.set_none (AH.set_none (AH.set_none (by assumption)).1).1).1).1 | exact (AH.set_none (AH.set_none (AH.set_none (AH.set_none (AH.set_none (by assumption)).1).1).1).1).1 | exact (AH.set_none (AH.set_none (AH.set_none (AH.set_none (AH.set_none (AH.set_none (by assumption)).1).1).1).1).1).1) (wkI (congrArg Prod.fst hp)) .nil)))))))⟩
          · intro _ _
            refine aseq ?_
            refine aseq ?_
            refine areg rfl ?_
            refine s_det (D.move rfl) rfl ?_
            refine s_det (D.call (evc rfl ev0) b_graduslaw5_num (graduslaw5_num _)) rfl ?_
            refine s_det (D.move rfl) rfl ?_
            refine s_det (D.neq rfl rfl (decide_eq_false (fun h => h rfl))) rfl ?_
            refine s_det (D.move rfl) rfl ?_
            refine s_yes rfl rfl ?_
            refine s_det (D.load_i rfl rfl) rfl ?_
            refine s_yes rfl rfl ?_
            refine s_det (D.load_i rfl rfl) rfl ?_
            refine s_yes rfl rfl ?_
            refine s_det (D.call (evc rfl (evc rfl ev0)) b_gradusref0_EqTensor (Pure.toT (gradusref0_EqTensor _ _ (stepS_sm a a) (stepS_sm a a)) rfl)) rfl ?_
            refine s_yes rfl rfl ?_
            refine s_det (D.not rfl rfl) rfl ?_
            refine s_det (D.pick rfl rfl rfl rfl) rfl ?_
            refine s_nil ?_
            refine acond_f rfl ?_
            refine askip ?_
            refine aseq ?_
            refine areg rfl ?_
            refine s_det (D.lit sl_Tensor p0 rfl rfl (by decide)) rfl ?_
            refine s_det (D.field_i rfl rfl rfl) rfl ?_
            refine s_det (D.load_i rfl rfl) rfl ?_
            refine s_act rfl (A.append_e rfl (.list rfl) sl_Tensor rfl (by simp; omega) (by decide) rfl (fun h => absurd (List.map_eq_nil_iff.1 h) (fun e => by rw [e] at hva; simp at hva)) (fun _ b72 hb72 => ?_))
            rw [List.length_map]
            refine s_det (D.assign rfl) rfl ?_
            refine s_nil ?_
            refine amidz (fun OT : List Tn => OT.length ≤ 1011 ∧ ∀ t ∈ OT, t.sm) (fun OT => [(1, .iptr (.agg [.list false 2 (ts.map tv), ints ns])), (3, iv i), (4, .iptr (tv a)), (5, bv (decide (okTn a))), (10, .list false 2 (OT.map tv))]) (fun _ => σ) ?_ ?_
            · refine aseq ?_
              refine areg rfl ?_
              refine s_det (D.assign rfl) rfl ?_
              refine s_nil ?_
              refine ablock ?_
              -- LOOP writes [10, 11] keeps [1, 3, 4, 5]
              refine aloop (ι := Nat × Nat × List Tn) (fun s => s.1 ≤ 11 ∧ σ s.2.1 = none ∧ s.2.2.length ≤ ts.length + s.1 ∧ ∀ t ∈ s.2.2, t.sm) (fun s => 11 - s.1) (fun s => [(1, .iptr (.agg [.list false 2 (ts.map tv), ints ns])), (3, iv i), (4, .iptr (tv a)), (5, bv (decide (okTn a))), (10, .ref s.2.1 2 0 s.2.2.length), (11, iv ((s.1 : Int) - 1))]) (fun s => σ.set s.2.1 (.row 2 (s.2.2.map tv))) (0, b72, ts) ⟨by simp, hb72, by simp, hsm2⟩ ?_ rfl fun s hs => ?_
              · exact (.cons rfl (.cons rfl (.cons rfl (.cons rfl (.cons rfl (.cons rfl .nil))))))
              obtain ⟨m, b, OT⟩ := s
              obtain ⟨hm11, hb, hOl, hOs⟩ := hs
              dsimp only at hm11 hb hOl hOs
              refine aseq ?_
              refine aseq ?_
              refine areg rfl ?_
              refine s_det (D.move rfl) rfl ?_
              refine s_cmp (D.leq rfl rfl rfl) rfl (fun h74 => ?_) (fun h74 => ?_)
              · replace h74 := of_decide_eq_true h74
                have h74' : ((m : Int) - 1) ≤ 9 := h74
                refine s_nil ?_
                refine acond_t rfl ?_
                refine askip ?_
                refine aseq ?_
                refine ablock ?_
                refine aseq ?_
                refine areg rfl ?_
                refine s_det (D.load_i rfl rfl) rfl ?_
                refine s_det (D.move rfl) rfl ?_
                refine s_det (D.call (evc rfl (evc rfl ev0)) b_gate_Max (gate_Max a ((m : Int) - 1))) rfl ?_
                refine s_det (D.move rfl) rfl ?_
                refine s_det (D.extract rfl rfl) rfl ?_
                refine s_det (D.extract rfl rfl) rfl ?_
                refine s_act rfl (A.alloc rfl rfl rfl fun b12 hb12 => ?_)
                refine s_do (A.store rfl rfl (AH.set_self ..) rfl rfl (by rfl) rfl rfl ?_)
                refine s_det (D.assign rfl) rfl ?_
                refine s_nil ?_
                rw [AH.set_set]
                refine afix (d := 12) rfl hb12 ?_
                refine aseq ?_
                refine areg rfl ?_
                refine s_det (D.assign rfl) rfl ?_
                refine s_nil ?_
                refine aseq ?_
                refine areg rfl ?_
                refine s_act rfl (A.alloc rfl rfl rfl fun b15 hb15 => ?_)
                have t15 := (AH.set_none hb15).1
                have nb := (AH.set_none hb15).2
                refine s_nil ?_
                refine amidz (fun s : Nat × List Tn => σ s.1 = none ∧ s.2.length ≤ ts.length + m + 1 ∧ ∀ t ∈ s.2, t.sm) (fun s => [(1, .iptr (.agg [.list false 2 (ts.map tv), ints ns])), (3, iv i), (4, .iptr (tv a)), (5, bv (decide (okTn a))), (10, .ref s.1 2 0 s.2.length), (11, iv ((m : Int) - 1)), (12, .iptr (tv (maxS a ((m : Int) - 1)).1)), (13, iv (maxS a ((m : Int) - 1)).2), (14, iv (maxS a ((m : Int) - 1)).2), (15, .iptr (tv (maxS a ((m : Int) - 1)).1))]) (fun s => σ.set s.1 (.row 2 (s.2.map tv))) ?_ ?_
                · refine acase (d := 5) rfl (fun h5 => ?_) (fun h5 => ?_)
                  · replace h5 := of_decide_eq_true h5
                    refine aseq ?_
                    refine areg rfl ?_
                    refine s_det (D.move rfl) rfl ?_
                    refine s_det (D.move rfl) rfl ?_
                    refine s_yes rfl rfl ?_
                    refine s_det (D.move rfl) rfl ?_
                    refine s_yes rfl rfl ?_
                    refine s_cmp (D.call (evc rfl (evc rfl (evc rfl ev0))) b_gradusref0_Between (gradusref0_Between ((m : Int) - 1) 1 8)) rfl (fun h86 => ?_) (fun h86 => ?_)
                    · replace h86 := of_decide_eq_true h86
                      have h86' : 1 ≤ ((m : Int) - 1) ∧ ((m : Int) - 1) ≤ 8 := h86
                      obtain ⟨k, hk⟩ : ∃ k : Nat, ((m : Int) - 1) = (k : Int) := ⟨m - 1, by omega⟩
                      have hle := lastI_get (d := a.d) (by have := h5.1.1; omega)
                      have hl0 := h5.1.1
                      have hl3 := h5.1.2.1
                      have hr := h5.1.2.2.1 _ (List.getElem_mem (show a.d.length - 1 < a.d.length by omega))
                      refine s_det (D.pick rfl rfl rfl rfl) rfl ?_
                      refine s_nil ?_
                      refine acond_t rfl ?_
                      refine aseq ?_
                      refine areg rfl ?_
                      refine s_det (D.assign rfl) rfl ?_
                      refine s_nil ?_
                      refine aseq ?_
                      refine areg rfl ?_
                      refine s_det (D.field_i rfl rfl rfl) rfl ?_
                      refine s_det (D.load_i rfl rfl) rfl ?_
                      refine s_det (D.field_i rfl rfl rfl) rfl ?_
                      refine s_det (D.load_i rfl rfl) rfl ?_
                      refine s_det (D.len_m rfl rfl) rfl ?_
                      refine s_det (D.sub rfl rfl (r := ((a.d.length - 1 : Nat) : Int)) (by rw [w64 (by omega) (by omega)]; omega)) rfl ?_
                      refine s_det (D.idx_m rfl rfl (by omega) (get_lt (i := a.d.length - 1) (by omega)) rfl) rfl ?_
                      refine s_det (D.load_i rfl rfl) rfl ?_
                      refine s_det (D.move rfl) rfl ?_
                      refine s_det (D.rem rfl rfl (by show ((m : Int) - 1) ≠ 0; omega) (r := lastI a.d % ((m : Int) - 1)) (by rw [hle]; exact tmodw (by have := hr.1; omega))) rfl ?_
                      refine s_cmp (D.eql rfl rfl rfl) rfl (fun h98 => ?_) (fun h98 => ?_)
                      · replace h98 := of_decide_eq_true h98
                        have hmk : lastI a.d % (k : Int) = 0 := by rw [← hk]; exact h98
                        have hmx : (maxS a ((m : Int) - 1)) = (maxT a k, 0) := by rw [hk]; exact wayS_k ⟨h5, by omega, by omega⟩ hmk
                        have hmax : Pure Try.prog 81 [tv a, iv ((m : Int) - 1)] (tv (maxT a k)) := by rw [hk]; exact gradusref1_Max a k h5 (by omega) (by omega) hmk
                        refine s_nil ?_
                        refine acond_t rfl ?_
                        refine aseq ?_
                        refine areg rfl ?_
                        refine s_det (D.load_i rfl rfl) rfl ?_
                        refine s_det (D.move rfl) rfl ?_
                        refine s_det (D.call (evc rfl (evc rfl ev0)) b_gradusref1_Max hmax) rfl ?_
                        refine s_det (D.assign rfl) rfl ?_
                        refine s_do (A.store rfl rfl (AH.set_self ..) rfl rfl (by rfl) rfl rfl ?_)
                        refine s_nil ?_
                        refine areg rfl ?_
                        refine s_det (D.move rfl) rfl ?_
                        refine s_own (AH.set_self ..) (D.load_p rfl rfl rfl rfl) rfl ?_
                        refine s_det (D.lit sl_Tensor (pc rfl rfl p0) rfl rfl (by decide)) rfl ?_
                        refine s_act rfl (A.append1 (f := tv) (l := OT) (v := maxT a k) rfl (by rw [AH.set_ne (Ne.symm nb), AH.set_ne (Ne.symm nb)]; exact AH.set_self ..) rfl sl_Tensor rfl (by omega) (by decide) rfl fun b104 hb104 => ?_)
                        refine s_det (D.assign rfl) rfl ?_
                        refine s_nil ?_
                        exact ⟨(b104, OT ++ [maxT a k]), ⟨(by first | assumption | exact (AH.set_none (by assumption)).1 | exact (AH.set_none (AH.set_none (by assumption)).1).1 | exact (AH.set_none (AH.set_none (AH.set_none (by assumption)).1).1).1 | exact (AH.set_none (AH.set_none (AH.set_none (AH.set_none (by assumption)).1).1).1).1 | exact (AH.set_none (AH.set_none (AH.set_none (AH.set_none (AH.set_none (by assumption)).1).1).1).1).1 | exact (AH.set_none (AH.set_none (AH.set_none (AH.set_none (AH.set_none (AH.set_none (by assumption)).1).1).1).1).1).1), by simp; omega, fun t h => (List.mem_append.1 h).elim (hOs t) (fun h => by simp at h; subst h; exact (maxT_ok h5 (by omega) hmk).sm)⟩, sub_both (((((Sub.refl σ).set hb _).set t15 _).set t15 _).del hb) _ _, .cons rfl (.cons rfl (.cons rfl (.cons (congrArg (fun e => some (bv e)) (decide_eq_true h5).symm) (.cons rfl (.cons rfl (.cons rfl (.cons rfl (.cons (congrArg (fun e : Tn × Int => some (iv e.2)) hmx.symm) (.fix rfl (by rw [AH.set_ne (Ne.symm (AH.set_none hb104).2), del_ne nb]; exact AH.set_self ..) (by rw [AH.set_ne (Ne.symm (AH.set_none hb104).2)]; exact t15) (by rw [hmx]; exact .refl _) .nil)))))))))⟩
                      · replace h98 := of_decide_eq_false h98
                        have hmx : (maxS a ((m : Int) - 1)) = (⟨[], []⟩, 4) := by rw [hk]; exact wayS_e ⟨h5, by omega, by omega⟩ (by rw [← hk]; exact h98)
                        refine s_nil ?_
                        refine acond_f rfl ?_
                        refine askip ?_
                        exact ⟨(b, OT), ⟨hb, by dsimp only; omega, hOs⟩, (Sub.refl _).set hb15 _, .cons rfl (.cons rfl (.cons rfl (.cons (congrArg (fun e => some (bv e)) (decide_eq_true h5).symm) (.cons rfl (.cons rfl (.cons rfl (.cons rfl (.cons (congrArg (fun e : Tn × Int => some (iv e.2)) hmx.symm) (.fix rfl (AH.set_self ..) hb15 (wkI (congrArg Prod.fst hmx)) .nil)))))))))⟩
                    · replace h86 := of_decide_eq_false h86
                      have hmx : (maxS a ((m : Int) - 1)) = (⟨[], []⟩, 1) := wayS_f (fun h => h86 h.2)
                      refine s_det (D.pick rfl rfl rfl rfl) rfl ?_
                      refine s_nil ?_
                      refine acond_f rfl ?_
                      refine askip ?_
                      exact ⟨(b, OT), ⟨hb, by dsimp only; omega, hOs⟩, (Sub.refl _).set hb15 _, .cons rfl (.cons rfl (.cons rfl (.cons (congrArg (fun e => some (bv e)) (decide_eq_true h5).symm) (.cons rfl (.cons rfl (.cons rfl (.cons rfl (.cons (congrArg (fun e : Tn × Int => some (iv e.2)) hmx.symm) (.fix rfl (AH.set_self ..) hb15 (wkI (congrArg Prod.fst hmx)) .nil)))))))))⟩
                  · replace h5 := of_decide_eq_false h5
                    have hmx : (maxS a ((m : Int) - 1)) = (⟨[], []⟩, 1) := wayS_f (fun h => h5 h.1)
                    refine aseq ?_
                    refine areg rfl ?_
                    refine s_det (D.move rfl) rfl ?_
                    refine s_det (D.move rfl) rfl ?_
                    refine s_no rfl rfl rfl rfl ?_
                    refine s_no rfl rfl rfl rfl ?_
                    refine s_det (D.pick rfl rfl rfl rfl) rfl ?_
                    refine s_nil ?_
                    refine acond_f rfl ?_
                    refine askip ?_
                    exact ⟨(b, OT), ⟨hb, by dsimp only; omega, hOs⟩, (Sub.refl _).set hb15 _, .cons rfl (.cons rfl (.cons rfl (.cons (congrArg (fun e => some (bv e)) (decide_eq_false h5).symm) (.cons rfl (.cons rfl (.cons rfl (.cons rfl (.cons (congrArg (fun e : Tn × Int => some (iv e.2)) hmx.symm) (.fix rfl (AH.set_self ..) hb15 (wkI (congrArg Prod.fst hmx)) .nil)))))))))⟩
                · rintro ⟨b', OT'⟩ ⟨hb', hOl', hOs'⟩
                  refine aseq ?_
                  refine adraw [.det 0, .det 1, .det 2, .det 3, .det 4, .det 5, .det 6, .det 7, .det 8, .det 9, .det 10, .det 11, .det 12, .det 13, .det 14, .det 15, .det 16, .det 17, .det 18, .det 19] rfl (by kernel_rfl) ?_
                  refine d_det rfl (D.move rfl) rfl ?_
                  refine d_det rfl (D.call (evc rfl ev0) b_graduslaw5_num (graduslaw5_num _)) rfl ?_
                  refine d_det rfl (D.move rfl) rfl ?_
                  refine d_det rfl (D.neq rfl rfl (decide_eq_false (fun h => h rfl))) rfl ?_
                  refine d_det rfl (D.move rfl) rfl ?_
                  refine d_yes rfl rfl rfl (D.load_i rfl rfl) rfl ?_
                  refine d_yes rfl rfl rfl (D.load_i rfl rfl) rfl ?_
                  refine d_yes rfl rfl rfl (D.call (evc rfl (evc rfl ev0)) b_gradusref0_EqTensor (Pure.toT (gradusref0_EqTensor _ _ (maxS_sm a ((m : Int) - 1)) (maxS_sm a ((m : Int) - 1))) rfl)) rfl ?_
                  refine d_yes rfl rfl rfl (D.not rfl rfl) rfl ?_
                  refine d_det rfl (D.pick rfl rfl rfl rfl) rfl ?_
                  refine d_det rfl (D.move rfl) rfl ?_
                  refine d_yes rfl rfl rfl (D.load_i rfl rfl) rfl ?_
                  refine d_yes rfl rfl rfl (D.field_i rfl rfl rfl) rfl ?_
                  refine d_yes rfl rfl rfl (D.load_i rfl rfl) rfl ?_
                  refine d_yes rfl rfl rfl (D.move rfl) rfl ?_
                  refine d_yes rfl rfl rfl (D.idx_m rfl rfl (by omega) hva rfl) rfl ?_
                  refine d_yes rfl rfl rfl (D.load_i rfl rfl) rfl ?_
                  refine d_yes rfl rfl rfl (D.call (evc rfl (evc rfl ev0)) b_gradusref0_EqTensor (Pure.toT (gradusref0_EqTensor _ _ hsa hsa) rfl)) rfl ?_
                  refine d_yes rfl rfl rfl (D.not rfl rfl) rfl ?_
                  refine d_det rfl (D.pick rfl rfl rfl rfl) rfl ?_
                  refine d_nil ?_
                  refine acond_f rfl ?_
                  refine askip ?_
                  refine areg rfl ?_
                  refine s_det (D.move rfl) rfl ?_
                  refine s_det (D.add rfl rfl (r := (((m + 1 : Nat) : Int) - 1)) (by rw [w64 (by omega) (by omega)]; omega)) rfl ?_
                  refine s_det (D.assign rfl) rfl ?_
                  refine s_nil ?_
                  exact ⟨(m + 1, b', OT'), ⟨by dsimp only; omega, hb', by dsimp only at hOl' ⊢; omega, hOs'⟩, by dsimp only; omega, (.cons rfl (.cons rfl (.cons rfl (.cons rfl (.cons rfl (.cons rfl .nil)))))), rfl⟩
              · replace h74 := of_decide_eq_false h74
                refine s_nil ?_
                refine acond_f rfl ?_
                refine afreezew [(1, .iptr (.agg [.list false 2 (ts.map tv), ints ns])), (3, iv i), (4, .iptr (tv a)), (5, bv (decide (okTn a))), (10, .list false 2 (OT.map tv))] σ ((Sub.refl σ).set hb _) (.cons rfl (.cons rfl (.cons rfl (.cons rfl (.pz rfl (Pz.whole (AH.set_self ..) hb (by simp)) (.refl _) .nil))))) ?_
                refine aexit ?_
                exact ⟨OT, ⟨by omega, hOs⟩, Sub.refl _, (.cons rfl (.cons rfl (.cons rfl (.cons rfl (.cons rfl .nil)))))⟩
            · rintro OT ⟨hOl, hOs⟩
              refine amidz (fun _ : Unit => True) (fun _ => [(1, .iptr (.agg [.list false 2 (ts.map tv), ints ns])), (3, iv i), (4, .iptr (tv a))]) (fun _ => σ) ?_ ?_
              · refine aseq ?_
                refine areg rfl ?_
                refine s_det (D.assign rfl) rfl ?_
                refine s_nil ?_
                refine ablock ?_
                -- LOOP writes [16] keeps [1, 3, 4, 5, 10]
                refine aloop (ι := Nat) (fun k => k ≤ OT.length) (fun k => OT.length - k) (fun k => [(1, .iptr (.agg [.list false 2 (ts.map tv), ints ns])), (3, iv i), (4, .iptr (tv a)), (5, bv (decide (okTn a))), (10, .list false 2 (OT.map tv)), (16, iv k)]) (fun k => σ) 0 (by omega) ?_ rfl fun k hk => ?_
                · exact (.cons rfl (.cons rfl (.cons rfl (.cons rfl (.cons rfl (.cons rfl .nil))))))
                refine aseq ?_
                refine aseq ?_
                refine areg rfl ?_
                refine s_det (D.move rfl) rfl ?_
                refine s_det (D.move rfl) rfl ?_
                refine s_det (D.len_m rfl rfl) rfl ?_
                refine s_cmp (D.lss rfl rfl rfl) rfl (fun h129 => ?_) (fun h129 => ?_)
                · replace h129 := of_decide_eq_true h129
                  refine s_det (D.move rfl) rfl ?_
                  refine s_yes rfl rfl ?_
                  refine s_det (D.move rfl) rfl ?_
                  refine s_yes rfl rfl ?_
                  refine s_cmp (D.lss rfl rfl rfl) rfl (fun h132 => ?_) (fun h132 => ?_)
                  · replace h132 := of_decide_eq_true h132
                    obtain ⟨b, hvb⟩ : ∃ a, OT[k]? = some a := ⟨_, get_lt (by omega)⟩
                    have hsb := hOs b (List.mem_of_getElem? hvb)
                    refine s_det (D.pick rfl rfl rfl rfl) rfl ?_
                    refine s_nil ?_
                    refine acond_t rfl ?_
                    refine askip ?_
                    refine aseq ?_
                    refine ablock ?_
                    refine aseq ?_
                    refine areg rfl ?_
                    refine s_det (D.move rfl) rfl ?_
                    refine s_det (D.move rfl) rfl ?_
                    refine s_det (D.idx_m rfl rfl (by omega) hvb rfl) rfl ?_
                    refine s_det (D.load_i rfl rfl) rfl ?_
                    refine s_det (D.call (evc rfl ev0) b_gradusref0_CopyTensor (gradusref0_CopyTensor b hsb)) rfl ?_
                    refine s_act rfl (A.alloc rfl rfl rfl fun b17 hb17 => ?_)
                    refine s_do (A.store rfl rfl (AH.set_self ..) rfl rfl (by rfl) rfl rfl ?_)
                    refine s_nil ?_
                    rw [AH.set_set]
                    refine afix (d := 17) rfl hb17 ?_
                    refine aseq ?_
                    refine areg rfl ?_
                    refine s_det (D.load_i rfl rfl) rfl ?_
                    refine s_det (D.load_i rfl rfl) rfl ?_
                    refine s_det (D.call (evc rfl (evc rfl ev0)) b_gate_Step (gate_Step a b)) rfl ?_
                    refine s_det (D.move rfl) rfl ?_
                    refine s_det (D.extract rfl rfl) rfl ?_
                    refine s_det (D.extract rfl rfl) rfl ?_
                    refine s_act rfl (A.alloc rfl rfl rfl fun b18 hb18 => ?_)
                    refine s_do (A.store rfl rfl (AH.set_self ..) rfl rfl (by rfl) rfl rfl ?_)
                    refine s_det (D.assign rfl) rfl ?_
                    refine s_nil ?_
                    rw [AH.set_set]
                    refine afix (d := 18) rfl hb18 ?_
                    refine aseq ?_
                    refine areg rfl ?_
                    refine s_det (D.assign rfl) rfl ?_
                    refine s_nil ?_
                    refine aseq ?_
                    refine areg rfl ?_
                    refine s_act rfl (A.alloc rfl rfl rfl fun b21 hb21 => ?_)
                    refine s_nil ?_
                    refine amidz (fun _ : Unit => True) (fun _ => [(1, .iptr (.agg [.list false 2 (ts.map tv), ints ns])), (3, iv i), (4, .iptr (tv a)), (5, bv (decide (okTn a))), (10, .list false 2 (OT.map tv)), (16, iv k), (17, .iptr (tv b)), (18, .iptr (tv (stepS a b).1)), (19, iv (stepS a b).2), (20, iv (stepS a b).2), (21, .iptr (tv (stepS a b).1))]) (fun _ => σ) ?_ ?_
                    · refine acase (d := 5) rfl (fun h5 => ?_) (fun h5 => ?_)
                      · replace h5 := of_decide_eq_true h5
                        refine aseq ?_
                        refine areg rfl ?_
                        refine s_det (D.move rfl) rfl ?_
                        refine s_det (D.move rfl) rfl ?_
                        refine s_yes rfl rfl ?_
                        refine s_det (D.load_i rfl rfl) rfl ?_
                        refine s_yes rfl rfl ?_
                        refine s_cmp (D.call (evc rfl ev0) b_gradusref1_Tensor (gradusref1_Tensor b)) rfl (fun h150 => ?_) (fun h150 => ?_)
                        · replace h150 := of_decide_eq_true h150
                          refine s_det (D.pick rfl rfl rfl rfl) rfl ?_
                          refine s_nil ?_
                          refine acond_t rfl ?_
                          refine aseq ?_
                          refine areg rfl ?_
                          refine s_det (D.assign rfl) rfl ?_
                          refine s_nil ?_
                          refine aseq ?_
                          refine areg rfl ?_
                          refine s_det (D.field_i rfl rfl rfl) rfl ?_
                          refine s_det (D.load_i rfl rfl) rfl ?_
                          refine s_det (D.field_i rfl rfl rfl) rfl ?_
                          refine s_det (D.load_i rfl rfl) rfl ?_
                          refine s_cmp (D.call (evc rfl (evc rfl ev0)) b_gradusref0_EqNumbers (gradusref0_EqNumbers a.d b.d (by have := hsa.1; omega) (by have := hsb.1; omega))) rfl (fun h156 => ?_) (fun h156 => ?_)
                          · replace h156 := of_decide_eq_true h156
                            have hp : stepS a b = (gateT a b, 0) := wayS_k ⟨h5, h150⟩ h156
                            refine s_nil ?_
                            refine acond_t rfl ?_
                            refine areg rfl ?_
                            refine s_det (D.load_i rfl rfl) rfl ?_
                            refine s_det (D.load_i rfl rfl) rfl ?_
                            refine s_det (D.call (evc rfl (evc rfl ev0)) b_gradusref1_Gate (gradusref1_Gate a b hsa hsb (h5.dims h150 h156))) rfl ?_
                            refine s_det (D.assign rfl) rfl ?_
                            refine s_do (A.store rfl rfl (AH.set_self ..) rfl rfl (by rfl) rfl rfl ?_)
                            refine s_nil ?_
                            exact ⟨(), trivial, (by repeat (first | exact Sub.refl _ | refine Sub.set ?_ (by first | assumption | exact (AH.set_none (by assumption)).1 | exact (AH.set_none (AH.set_none (by assumption)).1).1 | exact (AH.set_none (AH.set_none (AH.set_none (by assumption)).1).1).1 | exact (AH.set_none (AH.set_none (AH.set_none (AH.set_none (by assumption)).1).1).1).1 | exact (AH.set_none (AH.set_none (AH.set_none (AH.set_none (AH.set_none (by assumption)).1).1).1).1).1 | exact (AH.set_none (AH.set_none (AH.set_none (AH.set_none (AH.set_none (AH.set_none (by assumption)).1).1).1).1).1).1) _)), .cons rfl (.cons rfl (.cons rfl (.cons (congrArg (fun e => some (bv e)) (decide_eq_true h5).symm) (.cons rfl (.cons rfl (.cons rfl (.cons rfl (.cons rfl (.cons (congrArg (fun e : Tn × Int => some (iv e.2)) hp.symm) (.fix rfl (AH.set_self ..) (by first | assumption | exact (AH.set_none (by assumption)).1 | exact (AH.set_none (AH.set_none (by assumption)).1).1 | exact (AH.set_none (AH.set_none (AH.set_none (by assumption)).1).1).1 | exact (AH.set_none (AH.set_none (AH.set_none (AH.set_none (by assumption)).1).1).1).1 | exact (AH.set_none (AH.set_none (AH.set_none (AH.set_none (AH.set_none (by assumption)).1).1).1).1).1 | exact (AH.set_none (AH.set_none (AH.set_none (AH.set_none (AH.set_none (AH.set_none (by assumption)).1).1).1).1).1).1) (by rw [hp]; exact .refl _) .nil))))))))))⟩
                          · replace h156 := of_decide_eq_false h156
                            have hp : stepS a b = (⟨[], []⟩, 4) := wayS_e ⟨h5, h150⟩ h156
                            refine s_nil ?_
                            refine acond_f rfl ?_
                            refine askip ?_
                            exact ⟨(), trivial, (by repeat (first | exact Sub.refl _ | refine Sub.set ?_ (by first | assumption | exact (AH.set_none (by assumption)).1 | exact (AH.set_none (AH.set_none (by assumption)).1).1 | exact (AH.set_none (AH.set_none (AH.set_none (by assumption)).1).1).1 | exact (AH.set_none (AH.set_none (AH.set_none (AH.set_none (by assumption)).1).1).1).1 | exact (AH.set_none (AH.set_none (AH.set_none (AH.set_none (AH.set_none (by assumption)).1).1).1).1).1 | exact (AH.set_none (AH.set_none (AH.set_none (AH.set_none (AH.set_none (AH.set_none (by assumption)).1).1).1).1).1).1) _)), .cons rfl (.cons rfl (.cons rfl (.cons (congrArg (fun e => some (bv e)) (decide_eq_true h5).symm) (.cons rfl (.cons rfl (.cons rfl (.cons rfl (.cons rfl (.cons (congrArg (fun e : Tn × Int => some (iv e.2)) hp.symm) (.fix rfl (AH.set_self ..) (by first | assumption | exact (AH.set_none (by assumption)).1 | exact (AH.set_none (AH.set_none (by assumption)).1).1 | exact (AH.set_none (AH.set_none (AH.set_none (by assumption)).1).1).1 | exact (AH.set_none (AH.set_none (AH.set_none (AH.set_none (by assumption)).1).1).1).1 | exact (AH.set_none (AH.set_none (AH.set_none (AH.set_none (AH.set_none (by assumption)).1).1).1).1).1 | exact (AH.set_none (AH.set_none (AH.set_none (AH.set_none (AH.set_none (AH.set_none (by assumption)).1).1).1).1).1).1) (wkI (congrArg Prod.fst hp)) .nil))))))))))⟩
                        · replace h150 := of_decide_eq_false h150
                          have hp : stepS a b = (⟨[], []⟩, 1) := wayS_f (fun h => h150 h.2)
                          refine s_det (D.pick rfl rfl rfl rfl) rfl ?_
                          refine s_nil ?_
                          refine acond_f rfl ?_
                          refine askip ?_
                          exact ⟨(), trivial, (by repeat (first | exact Sub.refl _ | refine Sub.set ?_ (by first | assumption | exact (AH.set_none (by assumption)).1 | exact (AH.set_none (AH.set_none (by assumption)).1).1 | exact (AH.set_none (AH.set_none (AH.set_none (by assumption)).1).1).1 | exact (AH.set_none (AH.set_none (AH.set_none (AH.set_none (by assumption)).1).1).1).1 | exact (AH.set_none (AH.set_none (AH.set_none (AH.set_none (AH.set_none (by assumption)).1).1).1).1).1 | exact (AH.set_none (AH.set_none (AH.set_none (AH.set_none (AH.set_none (AH.set_none (by assumption)).1).1).1).1).1).1) _)), .cons rfl (.cons rfl (.cons rfl (.cons (congrArg (fun e => some (bv e)) (decide_eq_true h5).symm) (.cons rfl (.cons rfl (.cons rfl (.cons rfl (.cons rfl (.cons (congrArg (fun e : Tn × Int => some (iv e.2)) hp.symm) (.fix rfl (AH.set_self ..) (by first | assumption | exact (AH.set_none (by assumption)).1 | exact (AH.set_none (AH.set_none (by assumption)).1).1 | exact (AH.set_none (AH.set_none (AH.set_none (by assumption)).1).1).1 | exact (AH.set_none (AH.set_none (AH.set_none (AH.set_none (by assumption)).1).1).1).1 | exact (AH.set_none (AH.set_none (AH.set_none (AH.set_none (AH.set_none (by assumption)).1).1).1).1).1 | exact (AH.set_none (AH.set_none (AH.set_none (AH.set_none (AH.set_none (AH.set_none (by assumption)).1).1).1).1).1).1) (wkI (congrArg Prod.fst hp)) .nil))))))))))⟩
                      · replace h5 := of_decide_eq_false h5
                        have hp : stepS a b = (⟨[], []⟩, 1) := wayS_f (fun h => h5 h.1)
                        refine aseq ?_
                        refine areg rfl ?_
                        refine s_det (D.move rfl) rfl ?_
                        refine s_det (D.move rfl) rfl ?_
                        refine s_no rfl rfl rfl rfl ?_
                        refine s_no rfl rfl rfl rfl ?_
                        refine s_det (D.pick rfl rfl rfl rfl) rfl ?_
                        refine s_nil ?_
                        refine acond_f rfl ?_
                        refine askip ?_
                        exact ⟨(), trivial, (by repeat (first | exact Sub.refl _ | refine Sub.set ?_ (by first | assumption | exact (AH.set_none (by assumption)).1 | exact (AH.set_none (AH.set_none (by assumption)).1).1 | exact (AH.set_none (AH.set_none (AH.set_none (by assumption)).1).1).1 | exact (AH.set_none (AH.set_none (AH.set_none (AH.set_none (by assumption)).1).1).1).1 | exact (AH.set_none (AH.set_none (AH.set_none (AH.set_none (AH.set_none (by assumption)).1).1).1).1).1 | exact (AH.set_none (AH.set_none (AH.set_none (AH.set_none (AH.set_none (AH.set_none (by assumption)).1).1).1).1).1).1) _)), .cons rfl (.cons rfl (.cons rfl (.cons (congrArg (fun e => some (bv e)) (decide_eq_false h5).symm) (.cons rfl (.cons rfl (.cons rfl (.cons rfl (.cons rfl (.cons (congrArg (fun e : Tn × Int => some (iv e.2)) hp.symm) (.fix rfl (AH.set_self ..) (by first | assumption | exact (AH.set_none (by assumption)).1 | exact (AH.set_none (AH.set_none (by assumption)).1).1 | exact (AH.set_none (AH.set_none (AH.set_none (by assumption)).1).1).1 | exact (AH.set_none (AH.set_none (AH.set_none (AH.set_none (by assumption)).1).1).1).1 | exact (AH.set_none (AH.set_none (AH.set_none (AH.set_none (AH.set_none (by assumption)).1).1).1).1).1 | exact (AH.set_none (AH.set_none (AH.set_none (AH.set_none (AH.set_none (AH.set_none (by assumption)).1).1).1).1).1).1) (wkI (congrArg Prod.fst hp)) .nil))))))))))⟩
                    · intro _ _
                      refine aseq ?_
                      refine aseq ?_
                      refine areg rfl ?_
                      refine s_det (D.move rfl) rfl ?_
                      refine s_det (D.call (evc rfl ev0) b_graduslaw5_num (graduslaw5_num _)) rfl ?_
                      refine s_det (D.move rfl) rfl ?_
                      refine s_det (D.neq rfl rfl (decide_eq_false (fun h => h rfl))) rfl ?_
                      refine s_det (D.move rfl) rfl ?_
                      refine s_yes rfl rfl ?_
                      refine s_det (D.load_i rfl rfl) rfl ?_
                      refine s_yes rfl rfl ?_
                      refine s_det (D.load_i rfl rfl) rfl ?_
                      refine s_yes rfl rfl ?_
                      refine s_det (D.call (evc rfl (evc rfl ev0)) b_gradusref0_EqTensor (Pure.toT (gradusref0_EqTensor _ _ (stepS_sm a b) (stepS_sm a b)) rfl)) rfl ?_
                      refine s_yes rfl rfl ?_
                      refine s_det (D.not rfl rfl) rfl ?_
                      refine s_det (D.pick rfl rfl rfl rfl) rfl ?_
                      refine s_nil ?_
                      refine acond_f rfl ?_
                      refine askip ?_
                      refine aseq ?_
                      refine areg rfl ?_
                      refine s_det (D.assign rfl) rfl ?_
                      refine s_nil ?_
                      refine ablock ?_
                      -- LOOP writes [22] keeps [1, 3, 4, 5, 10, 16, 17]
                      refine aloop (ι := Nat) (fun n => n ≤ 9) (fun n => 9 - n) (fun n => [(1, .iptr (.agg [.list false 2 (ts.map tv), ints ns])), (3, iv i), (4, .iptr (tv a)), (5, bv (decide (okTn a))), (10, .list false 2 (OT.map tv)), (16, iv k), (17, .iptr (tv b)), (22, iv n)]) (fun n => σ) 0 (by omega) ?_ rfl fun n hn => ?_
                      · exact (.cons rfl (.cons rfl (.cons rfl (.cons rfl (.cons rfl (.cons rfl (.cons rfl (.cons rfl .nil))))))))
                      refine aseq ?_
                      refine aseq ?_
                      refine areg rfl ?_
                      refine s_det (D.move rfl) rfl ?_
                      refine s_cmp (D.leq rfl rfl rfl) rfl (fun h171 => ?_) (fun h171 => ?_)
                      · replace h171 := of_decide_eq_true h171
                        have hn8 : n ≤ 8 := by omega
                        refine s_nil ?_
                        refine acond_t rfl ?_
                        refine askip ?_
                        refine aseq ?_
                        refine ablock ?_
                        refine aseq ?_
                        refine areg rfl ?_
                        refine s_det (D.load_i rfl rfl) rfl ?_
                        refine s_det (D.load_i rfl rfl) rfl ?_
                        refine s_det (D.move rfl) rfl ?_
                        refine s_act rfl (A.call (evc rfl (evc rfl (evc rfl ev0))) b_gate_Pick (gate_Pick_own a b n _) fun y σ' hy => ?_)
                        obtain ⟨_, rfl, b178, c178, hb178, hc178, hn178, rfl, rfl⟩ := hy
                        refine s_det (D.move rfl) rfl ?_
                        refine s_det (D.extract rfl rfl) rfl ?_
                        refine s_det (D.extract rfl rfl) rfl ?_
                        refine s_act rfl (A.alloc rfl rfl rfl fun b23 hb23 => ?_)
                        refine s_do (A.store rfl rfl (AH.set_self ..) rfl rfl (by rfl) rfl rfl ?_)
                        refine s_det (D.assign rfl) rfl ?_
                        refine s_nil ?_
                        rw [AH.set_set]
                        refine afix (d := 23) rfl hb23 ?_
                        refine aseq ?_
                        refine areg rfl ?_
                        refine s_det (D.assign rfl) rfl ?_
                        refine s_nil ?_
                        refine aseq ?_
                        refine areg rfl ?_
                        refine s_act rfl (A.alloc rfl rfl rfl fun b26 hb26 => ?_)
                        refine s_nil ?_
                        refine amidz (fun _ : Unit => True) (fun _ => [(1, .iptr (.agg [.list false 2 (ts.map tv), ints ns])), (3, iv i), (4, .iptr (tv a)), (5, bv (decide (okTn a))), (10, .list false 2 (OT.map tv)), (16, iv k), (17, .iptr (tv b)), (22, iv n), (23, .iptr (.agg [.ref b178 1 0 (pickS a b n).1.d.length, .ref c178 1 0 (pickS a b n).1.x.length])), (24, iv (pickS a b n).2), (25, iv (pickS a b n).2), (26, .iptr (tv (pickS a b n).1))]) (fun _ => σ.ten b178 c178 (pickS a b n).1.d (pickS a b n).1.x) ?_ ?_
                        · refine acase (d := 5) rfl (fun h5 => ?_) (fun h5 => ?_)
                          · replace h5 := of_decide_eq_true h5
                            refine aseq ?_
                            refine areg rfl ?_
                            refine s_det (D.move rfl) rfl ?_
                            refine s_det (D.move rfl) rfl ?_
                            refine s_yes rfl rfl ?_
                            refine s_det (D.load_i rfl rfl) rfl ?_
                            refine s_yes rfl rfl ?_
                            refine s_cmp (D.call (evc rfl ev0) b_gradusref1_Tensor (gradusref1_Tensor b)) rfl (fun h184 => ?_) (fun h184 => ?_)
                            · replace h184 := of_decide_eq_true h184
                              refine s_det (D.pick rfl rfl rfl rfl) rfl ?_
                              refine s_det (D.move rfl) rfl ?_
                              refine s_yes rfl rfl ?_
                              refine s_det (D.move rfl) rfl ?_
                              refine s_yes rfl rfl ?_
                              refine s_cmp (D.call (evc rfl (evc rfl (evc rfl ev0))) b_gradusref0_Between (gradusref0_Between n 1 8)) rfl (fun h188 => ?_) (fun h188 => ?_)
                              · replace h188 := of_decide_eq_true h188
                                have hP : askP a n := ⟨h5, h188⟩
                                have h1 : 1 ≤ n := by omega
                                refine s_det (D.pick rfl rfl rfl rfl) rfl ?_
                                refine s_nil ?_
                                refine acond_t rfl ?_
                                refine aseq ?_
                                refine areg rfl ?_
                                refine s_det (D.assign rfl) rfl ?_
                                refine s_nil ?_
                                refine aseq ?_
                                refine areg rfl ?_
                                refine s_det (D.move rfl) rfl ?_
                                refine s_det (D.field_i rfl rfl rfl) rfl ?_
                                refine s_det (D.load_i rfl rfl) rfl ?_
                                refine s_det (D.field_i rfl rfl rfl) rfl ?_
                                refine s_det (D.load_i rfl rfl) rfl ?_
                                refine s_det (D.lit sl_Lint (pc rfl rfl (pc rfl rfl p0)) rfl rfl (by decide)) rfl ?_
                                refine s_det (D.call (evc rfl (evc rfl (evc rfl (evc rfl ev0)))) b_gradusref1_Infer (gradusref1_Infer a.d b.d n h5.1 h184.1 h1 hn8)) rfl ?_
                                refine s_det (D.move rfl) rfl ?_
                                refine s_det (D.extract rfl rfl) rfl ?_
                                refine s_cmp (D.extract rfl rfl) rfl (fun h199 => ?_) (fun h199 => ?_)
                                · replace h199 := of_decide_eq_true h199
                                  have hp : pickS a b n = (pickT a b n, 0) := wayS_k ⟨h184, hP⟩ h199
                                  have hl : a.x.length = b.x.length * n := by
                                    obtain ⟨_, hpr⟩ := lessD_ok h5.1 (n := (n : Int)) (by omega) h199.1
                                    have e1 := h5.2
                                    have e2 := h184.2
                                    rw [← h199.2] at e2
                                    rw [← hpr, ← e2, ← Int.natCast_mul] at e1
                                    exact Int.ofNat_inj.1 e1
                                  refine s_det (D.assign rfl) rfl ?_
                                  refine s_det (D.assign rfl) rfl ?_
                                  refine s_nil ?_
                                  refine aseq ?_
                                  refine areg rfl ?_
                                  refine s_det (D.move rfl) rfl ?_
                                  refine s_det (D.move rfl) rfl ?_
                                  refine s_yes rfl rfl ?_
                                  refine s_det (D.move rfl) rfl ?_
                                  refine s_yes rfl rfl ?_
                                  refine s_det (D.len_m rfl rfl) rfl ?_
                                  refine s_yes rfl rfl ?_
                                  refine s_det (D.gtr rfl rfl (decide_eq_true (by rw [if_pos h199.1]; have := h5.1.1; omega))) rfl ?_
                                  refine s_det (D.pick rfl rfl rfl rfl) rfl ?_
                                  refine s_nil ?_
                                  refine acond_t rfl ?_
                                  refine areg rfl ?_
                                  refine s_det (D.load_i rfl rfl) rfl ?_
                                  refine s_det (D.load_i rfl rfl) rfl ?_
                                  refine s_det (D.move rfl) rfl ?_
                                  refine s_det (D.call (evc rfl (evc rfl (evc rfl ev0))) b_gradusref1_Pick (gradusref1_Pick a b n h5 hsb h1 hn8 hl)) rfl ?_
                                  refine s_det (D.assign rfl) rfl ?_
                                  refine s_do (A.store rfl rfl (AH.set_self ..) rfl rfl (by rfl) rfl rfl ?_)
                                  refine s_nil ?_
                                  exact ⟨(), trivial, (by repeat (first | exact Sub.refl _ | refine Sub.set ?_ (by first | assumption | exact (AH.set_none (by assumption)).1 | exact (AH.set_none (AH.set_none (by assumption)).1).1 | exact (AH.set_none (AH.set_none (AH.set_none (by assumption)).1).1).1 | exact (AH.set_none (AH.set_none (AH.set_none (AH.set_none (by assumption)).1).1).1).1 | exact (AH.set_none (AH.set_none (AH.set_none (AH.set_none (AH.set_none (by assumption)).1).1).1).1).1 | exact (AH.set_none (AH.set_none (AH.set_none (AH.set_none (AH.set_none (AH.set_none (by assumption)).1).1).1).1).1).1) _)), .cons rfl (.cons rfl (.cons rfl (.cons (congrArg (fun e => some (bv e)) (decide_eq_true h5).symm) (.cons rfl (.cons rfl (.cons rfl (.cons rfl (.cons rfl (.cons rfl (.cons (congrArg (fun e : Tn × Int => some (iv e.2)) hp.symm) (.fix rfl (AH.set_self ..) (by first | assumption | exact (AH.set_none (by assumption)).1 | exact (AH.set_none (AH.set_none (by assumption)).1).1 | exact (AH.set_none (AH.set_none (AH.set_none (by assumption)).1).1).1 | exact (AH.set_none (AH.set_none (AH.set_none (AH.set_none (by assumption)).1).1).1).1 | exact (AH.set_none (AH.set_none (AH.set_none (AH.set_none (AH.set_none (by assumption)).1).1).1).1).1 | exact (AH.set_none (AH.set_none (AH.set_none (AH.set_none (AH.set_none (AH.set_none (by assumption)).1).1).1).1).1).1) (by rw [hp]; exact .refl _) .nil)))))))))))⟩
                                · replace h199 := of_decide_eq_false h199
                                  have hp : pickS a b n = (⟨[], []⟩, 4) := wayS_e ⟨h184, hP⟩ h199
                                  refine s_det (D.assign rfl) rfl ?_
                                  refine s_det (D.assign rfl) rfl ?_
                                  refine s_nil ?_
                                  refine aseq ?_
                                  refine areg rfl ?_
                                  refine s_det (D.move rfl) rfl ?_
                                  refine s_det (D.move rfl) rfl ?_
                                  refine s_no rfl rfl rfl rfl ?_
                                  refine s_no rfl rfl rfl rfl ?_
                                  refine s_no rfl rfl rfl rfl ?_
                                  refine s_det (D.pick rfl rfl rfl rfl) rfl ?_
                                  refine s_nil ?_
                                  refine acond_f rfl ?_
                                  refine askip ?_
                                  exact ⟨(), trivial, (by repeat (first | exact Sub.refl _ | refine Sub.set ?_ (by first | assumption | exact (AH.set_none (by assumption)).1 | exact (AH.set_none (AH.set_none (by assumption)).1).1 | exact (AH.set_none (AH.set_none (AH.set_none (by assumption)).1).1).1 | exact (AH.set_none (AH.set_none (AH.set_none (AH.set_none (by assumption)).1).1).1).1 | exact (AH.set_none (AH.set_none (AH.set_none (AH.set_none (AH.set_none (by assumption)).1).1).1).1).1 | exact (AH.set_none (AH.set_none (AH.set_none (AH.set_none (AH.set_none (AH.set_none (by assumption)).1).1).1).1).1).1) _)), .cons rfl (.cons rfl (.cons rfl (.cons (congrArg (fun e => some (bv e)) (decide_eq_true h5).symm) (.cons rfl (.cons rfl (.cons rfl (.cons rfl (.cons rfl (.cons rfl (.cons (congrArg (fun e : Tn × Int => some (iv e.2)) hp.symm) (.fix rfl (AH.set_self ..) (by first | assumption | exact (AH.set_none (by assumption)).1 | exact (AH.set_none (AH.set_none (by assumption)).1).1 | exact (AH.set_none (AH.set_none (AH.set_none (by assumption)).1).1).1 | exact (AH.set_none (AH.set_none (AH.set_none (AH.set_none (by assumption)).1).1).1).1 | exact (AH.set_none (AH.set_none (AH.set_none (AH.set_none (AH.set_none (by assumption)).1).1).1).1).1 | exact (AH.set_none (AH.set_none (AH.set_none (AH.set_none (AH.set_none (AH.set_none (by assumption)).1).1).1).1).1).1) (wkI (congrArg Prod.fst hp)) .nil)))))))))))⟩
                              · replace h188 := of_decide_eq_false h188
                                have hp : pickS a b n = (⟨[], []⟩, 1) := wayS_f (fun h => h188 h.2.2)
                                refine s_det (D.pick rfl rfl rfl rfl) rfl ?_
                                refine s_nil ?_
                                refine acond_f rfl ?_
                                refine askip ?_
                                exact ⟨(), trivial, (by repeat (first | exact Sub.refl _ | refine Sub.set ?_ (by first | assumption | exact (AH.set_none (by assumption)).1 | exact (AH.set_none (AH.set_none (by assumption)).1).1 | exact (AH.set_none (AH.set_none (AH.set_none (by assumption)).1).1).1 | exact (AH.set_none (AH.set_none (AH.set_none (AH.set_none (by assumption)).1).1).1).1 | exact (AH.set_none (AH.set_none (AH.set_none (AH.set_none (AH.set_none (by assumption)).1).1).1).1).1 | exact (AH.set_none (AH.set_none (AH.set_none (AH.set_none (AH.set_none (AH.set_none (by assumption)).1).1).1).1).1).1) _)), .cons rfl (.cons rfl (.cons rfl (.cons (congrArg (fun e => some (bv e)) (decide_eq_true h5).symm) (.cons rfl (.cons rfl (.cons rfl (.cons rfl (.cons rfl (.cons rfl (.cons (congrArg (fun e : Tn × Int => some (iv e.2)) hp.symm) (.fix rfl (AH.set_self ..) (by first | assumption | exact (AH.set_none (by assumption)).1 | exact (AH.set_none (AH.set_none (by assumption)).1).1 | exact (AH.set_none (AH.set_none (AH.set_none (by assumption)).1).1).1 | exact (AH.set_none (AH.set_none (AH.set_none (AH.set_none (by assumption)).1).1).1).1 | exact (AH.set_none (AH.set_none (AH.set_none (AH.set_none (AH.set_none (by assumption)).1).1).1).1).1 | exact (AH.set_none (AH.set_none (AH.set_none (AH.set_none (AH.set_none (AH.set_none (by assumption)).1).1).1).1).1).1) (wkI (congrArg Prod.fst hp)) .nil)))))))))))⟩
                            · replace h184 := of_decide_eq_false h184
                              have hp : pickS a b n = (⟨[], []⟩, 1) := wayS_f (fun h => h184 h.1)
                              refine s_det (D.pick rfl rfl rfl rfl) rfl ?_
                              refine s_det (D.move rfl) rfl ?_
                              refine s_no rfl rfl rfl rfl ?_
                              refine s_no rfl rfl rfl rfl ?_
                              refine s_det (D.pick rfl rfl rfl rfl) rfl ?_
                              refine s_nil ?_
                              refine acond_f rfl ?_
                              refine askip ?_
                              exact ⟨(), trivial, (by repeat (first | exact Sub.refl _ | refine Sub.set ?_ (by first | assumption | exact (AH.set_none (by assumption)).1 | exact (AH.set_none (AH.set_none (by assumption)).1).1 | exact (AH.set_none (AH.set_none (AH.set_none (by assumption)).1).1).1 | exact (AH.set_none (AH.set_none (AH.set_none (AH.set_none (by assumption)).1).1).1).1 | exact (AH.set_none (AH.set_none (AH.set_none (AH.set_none (AH.set_none (by assumption)).1).1).1).1).1 | exact (AH.set_none (AH.set_none (AH.set_none (AH.set_none (AH.set_none (AH.set_none (by assumption)).1).1).1).1).1).1) _)), .cons rfl (.cons rfl (.cons rfl (.cons (congrArg (fun e => some (bv e)) (decide_eq_true h5).symm) (.cons rfl (.cons rfl (.cons rfl (.cons rfl (.cons rfl (.cons rfl (.cons (congrArg (fun e : Tn × Int => some (iv e.2)) hp.symm) (.fix rfl (AH.set_self ..) (by first | assumption | exact (AH.set_none (by assumption)).1 | exact (AH.set_none (AH.set_none (by assumption)).1).1 | exact (AH.set_none (AH.set_none (AH.set_none (by assumption)).1).1).1 | exact (AH.set_none (AH.set_none (AH.set_none (AH.set_none (by assumption)).1).1).1).1 | exact (AH.set_none (AH.set_none (AH.set_none (AH.set_none (AH.set_none (by assumption)).1).1).1).1).1 | exact (AH.set_none (AH.set_none (AH.set_none (AH.set_none (AH.set_none (AH.set_none (by assumption)).1).1).1).1).1).1) (wkI (congrArg Prod.fst hp)) .nil)))))))))))⟩
                          · replace h5 := of_decide_eq_false h5
                            have hp : pickS a b n = (⟨[], []⟩, 1) := wayS_f (fun h => h5 h.2.1)
                            refine aseq ?_
                            refine areg rfl ?_
                            refine s_det (D.move rfl) rfl ?_
                            refine s_det (D.move rfl) rfl ?_
                            refine s_no rfl rfl rfl rfl ?_
                            refine s_no rfl rfl rfl rfl ?_
                            refine s_det (D.pick rfl rfl rfl rfl) rfl ?_
                            refine s_det (D.move rfl) rfl ?_
                            refine s_no rfl rfl rfl rfl ?_
                            refine s_no rfl rfl rfl rfl ?_
                            refine s_det (D.pick rfl rfl rfl rfl) rfl ?_
                            refine s_nil ?_
                            refine acond_f rfl ?_
                            refine askip ?_
                            exact ⟨(), trivial, (by repeat (first | exact Sub.refl _ | refine Sub.set ?_ (by first | assumption | exact (AH.set_none (by assumption)).1 | exact (AH.set_none (AH.set_none (by assumption)).1).1 | exact (AH.set_none (AH.set_none (AH.set_none (by assumption)).1).1).1 | exact (AH.set_none (AH.set_none (AH.set_none (AH.set_none (by assumption)).1).1).1).1 | exact (AH.set_none (AH.set_none (AH.set_none (AH.set_none (AH.set_none (by assumption)).1).1).1).1).1 | exact (AH.set_none (AH.set_none (AH.set_none (AH.set_none (AH.set_none (AH.set_none (by assumption)).1).1).1).1).1).1) _)), .cons rfl (.cons rfl (.cons rfl (.cons (congrArg (fun e => some (bv e)) (decide_eq_false h5).symm) (.cons rfl (.cons rfl (.cons rfl (.cons rfl (.cons rfl (.cons rfl (.cons (congrArg (fun e : Tn × Int => some (iv e.2)) hp.symm) (.fix rfl (AH.set_self ..) (by first | assumption | exact (AH.set_none (by assumption)).1 | exact (AH.set_none (AH.set_none (by assumption)).1).1 | exact (AH.set_none (AH.set_none (AH.set_none (by assumption)).1).1).1 | exact (AH.set_none (AH.set_none (AH.set_none (AH.set_none (by assumption)).1).1).1).1 | exact (AH.set_none (AH.set_none (AH.set_none (AH.set_none (AH.set_none (by assumption)).1).1).1).1).1 | exact (AH.set_none (AH.set_none (AH.set_none (AH.set_none (AH.set_none (AH.set_none (by assumption)).1).1).1).1).1).1) (wkI (congrArg Prod.fst hp)) .nil)))))))))))⟩
                        · intro _ _
                          refine aseq ?_
                          refine aseq ?_
                          refine adraw [.det 0, .det 1, .det 2, .det 3, .det 4, .det 5, .det 6, .act 7, .det 8, .det 9, .det 10, .det 11, .det 12, .det 13, .det 14, .det 15, .det 16, .det 17, .det 18] rfl (by kernel_rfl) ?_
                          refine d_det rfl (D.move rfl) rfl ?_
                          refine d_det rfl (D.call (evc rfl ev0) b_graduslaw5_num (graduslaw5_num _)) rfl ?_
                          refine d_det rfl (D.move rfl) rfl ?_
                          refine d_det rfl (D.neq rfl rfl (decide_eq_false (fun h => h rfl))) rfl ?_
                          refine d_det rfl (D.move rfl) rfl ?_
                          refine d_yes rfl rfl rfl (D.load_i rfl rfl) rfl ?_
                          refine d_yes rfl rfl rfl (D.load_i rfl rfl) rfl ?_
                          refine d_yesA rfl rfl rfl rfl (by kernel_rfl) (A.call (evc rfl (evc rfl ev0)) b_gradusref0_EqTensor (Pure.reads (Pure.toT (gradusref0_EqTensor _ _ (pickS_sm a b n) (pickS_sm a b n)) rfl) rfl rfl (pz2 (Pz.ten (ten_d hn178) ten_x rfl rfl) (.refl _))) fun y σ' hy => ?_)
                          obtain ⟨rfl, rfl⟩ := hy
                          refine d_yes rfl rfl rfl (D.not rfl rfl) rfl ?_
                          refine d_det rfl (D.pick rfl rfl rfl rfl) rfl ?_
                          refine d_det rfl (D.move rfl) rfl ?_
                          refine d_yes rfl rfl rfl (D.load_i rfl rfl) rfl ?_
                          refine d_yes rfl rfl rfl (D.move rfl) rfl ?_
                          refine d_yes rfl rfl rfl (D.move rfl) rfl ?_
                          refine d_yes rfl rfl rfl (D.idx_m rfl rfl (by omega) hvb rfl) rfl ?_
                          refine d_yes rfl rfl rfl (D.load_i rfl rfl) rfl ?_
                          refine d_yes rfl rfl rfl (D.call (evc rfl (evc rfl ev0)) b_gradusref0_EqTensor (Pure.toT (gradusref0_EqTensor _ _ hsb hsb) rfl)) rfl ?_
                          refine d_yes rfl rfl rfl (D.not rfl rfl) rfl ?_
                          refine d_det rfl (D.pick rfl rfl rfl rfl) rfl ?_
                          refine d_nil ?_
                          refine acond_f rfl ?_
                          refine askip ?_
                          refine areg rfl ?_
                          refine s_det (D.load_i rfl rfl) rfl ?_
                          refine s_act rfl (A.call (evc rfl ev0) b_graduslaw0_Tensor (graduslaw0_Tensor (pickS a b n).1 b178 c178 _ (ten_d hn178) ten_x hn178 (pickS_sm a b n).fit) fun y σ' hy => ?_)
                          obtain ⟨rfl, d1, x1, rfl⟩ := hy
                          refine s_nil ?_
                          refine afreezew [(1, .iptr (.agg [.list false 2 (ts.map tv), ints ns])), (3, iv i), (4, .iptr (tv a)), (5, bv (decide (okTn a))), (10, .list false 2 (OT.map tv)), (16, iv k), (17, .iptr (tv b)), (22, iv n)] σ (by repeat (first | exact Sub.refl _ | refine Sub.set ?_ (by first | assumption | exact (AH.set_none (by assumption)).1 | exact (AH.set_none (AH.set_none (by assumption)).1).1 | exact (AH.set_none (AH.set_none (AH.set_none (by assumption)).1).1).1 | exact (AH.set_none (AH.set_none (AH.set_none (AH.set_none (by assumption)).1).1).1).1 | exact (AH.set_none (AH.set_none (AH.set_none (AH.set_none (AH.set_none (by assumption)).1).1).1).1).1 | exact (AH.set_none (AH.set_none (AH.set_none (AH.set_none (AH.set_none (AH.set_none (by assumption)).1).1).1).1).1).1) _)) (.cons rfl (.cons rfl (.cons rfl (.cons rfl (.cons rfl (.cons rfl (.cons rfl (.cons rfl .nil)))))))) ?_
                          refine areg rfl ?_
                          refine s_det (D.move rfl) rfl ?_
                          refine s_det (D.add rfl rfl (w64 (by omega) (by omega))) rfl ?_
                          refine s_det (D.assign rfl) rfl ?_
                          refine s_nil ?_
                          exact ⟨n + 1, by omega, by omega, (.cons rfl (.cons rfl (.cons rfl (.cons rfl (.cons rfl (.cons rfl (.cons rfl (.cons rfl .nil)))))))), rfl⟩
                      · replace h171 := of_decide_eq_false h171
                        refine s_nil ?_
                        refine acond_f rfl ?_
                        refine aexit ?_
                        refine areg rfl ?_
                        refine s_det (D.move rfl) rfl ?_
                        refine s_det (D.add rfl rfl (w64 (by omega) (by omega))) rfl ?_
                        refine s_det (D.assign rfl) rfl ?_
                        refine s_nil ?_
                        exact ⟨k + 1, by omega, by omega, (.cons rfl (.cons rfl (.cons rfl (.cons rfl (.cons rfl (.cons rfl .nil)))))), rfl⟩
                  · replace h132 := of_decide_eq_false h132
                    refine s_det (D.pick rfl rfl rfl rfl) rfl ?_
                    refine s_nil ?_
                    refine acond_f rfl ?_
                    refine aexit ?_
                    exact ⟨(), trivial, Sub.refl _, (.cons rfl (.cons rfl (.cons rfl .nil)))⟩
                · replace h129 := of_decide_eq_false h129
                  refine s_det (D.move rfl) rfl ?_
                  refine s_no rfl rfl rfl rfl ?_
                  refine s_no rfl rfl rfl rfl ?_
                  refine s_det (D.pick rfl rfl rfl rfl) rfl ?_
                  refine s_nil ?_
                  refine acond_f rfl ?_
                  refine aexit ?_
                  exact ⟨(), trivial, Sub.refl _, (.cons rfl (.cons rfl (.cons rfl .nil)))⟩
              · intro _ _
                refine aseq ?_
                refine adraw [.det 0, .det 1, .det 2, .det 3, .det 4, .det 5, .det 6, .det 7] rfl (by kernel_rfl) ?_
                refine d_det rfl (D.load_i rfl rfl) rfl ?_
                refine d_det rfl (D.field_i rfl rfl rfl) rfl ?_
                refine d_det rfl (D.load_i rfl rfl) rfl ?_
                refine d_det rfl (D.move rfl) rfl ?_
                refine d_det rfl (D.idx_m rfl rfl (by omega) hva rfl) rfl ?_
                refine d_det rfl (D.load_i rfl rfl) rfl ?_
                refine d_det rfl (D.call (evc rfl (evc rfl ev0)) b_gradusref0_EqTensor (Pure.toT (gradusref0_EqTensor _ _ hsa hsa) rfl)) rfl ?_
                refine d_det rfl (D.not rfl rfl) rfl ?_
                refine d_nil ?_
                refine acond_f rfl ?_
                refine askip ?_
                refine areg rfl ?_
                refine s_det (D.move rfl) rfl ?_
                refine s_det (D.add rfl rfl (w64 (by omega) (by omega))) rfl ?_
                refine s_det (D.assign rfl) rfl ?_
                refine s_nil ?_
                exact ⟨i + 1, by omega, by omega, (.cons rfl (.cons rfl .nil)), rfl⟩
        · replace h38 := of_decide_eq_false h38
          refine s_det (D.pick rfl rfl rfl rfl) rfl ?_
          refine s_nil ?_
          refine acond_f rfl ?_
          refine aexit ?_
          exact ⟨(), trivial, Sub.refl _, .nil⟩
      · replace h35 := of_decide_eq_false h35
        refine s_det (D.move rfl) rfl ?_
        refine s_no rfl rfl rfl rfl ?_
        refine s_no rfl rfl rfl rfl ?_
        refine s_det (D.pick rfl rfl rfl rfl) rfl ?_
        refine s_nil ?_
        refine acond_f rfl ?_
        refine aexit ?_
        exact ⟨(), trivial, Sub.refl _, .nil⟩
    · intro _ _
      refine aseq ?_
      refine areg rfl ?_
      refine s_det (D.call ev0 b_graduslaw5_wakes graduslaw5_wakes) rfl ?_
      refine s_det (D.assign rfl) rfl ?_
      refine s_nil ?_
      refine aret ?_
      exact ⟨[_], ⟨⟨rfl, rfl⟩, trivial⟩, rfl, rfl⟩

theorem gateOpens_pure (x : Ask2) (hx : G46 x) : Pure Try.prog 15 [enc46 x] (bv true) := graduslaw5_GateOpens x.1 x.2 hx.ok.1 hx.ok.2.1 hx.ok.2.2

end Go.Proofs.Ytpjcidlkdfebhaa.F
