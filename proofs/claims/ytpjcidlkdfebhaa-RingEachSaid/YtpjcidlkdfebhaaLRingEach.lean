/- Functions of the program and of the references: what they compute, by the layer Al. Made by a program of this session (wip/al/alfill.py) out of wip/al/specs. -/
import Derived.Test.YtpjcidlkdfebhaaGb
import Derived.Test.YtpjcidlkdfebhaaAskTen
import Derived.Test.YtpjcidlkdfebhaaProg
namespace Go.Proofs.Ytpjcidlkdfebhaa.F
open Go Go.Proofs.Al
set_option linter.unusedVariables false
set_option linter.unusedSimpArgs false
set_option maxRecDepth 10000 in
theorem graduslaw2_RingEach (ts : List Tn) (ns : List Int) (ht : ts.length ≤ 17592186044416) (hn : ns.length ≤ 17592186044416) (hf : ∀ t ∈ ts, t.fit) : Pure Try.prog 8 [.agg [.list false 2 (ts.map tv), ints ns]] (bv true) := by
  have hwt := wtT_le hf ht
  intro σ
  refine acalls Try.func8 rfl rfl (by decide) rfl rfl ?_
  refine aseq ?_
  refine areg rfl ?_
  refine s_det (D.box_i rfl rfl) rfl ?_
  refine s_det (D.assign rfl) rfl ?_
  refine s_nil ?_
  refine aseq ?_
  refine aseq ?_
  refine areg rfl ?_
  refine s_det (D.load_i rfl rfl) rfl ?_
  refine s_cmp (D.call (evc rfl ev0) b_graduslaw2_Heavy (graduslaw2_Heavy ts ns (by omega) (by omega) hf hwt)) rfl (fun h21 => ?_) (fun h21 => ?_)
  · replace h21 := of_decide_eq_true h21
    refine s_nil ?_
    refine acond_t rfl ?_
    refine aseq ?_
    refine areg rfl ?_
    refine s_det (D.assign rfl) rfl ?_
    refine s_nil ?_
    refine aret ?_
    exact ⟨[_], ⟨⟨rfl, rfl⟩, trivial⟩, rfl, rfl⟩
  · replace h21 := of_decide_eq_false h21
    obtain ⟨hts, hsm⟩ := wtT_small (l := ts) (by omega)
    refine s_nil ?_
    refine acond_f rfl ?_
    refine askip ?_
    refine aseq ?_
    refine aseq ?_
    refine areg rfl ?_
    refine s_det (D.assign rfl) rfl ?_
    refine s_nil ?_
    refine ablock ?_
    -- LOOP writes [3] keeps [1]
    refine aloop (ι := Nat) (fun i => i ≤ ts.length) (fun i => ts.length - i) (fun i => [(1, .iptr (.agg [.list false 2 (ts.map tv), ints ns])), (3, iv i)]) (fun i => σ) 0 (by omega) ?_ rfl fun i hi => ?_
    · exact (.cons rfl (.cons rfl .nil))
    refine aseq ?_
    refine aseq ?_
    refine areg rfl ?_
    refine s_det (D.move rfl) rfl ?_
    refine s_det (D.field_i rfl rfl rfl) rfl ?_
    refine s_det (D.load_i rfl rfl) rfl ?_
    refine s_det (D.len_m rfl rfl) rfl ?_
    refine s_cmp (D.lss rfl rfl rfl) rfl (fun h26 => ?_) (fun h26 => ?_)
    · replace h26 := of_decide_eq_true h26
      refine s_det (D.move rfl) rfl ?_
      refine s_yes rfl rfl ?_
      refine s_det (D.move rfl) rfl ?_
      refine s_yes rfl rfl ?_
      refine s_cmp (D.lss rfl rfl rfl) rfl (fun h29 => ?_) (fun h29 => ?_)
      · replace h29 := of_decide_eq_true h29
        obtain ⟨a, hva⟩ : ∃ a, ts[i]? = some a := ⟨_, get_lt (by omega)⟩
        have hsa : a.sm := by have := hsm a (List.mem_of_getElem? hva); exact ⟨by omega, by omega⟩
        refine s_det (D.pick rfl rfl rfl rfl) rfl ?_
        refine s_nil ?_
        refine acond_t rfl ?_
        refine askip ?_
        refine aseq ?_
        refine ablock ?_
        refine aseq ?_
        refine areg rfl ?_
        refine s_det (D.assign rfl) rfl ?_
        refine s_nil ?_
        refine ablock ?_
        -- LOOP writes [4] keeps [1, 3]
        refine aloop (ι := Nat) (fun k => k ≤ ts.length) (fun k => ts.length - k) (fun k => [(1, .iptr (.agg [.list false 2 (ts.map tv), ints ns])), (3, iv i), (4, iv k)]) (fun k => σ) 0 (by omega) ?_ rfl fun k hk => ?_
        · exact (.cons rfl (.cons rfl (.cons rfl .nil)))
        refine aseq ?_
        refine aseq ?_
        refine areg rfl ?_
        refine s_det (D.move rfl) rfl ?_
        refine s_det (D.field_i rfl rfl rfl) rfl ?_
        refine s_det (D.load_i rfl rfl) rfl ?_
        refine s_det (D.len_m rfl rfl) rfl ?_
        refine s_cmp (D.lss rfl rfl rfl) rfl (fun h37 => ?_) (fun h37 => ?_)
        · replace h37 := of_decide_eq_true h37
          refine s_det (D.move rfl) rfl ?_
          refine s_yes rfl rfl ?_
          refine s_det (D.move rfl) rfl ?_
          refine s_yes rfl rfl ?_
          refine s_cmp (D.lss rfl rfl rfl) rfl (fun h40 => ?_) (fun h40 => ?_)
          · replace h40 := of_decide_eq_true h40
            obtain ⟨b, hvb⟩ : ∃ a, ts[k]? = some a := ⟨_, get_lt (by omega)⟩
            have hsb : b.sm := by have := hsm b (List.mem_of_getElem? hvb); exact ⟨by omega, by omega⟩
            refine s_det (D.pick rfl rfl rfl rfl) rfl ?_
            refine s_nil ?_
            refine acond_t rfl ?_
            refine askip ?_
            refine aseq ?_
            refine ablock ?_
            refine aseq ?_
            refine adraw [.det 0, .det 1, .det 2, .det 3, .det 4, .det 5, .det 6, .det 7, .det 8, .det 9, .det 10, .det 11, .alloc2 12 13, .act 14, .act 15] rfl (by kernel_rfl) ?_
            refine d_det rfl (D.field_i rfl rfl rfl) rfl ?_
            refine d_det rfl (D.load_i rfl rfl) rfl ?_
            refine d_det rfl (D.move rfl) rfl ?_
            refine d_det rfl (D.idx_m rfl rfl (by omega) hva rfl) rfl ?_
            refine d_det rfl (D.load_i rfl rfl) rfl ?_
            refine d_det rfl (D.call (evc rfl ev0) b_gradusref0_CopyTensor (gradusref0_CopyTensor a hsa)) rfl ?_
            refine d_det rfl (D.field_i rfl rfl rfl) rfl ?_
            refine d_det rfl (D.load_i rfl rfl) rfl ?_
            refine d_det rfl (D.move rfl) rfl ?_
            refine d_det rfl (D.idx_m rfl rfl (by omega) hvb rfl) rfl ?_
            refine d_det rfl (D.load_i rfl rfl) rfl ?_
            refine d_det rfl (D.call (evc rfl ev0) b_gradusref0_CopyTensor (gradusref0_CopyTensor b hsb)) rfl ?_
            refine d_new2 rfl rfl rfl rfl rfl rfl rfl rfl rfl rfl fun b5 hb5 b6 hb6 hn6 => ?_
            refine d_do rfl (by kernel_rfl) (A.store rfl rfl (get2a hn6) rfl rfl (by rfl) rfl rfl ?_)
            refine d_do rfl (by kernel_rfl) (A.store rfl rfl (by rw [AH.set_ne hn6]; exact AH.set_self ..) rfl rfl (by rfl) rfl rfl ?_)
            refine d_nil ?_
            rw [fix2 hn6]
            refine afix (d := 6) rfl (by rw [AH.set_ne hn6]; exact hb6) ?_
            refine afix (d := 5) rfl hb5 ?_
            refine aseq ?_
            refine areg rfl ?_
            refine s_det (D.load_i rfl rfl) rfl ?_
            refine s_det (D.load_i rfl rfl) rfl ?_
            refine s_act rfl (A.call (evc rfl (evc rfl ev0)) b_ring_Add (ring_Add_own a b _) fun y σ' hy => ?_)
            obtain ⟨_, rfl, b59, c59, hb59, hc59, hn59, rfl, rfl⟩ := hy
            refine s_det (D.move rfl) rfl ?_
            refine s_det (D.extract rfl rfl) rfl ?_
            refine s_det (D.extract rfl rfl) rfl ?_
            refine s_act rfl (A.alloc rfl rfl rfl fun b7 hb7 => ?_)
            refine s_do (A.store rfl rfl (AH.set_self ..) rfl rfl (by rfl) rfl rfl ?_)
            refine s_det (D.assign rfl) rfl ?_
            refine s_nil ?_
            rw [AH.set_set]
            refine afix (d := 7) rfl hb7 ?_
            refine aseq ?_
            refine areg rfl ?_
            refine s_det (D.load_i rfl rfl) rfl ?_
            refine s_det (D.load_i rfl rfl) rfl ?_
            refine s_det (D.call (evc rfl (evc rfl ev0)) b_ring_Sub (ring_Sub _ _)) rfl ?_
            refine s_det (D.move rfl) rfl ?_
            refine s_det (D.extract rfl rfl) rfl ?_
            refine s_det (D.extract rfl rfl) rfl ?_
            refine s_act rfl (A.alloc rfl rfl rfl fun b9 hb9 => ?_)
            refine s_do (A.store rfl rfl (AH.set_self ..) rfl rfl (by rfl) rfl rfl ?_)
            refine s_det (D.assign rfl) rfl ?_
            refine s_nil ?_
            rw [AH.set_set]
            refine afix (d := 9) rfl hb9 ?_
            refine aseq ?_
            refine areg rfl ?_
            refine s_det (D.load_i rfl rfl) rfl ?_
            refine s_det (D.load_i rfl rfl) rfl ?_
            refine s_act rfl (A.call (evc rfl (evc rfl ev0)) b_ring_Mul (ring_Mul_own a b _) fun y σ' hy => ?_)
            obtain ⟨_, rfl, b71, c71, hb71, hc71, hn71, rfl, rfl⟩ := hy
            refine s_det (D.move rfl) rfl ?_
            refine s_det (D.extract rfl rfl) rfl ?_
            refine s_det (D.extract rfl rfl) rfl ?_
            refine s_act rfl (A.alloc rfl rfl rfl fun b11 hb11 => ?_)
            refine s_do (A.store rfl rfl (AH.set_self ..) rfl rfl (by rfl) rfl rfl ?_)
            refine s_det (D.assign rfl) rfl ?_
            refine s_nil ?_
            rw [AH.set_set]
            refine afix (d := 11) rfl hb11 ?_
            refine aseq ?_
            refine areg rfl ?_
            refine s_det (D.load_i rfl rfl) rfl ?_
            refine s_det (D.load_i rfl rfl) rfl ?_
            refine s_det (D.call (evc rfl (evc rfl ev0)) b_ring_Dot (ring_Dot _ _)) rfl ?_
            refine s_det (D.move rfl) rfl ?_
            refine s_det (D.extract rfl rfl) rfl ?_
            refine s_det (D.extract rfl rfl) rfl ?_
            refine s_det (D.assign rfl) rfl ?_
            refine s_det (D.assign rfl) rfl ?_
            refine s_nil ?_
            refine aseq ?_
            refine areg rfl ?_
            refine s_det (D.assign rfl) rfl ?_
            refine s_det (D.assign rfl) rfl ?_
            refine s_nil ?_
            refine aseq ?_
            refine areg rfl ?_
            refine s_act rfl (A.alloc rfl rfl rfl fun b17 hb17 => ?_)
            refine s_act rfl (A.alloc rfl rfl rfl fun b18 hb18 => ?_)
            refine s_act rfl (A.alloc rfl rfl rfl fun b19 hb19 => ?_)
            have n87 := (AH.set_none hb18).2
            have n97 := (AH.set_none (AH.set_none hb19).1).2
            have n98 := (AH.set_none hb19).2
            refine s_nil ?_
            refine amidz (fun _ : Unit => True) (fun _ => [(1, .iptr (.agg [.list false 2 (ts.map tv), ints ns])), (3, iv i), (4, iv k), (5, .iptr (tv a)), (6, .iptr (tv b)), (7, .iptr (.agg [.ref b59 1 0 (twoS opA a b).1.d.length, .ref c59 1 0 (twoS opA a b).1.x.length])), (8, iv (pairS a b)), (9, .iptr (tv (twoS opS a b).1)), (10, iv (pairS a b)), (11, .iptr (.agg [.ref b71 1 0 (twoS opM a b).1.d.length, .ref c71 1 0 (twoS opM a b).1.x.length])), (12, iv (pairS a b)), (13, iv (sumW (twoS opM a b).1.x)), (14, iv (pairS a b)), (15, iv (pairS a b)), (16, iv (sumW (twoS opM a b).1.x)), (17, .iptr (tv (twoS opA a b).1)), (18, .iptr (tv (twoS opS a b).1)), (19, .iptr (tv (twoS opM a b).1))]) (fun _ => (σ.ten b59 c59 (twoS opA a b).1.d (twoS opA a b).1.x).ten b71 c71 (twoS opM a b).1.d (twoS opM a b).1.x) ?_ ?_
            · refine aseq ?_
              refine areg rfl ?_
              refine s_det (D.load_i rfl rfl) rfl ?_
              refine s_cmp (D.call (evc rfl ev0) b_gradusref1_Tensor (gradusref1_Tensor _)) rfl (fun h81 => ?_) (fun h81 => ?_)
              · replace h81 := of_decide_eq_true h81
                refine s_det (D.move rfl) rfl ?_
                refine s_yes rfl rfl ?_
                refine s_det (D.load_i rfl rfl) rfl ?_
                refine s_yes rfl rfl ?_
                refine s_cmp (D.call (evc rfl ev0) b_gradusref1_Tensor (gradusref1_Tensor _)) rfl (fun h84 => ?_) (fun h84 => ?_)
                · replace h84 := of_decide_eq_true h84
                  refine s_det (D.pick rfl rfl rfl rfl) rfl ?_
                  refine s_nil ?_
                  refine acond_t rfl ?_
                  refine aseq ?_
                  refine areg rfl ?_
                  refine s_det (D.assign rfl) rfl ?_
                  refine s_nil ?_
                  refine aseq ?_
                  refine areg rfl ?_
                  refine s_det (D.field_i rfl rfl rfl) rfl ?_
                  refine s_det (D.load_i rfl rfl) rfl ?_
                  refine s_det (D.field_i rfl rfl rfl) rfl ?_
                  refine s_det (D.load_i rfl rfl) rfl ?_
                  refine s_cmp (D.call (evc rfl (evc rfl ev0)) b_gradusref0_EqNumbers (gradusref0_EqNumbers a.d b.d (by have := hsa.1; omega) (by have := hsb.1; omega))) rfl (fun h90 => ?_) (fun h90 => ?_)
                  · replace h90 := of_decide_eq_true h90
                    have hp : pairS a b = 0 := pairS_zero.2 ⟨h81, h84, h90⟩
                    have hx := h81.dims h84 h90
                    refine s_nil ?_
                    refine acond_t rfl ?_
                    refine aseq ?_
                    refine areg rfl ?_
                    refine s_det (D.assign rfl) rfl ?_
                    refine s_nil ?_
                    refine aseq ?_
                    refine adraw [.det 0, .det 1, .det 2, .det 3, .det 4, .det 5, .det 6, .det 7, .det 8, .act 9, .act 10, .act 11] rfl (by kernel_rfl) ?_
                    refine d_det rfl (D.load_i rfl rfl) rfl ?_
                    refine d_det rfl (D.load_i rfl rfl) rfl ?_
                    refine d_det rfl (D.call (evc rfl (evc rfl (evc rfl ev0))) b_gradusref1_Each (gradusref1_Each a b 0 hsa hsb hx)) rfl ?_
                    refine d_det rfl (D.load_i rfl rfl) rfl ?_
                    refine d_det rfl (D.load_i rfl rfl) rfl ?_
                    refine d_det rfl (D.call (evc rfl (evc rfl (evc rfl ev0))) b_gradusref1_Each (gradusref1_Each a b 1 hsa hsb hx)) rfl ?_
                    refine d_det rfl (D.load_i rfl rfl) rfl ?_
                    refine d_det rfl (D.load_i rfl rfl) rfl ?_
                    refine d_det rfl (D.call (evc rfl (evc rfl (evc rfl ev0))) b_gradusref1_Each (gradusref1_Each a b 2 hsa hsb hx)) rfl ?_
                    refine d_do rfl (by kernel_rfl) (A.store rfl rfl (get3a n87 n97) rfl rfl (by rfl) rfl rfl ?_)
                    refine d_do rfl (by kernel_rfl) (A.store rfl rfl (by rw [AH.set_ne n87]; exact get3b n98) rfl rfl (by rfl) rfl rfl ?_)
                    refine d_do rfl (by kernel_rfl) (A.store rfl rfl (by rw [AH.set_ne n98, AH.set_ne n97]; exact AH.set_self ..) rfl rfl (by rfl) rfl rfl ?_)
                    refine d_nil ?_
                    rw [fix3 n87 n97 n98, each_add hp, each_sub hp, each_mul hp]
                    refine areg rfl ?_
                    refine s_own (AH.set_self ..) (D.load_p rfl rfl rfl rfl) rfl ?_
                    refine s_det (D.call (evc rfl ev0) b_gradusref1_Total (gradusref1_Total _ (two_sm ..))) rfl ?_
                    refine s_det (D.assign rfl) rfl ?_
                    refine s_nil ?_
                    exact ⟨(), trivial, (by repeat (first | exact Sub.refl _ | refine Sub.set ?_ (by first | assumption | exact (AH.set_none (by assumption)).1 | exact (AH.set_none (AH.set_none (by assumption)).1).1 | exact (AH.set_none (AH.set_none (AH.set_none (by assumption)).1).1).1) _)), .cons rfl (.cons rfl (.cons rfl (.cons rfl (.cons rfl (.cons rfl (.cons rfl (.cons rfl (.cons rfl (.cons rfl (.cons rfl (.cons rfl (.cons rfl (.cons (congrArg (fun e => some (iv e)) hp.symm) (.cons rfl (.fix rfl (get3a n87 n97) (by first | assumption | exact (AH.set_none (by assumption)).1 | exact (AH.set_none (AH.set_none (by assumption)).1).1 | exact (AH.set_none (AH.set_none (AH.set_none (by assumption)).1).1).1) (.refl _) (.fix rfl (get3b n98) (by first | assumption | exact (AH.set_none (by assumption)).1 | exact (AH.set_none (AH.set_none (by assumption)).1).1 | exact (AH.set_none (AH.set_none (AH.set_none (by assumption)).1).1).1) (.refl _) (.fix rfl (AH.set_self ..) (by first | assumption | exact (AH.set_none (by assumption)).1 | exact (AH.set_none (AH.set_none (by assumption)).1).1 | exact (AH.set_none (AH.set_none (AH.set_none (by assumption)).1).1).1) (.refl _) .nil)))))))))))))))))⟩
                  · replace h90 := of_decide_eq_false h90
                    have hp := pair_e ⟨h81, h84⟩ h90
                    have hq : ∀ op, (twoS op a b).1 = ⟨[], []⟩ := fun op => two_no (by omega)
                    refine s_nil ?_
                    refine acond_f rfl ?_
                    refine askip ?_
                    exact ⟨(), trivial, (by repeat (first | exact Sub.refl _ | refine Sub.set ?_ (by first | assumption | exact (AH.set_none (by assumption)).1 | exact (AH.set_none (AH.set_none (by assumption)).1).1 | exact (AH.set_none (AH.set_none (AH.set_none (by assumption)).1).1).1) _)), .cons rfl (.cons rfl (.cons rfl (.cons rfl (.cons rfl (.cons rfl (.cons rfl (.cons rfl (.cons rfl (.cons rfl (.cons rfl (.cons rfl (.cons rfl (.cons (congrArg (fun e => some (iv e)) hp.symm) (.cons (congrArg (fun e => some (iv (sumW (Tn.x e)))) (hq opM).symm) (.fix rfl (get3a n87 n97) (by first | assumption | exact (AH.set_none (by assumption)).1 | exact (AH.set_none (AH.set_none (by assumption)).1).1 | exact (AH.set_none (AH.set_none (AH.set_none (by assumption)).1).1).1) (wkI (hq _)) (.fix rfl (get3b n98) (by first | assumption | exact (AH.set_none (by assumption)).1 | exact (AH.set_none (AH.set_none (by assumption)).1).1 | exact (AH.set_none (AH.set_none (AH.set_none (by assumption)).1).1).1) (wkI (hq _)) (.fix rfl (AH.set_self ..) (by first | assumption | exact (AH.set_none (by assumption)).1 | exact (AH.set_none (AH.set_none (by assumption)).1).1 | exact (AH.set_none (AH.set_none (AH.set_none (by assumption)).1).1).1) (wkI (hq _)) .nil)))))))))))))))))⟩
                · replace h84 := of_decide_eq_false h84
                  have hp := pair_f (a := a) (b := b) (fun h => h84 h.2)
                  have hq : ∀ op, (twoS op a b).1 = ⟨[], []⟩ := fun op => two_no (by omega)
                  refine s_det (D.pick rfl rfl rfl rfl) rfl ?_
                  refine s_nil ?_
                  refine acond_f rfl ?_
                  refine askip ?_
                  exact ⟨(), trivial, (by repeat (first | exact Sub.refl _ | refine Sub.set ?_ (by first | assumption | exact (AH.set_none (by assumption)).1 | exact (AH.set_none (AH.set_none (by assumption)).1).1 | exact (AH.set_none (AH.set_none (AH.set_none (by assumption)).1).1).1) _)), .cons rfl (.cons rfl (.cons rfl (.cons rfl (.cons rfl (.cons rfl (.cons rfl (.cons rfl (.cons rfl (.cons rfl (.cons rfl (.cons rfl (.cons rfl (.cons (congrArg (fun e => some (iv e)) hp.symm) (.cons (congrArg (fun e => some (iv (sumW (Tn.x e)))) (hq opM).symm) (.fix rfl (get3a n87 n97) (by first | assumption | exact (AH.set_none (by assumption)).1 | exact (AH.set_none (AH.set_none (by assumption)).1).1 | exact (AH.set_none (AH.set_none (AH.set_none (by assumption)).1).1).1) (wkI (hq _)) (.fix rfl (get3b n98) (by first | assumption | exact (AH.set_none (by assumption)).1 | exact (AH.set_none (AH.set_none (by assumption)).1).1 | exact (AH.set_none (AH.set_none (AH.set_none (by assumption)).1).1).1) (wkI (hq _)) (.fix rfl (AH.set_self ..) (by first | assumption | exact (AH.set_none (by assumption)).1 | exact (AH.set_none (AH.set_none (by assumption)).1).1 | exact (AH.set_none (AH.set_none (AH.set_none (by assumption)).1).1).1) (wkI (hq _)) .nil)))))))))))))))))⟩
              · replace h81 := of_decide_eq_false h81
                have hp := pair_f (a := a) (b := b) (fun h => h81 h.1)
                have hq : ∀ op, (twoS op a b).1 = ⟨[], []⟩ := fun op => two_no (by omega)
                refine s_det (D.move rfl) rfl ?_
                refine s_no rfl rfl rfl rfl ?_
                refine s_no rfl rfl rfl rfl ?_
                refine s_det (D.pick rfl rfl rfl rfl) rfl ?_
                refine s_nil ?_
                refine acond_f rfl ?_
                refine askip ?_
                exact ⟨(), trivial, (by repeat (first | exact Sub.refl _ | refine Sub.set ?_ (by first | assumption | exact (AH.set_none (by assumption)).1 | exact (AH.set_none (AH.set_none (by assumption)).1).1 | exact (AH.set_none (AH.set_none (AH.set_none (by assumption)).1).1).1) _)), .cons rfl (.cons rfl (.cons rfl (.cons rfl (.cons rfl (.cons rfl (.cons rfl (.cons rfl (.cons rfl (.cons rfl (.cons rfl (.cons rfl (.cons rfl (.cons (congrArg (fun e => some (iv e)) hp.symm) (.cons (congrArg (fun e => some (iv (sumW (Tn.x e)))) (hq opM).symm) (.fix rfl (get3a n87 n97) (by first | assumption | exact (AH.set_none (by assumption)).1 | exact (AH.set_none (AH.set_none (by assumption)).1).1 | exact (AH.set_none (AH.set_none (AH.set_none (by assumption)).1).1).1) (wkI (hq _)) (.fix rfl (get3b n98) (by first | assumption | exact (AH.set_none (by assumption)).1 | exact (AH.set_none (AH.set_none (by assumption)).1).1 | exact (AH.set_none (AH.set_none (AH.set_none (by assumption)).1).1).1) (wkI (hq _)) (.fix rfl (AH.set_self ..) (by first | assumption | exact (AH.set_none (by assumption)).1 | exact (AH.set_none (AH.set_none (by assumption)).1).1 | exact (AH.set_none (AH.set_none (AH.set_none (by assumption)).1).1).1) (wkI (hq _)) .nil)))))))))))))))))⟩
            · intro _ _
              refine aseq ?_
              refine aseq ?_
              refine adraw [.det 0, .det 1, .det 2, .det 3, .det 4, .det 5, .det 6, .det 7, .det 8, .det 9, .det 10, .det 11, .det 12, .det 13, .det 14, .det 15, .det 16, .det 17, .det 18, .det 19, .det 20, .det 21, .det 22, .det 23, .det 24, .act 25, .det 26, .det 27, .det 28, .det 29, .det 30, .det 31, .det 32, .det 33, .det 34, .det 35, .det 36, .act 37, .det 38, .det 39, .det 40, .det 41, .det 42, .det 43, .det 44, .det 45, .det 46, .det 47, .det 48, .det 49, .det 50, .det 51, .det 52, .det 53, .det 54, .det 55, .det 56, .det 57, .det 58, .det 59, .det 60, .det 61, .det 62, .det 63, .det 64] rfl (by kernel_rfl) ?_
              refine d_det rfl (D.move rfl) rfl ?_
              refine d_det rfl (D.call (evc rfl ev0) b_graduslaw2_num (graduslaw2_num _)) rfl ?_
              refine d_det rfl (D.move rfl) rfl ?_
              refine d_det rfl (D.neq rfl rfl (decide_eq_false (fun h => h rfl))) rfl ?_
              refine d_det rfl (D.move rfl) rfl ?_
              refine d_yes rfl rfl rfl (D.move rfl) rfl ?_
              refine d_yes rfl rfl rfl (D.call (evc rfl ev0) b_graduslaw2_num (graduslaw2_num _)) rfl ?_
              refine d_yes rfl rfl rfl (D.move rfl) rfl ?_
              refine d_yes rfl rfl rfl (D.neq rfl rfl (decide_eq_false (fun h => h rfl))) rfl ?_
              refine d_det rfl (D.pick rfl rfl rfl rfl) rfl ?_
              refine d_det rfl (D.move rfl) rfl ?_
              refine d_yes rfl rfl rfl (D.move rfl) rfl ?_
              refine d_yes rfl rfl rfl (D.call (evc rfl ev0) b_graduslaw2_num (graduslaw2_num _)) rfl ?_
              refine d_yes rfl rfl rfl (D.move rfl) rfl ?_
              refine d_yes rfl rfl rfl (D.neq rfl rfl (decide_eq_false (fun h => h rfl))) rfl ?_
              refine d_det rfl (D.pick rfl rfl rfl rfl) rfl ?_
              refine d_det rfl (D.move rfl) rfl ?_
              refine d_yes rfl rfl rfl (D.move rfl) rfl ?_
              refine d_yes rfl rfl rfl (D.call (evc rfl ev0) b_graduslaw2_num (graduslaw2_num _)) rfl ?_
              refine d_yes rfl rfl rfl (D.move rfl) rfl ?_
              refine d_yes rfl rfl rfl (D.neq rfl rfl (decide_eq_false (fun h => h rfl))) rfl ?_
              refine d_det rfl (D.pick rfl rfl rfl rfl) rfl ?_
              refine d_det rfl (D.move rfl) rfl ?_
              refine d_yes rfl rfl rfl (D.load_i rfl rfl) rfl ?_
              refine d_yes rfl rfl rfl (D.load_i rfl rfl) rfl ?_
              refine d_yesA rfl rfl rfl rfl (by kernel_rfl) (A.call (evc rfl (evc rfl ev0)) b_gradusref0_EqTensor (Pure.reads (Pure.toT (gradusref0_EqTensor _ _ (two_sm opA a b) (two_sm opA a b)) rfl) rfl rfl (pz2 (Pz.ten (ten_get hb71 hc71 (ten_d hn59)) (ten_get hb71 hc71 ten_x) rfl rfl) (.refl _))) fun y σ' hy => ?_)
              obtain ⟨rfl, rfl⟩ := hy
              refine d_yes rfl rfl rfl (D.not rfl rfl) rfl ?_
              refine d_det rfl (D.pick rfl rfl rfl rfl) rfl ?_
              refine d_det rfl (D.move rfl) rfl ?_
              refine d_yes rfl rfl rfl (D.load_i rfl rfl) rfl ?_
              refine d_yes rfl rfl rfl (D.load_i rfl rfl) rfl ?_
              refine d_yes rfl rfl rfl (D.call (evc rfl (evc rfl ev0)) b_gradusref0_EqTensor (Pure.toT (gradusref0_EqTensor _ _ (two_sm opS a b) (two_sm opS a b)) rfl)) rfl ?_
              refine d_yes rfl rfl rfl (D.not rfl rfl) rfl ?_
              refine d_det rfl (D.pick rfl rfl rfl rfl) rfl ?_
              refine d_det rfl (D.move rfl) rfl ?_
              refine d_yes rfl rfl rfl (D.load_i rfl rfl) rfl ?_
              refine d_yes rfl rfl rfl (D.load_i rfl rfl) rfl ?_
              refine d_yesA rfl rfl rfl rfl (by kernel_rfl) (A.call (evc rfl (evc rfl ev0)) b_gradusref0_EqTensor (Pure.reads (Pure.toT (gradusref0_EqTensor _ _ (two_sm opM a b) (two_sm opM a b)) rfl) rfl rfl (pz2 (Pz.ten (ten_d hn71) ten_x rfl rfl) (.refl _))) fun y σ' hy => ?_)
              obtain ⟨rfl, rfl⟩ := hy
              refine d_yes rfl rfl rfl (D.not rfl rfl) rfl ?_
              refine d_det rfl (D.pick rfl rfl rfl rfl) rfl ?_
              refine d_det rfl (D.move rfl) rfl ?_
              refine d_yes rfl rfl rfl (D.move rfl) rfl ?_
              refine d_yes rfl rfl rfl (D.move rfl) rfl ?_
              refine d_yes rfl rfl rfl (D.neq rfl rfl (decide_eq_false (fun h => h rfl))) rfl ?_
              refine d_det rfl (D.pick rfl rfl rfl rfl) rfl ?_
              refine d_det rfl (D.move rfl) rfl ?_
              refine d_yes rfl rfl rfl (D.load_i rfl rfl) rfl ?_
              refine d_yes rfl rfl rfl (D.field_i rfl rfl rfl) rfl ?_
              refine d_yes rfl rfl rfl (D.load_i rfl rfl) rfl ?_
              refine d_yes rfl rfl rfl (D.move rfl) rfl ?_
              refine d_yes rfl rfl rfl (D.idx_m rfl rfl (by omega) hva rfl) rfl ?_
              refine d_yes rfl rfl rfl (D.load_i rfl rfl) rfl ?_
              refine d_yes rfl rfl rfl (D.call (evc rfl (evc rfl ev0)) b_gradusref0_EqTensor (Pure.toT (gradusref0_EqTensor _ _ hsa hsa) rfl)) rfl ?_
              refine d_yes rfl rfl rfl (D.not rfl rfl) rfl ?_
              refine d_det rfl (D.pick rfl rfl rfl rfl) rfl ?_
              refine d_det rfl (D.move rfl) rfl ?_
              refine d_yes rfl rfl rfl (D.load_i rfl rfl) rfl ?_
              refine d_yes rfl rfl rfl (D.field_i rfl rfl rfl) rfl ?_
              refine d_yes rfl rfl rfl (D.load_i rfl rfl) rfl ?_
              refine d_yes rfl rfl rfl (D.move rfl) rfl ?_
              refine d_yes rfl rfl rfl (D.idx_m rfl rfl (by omega) hvb rfl) rfl ?_
              refine d_yes rfl rfl rfl (D.load_i rfl rfl) rfl ?_
              refine d_yes rfl rfl rfl (D.call (evc rfl (evc rfl ev0)) b_gradusref0_EqTensor (Pure.toT (gradusref0_EqTensor _ _ hsb hsb) rfl)) rfl ?_
              refine d_yes rfl rfl rfl (D.not rfl rfl) rfl ?_
              refine d_det rfl (D.pick rfl rfl rfl rfl) rfl ?_
              refine d_nil ?_
              refine acond_f rfl ?_
              refine askip ?_
              refine aseq ?_
              refine areg rfl ?_
              refine s_det (D.load_i rfl rfl) rfl ?_
              refine s_act rfl (A.call (evc rfl ev0) b_graduslaw0_Tensor (graduslaw0_Tensor (twoS opA a b).1 b59 c59 _ (ten_get hb71 hc71 (ten_d hn59)) (ten_get hb71 hc71 ten_x) hn59 (two_sm ..).fit) fun y σ' hy => ?_)
              obtain ⟨rfl, d1, x1, rfl⟩ := hy
              refine s_nil ?_
              refine aseq ?_
              refine areg rfl ?_
              refine s_det (D.load_i rfl rfl) rfl ?_
              refine s_act rfl (A.call (evc rfl ev0) b_graduslaw0_Tensor (graduslaw0_Tensor (twoS opM a b).1 b71 c71 _ (by rw [AH.set_ne (ten_fresh hb71).2.2, AH.set_ne (ten_fresh hb71).2.1]; exact ten_d hn71) (by rw [AH.set_ne (ten_fresh hc71).2.2, AH.set_ne (ten_fresh hc71).2.1]; exact ten_x) hn71 (two_sm ..).fit) fun y σ' hy => ?_)
              obtain ⟨rfl, d2, x2, rfl⟩ := hy
              refine s_nil ?_
              refine afreezew [(1, .iptr (.agg [.list false 2 (ts.map tv), ints ns])), (3, iv i), (4, iv k), (5, .iptr (tv a)), (6, .iptr (tv b))] σ (by repeat (first | exact Sub.refl _ | refine Sub.set ?_ (by first | assumption | exact (AH.set_none (by assumption)).1 | exact (AH.set_none (AH.set_none (by assumption)).1).1 | exact (AH.set_none (AH.set_none (AH.set_none (by assumption)).1).1).1) _)) (.cons rfl (.cons rfl (.cons rfl (.cons rfl (.cons rfl .nil))))) ?_
              refine aseq ?_
              refine adraw [.det 0, .det 1, .det 2, .det 3, .det 4, .det 5, .det 6, .det 7, .det 8, .det 9, .det 10, .det 11, .det 12, .det 13, .det 14, .det 15, .det 16, .det 17] rfl (by kernel_rfl) ?_
              refine d_det rfl (D.load_i rfl rfl) rfl ?_
              refine d_det rfl (D.field_i rfl rfl rfl) rfl ?_
              refine d_det rfl (D.load_i rfl rfl) rfl ?_
              refine d_det rfl (D.move rfl) rfl ?_
              refine d_det rfl (D.idx_m rfl rfl (by omega) hva rfl) rfl ?_
              refine d_det rfl (D.load_i rfl rfl) rfl ?_
              refine d_det rfl (D.call (evc rfl (evc rfl ev0)) b_gradusref0_EqTensor (Pure.toT (gradusref0_EqTensor _ _ hsa hsa) rfl)) rfl ?_
              refine d_det rfl (D.not rfl rfl) rfl ?_
              refine d_det rfl (D.move rfl) rfl ?_
              refine d_yes rfl rfl rfl (D.load_i rfl rfl) rfl ?_
              refine d_yes rfl rfl rfl (D.field_i rfl rfl rfl) rfl ?_
              refine d_yes rfl rfl rfl (D.load_i rfl rfl) rfl ?_
              refine d_yes rfl rfl rfl (D.move rfl) rfl ?_
              refine d_yes rfl rfl rfl (D.idx_m rfl rfl (by omega) hvb rfl) rfl ?_
              refine d_yes rfl rfl rfl (D.load_i rfl rfl) rfl ?_
              refine d_yes rfl rfl rfl (D.call (evc rfl (evc rfl ev0)) b_gradusref0_EqTensor (Pure.toT (gradusref0_EqTensor _ _ hsb hsb) rfl)) rfl ?_
              refine d_yes rfl rfl rfl (D.not rfl rfl) rfl ?_
              refine d_det rfl (D.pick rfl rfl rfl rfl) rfl ?_
              refine d_nil ?_
              refine acond_f rfl ?_
              refine askip ?_
              refine areg rfl ?_
              refine s_det (D.move rfl) rfl ?_
              refine s_det (D.add rfl rfl (w64 (by omega) (by omega))) rfl ?_
              refine s_det (D.assign rfl) rfl ?_
              refine s_nil ?_
              exact ⟨k + 1, by omega, by omega, (.cons rfl (.cons rfl (.cons rfl .nil))), rfl⟩
          · replace h40 := of_decide_eq_false h40
            refine s_det (D.pick rfl rfl rfl rfl) rfl ?_
            refine s_nil ?_
            refine acond_f rfl ?_
            refine aexit ?_
            refine areg rfl ?_
            refine s_det (D.move rfl) rfl ?_
            refine s_det (D.add rfl rfl (w64 (by omega) (by omega))) rfl ?_
            refine s_det (D.assign rfl) rfl ?_
            refine s_nil ?_
            exact ⟨i + 1, by omega, by omega, (.cons rfl (.cons rfl .nil)), rfl⟩
        · replace h37 := of_decide_eq_false h37
          refine s_det (D.move rfl) rfl ?_
          refine s_no rfl rfl rfl rfl ?_
          refine s_no rfl rfl rfl rfl ?_
          refine s_det (D.pick rfl rfl rfl rfl) rfl ?_
          refine s_nil ?_
          refine acond_f rfl ?_
          refine aexit ?_
          refine areg rfl ?_
          refine s_det (D.move rfl) rfl ?_
          refine s_det (D.add rfl rfl (w64 (by omega) (by omega))) rfl ?_
          refine s_det (D.assign rfl) rfl ?_
          refine s_nil ?_
          exact ⟨i + 1, by omega, by omega, (.cons rfl (.cons rfl .nil)), rfl⟩
      · replace h29 := of_decide_eq_false h29
        refine s_det (D.pick rfl rfl rfl rfl) rfl ?_
        refine s_nil ?_
        refine acond_f rfl ?_
        refine aexit ?_
        refine aseq ?_
        refine areg rfl ?_
        refine s_det (D.call ev0 b_graduslaw2_wakes graduslaw2_wakes) rfl ?_
        refine s_det (D.assign rfl) rfl ?_
        refine s_nil ?_
        refine aret ?_
        exact ⟨[_], ⟨⟨rfl, rfl⟩, trivial⟩, rfl, rfl⟩
    · replace h26 := of_decide_eq_false h26
      refine s_det (D.move rfl) rfl ?_
      refine s_no rfl rfl rfl rfl ?_
      refine s_no rfl rfl rfl rfl ?_
      refine s_det (D.pick rfl rfl rfl rfl) rfl ?_
      refine s_nil ?_
      refine acond_f rfl ?_
      refine aexit ?_
      refine aseq ?_
      refine areg rfl ?_
      refine s_det (D.call ev0 b_graduslaw2_wakes graduslaw2_wakes) rfl ?_
      refine s_det (D.assign rfl) rfl ?_
      refine s_nil ?_
      refine aret ?_
      exact ⟨[_], ⟨⟨rfl, rfl⟩, trivial⟩, rfl, rfl⟩

theorem ringEach_pure (x : Ask2) (hx : G46 x) : Pure Try.prog 8 [enc46 x] (bv true) := graduslaw2_RingEach x.1 x.2 hx.ok.1 hx.ok.2.1 hx.ok.2.2

end Go.Proofs.Ytpjcidlkdfebhaa.F
