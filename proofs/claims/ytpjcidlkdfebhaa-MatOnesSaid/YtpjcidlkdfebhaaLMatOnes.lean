/- Functions of the program and of the references: what they compute, by the layer Al. Made by a program of this session (wip/al/alfill.py) out of wip/al/specs. -/
import Derived.Test.YtpjcidlkdfebhaaGe
import Derived.Test.YtpjcidlkdfebhaaAv
import Derived.Test.YtpjcidlkdfebhaaAskTen
import Derived.Test.YtpjcidlkdfebhaaProg
namespace Go.Proofs.Ytpjcidlkdfebhaa.F
open Go Go.Proofs.Al
set_option linter.unusedVariables false
set_option linter.unusedSimpArgs false
set_option maxRecDepth 10000 in
theorem graduslaw4_MatOnes (ts : List Tn) (ns : List Int) (ht : ts.length ≤ 17592186044416) (hn : ns.length ≤ 17592186044416) (hf : ∀ t ∈ ts, t.fit) (hr : ∀ t ∈ ts, inT t) : Pure Try.prog 7 [.agg [.list false 2 (ts.map tv), ints ns]] (bv true) := by
  have hwt := wtT_le hf ht
  intro σ
  refine acalls Try.func7 rfl rfl (by decide) rfl rfl ?_
  refine aseq ?_
  refine areg rfl ?_
  refine s_det (D.box_i rfl rfl) rfl ?_
  refine s_det (D.assign rfl) rfl ?_
  refine s_nil ?_
  refine aseq ?_
  refine aseq ?_
  refine areg rfl ?_
  refine s_det (D.load_i rfl rfl) rfl ?_
  refine s_cmp (D.call (evc rfl ev0) b_graduslaw2_Heavy (graduslaw2_Heavy ts ns (by omega) (by omega) hf hwt)) rfl (fun h18 => ?_) (fun h18 => ?_)
  · replace h18 := of_decide_eq_true h18
    refine s_nil ?_
    refine acond_t rfl ?_
    refine aseq ?_
    refine areg rfl ?_
    refine s_det (D.assign rfl) rfl ?_
    refine s_nil ?_
    refine aret ?_
    exact ⟨[_], ⟨⟨rfl, rfl⟩, trivial⟩, rfl, rfl⟩
  · replace h18 := of_decide_eq_false h18
    obtain ⟨hts, hsm⟩ := wtT_small (l := ts) (by omega)
    refine s_nil ?_
    refine acond_f rfl ?_
    refine askip ?_
    refine amidz (fun _ : Unit => True) (fun _ => []) (fun _ => σ) ?_ ?_
    · refine aseq ?_
      refine areg rfl ?_
      refine s_det (D.assign rfl) rfl ?_
      refine s_nil ?_
      refine ablock ?_
      -- LOOP writes [3] keeps [1]
      refine aloop (ι := Nat) (fun i => i ≤ ts.length) (fun i => ts.length - i) (fun i => [(1, .iptr (.agg [.list false 2 (ts.map tv), ints ns])), (3, iv i)]) (fun i => σ) 0 (by omega) ?_ rfl fun i hi => ?_
      · exact (.cons rfl (.cons rfl .nil))
      refine aseq ?_
      refine aseq ?_
      refine areg rfl ?_
      refine s_det (D.move rfl) rfl ?_
      refine s_det (D.field_i rfl rfl rfl) rfl ?_
      refine s_det (D.load_i rfl rfl) rfl ?_
      refine s_det (D.len_m rfl rfl) rfl ?_
      refine s_cmp (D.lss rfl rfl rfl) rfl (fun h23 => ?_) (fun h23 => ?_)
      · replace h23 := of_decide_eq_true h23
        refine s_det (D.move rfl) rfl ?_
        refine s_yes rfl rfl ?_
        refine s_det (D.move rfl) rfl ?_
        refine s_yes rfl rfl ?_
        refine s_cmp (D.lss rfl rfl rfl) rfl (fun h26 => ?_) (fun h26 => ?_)
        · replace h26 := of_decide_eq_true h26
          obtain ⟨a, hva⟩ : ∃ a, ts[i]? = some a := ⟨_, get_lt (by omega)⟩
          have hin := hr a (List.mem_of_getElem? hva)
          refine s_det (D.pick rfl rfl rfl rfl) rfl ?_
          refine s_nil ?_
          refine acond_t rfl ?_
          refine askip ?_
          refine aseq ?_
          refine ablock ?_
          refine aseq ?_
          refine areg rfl ?_
          refine s_det (D.field_i rfl rfl rfl) rfl ?_
          refine s_det (D.load_i rfl rfl) rfl ?_
          refine s_det (D.move rfl) rfl ?_
          refine s_det (D.idx_m rfl rfl (by omega) hva rfl) rfl ?_
          refine s_det (D.load_i rfl rfl) rfl ?_
          refine s_act rfl (A.alloc rfl rfl rfl fun b4 hb4 => ?_)
          refine s_do (A.store rfl rfl (AH.set_self ..) rfl rfl (by rfl) rfl rfl ?_)
          refine s_nil ?_
          rw [AH.set_set]
          refine afix (d := 4) rfl hb4 ?_
          refine aseq ?_
          refine aseq ?_
          refine areg rfl ?_
          refine s_det (D.load_i rfl rfl) rfl ?_
          refine s_cmp (D.call (evc rfl ev0) b_gradusref1_Tensor (gradusref1_Tensor _)) rfl (fun h36 => ?_) (fun h36 => ?_)
          · replace h36 := of_decide_eq_true h36
            have hla := h36.1.2.1
            refine s_det (D.not rfl rfl) rfl ?_
            refine s_det (D.move rfl) rfl ?_
            refine s_yes rfl rfl ?_
            refine s_det (D.field_i rfl rfl rfl) rfl ?_
            refine s_yes rfl rfl ?_
            refine s_det (D.load_i rfl rfl) rfl ?_
            refine s_yes rfl rfl ?_
            refine s_det (D.len_m rfl rfl) rfl ?_
            refine s_yes rfl rfl ?_
            refine s_cmp (D.neq rfl rfl rfl) rfl (fun h42 => ?_) (fun h42 => ?_)
            · replace h42 := of_decide_eq_true h42
              refine s_det (D.pick rfl rfl rfl rfl) rfl ?_
              refine s_nil ?_
              refine acond_t rfl ?_
              refine aexit ?_
              refine areg rfl ?_
              refine s_det (D.move rfl) rfl ?_
              refine s_det (D.add rfl rfl (w64 (by omega) (by omega))) rfl ?_
              refine s_det (D.assign rfl) rfl ?_
              refine s_nil ?_
              exact ⟨i + 1, by omega, by omega, (.cons rfl (.cons rfl .nil)), rfl⟩
            · replace h42 := of_decide_eq_false h42
              obtain ⟨r, c, x, rfl, hx, h1, h8, h1', h8'⟩ := h36.mat (by omega)
              have hM := Mx.lit hx
              refine s_det (D.pick rfl rfl rfl rfl) rfl ?_
              refine s_nil ?_
              refine acond_f rfl ?_
              refine askip ?_
              refine aseq ?_
              refine areg rfl ?_
              refine s_det (D.field_i rfl rfl rfl) rfl ?_
              refine s_det (D.load_i rfl rfl) rfl ?_
              refine s_det (D.idx_m rfl rfl (by omega) rfl rfl) rfl ?_
              refine s_det (D.load_i rfl rfl) rfl ?_
              refine s_det (D.call (evc rfl ev0) b_mat_One (mat_One_k r h1 h8)) rfl ?_
              refine s_det (D.move rfl) rfl ?_
              refine s_det (D.extract rfl rfl) rfl ?_
              refine s_det (D.extract rfl rfl) rfl ?_
              refine s_act rfl (A.alloc rfl rfl rfl fun b5 hb5 => ?_)
              refine s_do (A.store rfl rfl (AH.set_self ..) rfl rfl (by rfl) rfl rfl ?_)
              refine s_det (D.assign rfl) rfl ?_
              refine s_nil ?_
              rw [AH.set_set]
              refine afix (d := 5) rfl hb5 ?_
              refine aseq ?_
              refine areg rfl ?_
              refine s_det (D.field_i rfl rfl rfl) rfl ?_
              refine s_det (D.load_i rfl rfl) rfl ?_
              refine s_det (D.idx_m rfl rfl (by omega) rfl rfl) rfl ?_
              refine s_det (D.load_i rfl rfl) rfl ?_
              refine s_det (D.call (evc rfl ev0) b_mat_One (mat_One_k c h1' h8')) rfl ?_
              refine s_det (D.move rfl) rfl ?_
              refine s_det (D.extract rfl rfl) rfl ?_
              refine s_det (D.extract rfl rfl) rfl ?_
              refine s_act rfl (A.alloc rfl rfl rfl fun b7 hb7 => ?_)
              refine s_do (A.store rfl rfl (AH.set_self ..) rfl rfl (by rfl) rfl rfl ?_)
              refine s_det (D.assign rfl) rfl ?_
              refine s_nil ?_
              rw [AH.set_set]
              refine afix (d := 7) rfl hb7 ?_
              refine aseq ?_
              refine areg rfl ?_
              refine s_det (D.load_i rfl rfl) rfl ?_
              refine s_det (D.load_i rfl rfl) rfl ?_
              refine s_det (D.call (evc rfl (evc rfl ev0)) b_mat_Mul (mat_Mul_lit r r c (oneT r).x x h1 h8 h1 h8 h1' h8' (tab_len _ _) hx)) rfl ?_
              refine s_det (D.move rfl) rfl ?_
              refine s_det (D.extract rfl rfl) rfl ?_
              refine s_det (D.extract rfl rfl) rfl ?_
              refine s_act rfl (A.alloc rfl rfl rfl fun b9 hb9 => ?_)
              refine s_do (A.store rfl rfl (AH.set_self ..) rfl rfl (by rfl) rfl rfl ?_)
              refine s_det (D.assign rfl) rfl ?_
              refine s_nil ?_
              rw [AH.set_set]
              refine afix (d := 9) rfl hb9 ?_
              refine aseq ?_
              refine areg rfl ?_
              refine s_det (D.load_i rfl rfl) rfl ?_
              refine s_det (D.load_i rfl rfl) rfl ?_
              refine s_det (D.call (evc rfl (evc rfl ev0)) b_mat_Mul (mat_Mul_lit r c c x (oneT c).x h1 h8 h1' h8' h1' h8' hx (tab_len _ _))) rfl ?_
              refine s_det (D.move rfl) rfl ?_
              refine s_det (D.extract rfl rfl) rfl ?_
              refine s_det (D.extract rfl rfl) rfl ?_
              refine s_act rfl (A.alloc rfl rfl rfl fun b11 hb11 => ?_)
              refine s_do (A.store rfl rfl (AH.set_self ..) rfl rfl (by rfl) rfl rfl ?_)
              refine s_det (D.assign rfl) rfl ?_
              refine s_nil ?_
              rw [AH.set_set]
              refine afix (d := 11) rfl hb11 ?_
              refine aseq ?_
              refine aseq ?_
              refine areg rfl ?_
              refine s_det (D.move rfl) rfl ?_
              refine s_det (D.call (evc rfl ev0) b_graduslaw4_num (graduslaw4_num _)) rfl ?_
              refine s_det (D.move rfl) rfl ?_
              refine s_det (D.call (evc rfl ev0) b_graduslaw4_num (graduslaw4_num _)) rfl ?_
              refine s_det (D.add rfl rfl (w64 (by omega) (by omega))) rfl ?_
              refine s_det (D.move rfl) rfl ?_
              refine s_det (D.call (evc rfl ev0) b_graduslaw4_num (graduslaw4_num _)) rfl ?_
              refine s_det (D.add rfl rfl (w64 (by omega) (by omega))) rfl ?_
              refine s_det (D.move rfl) rfl ?_
              refine s_det (D.call (evc rfl ev0) b_graduslaw4_num (graduslaw4_num _)) rfl ?_
              refine s_det (D.add rfl rfl (w64 (by omega) (by omega))) rfl ?_
              refine s_det (D.neq rfl rfl (decide_eq_false (by omega))) rfl ?_
              refine s_det (D.move rfl) rfl ?_
              refine s_yes rfl rfl ?_
              refine s_det (D.load_i rfl rfl) rfl ?_
              refine s_yes rfl rfl ?_
              refine s_det (D.load_i rfl rfl) rfl ?_
              refine s_yes rfl rfl ?_
              refine s_det (D.call (evc rfl (evc rfl ev0)) b_gradusref0_EqTensor (eqT_k ((Mx.mat r r c _ _).ok h1 h8 h1' h8') h36 (one_mat hM hin))) rfl ?_
              refine s_yes rfl rfl ?_
              refine s_det (D.not rfl rfl) rfl ?_
              refine s_det (D.pick rfl rfl rfl rfl) rfl ?_
              refine s_det (D.move rfl) rfl ?_
              refine s_yes rfl rfl ?_
              refine s_det (D.load_i rfl rfl) rfl ?_
              refine s_yes rfl rfl ?_
              refine s_det (D.load_i rfl rfl) rfl ?_
              refine s_yes rfl rfl ?_
              refine s_det (D.call (evc rfl (evc rfl ev0)) b_gradusref0_EqTensor (eqT_k ((Mx.mat r c c _ _).ok h1 h8 h1' h8') h36 (mat_one hM hin))) rfl ?_
              refine s_yes rfl rfl ?_
              refine s_det (D.not rfl rfl) rfl ?_
              refine s_det (D.pick rfl rfl rfl rfl) rfl ?_
              refine s_nil ?_
              refine acond_f rfl ?_
              refine askip ?_
              refine aseq ?_
              refine adraw [.det 0, .det 1, .det 2, .det 3, .det 4, .det 5, .det 6, .det 7, .det 8] rfl (by kernel_rfl) ?_
              refine d_det rfl (D.field_i rfl rfl rfl) rfl ?_
              refine d_det rfl (D.load_i rfl rfl) rfl ?_
              refine d_det rfl (D.idx_m rfl rfl (by omega) rfl rfl) rfl ?_
              refine d_det rfl (D.load_i rfl rfl) rfl ?_
              refine d_det rfl (D.field_i rfl rfl rfl) rfl ?_
              refine d_det rfl (D.load_i rfl rfl) rfl ?_
              refine d_det rfl (D.idx_m rfl rfl (by omega) rfl rfl) rfl ?_
              refine d_det rfl (D.load_i rfl rfl) rfl ?_
              refine d_cmp rfl (D.eql rfl rfl rfl) rfl (fun h104 => ?_) (fun h104 => ?_)
              · replace h104 := of_decide_eq_true h104
                obtain rfl : r = c := by omega
                refine d_nil ?_
                refine acond_t rfl ?_
                refine aseq ?_
                refine areg rfl ?_
                refine s_det (D.load_i rfl rfl) rfl ?_
                refine s_det (D.call (evc rfl (evc rfl ev0)) b_mat_Power (mat_Power_k r 1 x h1 h8 hx (by decide))) rfl ?_
                refine s_det (D.move rfl) rfl ?_
                refine s_det (D.extract rfl rfl) rfl ?_
                refine s_det (D.extract rfl rfl) rfl ?_
                refine s_act rfl (A.alloc rfl rfl rfl fun b13 hb13 => ?_)
                refine s_do (A.store rfl rfl (AH.set_self ..) rfl rfl (by rfl) rfl rfl ?_)
                refine s_det (D.assign rfl) rfl ?_
                refine s_nil ?_
                rw [AH.set_set]
                refine afix (d := 13) rfl hb13 ?_
                refine aseq ?_
                refine areg rfl ?_
                refine s_det (D.load_i rfl rfl) rfl ?_
                refine s_det (D.call (evc rfl (evc rfl ev0)) b_mat_Power (mat_Power_k r 0 x h1 h8 hx (by decide))) rfl ?_
                refine s_det (D.move rfl) rfl ?_
                refine s_det (D.extract rfl rfl) rfl ?_
                refine s_det (D.extract rfl rfl) rfl ?_
                refine s_act rfl (A.alloc rfl rfl rfl fun b15 hb15 => ?_)
                refine s_do (A.store rfl rfl (AH.set_self ..) rfl rfl (by rfl) rfl rfl ?_)
                refine s_det (D.assign rfl) rfl ?_
                refine s_nil ?_
                rw [AH.set_set]
                refine afix (d := 15) rfl hb15 ?_
                refine aseq ?_
                refine areg rfl ?_
                refine s_det (D.move rfl) rfl ?_
                refine s_det (D.call (evc rfl ev0) b_graduslaw4_num (graduslaw4_num _)) rfl ?_
                refine s_det (D.neq rfl rfl (decide_eq_false (by omega))) rfl ?_
                refine s_det (D.move rfl) rfl ?_
                refine s_yes rfl rfl ?_
                refine s_det (D.move rfl) rfl ?_
                refine s_yes rfl rfl ?_
                refine s_det (D.call (evc rfl ev0) b_graduslaw4_num (graduslaw4_num _)) rfl ?_
                refine s_yes rfl rfl ?_
                refine s_det (D.neq rfl rfl (decide_eq_false (by omega))) rfl ?_
                refine s_det (D.pick rfl rfl rfl rfl) rfl ?_
                refine s_det (D.move rfl) rfl ?_
                refine s_yes rfl rfl ?_
                refine s_det (D.load_i rfl rfl) rfl ?_
                refine s_yes rfl rfl ?_
                refine s_det (D.load_i rfl rfl) rfl ?_
                refine s_yes rfl rfl ?_
                refine s_det (D.call (evc rfl (evc rfl ev0)) b_gradusref0_EqTensor (eqT_k (powT_ok h1 h8 _ _) h36 (pow_one hM hin))) rfl ?_
                refine s_yes rfl rfl ?_
                refine s_det (D.not rfl rfl) rfl ?_
                refine s_det (D.pick rfl rfl rfl rfl) rfl ?_
                refine s_det (D.move rfl) rfl ?_
                refine s_yes rfl rfl ?_
                refine s_det (D.load_i rfl rfl) rfl ?_
                refine s_yes rfl rfl ?_
                refine s_det (D.load_i rfl rfl) rfl ?_
                refine s_yes rfl rfl ?_
                refine s_det (D.call (evc rfl (evc rfl ev0)) b_gradusref0_EqTensor (eqT_k (powT_ok h1 h8 _ _) ((Mx.one r).ok h1 h8 h1 h8) (pow_zero ..))) rfl ?_
                refine s_yes rfl rfl ?_
                refine s_det (D.not rfl rfl) rfl ?_
                refine s_det (D.pick rfl rfl rfl rfl) rfl ?_
                refine s_nil ?_
                refine acond_f rfl ?_
                refine askip ?_
                refine areg rfl ?_
                refine s_det (D.move rfl) rfl ?_
                refine s_det (D.add rfl rfl (w64 (by omega) (by omega))) rfl ?_
                refine s_det (D.assign rfl) rfl ?_
                refine s_nil ?_
                exact ⟨i + 1, by omega, by omega, (.cons rfl (.cons rfl .nil)), rfl⟩
              · replace h104 := of_decide_eq_false h104
                refine d_nil ?_
                refine acond_f rfl ?_
                refine askip ?_
                refine areg rfl ?_
                refine s_det (D.move rfl) rfl ?_
                refine s_det (D.add rfl rfl (w64 (by omega) (by omega))) rfl ?_
                refine s_det (D.assign rfl) rfl ?_
                refine s_nil ?_
                exact ⟨i + 1, by omega, by omega, (.cons rfl (.cons rfl .nil)), rfl⟩
          · replace h36 := of_decide_eq_false h36
            refine s_det (D.not rfl rfl) rfl ?_
            refine s_det (D.move rfl) rfl ?_
            refine s_no rfl rfl rfl rfl ?_
            refine s_no rfl rfl rfl rfl ?_
            refine s_no rfl rfl rfl rfl ?_
            refine s_no rfl rfl rfl rfl ?_
            refine s_det (D.pick rfl rfl rfl rfl) rfl ?_
            refine s_nil ?_
            refine acond_t rfl ?_
            refine aexit ?_
            refine areg rfl ?_
            refine s_det (D.move rfl) rfl ?_
            refine s_det (D.add rfl rfl (w64 (by omega) (by omega))) rfl ?_
            refine s_det (D.assign rfl) rfl ?_
            refine s_nil ?_
            exact ⟨i + 1, by omega, by omega, (.cons rfl (.cons rfl .nil)), rfl⟩
        · replace h26 := of_decide_eq_false h26
          refine s_det (D.pick rfl rfl rfl rfl) rfl ?_
          refine s_nil ?_
          refine acond_f rfl ?_
          refine aexit ?_
          exact ⟨(), trivial, Sub.refl _, .nil⟩
      · replace h23 := of_decide_eq_false h23
        refine s_det (D.move rfl) rfl ?_
        refine s_no rfl rfl rfl rfl ?_
        refine s_no rfl rfl rfl rfl ?_
        refine s_det (D.pick rfl rfl rfl rfl) rfl ?_
        refine s_nil ?_
        refine acond_f rfl ?_
        refine aexit ?_
        exact ⟨(), trivial, Sub.refl _, .nil⟩
    · intro _ _
      refine aseq ?_
      refine areg rfl ?_
      refine s_det (D.call ev0 b_graduslaw4_wakes graduslaw4_wakes) rfl ?_
      refine s_det (D.assign rfl) rfl ?_
      refine s_nil ?_
      refine aret ?_
      exact ⟨[_], ⟨⟨rfl, rfl⟩, trivial⟩, rfl, rfl⟩

theorem GT.inT {t : Tn} (h : GT t) : Al.inT t := fun x hx => wfI (h.2.2 x hx)
theorem matOnes_pure (x : Ask2) (hx : G46 x) : Pure Try.prog 7 [enc46 x] (bv true) := graduslaw4_MatOnes x.1 x.2 hx.ok.1 hx.ok.2.1 hx.ok.2.2 fun t ht => (hx.1.2 t ht).inT

end Go.Proofs.Ytpjcidlkdfebhaa.F
