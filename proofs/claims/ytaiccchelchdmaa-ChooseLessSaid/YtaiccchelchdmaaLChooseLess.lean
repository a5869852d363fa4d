/- Functions of the program and of the references: what they compute, by the layer Al. Made by a program of this session (wip/al/alfill.py) out of wip/al/specs. -/
import Derived.Test.YtaiccchelchdmaaHe
import Derived.Test.YtaiccchelchdmaaBe
import Derived.Test.YtaiccchelchdmaaProg
namespace Go.Proofs.Ytaiccchelchdmaa.F
open Go Go.Proofs.Al
set_option linter.unusedVariables false
set_option linter.unusedSimpArgs false
set_option maxRecDepth 10000 in
theorem chooseLess_pure (x : AskC) (hx : G25 x) : Pure Try.prog 5 [enc25 x] (bv true) := by
  obtain ⟨hl, hc, hn⟩ := hx.ok
  obtain ⟨L, C, N⟩ := x
  dsimp only at hl hc hn
  intro σ
  refine acalls Try.func5 rfl rfl (by decide) rfl rfl ?_
  refine aseq ?_
  refine areg rfl ?_
  refine s_det (D.box_i rfl rfl) rfl ?_
  refine s_det (D.assign rfl) rfl ?_
  refine s_nil ?_
  refine aseq ?_
  refine aseq ?_
  refine areg rfl ?_
  refine s_det (D.load_i rfl rfl) rfl ?_
  refine s_cmp (D.call (evc rfl ev0) b_graduslaw15_Heavy (graduslaw15_Heavy (L, C, N) hl hc hn)) rfl (fun h22 => ?_) (fun h22 => ?_)
  · replace h22 := of_decide_eq_true h22
    refine s_det (D.move rfl) rfl ?_
    refine s_no rfl rfl rfl rfl ?_
    refine s_no rfl rfl rfl rfl ?_
    refine s_no rfl rfl rfl rfl ?_
    refine s_no rfl rfl rfl rfl ?_
    refine s_det (D.pick rfl rfl rfl rfl) rfl ?_
    refine s_nil ?_
    refine acond_t rfl ?_
    refine aseq ?_
    refine areg rfl ?_
    refine s_det (D.assign rfl) rfl ?_
    refine s_nil ?_
    refine aret ?_
    exact ⟨[_], ⟨⟨rfl, rfl⟩, trivial⟩, rfl, rfl⟩
  · replace h22 := of_decide_eq_false h22
    have hl8 : L.length ≤ 100 := by unfold hvC at h22; simp only at h22; omega
    refine s_det (D.move rfl) rfl ?_
    refine s_yes rfl rfl ?_
    refine s_det (D.field_i rfl rfl rfl) rfl ?_
    refine s_yes rfl rfl ?_
    refine s_det (D.load_i rfl rfl) rfl ?_
    refine s_yes rfl rfl ?_
    refine s_cmp (D.call (evc rfl ev0) b_gradusref14_Items (gradusref14_Items L (by omega))) rfl (fun h26 => ?_) (fun h26 => ?_)
    · replace h26 := of_decide_eq_true h26
      have hL := h26.2
      have hl12 := h26.1
      refine s_yes rfl rfl ?_
      refine s_det (D.not rfl rfl) rfl ?_
      refine s_det (D.pick rfl rfl rfl rfl) rfl ?_
      refine s_nil ?_
      refine acond_f rfl ?_
      refine askip ?_
      refine aseq ?_
      refine areg rfl ?_
      refine s_det (D.assign rfl) rfl ?_
      refine s_det (D.assign rfl) rfl ?_
      refine s_nil ?_
      refine aseq ?_
      refine aseq ?_
      refine areg rfl ?_
      refine s_det (D.assign rfl) rfl ?_
      refine s_nil ?_
      refine ablock ?_
      -- LOOP writes [3, 4, 5] keeps [1]
      refine aloop (ι := Nat) (fun i => i ≤ L.length) (fun i => L.length - i) (fun i => [(1, .iptr (enc25 (L, C, N))), (3, iv (szL (L.take i))), (4, iv (agL (L.take i))), (5, iv i)]) (fun i => σ) 0 (by omega) ?_ rfl fun i hi => ?_
      · exact (.cons rfl (.cons rfl (.cons rfl (.cons rfl .nil))))
      refine aseq ?_
      refine aseq ?_
      refine areg rfl ?_
      refine s_det (D.move rfl) rfl ?_
      refine s_det (D.field_i rfl rfl rfl) rfl ?_
      refine s_det (D.load_i rfl rfl) rfl ?_
      refine s_det (D.len_m rfl rfl) rfl ?_
      refine s_cmp (D.lss rfl rfl rfl) rfl (fun h33 => ?_) (fun h33 => ?_)
      · replace h33 := of_decide_eq_true h33
        have hlt : i < L.length := by have h : (i : Int) < (L.length : Int) := h33; omega
        have hz := szL_ok (L := L.take i) fun x hx => hL x (List.mem_of_mem_take hx)
        have hg := agL_ok (L := L.take i) fun x hx => hL x (List.mem_of_mem_take hx)
        rw [List.length_take, Nat.min_eq_left hi] at hz hg
        obtain ⟨hx1, hx2, hx3⟩ := hL _ (List.getElem_mem hlt)
        have e1 : szL (L.take (i + 1)) = szL (L.take i) + L[i].s := foldl_take hlt _ _
        have e2 : agL (L.take (i + 1)) = agL (L.take i) + L[i].a := foldl_take hlt _ _
        refine s_nil ?_
        refine acond_t rfl ?_
        refine askip ?_
        refine aseq ?_
        refine ablock ?_
        refine adraw [.det 0, .det 1, .det 2, .det 3, .det 4, .det 5, .det 6, .det 7, .det 8, .det 9, .det 10, .det 11, .det 12, .det 13, .det 14, .det 15, .det 16, .det 17] rfl (by kernel_rfl) ?_
        refine d_det rfl (D.move rfl) rfl ?_
        refine d_det rfl (D.field_i rfl rfl rfl) rfl ?_
        refine d_det rfl (D.load_i rfl rfl) rfl ?_
        refine d_det rfl (D.move rfl) rfl ?_
        refine d_det rfl (D.idx_m rfl rfl (by omega) (get_lt (i := i) hlt) rfl) rfl ?_
        refine d_det rfl (D.field_i rfl rfl rfl) rfl ?_
        refine d_det rfl (D.load_i rfl rfl) rfl ?_
        refine d_det rfl (D.add rfl rfl (w64 (by omega) (by omega))) rfl ?_
        refine d_det rfl (D.move rfl) rfl ?_
        refine d_det rfl (D.field_i rfl rfl rfl) rfl ?_
        refine d_det rfl (D.load_i rfl rfl) rfl ?_
        refine d_det rfl (D.move rfl) rfl ?_
        refine d_det rfl (D.idx_m rfl rfl (by omega) (get_lt (i := i) hlt) rfl) rfl ?_
        refine d_det rfl (D.field_i rfl rfl rfl) rfl ?_
        refine d_det rfl (D.load_i rfl rfl) rfl ?_
        refine d_det rfl (D.add rfl rfl (w64 (by omega) (by omega))) rfl ?_
        refine d_det rfl (D.assign rfl) rfl ?_
        refine d_det rfl (D.assign rfl) rfl ?_
        refine d_nil ?_
        refine areg rfl ?_
        refine s_det (D.move rfl) rfl ?_
        refine s_det (D.add rfl rfl (w64 (by omega) (by omega))) rfl ?_
        refine s_det (D.assign rfl) rfl ?_
        refine s_nil ?_
        exact ⟨i + 1, by omega, by omega, .cons rfl (.cons (by rw [e1]; rfl) (.cons (by rw [e2]; rfl) (.cons rfl .nil))), rfl⟩
      · replace h33 := of_decide_eq_false h33
        have hil : i = L.length := by have h : ¬ (i : Int) < (L.length : Int) := h33; omega
        subst hil
        rw [List.take_length]
        have hz := szL_ok hL
        refine s_nil ?_
        refine acond_f rfl ?_
        refine aexit ?_
        refine aseq ?_
        refine areg rfl ?_
        refine s_det (D.move rfl) rfl ?_
        refine s_det (D.assign rfl) rfl ?_
        refine s_nil ?_
        refine aseq ?_
        refine aseq ?_
        refine areg rfl ?_
        refine s_det (D.assign rfl) rfl ?_
        refine s_nil ?_
        refine ablock ?_
        -- LOOP writes [6, 7] keeps [1, 3]
        refine aloop (ι := Nat) (fun k => k ≤ 8) (fun k => 8 - k) (fun k => [(1, .iptr (enc25 (L, C, N))), (3, iv (szL L)), (6, iv (lastV L k)), (7, iv k)]) (fun k => σ) 0 (by omega) ?_ rfl fun k hk => ?_
        · exact (.cons rfl (.cons rfl (.cons rfl (.cons rfl .nil))))
        refine aseq ?_
        refine aseq ?_
        refine areg rfl ?_
        refine s_det (D.move rfl) rfl ?_
        refine s_cmp (D.lss rfl rfl rfl) rfl (fun h54 => ?_) (fun h54 => ?_)
        · replace h54 := of_decide_eq_true h54
          have hr := roomV_ok hL (k := k) (by omega)
          have hm1 : 0 ≤ szL L * (k : Int) := Int.mul_nonneg hz.1 (by omega)
          have hm2 : szL L * (k : Int) ≤ szL L * 7 := Int.mul_le_mul_of_nonneg_left (by omega) hz.1
          have hk0 : askC L (roomV L k) 0 := ⟨h26, ⟨by omega, by omega⟩, by omega, by omega⟩
          have hk1 : askC L (roomV L k) (szL L / 2) := ⟨h26, ⟨by omega, by omega⟩, by omega, by omega⟩
          obtain ⟨c, hcc, hb, hfit, _⟩ := opt2 (room := roomV L k) (host := szL L / 2) hL hr.1 (by omega)
          have hle1 := last_le hL (k := k) (by omega)
          have hle2 := best_mono (room := roomV L k) (host := 0) (room' := roomV L k) (host' := szL L / 2) hL hr.1 (Int.le_refl _) (Int.le_refl _) (by omega)
          rw [hb] at hle2
          dsimp only at hle2
          refine s_nil ?_
          refine acond_t rfl ?_
          refine askip ?_
          refine aseq ?_
          refine ablock ?_
          refine aseq ?_
          refine areg rfl ?_
          refine s_det (D.move rfl) rfl ?_
          refine s_det (D.move rfl) rfl ?_
          refine s_det (D.mul rfl rfl (w64 (by omega) (by omega))) rfl ?_
          refine s_det (D.quo rfl rfl (by omega) (r := roomV L k) (tdivw (by omega) (by omega) (by omega))) rfl ?_
          refine s_det (D.assign rfl) rfl ?_
          refine s_nil ?_
          refine aseq ?_
          refine areg rfl ?_
          refine s_det (D.field_i rfl rfl rfl) rfl ?_
          refine s_det (D.load_i rfl rfl) rfl ?_
          refine s_det (D.move rfl) rfl ?_
          refine s_det (D.call (evc rfl (evc rfl (evc rfl ev0))) b_choose_Least (Pure.to (y' := .tup [iv (bestS L (roomV L k) 0).2, iv 0]) (choose_Least L (roomV L k) 0 (by omega)) (by rw [leastR_k hk0]))) rfl ?_
          refine s_det (D.move rfl) rfl ?_
          refine s_det (D.extract rfl rfl) rfl ?_
          refine s_det (D.extract rfl rfl) rfl ?_
          refine s_det (D.assign rfl) rfl ?_
          refine s_det (D.assign rfl) rfl ?_
          refine s_nil ?_
          refine aseq ?_
          refine areg rfl ?_
          refine s_det (D.field_i rfl rfl rfl) rfl ?_
          refine s_det (D.load_i rfl rfl) rfl ?_
          refine s_det (D.move rfl) rfl ?_
          refine s_det (D.move rfl) rfl ?_
          refine s_det (D.quo rfl rfl (by omega) (r := szL L / 2) (tdivw (by omega) (by omega) (by omega))) rfl ?_
          refine s_det (D.call (evc rfl (evc rfl (evc rfl ev0))) b_choose_Least (Pure.to (y' := .tup [iv (sum0 L c).c, iv 0]) (choose_Least L (roomV L k) (szL L / 2) (by omega)) (by rw [leastR_k hk1, hb]))) rfl ?_
          refine s_det (D.move rfl) rfl ?_
          refine s_det (D.extract rfl rfl) rfl ?_
          refine s_det (D.extract rfl rfl) rfl ?_
          refine s_det (D.assign rfl) rfl ?_
          refine s_det (D.assign rfl) rfl ?_
          refine s_nil ?_
          refine aseq ?_
          refine areg rfl ?_
          refine s_det (D.field_i rfl rfl rfl) rfl ?_
          refine s_det (D.load_i rfl rfl) rfl ?_
          refine s_det (D.move rfl) rfl ?_
          refine s_det (D.move rfl) rfl ?_
          refine s_det (D.quo rfl rfl (by omega) (r := szL L / 2) (tdivw (by omega) (by omega) (by omega))) rfl ?_
          refine s_det (D.call (evc rfl (evc rfl (evc rfl ev0))) b_choose_Best (Pure.to (y' := .tup [ints c, iv 0]) (choose_Best L (roomV L k) (szL L / 2) (by omega)) (by rw [bestR_k hk1 hb]))) rfl ?_
          refine s_det (D.move rfl) rfl ?_
          refine s_det (D.extract rfl rfl) rfl ?_
          refine s_det (D.extract rfl rfl) rfl ?_
          refine s_det (D.assign rfl) rfl ?_
          refine s_det (D.assign rfl) rfl ?_
          refine s_nil ?_
          refine aseq ?_
          refine areg rfl ?_
          refine s_det (D.field_i rfl rfl rfl) rfl ?_
          refine s_det (D.load_i rfl rfl) rfl ?_
          refine s_det (D.move rfl) rfl ?_
          refine s_det (D.move rfl) rfl ?_
          refine s_det (D.move rfl) rfl ?_
          refine s_det (D.quo rfl rfl (by omega) (r := szL L / 2) (tdivw (by omega) (by omega) (by omega))) rfl ?_
          refine s_det (D.call (evc rfl (evc rfl (evc rfl (evc rfl ev0)))) b_choose_Fits (Pure.to (y' := .tup [bv true, iv 0]) (choose_Fits L c (roomV L k) (szL L / 2) (by omega) (by rw [hcc.1]; omega)) (by rw [fitS_k hk1 hcc, decide_eq_true hfit]))) rfl ?_
          refine s_det (D.move rfl) rfl ?_
          refine s_det (D.extract rfl rfl) rfl ?_
          refine s_det (D.extract rfl rfl) rfl ?_
          refine s_det (D.assign rfl) rfl ?_
          refine s_det (D.assign rfl) rfl ?_
          refine s_nil ?_
          refine aseq ?_
          refine areg rfl ?_
          refine s_det (D.field_i rfl rfl rfl) rfl ?_
          refine s_det (D.load_i rfl rfl) rfl ?_
          refine s_det (D.move rfl) rfl ?_
          refine s_det (D.call (evc rfl (evc rfl ev0)) b_choose_Cost (Pure.to (y' := .tup [iv (sum0 L c).c, iv (sum0 L c).k, iv (sum0 L c).m, iv 0]) (choose_Cost L c (by omega) (by rw [hcc.1]; omega)) (by rw [costS_k h26 hcc]))) rfl ?_
          refine s_det (D.move rfl) rfl ?_
          refine s_det (D.extract rfl rfl) rfl ?_
          refine s_det (D.extract rfl rfl) rfl ?_
          refine s_det (D.extract rfl rfl) rfl ?_
          refine s_det (D.extract rfl rfl) rfl ?_
          refine s_det (D.assign rfl) rfl ?_
          refine s_det (D.assign rfl) rfl ?_
          refine s_det (D.assign rfl) rfl ?_
          refine s_det (D.assign rfl) rfl ?_
          refine s_nil ?_
          refine aseq ?_
          refine aseq ?_
          refine areg rfl ?_
          refine s_det (D.move rfl) rfl ?_
          refine s_det (D.call (evc rfl ev0) b_graduslaw15_num (graduslaw15_num _)) rfl ?_
          refine s_det (D.neq rfl rfl (decide_eq_false (by omega))) rfl ?_
          refine s_det (D.move rfl) rfl ?_
          refine s_yes rfl rfl ?_
          refine s_det (D.move rfl) rfl ?_
          refine s_yes rfl rfl ?_
          refine s_det (D.call (evc rfl ev0) b_graduslaw15_num (graduslaw15_num _)) rfl ?_
          refine s_yes rfl rfl ?_
          refine s_det (D.neq rfl rfl (decide_eq_false (by omega))) rfl ?_
          refine s_det (D.pick rfl rfl rfl rfl) rfl ?_
          refine s_det (D.move rfl) rfl ?_
          refine s_yes rfl rfl ?_
          refine s_det (D.move rfl) rfl ?_
          refine s_yes rfl rfl ?_
          refine s_det (D.call (evc rfl ev0) b_graduslaw15_num (graduslaw15_num _)) rfl ?_
          refine s_yes rfl rfl ?_
          refine s_det (D.neq rfl rfl (decide_eq_false (by omega))) rfl ?_
          refine s_det (D.pick rfl rfl rfl rfl) rfl ?_
          refine s_det (D.move rfl) rfl ?_
          refine s_yes rfl rfl ?_
          refine s_det (D.move rfl) rfl ?_
          refine s_yes rfl rfl ?_
          refine s_det (D.call (evc rfl ev0) b_graduslaw15_num (graduslaw15_num _)) rfl ?_
          refine s_yes rfl rfl ?_
          refine s_det (D.neq rfl rfl (decide_eq_false (by omega))) rfl ?_
          refine s_det (D.pick rfl rfl rfl rfl) rfl ?_
          refine s_det (D.move rfl) rfl ?_
          refine s_yes rfl rfl ?_
          refine s_det (D.move rfl) rfl ?_
          refine s_yes rfl rfl ?_
          refine s_det (D.call (evc rfl ev0) b_graduslaw15_num (graduslaw15_num _)) rfl ?_
          refine s_yes rfl rfl ?_
          refine s_det (D.neq rfl rfl (decide_eq_false (by omega))) rfl ?_
          refine s_det (D.pick rfl rfl rfl rfl) rfl ?_
          refine s_det (D.move rfl) rfl ?_
          refine s_yes rfl rfl ?_
          refine s_det (D.move rfl) rfl ?_
          refine s_yes rfl rfl ?_
          refine s_det (D.move rfl) rfl ?_
          refine s_yes rfl rfl ?_
          refine s_det (D.gtr rfl rfl (decide_eq_false (by omega))) rfl ?_
          refine s_det (D.pick rfl rfl rfl rfl) rfl ?_
          refine s_det (D.move rfl) rfl ?_
          refine s_yes rfl rfl ?_
          refine s_det (D.move rfl) rfl ?_
          refine s_yes rfl rfl ?_
          refine s_det (D.move rfl) rfl ?_
          refine s_yes rfl rfl ?_
          refine s_det (D.gtr rfl rfl (decide_eq_false (by omega))) rfl ?_
          refine s_det (D.pick rfl rfl rfl rfl) rfl ?_
          refine s_det (D.move rfl) rfl ?_
          refine s_yes rfl rfl ?_
          refine s_det (D.move rfl) rfl ?_
          refine s_yes rfl rfl ?_
          refine s_det (D.not rfl rfl) rfl ?_
          refine s_det (D.pick rfl rfl rfl rfl) rfl ?_
          refine s_det (D.move rfl) rfl ?_
          refine s_yes rfl rfl ?_
          refine s_det (D.move rfl) rfl ?_
          refine s_yes rfl rfl ?_
          refine s_det (D.move rfl) rfl ?_
          refine s_yes rfl rfl ?_
          refine s_det (D.neq rfl rfl (decide_eq_false (by omega))) rfl ?_
          refine s_det (D.pick rfl rfl rfl rfl) rfl ?_
          refine s_nil ?_
          refine acond_f rfl ?_
          refine askip ?_
          refine areg rfl ?_
          refine s_det (D.move rfl) rfl ?_
          refine s_det (D.assign rfl) rfl ?_
          refine s_nil ?_
          refine areg rfl ?_
          refine s_det (D.move rfl) rfl ?_
          refine s_det (D.add rfl rfl (w64 (by omega) (by omega))) rfl ?_
          refine s_det (D.assign rfl) rfl ?_
          refine s_nil ?_
          exact ⟨k + 1, by omega, by omega, (.cons rfl (.cons rfl (.cons rfl (.cons rfl .nil)))), rfl⟩
        · replace h54 := of_decide_eq_false h54
          have hk8 : k = 8 := by omega
          subst hk8
          have hend := last_end hL
          refine s_nil ?_
          refine acond_f rfl ?_
          refine aexit ?_
          refine aseq ?_
          refine areg rfl ?_
          refine s_det (D.move rfl) rfl ?_
          refine s_det (D.eql rfl rfl (decide_eq_true (by omega))) rfl ?_
          refine s_det (D.move rfl) rfl ?_
          refine s_yes rfl rfl ?_
          refine s_det (D.call (evc rfl (evc rfl ev0)) b_graduslaw0_Within (graduslaw0_Within 3 2 (by decide) (by decide) (by decide))) rfl ?_
          refine s_yes rfl rfl ?_
          refine s_det (D.eql rfl rfl (decide_eq_true (by decide))) rfl ?_
          refine s_det (D.pick rfl rfl rfl rfl) rfl ?_
          refine s_det (D.move rfl) rfl ?_
          refine s_yes rfl rfl ?_
          refine s_det (D.call ev0 b_graduslaw15_wakes graduslaw15_wakes) rfl ?_
          refine s_det (D.pick rfl rfl rfl rfl) rfl ?_
          refine s_det (D.assign rfl) rfl ?_
          refine s_nil ?_
          refine aret ?_
          exact ⟨[_], ⟨⟨rfl, rfl⟩, trivial⟩, rfl, rfl⟩
    · replace h26 := of_decide_eq_false h26
      refine s_yes rfl rfl ?_
      refine s_det (D.not rfl rfl) rfl ?_
      refine s_det (D.pick rfl rfl rfl rfl) rfl ?_
      refine s_nil ?_
      refine acond_t rfl ?_
      refine aseq ?_
      refine areg rfl ?_
      refine s_det (D.assign rfl) rfl ?_
      refine s_nil ?_
      refine aret ?_
      exact ⟨[_], ⟨⟨rfl, rfl⟩, trivial⟩, rfl, rfl⟩

end Go.Proofs.Ytaiccchelchdmaa.F
