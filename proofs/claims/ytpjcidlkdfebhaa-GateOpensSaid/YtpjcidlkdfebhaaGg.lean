/- Functions of the program and of the references: what they compute, by the layer Al. Made by a program of this session (wip/al/alfill.py) out of wip/al/specs. -/
import Derived.Test.YtpjcidlkdfebhaaGf
import Derived.Test.YtpjcidlkdfebhaaProg
namespace Go.Proofs.Ytpjcidlkdfebhaa.F
open Go Go.Proofs.Al
set_option linter.unusedVariables false
set_option linter.unusedSimpArgs false
set_option maxRecDepth 10000 in
theorem turn_Wide_s (a : Tn) (d : List Int) (σ : AH) : ACalls Try.prog 64 [tv a, ints d] σ (OwnTEs (wideS a d).1 (wideS a d).2 σ) := by
  skip
  refine acalls Try.func64 rfl rfl (by decide) rfl rfl ?_
  refine aseq ?_
  refine areg rfl ?_
  refine s_det (D.box_i rfl rfl) rfl ?_
  refine s_act rfl (A.alloc rfl rfl rfl fun b4 hb4 => ?_)
  refine s_det (D.assign rfl) rfl ?_
  refine s_nil ?_
  refine aseq ?_
  refine ablock ?_
  refine aseq ?_
  refine areg rfl ?_
  refine s_det (D.load_i rfl rfl) rfl ?_
  refine s_cmp (D.call (evc rfl ev0) b_shape_Is (shape_Is a)) rfl (fun h10 => ?_) (fun h10 => ?_)
  · replace h10 := of_decide_eq_true h10
    refine s_det (D.not rfl rfl) rfl ?_
    refine s_det (D.move rfl) rfl ?_
    refine s_yes rfl rfl ?_
    refine s_det (D.move rfl) rfl ?_
    refine s_yes rfl rfl ?_
    refine s_cmp (D.call (evc rfl ev0) b_shape_May (shape_May d)) rfl (fun h14 => ?_) (fun h14 => ?_)
    · replace h14 := of_decide_eq_true h14
      refine s_yes rfl rfl ?_
      refine s_det (D.not rfl rfl) rfl ?_
      refine s_det (D.pick rfl rfl rfl rfl) rfl ?_
      refine s_det (D.assign rfl) rfl ?_
      refine s_nil ?_
      refine acond_f rfl ?_
      refine aseq ?_
      refine areg rfl ?_
      refine s_det (D.field_i rfl rfl rfl) rfl ?_
      refine s_det (D.load_i rfl rfl) rfl ?_
      refine s_det (D.move rfl) rfl ?_
      refine s_cmp (D.call (evc rfl (evc rfl ev0)) b_shape_Grows (shape_Grows a.d d (by have := h10.1.2.1; omega) (by have := h14.2.1; omega))) rfl (fun h22 => ?_) (fun h22 => ?_)
      · replace h22 := of_decide_eq_true h22
        rw [wideS, wayS_k ⟨h10, h14⟩ h22]
        have hA : (wideT a d).x.length = (zerosT d).x.length := by simp [wideT, zerosT, tab_len]
        obtain ⟨N, hN, hN1⟩ := prod_nat h14.2.2.1
        have hN2 : (zerosT d).x.length = N := by simp [zerosT, hN]
        have h64 := h14.2.2.2
        have hal := h10.2
        refine s_det (D.not rfl rfl) rfl ?_
        refine s_det (D.assign rfl) rfl ?_
        refine s_nil ?_
        refine acond_f rfl ?_
        refine askip ?_
        refine aseq ?_
        refine areg rfl ?_
        refine s_det (D.move rfl) rfl ?_
        refine s_act rfl (A.call (evc rfl ev0) b_shape_New (shape_New_own d h14 _) fun y σ' hy => ?_)
        obtain ⟨b26, c26, hb26, hc26, hn26, rfl, rfl⟩ := hy
        refine s_act rfl (A.alloc rfl rfl rfl fun b6 hb6 => ?_)
        refine s_do (A.store rfl rfl (AH.set_self ..) rfl rfl (by rfl) rfl rfl ?_)
        refine s_nil ?_
        rw [AH.set_set]
        refine afix (d := 6) rfl hb6 ?_
        refine aseq ?_
        refine aseq ?_
        refine areg rfl ?_
        refine s_det (D.field_i rfl rfl rfl) rfl ?_
        refine s_det (D.load_i rfl rfl) rfl ?_
        refine s_det (D.len_r rfl rfl) rfl ?_
        refine s_det (D.move rfl) rfl ?_
        refine s_nil ?_
        refine ablock ?_
        -- LOOP writes [30] keeps [1, 2, 4, 6, 29]
        refine aloop (ι := Nat) (fun i => i ≤ N) (fun i => N - i) (fun i => [(1, ints d), (2, .iptr (tv a)), (4, .ptr b4 0 [] 0), (6, .iptr (.agg [.ref b26 1 0 d.length, .ref c26 1 0 (zerosT d).x.length])), (29, iv (zerosT d).x.length), (30, iv i)]) (fun i => (σ.set b4 (.row 2 [nilT])).ten b26 c26 d ((wideT a d).x.take i ++ List.replicate ((zerosT d).x.length - i) 0)) 0 (by omega) ?_ (congrArg (AH.ten _ b26 c26 _) (by simp [zerosT])) fun i hi => ?_
        · exact (.cons rfl (.cons rfl (.cons rfl (.cons rfl (.cons rfl (.cons rfl .nil))))))
        refine aseq ?_
        refine areg rfl ?_
        refine s_cmp (D.lss rfl rfl rfl) rfl (fun h31 => ?_) (fun h31 => ?_)
        · replace h31 := of_decide_eq_true h31
          have hlt : i < N := by omega
          have hr : 0 ≤ lowN a.d d (i : Int) ∧ lowN a.d d (i : Int) < prod a.d := low_range h10.1.2.2.1 h14.2.2.1 h22 (n := (i : Int)) (by omega) (by omega)
          have hx : (lowN a.d d (i : Int)).toNat < a.x.length := by omega
          refine s_nil ?_
          refine aseq ?_
          refine acond_t rfl ?_
          refine askip ?_
          refine aseq ?_
          refine ablock ?_
          refine aseq ?_
          refine areg rfl ?_
          refine s_det (D.move rfl) rfl ?_
          refine s_det (D.assign rfl) rfl ?_
          refine s_nil ?_
          refine adraw [.det 0, .det 1, .det 2, .det 3, .det 4, .det 5, .det 6, .det 7, .det 8, .det 9, .det 10, .det 11, .det 12, .act 13] rfl (by kernel_rfl) ?_
          refine d_det rfl (D.field_i rfl rfl rfl) rfl ?_
          refine d_det rfl (D.load_i rfl rfl) rfl ?_
          refine d_det rfl (D.move rfl) rfl ?_
          refine d_det rfl (D.field_i rfl rfl rfl) rfl ?_
          refine d_det rfl (D.load_i rfl rfl) rfl ?_
          refine d_det rfl (D.field_i rfl rfl rfl) rfl ?_
          refine d_det rfl (D.load_i rfl rfl) rfl ?_
          refine d_det rfl (D.move rfl) rfl ?_
          refine d_det rfl (D.move rfl) rfl ?_
          refine d_det rfl (D.call (evc rfl (evc rfl (evc rfl ev0))) b_turn_low (turn_low a.d d (i : Int) h10.1 h14 h22 (by omega) (by omega))) rfl ?_
          refine d_det rfl (D.idx_m rfl rfl hr.1 (get_lt hx) rfl) rfl ?_
          refine d_det rfl (D.load_i rfl rfl) rfl ?_
          refine d_det rfl (D.idx_r rfl rfl (by omega) rfl) rfl ?_
          refine d_do rfl (by kernel_rfl) (A.store_t rfl rfl (by rw [fill_len hA (by omega)]; omega) rfl ?_)
          refine d_nil ?_
          refine areg rfl ?_
          refine s_det (D.add rfl rfl (w64 (by omega) (by omega))) rfl ?_
          refine s_det (D.move rfl) rfl ?_
          refine s_nil ?_
          exact ⟨i + 1, by omega, by omega, (.cons rfl (.cons rfl (.cons rfl (.cons rfl (.cons rfl (.cons rfl .nil)))))), congrArg (AH.ten _ b26 c26 _) (fill_set hA (by omega) (by simp only [wideT, tab_getE]; exact rd_toNat hx))⟩
        · replace h31 := of_decide_eq_false h31
          refine s_nil ?_
          refine aseq ?_
          refine acond_f rfl ?_
          refine aexit ?_
          refine aseq ?_
          refine areg rfl ?_
          refine s_det (D.load_i rfl rfl) rfl ?_
          refine s_do (A.store rfl rfl (ten_cell hb26 hc26) rfl rfl (by rfl) rfl rfl ?_)
          refine s_det (D.assign rfl) rfl ?_
          refine s_nil ?_
          refine aret ?_
          exact ⟨[_, _], ⟨⟨.inr ⟨_, _, _, _, _, _, _, rfl, AH.set_self .., rfl, rfl⟩, rfl⟩, ⟨rfl, rfl⟩, trivial⟩, .inr ⟨_, rfl, ten_done rfl (fill_all hA (by omega)) rfl hA.symm hb4 hb26 hc26 hn26⟩⟩
      · replace h22 := of_decide_eq_false h22
        refine s_det (D.not rfl rfl) rfl ?_
        refine s_det (D.assign rfl) rfl ?_
        refine s_nil ?_
        refine acond_t rfl ?_
        refine aseq ?_
        refine areg rfl ?_
        refine s_det (D.build rfl rfl rfl) rfl ?_
        refine s_do (A.store rfl rfl (AH.set_self ..) rfl rfl (by rfl) rfl rfl ?_)
        refine s_det (D.assign rfl) rfl ?_
        refine s_nil ?_
        refine aret ?_
        exact ⟨[_, _], ⟨⟨.inr ⟨_, _, _, _, _, _, _, rfl, AH.set_self .., rfl, rfl⟩, rfl⟩, ⟨rfl, rfl⟩, trivial⟩, by rw [wideS, wayS_e ⟨h10, h14⟩ h22]; exact .inl ⟨rfl, rfl, (by repeat (first | exact Sub.refl _ | refine Sub.set ?_ (by first | assumption | exact (AH.set_none (by assumption)).1 | exact (AH.set_none (AH.set_none (by assumption)).1).1 | exact (AH.set_none (AH.set_none (AH.set_none (by assumption)).1).1).1) _))⟩⟩
    · replace h14 := of_decide_eq_false h14
      refine s_yes rfl rfl ?_
      refine s_det (D.not rfl rfl) rfl ?_
      refine s_det (D.pick rfl rfl rfl rfl) rfl ?_
      refine s_det (D.assign rfl) rfl ?_
      refine s_nil ?_
      refine acond_t rfl ?_
      refine aseq ?_
      refine areg rfl ?_
      refine s_det (D.build rfl rfl rfl) rfl ?_
      refine s_do (A.store rfl rfl (AH.set_self ..) rfl rfl (by rfl) rfl rfl ?_)
      refine s_det (D.assign rfl) rfl ?_
      refine s_nil ?_
      refine aret ?_
      exact ⟨[_, _], ⟨⟨.inr ⟨_, _, _, _, _, _, _, rfl, AH.set_self .., rfl, rfl⟩, rfl⟩, ⟨rfl, rfl⟩, trivial⟩, by rw [wideS, wayS_f (fun h => h14 h.2)]; exact .inl ⟨rfl, rfl, (by repeat (first | exact Sub.refl _ | refine Sub.set ?_ (by first | assumption | exact (AH.set_none (by assumption)).1 | exact (AH.set_none (AH.set_none (by assumption)).1).1 | exact (AH.set_none (AH.set_none (AH.set_none (by assumption)).1).1).1) _))⟩⟩
  · replace h10 := of_decide_eq_false h10
    refine s_det (D.not rfl rfl) rfl ?_
    refine s_det (D.move rfl) rfl ?_
    refine s_no rfl rfl rfl rfl ?_
    refine s_no rfl rfl rfl rfl ?_
    refine s_no rfl rfl rfl rfl ?_
    refine s_det (D.pick rfl rfl rfl rfl) rfl ?_
    refine s_det (D.assign rfl) rfl ?_
    refine s_nil ?_
    refine acond_t rfl ?_
    refine aseq ?_
    refine areg rfl ?_
    refine s_det (D.build rfl rfl rfl) rfl ?_
    refine s_do (A.store rfl rfl (AH.set_self ..) rfl rfl (by rfl) rfl rfl ?_)
    refine s_det (D.assign rfl) rfl ?_
    refine s_nil ?_
    refine aret ?_
    exact ⟨[_, _], ⟨⟨.inr ⟨_, _, _, _, _, _, _, rfl, AH.set_self .., rfl, rfl⟩, rfl⟩, ⟨rfl, rfl⟩, trivial⟩, by rw [wideS, wayS_f (fun h => h10 h.1)]; exact .inl ⟨rfl, rfl, (by repeat (first | exact Sub.refl _ | refine Sub.set ?_ (by first | assumption | exact (AH.set_none (by assumption)).1 | exact (AH.set_none (AH.set_none (by assumption)).1).1 | exact (AH.set_none (AH.set_none (AH.set_none (by assumption)).1).1).1) _))⟩⟩

set_option maxRecDepth 10000 in
theorem turn_Sum_s (a : Tn) (d : List Int) (σ : AH) : ACalls Try.prog 66 [tv a, ints d] σ (OwnTEs (sumS a d).1 (sumS a d).2 σ) := by
  skip
  refine acalls Try.func66 rfl rfl (by decide) rfl rfl ?_
  refine aseq ?_
  refine areg rfl ?_
  refine s_det (D.box_i rfl rfl) rfl ?_
  refine s_act rfl (A.alloc rfl rfl rfl fun b4 hb4 => ?_)
  refine s_det (D.assign rfl) rfl ?_
  refine s_nil ?_
  refine aseq ?_
  refine ablock ?_
  refine aseq ?_
  refine areg rfl ?_
  refine s_det (D.load_i rfl rfl) rfl ?_
  refine s_cmp (D.call (evc rfl ev0) b_shape_Is (shape_Is a)) rfl (fun h11 => ?_) (fun h11 => ?_)
  · replace h11 := of_decide_eq_true h11
    refine s_det (D.not rfl rfl) rfl ?_
    refine s_det (D.move rfl) rfl ?_
    refine s_yes rfl rfl ?_
    refine s_det (D.move rfl) rfl ?_
    refine s_yes rfl rfl ?_
    refine s_cmp (D.call (evc rfl ev0) b_shape_May (shape_May d)) rfl (fun h15 => ?_) (fun h15 => ?_)
    · replace h15 := of_decide_eq_true h15
      refine s_yes rfl rfl ?_
      refine s_det (D.not rfl rfl) rfl ?_
      refine s_det (D.pick rfl rfl rfl rfl) rfl ?_
      refine s_det (D.assign rfl) rfl ?_
      refine s_nil ?_
      refine acond_f rfl ?_
      refine aseq ?_
      refine areg rfl ?_
      refine s_det (D.move rfl) rfl ?_
      refine s_det (D.field_i rfl rfl rfl) rfl ?_
      refine s_det (D.load_i rfl rfl) rfl ?_
      refine s_cmp (D.call (evc rfl (evc rfl ev0)) b_shape_Grows (shape_Grows d a.d (by have := h15.2.1; omega) (by have := h11.1.2.1; omega))) rfl (fun h23 => ?_) (fun h23 => ?_)
      · replace h23 := of_decide_eq_true h23
        rw [sumS, wayS_k ⟨h11, h15⟩ h23]
        obtain ⟨N, hN, hN1⟩ := prod_nat h15.2.2.1
        have hN2 : (zerosT d).x.length = N := by simp [zerosT, hN]
        have h64 := h11.1.2.2.2
        have hal := h11.2
        refine s_det (D.not rfl rfl) rfl ?_
        refine s_det (D.assign rfl) rfl ?_
        refine s_nil ?_
        refine acond_f rfl ?_
        refine askip ?_
        refine aseq ?_
        refine areg rfl ?_
        refine s_det (D.move rfl) rfl ?_
        refine s_act rfl (A.call (evc rfl ev0) b_shape_New (shape_New_own d h15 _) fun y σ' hy => ?_)
        obtain ⟨b27, c27, hb27, hc27, hn27, rfl, rfl⟩ := hy
        refine s_act rfl (A.alloc rfl rfl rfl fun b6 hb6 => ?_)
        refine s_do (A.store rfl rfl (AH.set_self ..) rfl rfl (by rfl) rfl rfl ?_)
        refine s_nil ?_
        rw [AH.set_set]
        refine afix (d := 6) rfl hb6 ?_
        refine aseq ?_
        refine aseq ?_
        refine areg rfl ?_
        refine s_det (D.field_i rfl rfl rfl) rfl ?_
        refine s_det (D.load_i rfl rfl) rfl ?_
        refine s_det (D.len_m rfl rfl) rfl ?_
        refine s_det (D.move rfl) rfl ?_
        refine s_nil ?_
        refine ablock ?_
        -- LOOP writes [31] keeps [1, 2, 4, 6, 29, 30]
        refine aloop (ι := Nat × List Int) (fun s => s.1 ≤ a.x.length ∧ s.2.length = N ∧ sumG d a.d (a.x.drop s.1) s.1 s.2 = (sumT a d).x) (fun s => a.x.length - s.1) (fun s => [(1, ints d), (2, .iptr (tv a)), (4, .ptr b4 0 [] 0), (6, .iptr (.agg [.ref b27 1 0 d.length, .ref c27 1 0 (zerosT d).x.length])), (29, ints a.x), (30, iv a.x.length), (31, iv s.1)]) (fun s => (σ.set b4 (.row 2 [nilT])).ten b27 c27 d s.2) (0, (zerosT d).x) ⟨by simp, hN2, rfl⟩ ?_ rfl fun s hs => ?_
        · exact (.cons rfl (.cons rfl (.cons rfl (.cons rfl (.cons rfl (.cons rfl (.cons rfl .nil)))))))
        obtain ⟨i, acc⟩ := s
        obtain ⟨hi, hacc, hs⟩ := hs
        dsimp only at hi hacc hs
        refine aseq ?_
        refine areg rfl ?_
        refine s_cmp (D.lss rfl rfl rfl) rfl (fun h32 => ?_) (fun h32 => ?_)
        · replace h32 := of_decide_eq_true h32
          have hlt : i < a.x.length := by dsimp only at h32; omega
          have hr : 0 ≤ lowN d a.d (i : Int) ∧ lowN d a.d (i : Int) < prod d := low_range h15.2.2.1 h11.1.2.2.1 h23 (n := (i : Int)) (by omega) (by omega)
          have hx : (lowN d a.d (i : Int)).toNat < acc.length := by omega
          rw [sumG_step hlt] at hs
          refine s_nil ?_
          refine aseq ?_
          refine acond_t rfl ?_
          refine askip ?_
          refine aseq ?_
          refine ablock ?_
          refine aseq ?_
          refine areg rfl ?_
          refine s_det (D.move rfl) rfl ?_
          refine s_det (D.idx_m rfl rfl (by omega) (get_lt (i := i) hlt) rfl) rfl ?_
          refine s_det (D.load_i rfl rfl) rfl ?_
          refine s_det (D.assign rfl) rfl ?_
          refine s_det (D.assign rfl) rfl ?_
          refine s_nil ?_
          refine adraw [.det 0, .det 1, .det 2, .det 3, .det 4, .det 5, .det 6, .det 7, .det 8, .det 9, .det 10, .det 11, .act 12] rfl (by kernel_rfl) ?_
          refine d_det rfl (D.field_i rfl rfl rfl) rfl ?_
          refine d_det rfl (D.load_i rfl rfl) rfl ?_
          refine d_det rfl (D.move rfl) rfl ?_
          refine d_det rfl (D.field_i rfl rfl rfl) rfl ?_
          refine d_det rfl (D.load_i rfl rfl) rfl ?_
          refine d_det rfl (D.move rfl) rfl ?_
          refine d_det rfl (D.call (evc rfl (evc rfl (evc rfl ev0))) b_turn_low (turn_low d a.d (i : Int) h15 h11.1 h23 (by omega) (by omega))) rfl ?_
          refine d_det rfl (D.idx_ri rfl rfl hr.1 (by omega) rfl) rfl ?_
          refine d_own ten_x rfl (D.load_x rfl (get_lt hx) rfl) rfl ?_
          refine d_det rfl (D.move rfl) rfl ?_
          refine d_det rfl (D.add rfl rfl rfl) rfl ?_
          refine d_det rfl (D.idx_ri rfl rfl hr.1 (by omega) rfl) rfl ?_
          refine d_do rfl (by kernel_rfl) (A.store_t rfl rfl hx rfl ?_)
          refine d_nil ?_
          refine areg rfl ?_
          refine s_det (D.add rfl rfl (w64 (by omega) (by omega))) rfl ?_
          refine s_det (D.move rfl) rfl ?_
          refine s_nil ?_
          exact ⟨(i + 1, acc.set (lowN d a.d (i : Int)).toNat (IntKind.i64.wrap (acc[(lowN d a.d (i : Int)).toNat] + a.x[i]))), ⟨hlt, by dsimp only; rw [List.length_set]; exact hacc, by dsimp only; rw [← hs, ← rd_toNat hx]⟩, by dsimp only; omega, (.cons rfl (.cons rfl (.cons rfl (.cons rfl (.cons rfl (.cons rfl (.cons rfl .nil))))))), rfl⟩
        · replace h32 := of_decide_eq_false h32
          rw [List.drop_of_length_le (by dsimp only at h32; omega), sumG] at hs
          have hl : (sumT a d).x.length = N := by rw [← hs]; exact hacc
          refine s_nil ?_
          refine aseq ?_
          refine acond_f rfl ?_
          refine aexit ?_
          refine aseq ?_
          refine areg rfl ?_
          refine s_det (D.load_i rfl rfl) rfl ?_
          refine s_do (A.store rfl rfl (ten_cell hb27 hc27) rfl rfl (by rfl) rfl rfl ?_)
          refine s_det (D.assign rfl) rfl ?_
          refine s_nil ?_
          refine aret ?_
          exact ⟨[_, _], ⟨⟨.inr ⟨_, _, _, _, _, _, _, rfl, AH.set_self .., rfl, rfl⟩, rfl⟩, ⟨rfl, rfl⟩, trivial⟩, .inr ⟨_, rfl, ten_done rfl hs rfl (by rw [hl, hN2]) hb4 hb27 hc27 hn27⟩⟩
      · replace h23 := of_decide_eq_false h23
        refine s_det (D.not rfl rfl) rfl ?_
        refine s_det (D.assign rfl) rfl ?_
        refine s_nil ?_
        refine acond_t rfl ?_
        refine aseq ?_
        refine areg rfl ?_
        refine s_det (D.build rfl rfl rfl) rfl ?_
        refine s_do (A.store rfl rfl (AH.set_self ..) rfl rfl (by rfl) rfl rfl ?_)
        refine s_det (D.assign rfl) rfl ?_
        refine s_nil ?_
        refine aret ?_
        exact ⟨[_, _], ⟨⟨.inr ⟨_, _, _, _, _, _, _, rfl, AH.set_self .., rfl, rfl⟩, rfl⟩, ⟨rfl, rfl⟩, trivial⟩, by rw [sumS, wayS_e ⟨h11, h15⟩ h23]; exact .inl ⟨rfl, rfl, (by repeat (first | exact Sub.refl _ | refine Sub.set ?_ (by first | assumption | exact (AH.set_none (by assumption)).1 | exact (AH.set_none (AH.set_none (by assumption)).1).1 | exact (AH.set_none (AH.set_none (AH.set_none (by assumption)).1).1).1) _))⟩⟩
    · replace h15 := of_decide_eq_false h15
      refine s_yes rfl rfl ?_
      refine s_det (D.not rfl rfl) rfl ?_
      refine s_det (D.pick rfl rfl rfl rfl) rfl ?_
      refine s_det (D.assign rfl) rfl ?_
      refine s_nil ?_
      refine acond_t rfl ?_
      refine aseq ?_
      refine areg rfl ?_
      refine s_det (D.build rfl rfl rfl) rfl ?_
      refine s_do (A.store rfl rfl (AH.set_self ..) rfl rfl (by rfl) rfl rfl ?_)
      refine s_det (D.assign rfl) rfl ?_
      refine s_nil ?_
      refine aret ?_
      exact ⟨[_, _], ⟨⟨.inr ⟨_, _, _, _, _, _, _, rfl, AH.set_self .., rfl, rfl⟩, rfl⟩, ⟨rfl, rfl⟩, trivial⟩, by rw [sumS, wayS_f (fun h => h15 h.2)]; exact .inl ⟨rfl, rfl, (by repeat (first | exact Sub.refl _ | refine Sub.set ?_ (by first | assumption | exact (AH.set_none (by assumption)).1 | exact (AH.set_none (AH.set_none (by assumption)).1).1 | exact (AH.set_none (AH.set_none (AH.set_none (by assumption)).1).1).1) _))⟩⟩
  · replace h11 := of_decide_eq_false h11
    refine s_det (D.not rfl rfl) rfl ?_
    refine s_det (D.move rfl) rfl ?_
    refine s_no rfl rfl rfl rfl ?_
    refine s_no rfl rfl rfl rfl ?_
    refine s_no rfl rfl rfl rfl ?_
    refine s_det (D.pick rfl rfl rfl rfl) rfl ?_
    refine s_det (D.assign rfl) rfl ?_
    refine s_nil ?_
    refine acond_t rfl ?_
    refine aseq ?_
    refine areg rfl ?_
    refine s_det (D.build rfl rfl rfl) rfl ?_
    refine s_do (A.store rfl rfl (AH.set_self ..) rfl rfl (by rfl) rfl rfl ?_)
    refine s_det (D.assign rfl) rfl ?_
    refine s_nil ?_
    refine aret ?_
    exact ⟨[_, _], ⟨⟨.inr ⟨_, _, _, _, _, _, _, rfl, AH.set_self .., rfl, rfl⟩, rfl⟩, ⟨rfl, rfl⟩, trivial⟩, by rw [sumS, wayS_f (fun h => h11 h.1)]; exact .inl ⟨rfl, rfl, (by repeat (first | exact Sub.refl _ | refine Sub.set ?_ (by first | assumption | exact (AH.set_none (by assumption)).1 | exact (AH.set_none (AH.set_none (by assumption)).1).1 | exact (AH.set_none (AH.set_none (AH.set_none (by assumption)).1).1).1) _))⟩⟩

theorem turn_Wide_own (a : Tn) (d : List Int) (σ : AH) : ACalls Try.prog 64 [tv a, ints d] σ (OwnTE (wideS a d).1 (wideS a d).2 σ) := (turn_Wide_s a d σ).ownTE
theorem turn_Wide (a : Tn) (d : List Int) : Pure Try.prog 64 [tv a, ints d] (.tup [tv (wideS a d).1, iv (wideS a d).2]) := pure_of_ownTE fun σ => turn_Wide_own a d σ
theorem turn_Sum_own (a : Tn) (d : List Int) (σ : AH) : ACalls Try.prog 66 [tv a, ints d] σ (OwnTE (sumS a d).1 (sumS a d).2 σ) := (turn_Sum_s a d σ).ownTE
theorem turn_Sum (a : Tn) (d : List Int) : Pure Try.prog 66 [tv a, ints d] (.tup [tv (sumS a d).1, iv (sumS a d).2]) := pure_of_ownTE fun σ => turn_Sum_own a d σ

end Go.Proofs.Ytpjcidlkdfebhaa.F
