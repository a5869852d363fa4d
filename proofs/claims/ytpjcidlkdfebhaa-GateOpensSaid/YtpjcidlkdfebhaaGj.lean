/- Functions of the program and of the references: what they compute, by the layer Al. Made by a program of this session (wip/al/alfill.py) out of wip/al/specs. -/
import Derived.Test.YtpjcidlkdfebhaaGi
import Derived.Test.YtpjcidlkdfebhaaProg
namespace Go.Proofs.Ytpjcidlkdfebhaa.F
open Go Go.Proofs.Al
set_option linter.unusedVariables false
set_option linter.unusedSimpArgs false
set_option maxRecDepth 10000 in
theorem gate_Max_s (a : Tn) (n : Int) (σ : AH) : ACalls Try.prog 68 [tv a, iv n] σ (OwnTEs (maxS a n).1 (maxS a n).2 σ) := by
  skip
  refine acalls Try.func68 rfl rfl (by decide) rfl rfl ?_
  refine aseq ?_
  refine areg rfl ?_
  refine s_det (D.box_i rfl rfl) rfl ?_
  refine s_act rfl (A.alloc rfl rfl rfl fun b4 hb4 => ?_)
  refine s_det (D.assign rfl) rfl ?_
  refine s_nil ?_
  refine aseq ?_
  refine areg rfl ?_
  refine s_det (D.load_i rfl rfl) rfl ?_
  refine s_det (D.move rfl) rfl ?_
  refine s_det (D.call (evc rfl (evc rfl ev0)) b_gate_asked (gate_asked a n)) rfl ?_
  refine s_det (D.move rfl) rfl ?_
  refine s_det (D.extract rfl rfl) rfl ?_
  refine s_det (D.extract rfl rfl) rfl ?_
  refine s_det (D.assign rfl) rfl ?_
  refine s_det (D.assign rfl) rfl ?_
  refine s_nil ?_
  refine aseq ?_
  refine aseq ?_
  refine areg rfl ?_
  refine s_det (D.move rfl) rfl ?_
  refine s_cmp (D.neq rfl rfl rfl) rfl (fun h17 => ?_) (fun h17 => ?_)
  · replace h17 := of_decide_eq_true h17
    refine s_nil ?_
    refine acond_t rfl ?_
    refine aseq ?_
    refine areg rfl ?_
    refine s_det (D.build rfl rfl rfl) rfl ?_
    refine s_det (D.move rfl) rfl ?_
    refine s_do (A.store rfl rfl (AH.set_self ..) rfl rfl (by rfl) rfl rfl ?_)
    refine s_det (D.assign rfl) rfl ?_
    refine s_nil ?_
    refine aret ?_
    exact ⟨[_, _], ⟨⟨.inr ⟨_, _, _, _, _, _, _, rfl, AH.set_self .., rfl, rfl⟩, rfl⟩, ⟨rfl, rfl⟩, trivial⟩, by rw [maxS_nil h17]; exact .inl ⟨rfl, rfl, (by repeat (first | exact Sub.refl _ | refine Sub.set ?_ (by first | assumption | exact (AH.set_none (by assumption)).1 | exact (AH.set_none (AH.set_none (by assumption)).1).1 | exact (AH.set_none (AH.set_none (AH.set_none (by assumption)).1).1).1 | exact (AH.set_none (AH.set_none (AH.set_none (AH.set_none (by assumption)).1).1).1).1 | exact (AH.set_none (AH.set_none (AH.set_none (AH.set_none (AH.set_none (by assumption)).1).1).1).1).1 | exact (AH.set_none (AH.set_none (AH.set_none (AH.set_none (AH.set_none (AH.set_none (by assumption)).1).1).1).1).1).1) _))⟩⟩
  · replace h17 := of_decide_eq_false h17
    obtain ⟨hP, hz⟩ := askS_zero (Decidable.byContradiction h17)
    obtain ⟨ha, hn1, hn8⟩ := hP
    obtain ⟨n, rfl⟩ : ∃ k : Nat, n = (k : Int) := ⟨n.toNat, by omega⟩
    have hk : askS a (n : Int) = (lessD a.d n, 0) := askS_k ⟨ha, hn1, hn8⟩ hz
    rw [maxS, wayS_k ⟨ha, hn1, hn8⟩ hz, show ((n : Int)).toNat = n from rfl, hk]
    have h1 : 1 ≤ n := by omega
    have h8 : n ≤ 8 := by omega
    obtain ⟨hl, hp⟩ := lessD_ok ha.1 (n := (n : Int)) (by omega) hz
    obtain ⟨q, hq, hq1⟩ := prod_nat hl.2.2.1
    have hA : (maxT a n).x.length = (zerosT (lessD a.d n)).x.length := by simp [maxT, maxG, zerosT]
    have hN2 : (zerosT (lessD a.d n)).x.length = q := by simp [zerosT, hq]
    have h64 := ha.1.2.2.2
    have hal : a.x.length = q * n := by have := ha.2; rw [← hp, hq, ← Int.natCast_mul] at this; omega
    have h64' : q * n ≤ 64 := by have := ha.2; omega
    have hq64 : q ≤ 64 := Nat.le_trans (Nat.le_mul_of_pos_right q (by omega)) h64'
    refine s_nil ?_
    refine acond_f rfl ?_
    refine askip ?_
    refine aseq ?_
    refine areg rfl ?_
    refine s_det (D.move rfl) rfl ?_
    refine s_act rfl (A.call (evc rfl ev0) b_shape_New (shape_New_own (lessD a.d n) hl _) fun y σ' hy => ?_)
    obtain ⟨b21, c21, hb21, hc21, hn21, rfl, rfl⟩ := hy
    refine s_act rfl (A.alloc rfl rfl rfl fun b8 hb8 => ?_)
    refine s_do (A.store rfl rfl (AH.set_self ..) rfl rfl (by rfl) rfl rfl ?_)
    refine s_nil ?_
    rw [AH.set_set]
    refine afix (d := 8) rfl hb8 ?_
    refine aseq ?_
    refine aseq ?_
    refine areg rfl ?_
    refine s_det (D.field_i rfl rfl rfl) rfl ?_
    refine s_det (D.load_i rfl rfl) rfl ?_
    refine s_det (D.len_r rfl rfl) rfl ?_
    refine s_det (D.move rfl) rfl ?_
    refine s_nil ?_
    refine ablock ?_
    -- LOOP writes [25] keeps [1, 2, 4, 8, 24]
    refine aloop (ι := Nat) (fun i => i ≤ q) (fun i => q - i) (fun i => [(1, iv n), (2, .iptr (tv a)), (4, .ptr b4 0 [] 0), (8, .iptr (.agg [.ref b21 1 0 (lessD a.d n).length, .ref c21 1 0 (zerosT (lessD a.d n)).x.length])), (24, iv (zerosT (lessD a.d n)).x.length), (25, iv i)]) (fun i => (σ.set b4 (.row 2 [nilT])).ten b21 c21 (lessD a.d n) ((maxT a n).x.take i ++ List.replicate ((zerosT (lessD a.d n)).x.length - i) 0)) 0 (by omega) ?_ (congrArg (AH.ten _ b21 c21 _) (by simp [zerosT])) fun i hi => ?_
    · exact (.cons rfl (.cons rfl (.cons rfl (.cons rfl (.cons rfl (.cons rfl .nil))))))
    refine aseq ?_
    refine areg rfl ?_
    refine s_cmp (D.lss rfl rfl rfl) rfl (fun h26 => ?_) (fun h26 => ?_)
    · replace h26 := of_decide_eq_true h26
      have hlt : i < q := by omega
      have hin : i * n + n ≤ q * n := by have := Nat.mul_le_mul_right n hlt; rw [Nat.succ_mul] at this; exact this
      have hbl := blk_length hal hlt
      refine s_nil ?_
      refine aseq ?_
      refine acond_t rfl ?_
      refine askip ?_
      refine aseq ?_
      refine ablock ?_
      refine aseq ?_
      refine areg rfl ?_
      refine s_det (D.move rfl) rfl ?_
      refine s_det (D.assign rfl) rfl ?_
      refine s_nil ?_
      refine adraw [.det 0, .det 1, .det 2, .det 3, .det 4, .det 5, .det 6, .det 7, .det 8, .det 9, .det 10, .det 11, .det 12, .det 13, .det 14, .det 15, .act 16] rfl (by kernel_rfl) ?_
      refine d_det rfl (D.field_i rfl rfl rfl) rfl ?_
      refine d_det rfl (D.load_i rfl rfl) rfl ?_
      refine d_det rfl (D.move rfl) rfl ?_
      refine d_det rfl (D.field_i rfl rfl rfl) rfl ?_
      refine d_det rfl (D.load_i rfl rfl) rfl ?_
      refine d_det rfl (D.move rfl) rfl ?_
      refine d_det rfl (D.move rfl) rfl ?_
      refine d_det rfl (D.mul rfl rfl (mulN (a := i) (b := n) (by omega))) rfl ?_
      refine d_det rfl (D.move rfl) rfl ?_
      refine d_det rfl (D.move rfl) rfl ?_
      refine d_det rfl (D.mul rfl rfl (mulN (a := i) (b := n) (by omega))) rfl ?_
      refine d_det rfl (D.move rfl) rfl ?_
      refine d_det rfl (D.add rfl rfl (addN (a := i * n) (b := n) (by omega))) rfl ?_
      refine d_det rfl (D.cut_blk (n := n) (i := i) rfl rfl rfl (by omega) rfl) rfl ?_
      refine d_det rfl (D.call (evc rfl ev0) b_slices_Max (slices_Max (blk a.x n i) (by omega) (by omega))) rfl ?_
      refine d_det rfl (D.idx_r rfl rfl (by omega) rfl) rfl ?_
      refine d_do rfl (by kernel_rfl) (A.store_t rfl rfl (by rw [fill_len hA (by omega)]; omega) rfl ?_)
      refine d_nil ?_
      refine areg rfl ?_
      refine s_det (D.add rfl rfl (w64 (by omega) (by omega))) rfl ?_
      refine s_det (D.move rfl) rfl ?_
      refine s_nil ?_
      exact ⟨i + 1, by omega, by omega, (.cons rfl (.cons rfl (.cons rfl (.cons rfl (.cons rfl (.cons rfl .nil)))))), congrArg (AH.ten _ b21 c21 _) (fill_set hA (by omega) (by simp [maxT, maxG]))⟩
    · replace h26 := of_decide_eq_false h26
      refine s_nil ?_
      refine aseq ?_
      refine acond_f rfl ?_
      refine aexit ?_
      refine aseq ?_
      refine areg rfl ?_
      refine s_det (D.load_i rfl rfl) rfl ?_
      refine s_do (A.store rfl rfl (ten_cell hb21 hc21) rfl rfl (by rfl) rfl rfl ?_)
      refine s_det (D.assign rfl) rfl ?_
      refine s_nil ?_
      refine aret ?_
      exact ⟨[_, _], ⟨⟨.inr ⟨_, _, _, _, _, _, _, rfl, AH.set_self .., rfl, rfl⟩, rfl⟩, ⟨rfl, rfl⟩, trivial⟩, .inr ⟨_, rfl, ten_done rfl (fill_all hA (by omega)) rfl hA.symm hb4 hb21 hc21 hn21⟩⟩

theorem gate_Max_own (a : Tn) (n : Int) (σ : AH) : ACalls Try.prog 68 [tv a, iv n] σ (OwnTE (maxS a n).1 (maxS a n).2 σ) := (gate_Max_s a n σ).ownTE
theorem gate_Max (a : Tn) (n : Int) : Pure Try.prog 68 [tv a, iv n] (.tup [tv (maxS a n).1, iv (maxS a n).2]) := pure_of_ownTE fun σ => gate_Max_own a n σ

set_option maxRecDepth 10000 in
theorem gate_Pick_s (a b : Tn) (n : Int) (σ : AH) : ACalls Try.prog 69 [tv a, tv b, iv n] σ (OwnTEs (pickS a b n).1 (pickS a b n).2 σ) := by
  skip
  refine acalls Try.func69 rfl rfl (by decide) rfl rfl ?_
  refine aseq ?_
  refine areg rfl ?_
  refine s_det (D.box_i rfl rfl) rfl ?_
  refine s_det (D.box_i rfl rfl) rfl ?_
  refine s_act rfl (A.alloc rfl rfl rfl fun b6 hb6 => ?_)
  refine s_det (D.assign rfl) rfl ?_
  refine s_nil ?_
  refine aseq ?_
  refine aseq ?_
  refine areg rfl ?_
  refine s_det (D.load_i rfl rfl) rfl ?_
  refine s_cmp (D.call (evc rfl ev0) b_shape_Is (shape_Is b)) rfl (fun h14 => ?_) (fun h14 => ?_)
  · replace h14 := of_decide_eq_true h14
    refine s_det (D.not rfl rfl) rfl ?_
    refine s_nil ?_
    refine acond_f rfl ?_
    refine askip ?_
    refine aseq ?_
    refine areg rfl ?_
    refine s_det (D.load_i rfl rfl) rfl ?_
    refine s_det (D.move rfl) rfl ?_
    refine s_det (D.call (evc rfl (evc rfl ev0)) b_gate_asked (gate_asked a n)) rfl ?_
    refine s_det (D.move rfl) rfl ?_
    refine s_det (D.extract rfl rfl) rfl ?_
    refine s_det (D.extract rfl rfl) rfl ?_
    refine s_det (D.assign rfl) rfl ?_
    refine s_det (D.assign rfl) rfl ?_
    refine s_nil ?_
    refine aseq ?_
    refine ablock ?_
    refine aseq ?_
    refine areg rfl ?_
    refine s_det (D.move rfl) rfl ?_
    refine s_cmp (D.neq rfl rfl rfl) rfl (fun h25 => ?_) (fun h25 => ?_)
    · replace h25 := of_decide_eq_true h25
      refine s_det (D.assign rfl) rfl ?_
      refine s_nil ?_
      refine acond_t rfl ?_
      refine aseq ?_
      refine areg rfl ?_
      refine s_det (D.build rfl rfl rfl) rfl ?_
      refine s_det (D.move rfl) rfl ?_
      refine s_do (A.store rfl rfl (AH.set_self ..) rfl rfl (by rfl) rfl rfl ?_)
      refine s_det (D.assign rfl) rfl ?_
      refine s_nil ?_
      refine aret ?_
      exact ⟨[_, _], ⟨⟨.inr ⟨_, _, _, _, _, _, _, rfl, AH.set_self .., rfl, rfl⟩, rfl⟩, ⟨rfl, rfl⟩, trivial⟩, by rw [pickS_err h14 h25]; exact .inl ⟨rfl, rfl, (by repeat (first | exact Sub.refl _ | refine Sub.set ?_ (by first | assumption | exact (AH.set_none (by assumption)).1 | exact (AH.set_none (AH.set_none (by assumption)).1).1 | exact (AH.set_none (AH.set_none (AH.set_none (by assumption)).1).1).1 | exact (AH.set_none (AH.set_none (AH.set_none (AH.set_none (by assumption)).1).1).1).1 | exact (AH.set_none (AH.set_none (AH.set_none (AH.set_none (AH.set_none (by assumption)).1).1).1).1).1 | exact (AH.set_none (AH.set_none (AH.set_none (AH.set_none (AH.set_none (AH.set_none (by assumption)).1).1).1).1).1).1) _))⟩⟩
    · replace h25 := of_decide_eq_false h25
      obtain ⟨hP, hz⟩ := askS_zero (Decidable.byContradiction h25)
      have hk : askS a n = (lessD a.d n, 0) := askS_k hP hz
      rw [hk]
      refine s_det (D.assign rfl) rfl ?_
      refine s_nil ?_
      refine acond_f rfl ?_
      refine aseq ?_
      refine areg rfl ?_
      refine s_det (D.move rfl) rfl ?_
      refine s_det (D.field_i rfl rfl rfl) rfl ?_
      refine s_det (D.load_i rfl rfl) rfl ?_
      refine s_cmp (D.call (evc rfl (evc rfl ev0)) b_slices_Equal (slices_Equal (lessD a.d n) b.d (by have := hP.1.1.2.1; rw [lessD, List.length_set]; omega) (by have := h14.1.2.1; omega))) rfl (fun h32 => ?_) (fun h32 => ?_)
      · replace h32 := of_decide_eq_true h32
        rw [pickS, wayS_k ⟨h14, hP⟩ ⟨hz, h32⟩]
        obtain ⟨ha, hn1, hn8⟩ := hP
        obtain ⟨n, rfl⟩ : ∃ k : Nat, n = (k : Int) := ⟨n.toNat, by omega⟩
        rw [show ((n : Int)).toNat = n from rfl]
        have h1 : 1 ≤ n := by omega
        have h8 : n ≤ 8 := by omega
        obtain ⟨hl0, hp⟩ := lessD_ok ha.1 (n := (n : Int)) (by omega) hz
        have hl : a.x.length = b.x.length * n := by
          have e1 := ha.2
          have e2 := h14.2
          rw [← h32] at e2
          rw [← hp, ← e2, ← Int.natCast_mul] at e1
          exact Int.ofNat_inj.1 e1
        have hN2 : (zerosT a.d).x.length = a.x.length := by have := ha.2; simp [zerosT]; omega
        have h64 := ha.1.2.2.2
        have hal := ha.2
        have hb2 := h14.len.2.1
        refine s_det (D.not rfl rfl) rfl ?_
        refine s_det (D.assign rfl) rfl ?_
        refine s_nil ?_
        refine acond_f rfl ?_
        refine askip ?_
        refine aseq ?_
        refine areg rfl ?_
        refine s_det (D.field_i rfl rfl rfl) rfl ?_
        refine s_det (D.load_i rfl rfl) rfl ?_
        refine s_act rfl (A.call (evc rfl ev0) b_shape_New (shape_New_own a.d ha.1 _) fun y σ' hy => ?_)
        obtain ⟨b37, c37, hb37, hc37, hn37, rfl, rfl⟩ := hy
        refine s_act rfl (A.alloc rfl rfl rfl fun b10 hb10 => ?_)
        refine s_do (A.store rfl rfl (AH.set_self ..) rfl rfl (by rfl) rfl rfl ?_)
        refine s_nil ?_
        rw [AH.set_set]
        refine afix (d := 10) rfl hb10 ?_
        refine aseq ?_
        refine aseq ?_
        refine areg rfl ?_
        refine s_det (D.field_i rfl rfl rfl) rfl ?_
        refine s_det (D.load_i rfl rfl) rfl ?_
        refine s_det (D.len_m rfl rfl) rfl ?_
        refine s_det (D.move rfl) rfl ?_
        refine s_nil ?_
        refine ablock ?_
        -- LOOP writes [41] keeps [2, 3, 6, 10, 39, 40]
        refine aloop (ι := Nat × List Int) (fun s => s.1 ≤ b.x.length ∧ s.2.length = a.x.length ∧ pickG a.x n (b.x.drop s.1) s.1 s.2 = (pickT a b n).x) (fun s => b.x.length - s.1) (fun s => [(2, iv n), (3, .iptr (tv a)), (6, .ptr b6 0 [] 0), (10, .iptr (.agg [.ref b37 1 0 a.d.length, .ref c37 1 0 (zerosT a.d).x.length])), (39, ints b.x), (40, iv b.x.length), (41, iv s.1)]) (fun s => (σ.set b6 (.row 2 [nilT])).ten b37 c37 a.d s.2) (0, (zerosT a.d).x) ⟨by simp, hN2, rfl⟩ ?_ rfl fun s hs => ?_
        · exact (.cons rfl (.cons rfl (.cons rfl (.cons rfl (.cons rfl (.cons rfl (.cons rfl .nil)))))))
        obtain ⟨i, acc⟩ := s
        obtain ⟨hi, hacc, hs⟩ := hs
        dsimp only at hi hacc hs
        refine aseq ?_
        refine areg rfl ?_
        refine s_cmp (D.lss rfl rfl rfl) rfl (fun h42 => ?_) (fun h42 => ?_)
        · replace h42 := of_decide_eq_true h42
          have hlt : i < b.x.length := by dsimp only at h42; omega
          have hin : i * n + n ≤ b.x.length * n := by have := Nat.mul_le_mul_right n hlt; rw [Nat.succ_mul] at this; exact this
          have hbl := blk_length hl hlt
          have hbb := best_lt (l := blk a.x n i) (by omega)
          rw [pickG_step hlt] at hs
          refine s_nil ?_
          refine aseq ?_
          refine acond_t rfl ?_
          refine askip ?_
          refine aseq ?_
          refine ablock ?_
          refine aseq ?_
          refine areg rfl ?_
          refine s_det (D.move rfl) rfl ?_
          refine s_det (D.idx_m rfl rfl (by omega) (get_lt (i := i) hlt) rfl) rfl ?_
          refine s_det (D.load_i rfl rfl) rfl ?_
          refine s_det (D.assign rfl) rfl ?_
          refine s_det (D.assign rfl) rfl ?_
          refine s_nil ?_
          refine adraw [.det 0, .det 1, .det 2, .det 3, .det 4, .det 5, .det 6, .det 7, .det 8, .det 9, .det 10, .det 11, .det 12, .det 13, .det 14, .det 15, .det 16, .det 17, .det 18, .det 19, .act 20] rfl (by kernel_rfl) ?_
          refine d_det rfl (D.field_i rfl rfl rfl) rfl ?_
          refine d_det rfl (D.load_i rfl rfl) rfl ?_
          refine d_det rfl (D.move rfl) rfl ?_
          refine d_det rfl (D.move rfl) rfl ?_
          refine d_det rfl (D.mul rfl rfl (mulN (a := i) (b := n) (by omega))) rfl ?_
          refine d_det rfl (D.field_i rfl rfl rfl) rfl ?_
          refine d_det rfl (D.load_i rfl rfl) rfl ?_
          refine d_det rfl (D.move rfl) rfl ?_
          refine d_det rfl (D.move rfl) rfl ?_
          refine d_det rfl (D.mul rfl rfl (mulN (a := i) (b := n) (by omega))) rfl ?_
          refine d_det rfl (D.move rfl) rfl ?_
          refine d_det rfl (D.move rfl) rfl ?_
          refine d_det rfl (D.mul rfl rfl (mulN (a := i) (b := n) (by omega))) rfl ?_
          refine d_det rfl (D.move rfl) rfl ?_
          refine d_det rfl (D.add rfl rfl (addN (a := i * n) (b := n) (by omega))) rfl ?_
          refine d_det rfl (D.cut_blk (n := n) (i := i) rfl rfl rfl (by omega) rfl) rfl ?_
          refine d_det rfl (D.call (evc rfl ev0) b_gate_greatest (gate_greatest (blk a.x n i) (by omega) (by omega))) rfl ?_
          refine d_det rfl (D.add rfl rfl (addN (a := i * n) (b := best (blk a.x n i)) (by omega))) rfl ?_
          refine d_det rfl (D.move rfl) rfl ?_
          refine d_det rfl (D.idx_r rfl rfl (j := i * n + best (blk a.x n i)) (by rw [hN2]; omega) rfl) rfl ?_
          refine d_do rfl (by kernel_rfl) (A.store_t rfl rfl (by rw [hacc]; omega) rfl ?_)
          refine d_nil ?_
          refine areg rfl ?_
          refine s_det (D.add rfl rfl (w64 (by omega) (by omega))) rfl ?_
          refine s_det (D.move rfl) rfl ?_
          refine s_nil ?_
          exact ⟨(i + 1, acc.set (i * n + best (blk a.x n i)) b.x[i]), ⟨hlt, by dsimp only; rw [List.length_set]; exact hacc, hs⟩, by dsimp only; omega, (.cons rfl (.cons rfl (.cons rfl (.cons rfl (.cons rfl (.cons rfl (.cons rfl .nil))))))), rfl⟩
        · replace h42 := of_decide_eq_false h42
          rw [List.drop_of_length_le (by dsimp only at h42; omega), pickG] at hs
          have hl2 : (pickT a b n).x.length = a.x.length := by rw [← hs]; exact hacc
          refine s_nil ?_
          refine aseq ?_
          refine acond_f rfl ?_
          refine aexit ?_
          refine aseq ?_
          refine areg rfl ?_
          refine s_det (D.load_i rfl rfl) rfl ?_
          refine s_do (A.store rfl rfl (ten_cell hb37 hc37) rfl rfl (by rfl) rfl rfl ?_)
          refine s_det (D.assign rfl) rfl ?_
          refine s_nil ?_
          refine aret ?_
          exact ⟨[_, _], ⟨⟨.inr ⟨_, _, _, _, _, _, _, rfl, AH.set_self .., rfl, rfl⟩, rfl⟩, ⟨rfl, rfl⟩, trivial⟩, .inr ⟨_, rfl, ten_done rfl hs rfl (by rw [hl2, hN2]) hb6 hb37 hc37 hn37⟩⟩
      · replace h32 := of_decide_eq_false h32
        refine s_det (D.not rfl rfl) rfl ?_
        refine s_det (D.assign rfl) rfl ?_
        refine s_nil ?_
        refine acond_t rfl ?_
        refine aseq ?_
        refine areg rfl ?_
        refine s_det (D.build rfl rfl rfl) rfl ?_
        refine s_do (A.store rfl rfl (AH.set_self ..) rfl rfl (by rfl) rfl rfl ?_)
        refine s_det (D.assign rfl) rfl ?_
        refine s_nil ?_
        refine aret ?_
        exact ⟨[_, _], ⟨⟨.inr ⟨_, _, _, _, _, _, _, rfl, AH.set_self .., rfl, rfl⟩, rfl⟩, ⟨rfl, rfl⟩, trivial⟩, by rw [pickS, wayS_e ⟨h14, hP⟩ (fun h => h32 h.2)]; exact .inl ⟨rfl, rfl, (by repeat (first | exact Sub.refl _ | refine Sub.set ?_ (by first | assumption | exact (AH.set_none (by assumption)).1 | exact (AH.set_none (AH.set_none (by assumption)).1).1 | exact (AH.set_none (AH.set_none (AH.set_none (by assumption)).1).1).1 | exact (AH.set_none (AH.set_none (AH.set_none (AH.set_none (by assumption)).1).1).1).1 | exact (AH.set_none (AH.set_none (AH.set_none (AH.set_none (AH.set_none (by assumption)).1).1).1).1).1 | exact (AH.set_none (AH.set_none (AH.set_none (AH.set_none (AH.set_none (AH.set_none (by assumption)).1).1).1).1).1).1) _))⟩⟩
  · replace h14 := of_decide_eq_false h14
    refine s_det (D.not rfl rfl) rfl ?_
    refine s_nil ?_
    refine acond_t rfl ?_
    refine aseq ?_
    refine areg rfl ?_
    refine s_det (D.build rfl rfl rfl) rfl ?_
    refine s_do (A.store rfl rfl (AH.set_self ..) rfl rfl (by rfl) rfl rfl ?_)
    refine s_det (D.assign rfl) rfl ?_
    refine s_nil ?_
    refine aret ?_
    exact ⟨[_, _], ⟨⟨.inr ⟨_, _, _, _, _, _, _, rfl, AH.set_self .., rfl, rfl⟩, rfl⟩, ⟨rfl, rfl⟩, trivial⟩, by rw [pickS, wayS_f (fun h => h14 h.1)]; exact .inl ⟨rfl, rfl, (by repeat (first | exact Sub.refl _ | refine Sub.set ?_ (by first | assumption | exact (AH.set_none (by assumption)).1 | exact (AH.set_none (AH.set_none (by assumption)).1).1 | exact (AH.set_none (AH.set_none (AH.set_none (by assumption)).1).1).1 | exact (AH.set_none (AH.set_none (AH.set_none (AH.set_none (by assumption)).1).1).1).1 | exact (AH.set_none (AH.set_none (AH.set_none (AH.set_none (AH.set_none (by assumption)).1).1).1).1).1 | exact (AH.set_none (AH.set_none (AH.set_none (AH.set_none (AH.set_none (AH.set_none (by assumption)).1).1).1).1).1).1) _))⟩⟩

theorem gate_Pick_own (a b : Tn) (n : Int) (σ : AH) : ACalls Try.prog 69 [tv a, tv b, iv n] σ (OwnTE (pickS a b n).1 (pickS a b n).2 σ) := (gate_Pick_s a b n σ).ownTE
theorem gate_Pick (a b : Tn) (n : Int) : Pure Try.prog 69 [tv a, tv b, iv n] (.tup [tv (pickS a b n).1, iv (pickS a b n).2]) := pure_of_ownTE fun σ => gate_Pick_own a b n σ

set_option maxRecDepth 10000 in
theorem gate_Step_s (a b : Tn) (σ : AH) : ACalls Try.prog 82 [tv a, tv b] σ (OwnTEs (stepS a b).1 (stepS a b).2 σ) := by
  skip
  refine acalls Try.func82 rfl rfl (by decide) rfl rfl ?_
  refine aseq ?_
  refine areg rfl ?_
  refine s_det (D.box_i rfl rfl) rfl ?_
  refine s_det (D.box_i rfl rfl) rfl ?_
  refine s_act rfl (A.alloc rfl rfl rfl fun b4 hb4 => ?_)
  refine s_det (D.assign rfl) rfl ?_
  refine s_nil ?_
  refine aseq ?_
  refine ablock ?_
  refine aseq ?_
  refine areg rfl ?_
  refine s_det (D.load_i rfl rfl) rfl ?_
  refine s_det (D.load_i rfl rfl) rfl ?_
  refine s_det (D.lit sl_Tensor (pc rfl rfl (pc rfl rfl p0)) rfl rfl (by decide)) rfl ?_
  refine s_cmp (D.call (evc rfl ev0) b_shape_All (shape_All a b)) rfl (fun h13 => ?_) (fun h13 => ?_)
  · replace h13 := of_decide_eq_true h13
    have hla := h13.1.1.2.1
    have hlb := h13.2.1.2.1
    refine s_det (D.not rfl rfl) rfl ?_
    refine s_det (D.assign rfl) rfl ?_
    refine s_nil ?_
    refine acond_f rfl ?_
    refine aseq ?_
    refine areg rfl ?_
    refine s_det (D.field_i rfl rfl rfl) rfl ?_
    refine s_det (D.load_i rfl rfl) rfl ?_
    refine s_det (D.field_i rfl rfl rfl) rfl ?_
    refine s_det (D.load_i rfl rfl) rfl ?_
    refine s_cmp (D.call (evc rfl (evc rfl ev0)) b_slices_Equal (slices_Equal a.d b.d (by omega) (by omega))) rfl (fun h21 => ?_) (fun h21 => ?_)
    · replace h21 := of_decide_eq_true h21
      rw [stepS, wayS_k h13 h21]
      have hxy := h13.1.dims h13.2 h21
      have hA : (gateT a b).x.length = (zerosT a.d).x.length := by rw [gateT_len hxy]; exact h13.1.zeros.symm
      have hz := h13.1.zeros
      have h64 := h13.1.len
      refine s_det (D.not rfl rfl) rfl ?_
      refine s_det (D.assign rfl) rfl ?_
      refine s_nil ?_
      refine acond_f rfl ?_
      refine askip ?_
      refine aseq ?_
      refine areg rfl ?_
      refine s_det (D.field_i rfl rfl rfl) rfl ?_
      refine s_det (D.load_i rfl rfl) rfl ?_
      refine s_act rfl (A.call (evc rfl ev0) b_shape_New (shape_New_own a.d h13.1.1 _) fun y σ' hy => ?_)
      obtain ⟨b26, c26, hb26, hc26, hn26, rfl, rfl⟩ := hy
      refine s_act rfl (A.alloc rfl rfl rfl fun b6 hb6 => ?_)
      refine s_do (A.store rfl rfl (AH.set_self ..) rfl rfl (by rfl) rfl rfl ?_)
      refine s_nil ?_
      rw [AH.set_set]
      refine afix (d := 6) rfl hb6 ?_
      refine aseq ?_
      refine aseq ?_
      refine areg rfl ?_
      refine s_det (D.field_i rfl rfl rfl) rfl ?_
      refine s_det (D.load_i rfl rfl) rfl ?_
      refine s_det (D.len_m rfl rfl) rfl ?_
      refine s_det (D.move rfl) rfl ?_
      refine s_nil ?_
      refine ablock ?_
      -- LOOP writes [30] keeps [3, 4, 6, 28, 29]
      refine aloop (ι := Nat) (fun i => i ≤ a.x.length) (fun i => a.x.length - i) (fun i => [(3, .iptr (tv b)), (4, .ptr b4 0 [] 0), (6, .iptr (.agg [.ref b26 1 0 a.d.length, .ref c26 1 0 (zerosT a.d).x.length])), (28, ints a.x), (29, iv a.x.length), (30, iv i)]) (fun i => (σ.set b4 (.row 2 [nilT])).ten b26 c26 a.d ((gateT a b).x.take i ++ List.replicate ((zerosT a.d).x.length - i) 0)) 0 (by omega) ?_ (congrArg (AH.ten _ b26 c26 _) (by simp [zerosT])) fun i hi => ?_
      · exact (.cons rfl (.cons rfl (.cons rfl (.cons rfl (.cons rfl (.cons rfl .nil))))))
      refine aseq ?_
      refine areg rfl ?_
      refine s_cmp (D.lss rfl rfl rfl) rfl (fun h31 => ?_) (fun h31 => ?_)
      · replace h31 := of_decide_eq_true h31
        have hlt : i < a.x.length := by omega
        have hltb : i < b.x.length := by omega
        refine s_nil ?_
        refine aseq ?_
        refine acond_t rfl ?_
        refine askip ?_
        refine aseq ?_
        refine ablock ?_
        refine aseq ?_
        refine areg rfl ?_
        refine s_det (D.move rfl) rfl ?_
        refine s_det (D.idx_m rfl rfl (by omega) (get_lt (i := i) hlt) rfl) rfl ?_
        refine s_det (D.load_i rfl rfl) rfl ?_
        refine s_det (D.assign rfl) rfl ?_
        refine s_det (D.assign rfl) rfl ?_
        refine s_nil ?_
        refine aseq ?_
        refine areg rfl ?_
        refine s_det (D.move rfl) rfl ?_
        refine s_cmp (D.gtr rfl rfl rfl) rfl (fun h36 => ?_) (fun h36 => ?_)
        · replace h36 := of_decide_eq_true h36
          refine s_nil ?_
          refine acond_t rfl ?_
          refine adraw [.det 0, .det 1, .det 2, .det 3, .det 4, .det 5, .det 6, .det 7, .det 8, .act 9] rfl (by kernel_rfl) ?_
          refine d_det rfl (D.field_i rfl rfl rfl) rfl ?_
          refine d_det rfl (D.load_i rfl rfl) rfl ?_
          refine d_det rfl (D.move rfl) rfl ?_
          refine d_det rfl (D.field_i rfl rfl rfl) rfl ?_
          refine d_det rfl (D.load_i rfl rfl) rfl ?_
          refine d_det rfl (D.move rfl) rfl ?_
          refine d_det rfl (D.idx_m rfl rfl (by omega) (get_lt (i := i) hltb) rfl) rfl ?_
          refine d_det rfl (D.load_i rfl rfl) rfl ?_
          refine d_det rfl (D.idx_r rfl rfl (by omega) rfl) rfl ?_
          refine d_do rfl (by kernel_rfl) (A.store_t rfl rfl (by rw [fill_len hA (by omega)]; omega) rfl ?_)
          refine d_nil ?_
          refine areg rfl ?_
          refine s_det (D.add rfl rfl (w64 (by omega) (by omega))) rfl ?_
          refine s_det (D.move rfl) rfl ?_
          refine s_nil ?_
          exact ⟨i + 1, by omega, by omega, (.cons rfl (.cons rfl (.cons rfl (.cons rfl (.cons rfl (.cons rfl .nil)))))), congrArg (AH.ten _ b26 c26 _) (fill_set hA (by omega) ((zip_gate (A := a.x) (B := b.x) (by rw [List.length_zipWith]; omega) hlt hltb).trans (if_neg (by omega))))⟩
        · replace h36 := of_decide_eq_false h36
          refine s_nil ?_
          refine acond_f rfl ?_
          refine askip ?_
          refine areg rfl ?_
          refine s_det (D.add rfl rfl (w64 (by omega) (by omega))) rfl ?_
          refine s_det (D.move rfl) rfl ?_
          refine s_nil ?_
          exact ⟨i + 1, by omega, by omega, (.cons rfl (.cons rfl (.cons rfl (.cons rfl (.cons rfl (.cons rfl .nil)))))), congrArg (AH.ten _ b26 c26 _) (fill_keep hA (by omega) ((zip_gate (A := a.x) (B := b.x) (by rw [List.length_zipWith]; omega) hlt hltb).trans (if_pos (by omega))))⟩
      · replace h31 := of_decide_eq_false h31
        refine s_nil ?_
        refine aseq ?_
        refine acond_f rfl ?_
        refine aexit ?_
        refine aseq ?_
        refine areg rfl ?_
        refine s_det (D.load_i rfl rfl) rfl ?_
        refine s_do (A.store rfl rfl (ten_cell hb26 hc26) rfl rfl (by rfl) rfl rfl ?_)
        refine s_det (D.assign rfl) rfl ?_
        refine s_nil ?_
        refine aret ?_
        exact ⟨[_, _], ⟨⟨.inr ⟨_, _, _, _, _, _, _, rfl, AH.set_self .., rfl, rfl⟩, rfl⟩, ⟨rfl, rfl⟩, trivial⟩, .inr ⟨_, rfl, ten_done h21 (fill_all hA (by omega)) (by rw [h21]; rfl) hA.symm hb4 hb26 hc26 hn26⟩⟩
    · replace h21 := of_decide_eq_false h21
      refine s_det (D.not rfl rfl) rfl ?_
      refine s_det (D.assign rfl) rfl ?_
      refine s_nil ?_
      refine acond_t rfl ?_
      refine aseq ?_
      refine areg rfl ?_
      refine s_det (D.build rfl rfl rfl) rfl ?_
      refine s_do (A.store rfl rfl (AH.set_self ..) rfl rfl (by rfl) rfl rfl ?_)
      refine s_det (D.assign rfl) rfl ?_
      refine s_nil ?_
      refine aret ?_
      exact ⟨[_, _], ⟨⟨.inr ⟨_, _, _, _, _, _, _, rfl, AH.set_self .., rfl, rfl⟩, rfl⟩, ⟨rfl, rfl⟩, trivial⟩, by rw [stepS, wayS_e h13 h21]; exact .inl ⟨rfl, rfl, (by repeat (first | exact Sub.refl _ | refine Sub.set ?_ (by first | assumption | exact (AH.set_none (by assumption)).1 | exact (AH.set_none (AH.set_none (by assumption)).1).1 | exact (AH.set_none (AH.set_none (AH.set_none (by assumption)).1).1).1 | exact (AH.set_none (AH.set_none (AH.set_none (AH.set_none (by assumption)).1).1).1).1 | exact (AH.set_none (AH.set_none (AH.set_none (AH.set_none (AH.set_none (by assumption)).1).1).1).1).1 | exact (AH.set_none (AH.set_none (AH.set_none (AH.set_none (AH.set_none (AH.set_none (by assumption)).1).1).1).1).1).1) _))⟩⟩
  · replace h13 := of_decide_eq_false h13
    refine s_det (D.not rfl rfl) rfl ?_
    refine s_det (D.assign rfl) rfl ?_
    refine s_nil ?_
    refine acond_t rfl ?_
    refine aseq ?_
    refine areg rfl ?_
    refine s_det (D.build rfl rfl rfl) rfl ?_
    refine s_do (A.store rfl rfl (AH.set_self ..) rfl rfl (by rfl) rfl rfl ?_)
    refine s_det (D.assign rfl) rfl ?_
    refine s_nil ?_
    refine aret ?_
    exact ⟨[_, _], ⟨⟨.inr ⟨_, _, _, _, _, _, _, rfl, AH.set_self .., rfl, rfl⟩, rfl⟩, ⟨rfl, rfl⟩, trivial⟩, by rw [stepS, wayS_f h13]; exact .inl ⟨rfl, rfl, (by repeat (first | exact Sub.refl _ | refine Sub.set ?_ (by first | assumption | exact (AH.set_none (by assumption)).1 | exact (AH.set_none (AH.set_none (by assumption)).1).1 | exact (AH.set_none (AH.set_none (AH.set_none (by assumption)).1).1).1 | exact (AH.set_none (AH.set_none (AH.set_none (AH.set_none (by assumption)).1).1).1).1 | exact (AH.set_none (AH.set_none (AH.set_none (AH.set_none (AH.set_none (by assumption)).1).1).1).1).1 | exact (AH.set_none (AH.set_none (AH.set_none (AH.set_none (AH.set_none (AH.set_none (by assumption)).1).1).1).1).1).1) _))⟩⟩

theorem gate_Step_own (a b : Tn) (σ : AH) : ACalls Try.prog 82 [tv a, tv b] σ (OwnTE (stepS a b).1 (stepS a b).2 σ) := (gate_Step_s a b σ).ownTE
theorem gate_Step (a b : Tn) : Pure Try.prog 82 [tv a, tv b] (.tup [tv (stepS a b).1, iv (stepS a b).2]) := pure_of_ownTE fun σ => gate_Step_own a b σ

set_option maxRecDepth 10000 in
theorem gate_Relu (a : Tn) : Pure Try.prog 79 [tv a] (.tup [tv (stepS a a).1, iv (stepS a a).2]) := by
  refine pure_of_sub fun σ => ?_
  refine acalls Try.func79 rfl rfl (by decide) rfl rfl ?_
  refine aseq ?_
  refine areg rfl ?_
  refine s_det (D.box_i rfl rfl) rfl ?_
  refine s_act rfl (A.alloc rfl rfl rfl fun b2 hb2 => ?_)
  refine s_det (D.assign rfl) rfl ?_
  refine s_nil ?_
  refine aseq ?_
  refine areg rfl ?_
  refine s_det (D.load_i rfl rfl) rfl ?_
  refine s_det (D.load_i rfl rfl) rfl ?_
  refine s_det (D.call (evc rfl (evc rfl ev0)) b_gate_Step (gate_Step a a)) rfl ?_
  refine s_det (D.extract rfl rfl) rfl ?_
  refine s_det (D.extract rfl rfl) rfl ?_
  refine s_do (A.store rfl rfl (AH.set_self ..) rfl rfl (by rfl) rfl rfl ?_)
  refine s_det (D.assign rfl) rfl ?_
  refine s_nil ?_
  refine aret ?_
  exact ⟨[_, _], ⟨⟨.inr ⟨_, _, _, _, _, _, _, rfl, AH.set_self .., rfl, rfl⟩, rfl⟩, ⟨rfl, rfl⟩, trivial⟩, ⟨rfl, (by repeat (first | exact Sub.refl _ | refine Sub.set ?_ (by first | assumption | exact (AH.set_none (by assumption)).1 | exact (AH.set_none (AH.set_none (by assumption)).1).1 | exact (AH.set_none (AH.set_none (AH.set_none (by assumption)).1).1).1 | exact (AH.set_none (AH.set_none (AH.set_none (AH.set_none (by assumption)).1).1).1).1 | exact (AH.set_none (AH.set_none (AH.set_none (AH.set_none (AH.set_none (by assumption)).1).1).1).1).1 | exact (AH.set_none (AH.set_none (AH.set_none (AH.set_none (AH.set_none (AH.set_none (by assumption)).1).1).1).1).1).1) _))⟩⟩

end Go.Proofs.Ytpjcidlkdfebhaa.F
