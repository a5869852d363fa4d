/- Functions of the program and of the references: what they compute, by the layer Al. Made by a program of this session (wip/al/alfill.py) out of wip/al/specs. -/
import Derived.Test.YtpjcidlkdfebhaaFe
import Derived.Test.YtpjcidlkdfebhaaProg
namespace Go.Proofs.Ytpjcidlkdfebhaa.F
open Go Go.Proofs.Al
set_option linter.unusedVariables false
set_option linter.unusedSimpArgs false
set_option maxRecDepth 10000 in
theorem gradusref1_Each_s (a b : Tn) (how : Int) (ha : a.sm) (hb : b.sm) (hx : a.x.length = b.x.length) (σ : AH) : ACalls Try.prog 52 [tv a, tv b, iv how] σ (OwnTs (eachT a b how) σ) := by
  have hA : (eachT a b how).x.length = a.x.length := by simp [eachT]; omega
  have hl := ha.2
  refine acalls Try.func52 rfl rfl (by decide) rfl rfl ?_
  refine aseq ?_
  refine areg rfl ?_
  refine s_det (D.box_i rfl rfl) rfl ?_
  refine s_det (D.box_i rfl rfl) rfl ?_
  refine s_act rfl (A.alloc rfl rfl rfl fun b6 hb6 => ?_)
  refine s_nil ?_
  refine aseq ?_
  refine areg rfl ?_
  refine s_det (D.load_i rfl rfl) rfl ?_
  refine s_act rfl (A.call (evc rfl ev0) b_gradusref0_CopyTensor (gradusref0_CopyTensor_own _ (by first | assumption | omega) _) fun y σ' hy => ?_)
  obtain ⟨b10, c10, hb10, hc10, hn10, rfl, rfl⟩ := hy
  refine s_act rfl (A.alloc rfl rfl rfl fun b7 hb7 => ?_)
  refine s_do (A.store rfl rfl (AH.set_self ..) rfl rfl (by rfl) rfl rfl ?_)
  refine s_nil ?_
  rw [AH.set_set]
  refine afix (d := 7) rfl hb7 ?_
  refine aseq ?_
  refine aseq ?_
  refine areg rfl ?_
  refine s_det (D.assign rfl) rfl ?_
  refine s_nil ?_
  refine ablock ?_
  -- LOOP writes [8] keeps [2, 3, 4, 6, 7]
  refine aloop (ι := Nat) (fun i => i ≤ a.x.length) (fun i => a.x.length - i) (fun i => [(2, iv how), (3, .iptr (tv a)), (4, .iptr (tv b)), (6, .ptr b6 0 [] 0), (7, .iptr (.agg [.ref b10 1 0 a.d.length, .ref c10 1 0 a.x.length])), (8, iv i)]) (fun i => (σ.set b6 (.row 2 [nilT])).ten b10 c10 a.d ((eachT a b how).x.take i ++ a.x.drop i)) 0 (by omega) ?_ rfl fun i hi => ?_
  · exact (.cons rfl (.cons rfl (.cons rfl (.cons rfl (.cons rfl (.cons rfl .nil))))))
  refine aseq ?_
  refine aseq ?_
  refine areg rfl ?_
  refine s_det (D.move rfl) rfl ?_
  refine s_det (D.field_i rfl rfl rfl) rfl ?_
  refine s_det (D.load_i rfl rfl) rfl ?_
  refine s_det (D.len_r rfl rfl) rfl ?_
  refine s_cmp (D.lss rfl rfl rfl) rfl (fun h15 => ?_) (fun h15 => ?_)
  · replace h15 := of_decide_eq_true h15
    have hlt : i < a.x.length := by omega
    have hltb : i < b.x.length := by omega
    refine s_nil ?_
    refine acond_t rfl ?_
    refine askip ?_
    refine aseq ?_
    refine ablock ?_
    refine aseq ?_
    refine areg rfl ?_
    refine s_det (D.move rfl) rfl ?_
    refine s_nil ?_
    refine ablock ?_
    refine aseq ?_
    refine areg rfl ?_
    refine s_cmp (D.eql rfl rfl rfl) rfl (fun h35 => ?_) (fun h35 => ?_)
    · replace h35 := of_decide_eq_true h35
      refine s_det (D.assign rfl) rfl ?_
      refine s_nil ?_
      refine acond_t rfl ?_
      refine adraw [.det 0, .det 1, .det 2, .det 3, .det 4, .det 5, .det 6, .det 7, .det 8, .det 9, .det 10, .det 11, .det 12, .det 13, .det 14, .act 15] rfl (by kernel_rfl) ?_
      refine d_det rfl (D.field_i rfl rfl rfl) rfl ?_
      refine d_det rfl (D.load_i rfl rfl) rfl ?_
      refine d_det rfl (D.move rfl) rfl ?_
      refine d_det rfl (D.field_i rfl rfl rfl) rfl ?_
      refine d_det rfl (D.load_i rfl rfl) rfl ?_
      refine d_det rfl (D.move rfl) rfl ?_
      refine d_det rfl (D.idx_m rfl rfl (by omega) (get_lt (i := i) hlt) rfl) rfl ?_
      refine d_det rfl (D.load_i rfl rfl) rfl ?_
      refine d_det rfl (D.field_i rfl rfl rfl) rfl ?_
      refine d_det rfl (D.load_i rfl rfl) rfl ?_
      refine d_det rfl (D.move rfl) rfl ?_
      refine d_det rfl (D.idx_m rfl rfl (by omega) (get_lt (i := i) hltb) rfl) rfl ?_
      refine d_det rfl (D.load_i rfl rfl) rfl ?_
      refine d_det rfl (D.add rfl rfl rfl) rfl ?_
      refine d_det rfl (D.idx_r rfl rfl (by omega) rfl) rfl ?_
      refine d_do rfl (by kernel_rfl) (A.store_t rfl rfl (by rw [mix_len hA (by omega)]; omega) rfl ?_)
      refine d_nil ?_
      refine areg rfl ?_
      refine s_det (D.move rfl) rfl ?_
      refine s_det (D.add rfl rfl (w64 (by omega) (by omega))) rfl ?_
      refine s_det (D.assign rfl) rfl ?_
      refine s_nil ?_
      exact ⟨i + 1, by omega, by omega, (.cons rfl (.cons rfl (.cons rfl (.cons rfl (.cons rfl (.cons rfl .nil)))))), congrArg (AH.ten _ b10 c10 _) (mix_set hA (by omega) (by simp [eachT, opH, h35]))⟩
    · replace h35 := of_decide_eq_false h35
      refine s_det (D.assign rfl) rfl ?_
      refine s_nil ?_
      refine acond_f rfl ?_
      refine aseq ?_
      refine areg rfl ?_
      refine s_cmp (D.eql rfl rfl rfl) rfl (fun h52 => ?_) (fun h52 => ?_)
      · replace h52 := of_decide_eq_true h52
        refine s_det (D.assign rfl) rfl ?_
        refine s_nil ?_
        refine acond_t rfl ?_
        refine adraw [.det 0, .det 1, .det 2, .det 3, .det 4, .det 5, .det 6, .det 7, .det 8, .det 9, .det 10, .det 11, .det 12, .det 13, .det 14, .act 15] rfl (by kernel_rfl) ?_
        refine d_det rfl (D.field_i rfl rfl rfl) rfl ?_
        refine d_det rfl (D.load_i rfl rfl) rfl ?_
        refine d_det rfl (D.move rfl) rfl ?_
        refine d_det rfl (D.field_i rfl rfl rfl) rfl ?_
        refine d_det rfl (D.load_i rfl rfl) rfl ?_
        refine d_det rfl (D.move rfl) rfl ?_
        refine d_det rfl (D.idx_m rfl rfl (by omega) (get_lt (i := i) hlt) rfl) rfl ?_
        refine d_det rfl (D.load_i rfl rfl) rfl ?_
        refine d_det rfl (D.field_i rfl rfl rfl) rfl ?_
        refine d_det rfl (D.load_i rfl rfl) rfl ?_
        refine d_det rfl (D.move rfl) rfl ?_
        refine d_det rfl (D.idx_m rfl rfl (by omega) (get_lt (i := i) hltb) rfl) rfl ?_
        refine d_det rfl (D.load_i rfl rfl) rfl ?_
        refine d_det rfl (D.sub rfl rfl rfl) rfl ?_
        refine d_det rfl (D.idx_r rfl rfl (by omega) rfl) rfl ?_
        refine d_do rfl (by kernel_rfl) (A.store_t rfl rfl (by rw [mix_len hA (by omega)]; omega) rfl ?_)
        refine d_nil ?_
        refine areg rfl ?_
        refine s_det (D.move rfl) rfl ?_
        refine s_det (D.add rfl rfl (w64 (by omega) (by omega))) rfl ?_
        refine s_det (D.assign rfl) rfl ?_
        refine s_nil ?_
        exact ⟨i + 1, by omega, by omega, (.cons rfl (.cons rfl (.cons rfl (.cons rfl (.cons rfl (.cons rfl .nil)))))), congrArg (AH.ten _ b10 c10 _) (mix_set hA (by omega) (by simp [eachT, opH, h52]))⟩
      · replace h52 := of_decide_eq_false h52
        refine s_det (D.assign rfl) rfl ?_
        refine s_nil ?_
        refine acond_f rfl ?_
        refine adraw [.det 0, .det 1, .det 2, .det 3, .det 4, .det 5, .det 6, .det 7, .det 8, .det 9, .det 10, .det 11, .det 12, .det 13, .det 14, .act 15] rfl (by kernel_rfl) ?_
        refine d_det rfl (D.field_i rfl rfl rfl) rfl ?_
        refine d_det rfl (D.load_i rfl rfl) rfl ?_
        refine d_det rfl (D.move rfl) rfl ?_
        refine d_det rfl (D.field_i rfl rfl rfl) rfl ?_
        refine d_det rfl (D.load_i rfl rfl) rfl ?_
        refine d_det rfl (D.move rfl) rfl ?_
        refine d_det rfl (D.idx_m rfl rfl (by omega) (get_lt (i := i) hlt) rfl) rfl ?_
        refine d_det rfl (D.load_i rfl rfl) rfl ?_
        refine d_det rfl (D.field_i rfl rfl rfl) rfl ?_
        refine d_det rfl (D.load_i rfl rfl) rfl ?_
        refine d_det rfl (D.move rfl) rfl ?_
        refine d_det rfl (D.idx_m rfl rfl (by omega) (get_lt (i := i) hltb) rfl) rfl ?_
        refine d_det rfl (D.load_i rfl rfl) rfl ?_
        refine d_det rfl (D.mul rfl rfl rfl) rfl ?_
        refine d_det rfl (D.idx_r rfl rfl (by omega) rfl) rfl ?_
        refine d_do rfl (by kernel_rfl) (A.store_t rfl rfl (by rw [mix_len hA (by omega)]; omega) rfl ?_)
        refine d_nil ?_
        refine areg rfl ?_
        refine s_det (D.move rfl) rfl ?_
        refine s_det (D.add rfl rfl (w64 (by omega) (by omega))) rfl ?_
        refine s_det (D.assign rfl) rfl ?_
        refine s_nil ?_
        exact ⟨i + 1, by omega, by omega, (.cons rfl (.cons rfl (.cons rfl (.cons rfl (.cons rfl (.cons rfl .nil)))))), congrArg (AH.ten _ b10 c10 _) (mix_set hA (by omega) (by simp [eachT, opH, h35, h52]))⟩
  · replace h15 := of_decide_eq_false h15
    refine s_nil ?_
    refine acond_f rfl ?_
    refine aexit ?_
    refine aseq ?_
    refine areg rfl ?_
    refine s_det (D.load_i rfl rfl) rfl ?_
    refine s_do (A.store rfl rfl (ten_cell hb10 hc10) rfl rfl (by rfl) rfl rfl ?_)
    refine s_nil ?_
    refine aret ?_
    exact ⟨[_], ⟨⟨.inr ⟨_, _, _, _, _, _, _, rfl, AH.set_self .., rfl, rfl⟩, rfl⟩, trivial⟩, ten_done rfl (mix_all hA (by omega)) rfl hA.symm hb6 hb10 hc10 hn10⟩

theorem gradusref1_Each (a b : Tn) (how : Int) (ha : a.sm) (hb : b.sm) (hx : a.x.length = b.x.length) : Pure Try.prog 52 [tv a, tv b, iv how] (tv (eachT a b how)) := pure_of_ownT fun σ => (gradusref1_Each_s a b how ha hb hx σ).ownT

set_option maxRecDepth 10000 in
theorem gradusref1_Fill_s (d : List Int) (v : Int) (h : okD d) (σ : AH) : ACalls Try.prog 90 [ints d, iv v] σ (OwnTs (fillT d v) σ) := by
  have h3 := h.2.1
  have h64 := h.2.2.2
  obtain ⟨N, hN, hN1⟩ := prod_nat h.2.2.1
  refine acalls Try.func90 rfl rfl (by decide) rfl rfl ?_
  refine aseq ?_
  refine areg rfl ?_
  refine s_act rfl (A.alloc rfl rfl rfl fun b4 hb4 => ?_)
  refine s_nil ?_
  refine aseq ?_
  refine areg rfl ?_
  refine s_det (D.move rfl) rfl ?_
  refine s_act rfl (A.call (evc rfl ev0) b_gradusref0_CopyNumbers (gradusref0_CopyNumbers_own d (by omega) _) fun y σ' hy => ?_)
  obtain ⟨b8, hb8, rfl, rfl⟩ := hy
  refine s_det (D.build rfl rfl ⟨_, rfl, rfl, rfl, by simp, rfl⟩) rfl ?_
  refine s_act rfl (A.alloc rfl rfl rfl fun b5 hb5 => ?_)
  refine s_do (A.store rfl rfl (AH.set_self ..) rfl rfl (by rfl) rfl rfl ?_)
  obtain ⟨hb8', n84⟩ := AH.set_none hb8
  generalize hρ : ((σ.set b4 (.row 2 [nilT])).set b8 (rowI d)) = ρ
  have hb5r : ρ b5 = none := by rw [← hρ]; exact hb5
  have hρ4 : ρ b4 = some (.row 2 [nilT]) := by rw [← hρ]; exact AH.get_set hb8 (AH.set_self ..)
  have hρs : Sub σ ρ := by rw [← hρ]; exact ((Sub.refl σ).set hb4 _).set hb8' _
  have hρ8 : ρ b8 = some (rowI d) := by rw [← hρ]; exact AH.set_self ..
  refine s_nil ?_
  refine aseq ?_
  refine aseq ?_
  refine areg rfl ?_
  refine s_det (D.assign rfl) rfl ?_
  refine s_nil ?_
  refine ablock ?_
  -- LOOP writes [6] keeps [0, 1, 4, 5]
  refine aloop (ι := Nat × Nat) (fun s => s.1 ≤ N ∧ (s.1 ≠ 0 → ρ s.2 = none ∧ s.2 ≠ b5)) (fun s => N - s.1) (fun s => [(0, ints d), (1, iv v), (4, .ptr b4 0 [] 0), (5, .ptr b5 0 [] 0), (6, iv s.1)]) (fun s => match s.1 with | 0 => ρ.set b5 (.row 2 [.agg [.ref b8 1 0 d.length, .list true 0 []]]) | n + 1 => (ρ.set s.2 (rowI (List.replicate (n + 1) v))).set b5 (.row 2 [.agg [.ref b8 1 0 d.length, .ref s.2 1 0 (List.replicate (n + 1) v).length]])) (0, 0) ⟨by simp, fun h => absurd rfl h⟩ ?_ (by rw [← hρ]; exact AH.set_set ..) fun s hs => ?_
  · exact (.cons rfl (.cons rfl (.cons rfl (.cons rfl (.cons rfl .nil)))))
  obtain ⟨i, bx⟩ := s
  obtain ⟨hi, hbx⟩ := hs
  dsimp only at hi hbx
  refine aseq ?_
  refine aseq ?_
  refine areg rfl ?_
  refine s_det (D.move rfl) rfl ?_
  refine s_det (D.move rfl) rfl ?_
  refine s_det (D.call (evc rfl ev0) b_gradusref1_Cells (Pure.to (gradusref1_Cells d h) (congrArg iv hN))) rfl ?_
  refine s_cmp (D.lss rfl rfl rfl) rfl (fun h13 => ?_) (fun h13 => ?_)
  · replace h13 := of_decide_eq_true h13
    refine s_nil ?_
    refine acond_t rfl ?_
    refine askip ?_
    refine aseq ?_
    refine ablock ?_
    refine areg rfl ?_
    rcases i with _ | n
    · refine s_det (D.field_p rfl rfl) rfl ?_
      refine s_own (AH.set_self ..) (D.load_p rfl rfl rfl rfl) rfl ?_
      refine s_det (D.move rfl) rfl ?_
      refine s_det (D.lit sl_int (pc rfl rfl p0) rfl rfl (by decide)) rfl ?_
      refine s_act rfl (A.append_e rfl (.list rfl) sl_int rfl (by simp) (by decide) rfl (fun h => by cases h) (fun _ b20 hb20 => ?_))
      obtain ⟨hb20', n20⟩ := AH.set_none hb20
      refine s_det (D.field_p rfl rfl) rfl ?_
      refine s_do (A.store rfl rfl (by rw [AH.set_ne (Ne.symm n20)]; exact AH.set_self ..) rfl rfl (by rfl) rfl rfl ?_)
      refine s_nil ?_
      refine areg rfl ?_
      refine s_det (D.move rfl) rfl ?_
      refine s_det (D.add rfl rfl (addN1 (by dsimp only; omega))) rfl ?_
      refine s_det (D.assign rfl) rfl ?_
      refine s_nil ?_
      exact ⟨(1, b20), ⟨hN1, fun _ => ⟨hb20', n20⟩⟩, by dsimp only; omega, (.cons rfl (.cons rfl (.cons rfl (.cons rfl (.cons rfl .nil))))), AH.set_back n20⟩
    · obtain ⟨hx1, hx2⟩ := hbx (by omega)
      have h5x : (ρ.set bx (rowI (List.replicate (n + 1) v))) b5 = none := by rw [AH.set_ne (Ne.symm hx2)]; exact hb5r
      refine s_det (D.field_p rfl rfl) rfl ?_
      refine s_own (AH.set_self ..) (D.load_p rfl rfl rfl rfl) rfl ?_
      refine s_det (D.move rfl) rfl ?_
      refine s_det (D.lit sl_int (pc rfl rfl p0) rfl rfl (by decide)) rfl ?_
      refine s_act rfl (A.append1 (f := iv) (l := List.replicate (n + 1) v) (v := v) rfl (AH.get_set h5x (AH.set_self ..)) rfl sl_int rfl (by simp; dsimp only at h13; omega) (by decide) rfl fun b20 hb20 => ?_)
      obtain ⟨hb20', n20⟩ := AH.set_none hb20
      obtain ⟨hb20', n2x⟩ := AH.set_none hb20'
      refine s_det (D.field_p rfl rfl) rfl ?_
      refine s_do (A.store rfl rfl (by rw [AH.set_ne (Ne.symm n20), AH.del, if_neg (Ne.symm hx2)]; exact AH.set_self ..) rfl rfl (by rfl) rfl rfl ?_)
      refine s_nil ?_
      refine areg rfl ?_
      refine s_det (D.move rfl) rfl ?_
      refine s_det (D.add rfl rfl (addN1 (a := n + 1) (by dsimp only at h13; omega))) rfl ?_
      refine s_det (D.assign rfl) rfl ?_
      refine s_nil ?_
      refine ⟨(n + 2, b20), ⟨by dsimp only at h13 ⊢; omega, fun _ => ⟨hb20', n20⟩⟩, by dsimp only at h13 ⊢; omega, (.cons rfl (.cons rfl (.cons rfl (.cons rfl (.cons rfl .nil))))), ?_⟩
      rw [AH.regrow hx1 hx2, ← List.replicate_succ']; rfl
  · replace h13 := of_decide_eq_false h13
    obtain ⟨n, rfl⟩ : ∃ n, i = n + 1 := ⟨i - 1, by dsimp only at h13; omega⟩
    obtain ⟨hx1, hx2⟩ := hbx (by omega)
    have h5x : (ρ.set bx (rowI (List.replicate (n + 1) v))) b5 = none := by rw [AH.set_ne (Ne.symm hx2)]; exact hb5r
    refine s_nil ?_
    refine acond_f rfl ?_
    refine aexit ?_
    refine aseq ?_
    refine areg rfl ?_
    refine s_own (AH.set_self ..) (D.load_p rfl rfl rfl rfl) rfl ?_
    refine s_do (A.store rfl rfl (AH.get_set h5x (AH.get_set hx1 hρ4)) rfl rfl (by rfl) rfl rfl ?_)
    refine s_nil ?_
    refine aret ?_
    refine ⟨[_], ⟨⟨.inr ⟨_, _, _, _, _, _, _, rfl, AH.set_self .., rfl, rfl⟩, rfl⟩, trivial⟩, b8, bx, hb8', Sub.fresh hρs hx1, (fun e => by subst e; rw [hρ8] at hx1; cases hx1), ?_, ?_, ?_, ?_⟩
    · have e : (prod d).toNat = n + 1 := by dsimp only at h13; omega
      simp [fillT, tupOf, e]; rfl
    · rw [AH.set_ne n84]; exact AH.get_set h5x (AH.get_set hx1 hρ8)
    · have e : (prod d).toNat = n + 1 := by dsimp only at h13; omega
      rw [AH.set_ne (show bx ≠ b4 from fun e => by subst e; rw [hρ4] at hx1; cases hx1)]
      refine (AH.get_set h5x (AH.set_self ..)).trans ?_
      simp [fillT, e]
    · exact ((hρs.set (Sub.fresh hρs hx1) _).set (Sub.fresh hρs hb5r) _).set hb4 _

theorem gradusref1_Fill_own (d : List Int) (v : Int) (h : okD d) (σ : AH) : ACalls Try.prog 90 [ints d, iv v] σ (OwnT (fillT d v) σ) := (gradusref1_Fill_s d v h σ).ownT
theorem gradusref1_Fill (d : List Int) (v : Int) (h : okD d) : Pure Try.prog 90 [ints d, iv v] (tv (fillT d v)) := pure_of_ownT fun σ => gradusref1_Fill_own d v h σ

end Go.Proofs.Ytpjcidlkdfebhaa.F
