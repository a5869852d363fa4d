/- Functions of the program and of the references: what they compute, by the layer Al. Made by a program of this session (wip/al/alfill.py) out of wip/al/specs. -/
import Derived.Test.YtpjcidlkdfebhaaFb
import Derived.Test.YtpjcidlkdfebhaaProg
namespace Go.Proofs.Ytpjcidlkdfebhaa.F
open Go Go.Proofs.Al
set_option linter.unusedVariables false
set_option linter.unusedSimpArgs false
set_option maxRecDepth 10000 in
theorem shape_Numbers_own (d : List Int) (n : Int) (h : okD d) (h0 : 0 ≤ n) (hn : n ≤ 9223372036854775807) (σ : AH) : ACalls Try.prog 102 [ints d, iv n] σ (OwnS iv 1 (nums d n) σ) := by
  have hs := strides_length d
  have ha := nums_length d n
  have h3 := h.2.1
  refine acalls Try.func102 rfl rfl (by decide) rfl rfl ?_
  refine aseq ?_
  refine areg rfl ?_
  refine s_det (D.assign rfl) rfl ?_
  refine s_nil ?_
  refine aseq ?_
  refine areg rfl ?_
  refine s_det (D.move rfl) rfl ?_
  refine s_det (D.len_m rfl rfl) rfl ?_
  refine s_act rfl (A.make_x rfl sl_int (by omega) fun b10 hb10 => ?_)
  refine s_det (D.assign rfl) rfl ?_
  refine s_nil ?_
  refine aseq ?_
  refine aseq ?_
  refine areg rfl ?_
  refine s_det (D.move rfl) rfl ?_
  refine s_det (D.call (evc rfl ev0) b_shape_Strides (shape_Strides _ (by first | assumption | omega))) rfl ?_
  refine s_det (D.len_m rfl rfl) rfl ?_
  refine s_det (D.move rfl) rfl ?_
  refine s_nil ?_
  refine ablock ?_
  -- LOOP writes [1, 14] keeps [5, 12, 13]
  refine aloop (ι := Nat × Int) (fun s => s.1 ≤ d.length ∧ 0 ≤ s.2 ∧ s.2 ≤ 9223372036854775807 ∧ numsS ((strides d).drop s.1) s.2 = (nums d n).drop s.1) (fun s => d.length - s.1) (fun s => [(1, iv s.2), (5, .ref b10 1 0 d.length), (12, ints (strides d)), (13, iv (strides d).length), (14, iv s.1)]) (fun s => σ.set b10 (rowI ((nums d n).take s.1 ++ List.replicate (d.length - s.1) 0))) (0, n) ⟨by simp, h0, hn, rfl⟩ ?_ (by simp) fun s hs => ?_
  · exact (.cons rfl (.cons rfl (.cons rfl (.cons rfl (.cons rfl .nil)))))
  obtain ⟨i, m⟩ := s
  obtain ⟨hi, hm0, hm1, hm⟩ := hs
  dsimp only at hi hm0 hm1 hm
  refine aseq ?_
  refine areg rfl ?_
  refine s_cmp (D.lss rfl rfl rfl) rfl (fun h15 => ?_) (fun h15 => ?_)
  · replace h15 := of_decide_eq_true h15
    have hlt : i < (strides d).length := by omega
    have hp := strides_pos h.2.2.1 _ (List.getElem_mem hlt)
    obtain ⟨e1, e2⟩ := numsS_step hm hlt (by omega)
    have hm2 := Int.emod_nonneg m (show (strides d)[i] ≠ 0 by omega)
    have hm3 : m % (strides d)[i] ≤ m := by have h1 := Int.emod_add_mul_ediv m (strides d)[i]; have h2 := Int.mul_nonneg (show 0 ≤ (strides d)[i] by omega) (Int.ediv_nonneg hm0 (show 0 ≤ (strides d)[i] by omega)); omega
    refine s_nil ?_
    refine aseq ?_
    refine acond_t rfl ?_
    refine askip ?_
    refine aseq ?_
    refine ablock ?_
    refine aseq ?_
    refine areg rfl ?_
    refine s_det (D.move rfl) rfl ?_
    refine s_det (D.idx_m rfl rfl (by omega) (get_lt (i := i) hlt) rfl) rfl ?_
    refine s_det (D.load_i rfl rfl) rfl ?_
    refine s_det (D.assign rfl) rfl ?_
    refine s_det (D.assign rfl) rfl ?_
    refine s_nil ?_
    refine aseq ?_
    refine areg rfl ?_
    refine s_det (D.move rfl) rfl ?_
    refine s_det (D.move rfl) rfl ?_
    refine s_det (D.move rfl) rfl ?_
    refine s_det (D.move rfl) rfl ?_
    refine s_det (D.quo rfl rfl (by omega) (tdivw hm0 hm1 hp)) rfl ?_
    refine s_det (D.idx_r rfl rfl (by omega) rfl) rfl ?_
    refine s_do (A.store_r rfl rfl (by rw [fill_len ha hi]; omega) rfl ?_)
    refine s_nil ?_
    refine areg rfl ?_
    refine s_det (D.move rfl) rfl ?_
    refine s_det (D.move rfl) rfl ?_
    refine s_det (D.rem rfl rfl (by omega) (tmodw hm0)) rfl ?_
    refine s_det (D.assign rfl) rfl ?_
    refine s_nil ?_
    refine areg rfl ?_
    refine s_det (D.add rfl rfl (w64 (by omega) (by omega))) rfl ?_
    refine s_det (D.move rfl) rfl ?_
    refine s_nil ?_
    exact ⟨(i + 1, m % (strides d)[i]), ⟨by omega, hm2, by omega, e2⟩, by dsimp only; omega, (.cons rfl (.cons rfl (.cons rfl (.cons rfl (.cons rfl .nil))))), congrArg (fun x => σ.set b10 (rowI x)) (fill_set ha (by omega) e1.symm)⟩
  · replace h15 := of_decide_eq_false h15
    refine s_nil ?_
    refine aseq ?_
    refine acond_f rfl ?_
    refine aexit ?_
    refine aseq ?_
    refine areg rfl ?_
    refine s_det (D.move rfl) rfl ?_
    refine s_det (D.assign rfl) rfl ?_
    refine s_nil ?_
    refine aret ?_
    exact ⟨[_], ⟨⟨rfl, rfl⟩, trivial⟩, ⟨b10, hb10, by simp [ha, tupOf], congrArg (fun x => σ.set b10 (rowI x)) (fill_all ha (by dsimp only at h15; omega))⟩⟩

theorem shape_Numbers (d : List Int) (n : Int) (h : okD d) (h0 : 0 ≤ n) (hn : n ≤ 9223372036854775807) : Pure Try.prog 102 [ints d, iv n] (ints (nums d n)) := pure_of_own fun σ => shape_Numbers_own d n h h0 hn σ

set_option maxRecDepth 10000 in
theorem shape_Where (d : List Int) (n : Int) (hn : n ≤ 9223372036854775807) : Pure Try.prog 30 [ints d, iv n] (.tup [ints (whereS d n).1, iv (whereS d n).2]) := by
  refine pure_wk fun σ => ?_
  refine acalls Try.func30 rfl rfl (by decide) rfl rfl ?_
  refine aseq ?_
  refine areg rfl ?_
  refine s_det (D.assign rfl) rfl ?_
  refine s_det (D.assign rfl) rfl ?_
  refine s_nil ?_
  refine aseq ?_
  refine aseq ?_
  refine areg rfl ?_
  refine s_det (D.move rfl) rfl ?_
  refine s_cmp (D.call (evc rfl ev0) b_shape_May (shape_May _)) rfl (fun h7 => ?_) (fun h7 => ?_)
  · replace h7 := of_decide_eq_true h7
    refine s_det (D.not rfl rfl) rfl ?_
    refine s_det (D.move rfl) rfl ?_
    refine s_yes rfl rfl ?_
    refine s_det (D.move rfl) rfl ?_
    refine s_yes rfl rfl ?_
    refine s_cmp (D.lss rfl rfl rfl) rfl (fun h11 => ?_) (fun h11 => ?_)
    · replace h11 := of_decide_eq_true h11
      refine s_det (D.pick rfl rfl rfl rfl) rfl ?_
      refine s_det (D.move rfl) rfl ?_
      refine s_no rfl rfl rfl rfl ?_
      refine s_no rfl rfl rfl rfl ?_
      refine s_no rfl rfl rfl rfl ?_
      refine s_no rfl rfl rfl rfl ?_
      refine s_det (D.pick rfl rfl rfl rfl) rfl ?_
      refine s_nil ?_
      refine acond_t rfl ?_
      refine aseq ?_
      refine areg rfl ?_
      refine s_det (D.assign rfl) rfl ?_
      refine s_det (D.assign rfl) rfl ?_
      refine s_nil ?_
      refine aret ?_
      exact ⟨[_, _], ⟨⟨rfl, rfl⟩, ⟨rfl, rfl⟩, trivial⟩, (by rw [whereS, if_neg (fun h => by omega)]; exact Wk.tup2 Wk1.nil), rfl⟩
    · replace h11 := of_decide_eq_false h11
      refine s_det (D.pick rfl rfl rfl rfl) rfl ?_
      refine s_det (D.move rfl) rfl ?_
      refine s_yes rfl rfl ?_
      refine s_det (D.move rfl) rfl ?_
      refine s_yes rfl rfl ?_
      refine s_det (D.move rfl) rfl ?_
      refine s_yes rfl rfl ?_
      refine s_det (D.call (evc rfl ev0) b_shape_Product (shape_Product _ (by first | assumption | omega))) rfl ?_
      refine s_yes rfl rfl ?_
      refine s_cmp (D.geq rfl rfl rfl) rfl (fun h17 => ?_) (fun h17 => ?_)
      · replace h17 := of_decide_eq_true h17
        refine s_det (D.pick rfl rfl rfl rfl) rfl ?_
        refine s_nil ?_
        refine acond_t rfl ?_
        refine aseq ?_
        refine areg rfl ?_
        refine s_det (D.assign rfl) rfl ?_
        refine s_det (D.assign rfl) rfl ?_
        refine s_nil ?_
        refine aret ?_
        exact ⟨[_, _], ⟨⟨rfl, rfl⟩, ⟨rfl, rfl⟩, trivial⟩, (by rw [whereS, if_neg (fun h => by omega)]; exact Wk.tup2 Wk1.nil), rfl⟩
      · replace h17 := of_decide_eq_false h17
        refine s_det (D.pick rfl rfl rfl rfl) rfl ?_
        refine s_nil ?_
        refine acond_f rfl ?_
        refine askip ?_
        refine aseq ?_
        refine areg rfl ?_
        refine s_det (D.move rfl) rfl ?_
        refine s_det (D.move rfl) rfl ?_
        refine s_det (D.call (evc rfl (evc rfl ev0)) b_shape_Numbers (shape_Numbers _ _ (by first | assumption | omega) (by first | assumption | omega) (by first | assumption | omega))) rfl ?_
        refine s_det (D.assign rfl) rfl ?_
        refine s_det (D.assign rfl) rfl ?_
        refine s_nil ?_
        refine aret ?_
        exact ⟨[_, _], ⟨⟨rfl, rfl⟩, ⟨rfl, rfl⟩, trivial⟩, (by rw [whereS, if_pos ⟨h7, by omega, by omega⟩]; exact Wk.refl _), rfl⟩
  · replace h7 := of_decide_eq_false h7
    refine s_det (D.not rfl rfl) rfl ?_
    refine s_det (D.move rfl) rfl ?_
    refine s_no rfl rfl rfl rfl ?_
    refine s_no rfl rfl rfl rfl ?_
    refine s_det (D.pick rfl rfl rfl rfl) rfl ?_
    refine s_det (D.move rfl) rfl ?_
    refine s_no rfl rfl rfl rfl ?_
    refine s_no rfl rfl rfl rfl ?_
    refine s_no rfl rfl rfl rfl ?_
    refine s_no rfl rfl rfl rfl ?_
    refine s_det (D.pick rfl rfl rfl rfl) rfl ?_
    refine s_nil ?_
    refine acond_t rfl ?_
    refine aseq ?_
    refine areg rfl ?_
    refine s_det (D.assign rfl) rfl ?_
    refine s_det (D.assign rfl) rfl ?_
    refine s_nil ?_
    refine aret ?_
    exact ⟨[_, _], ⟨⟨rfl, rfl⟩, ⟨rfl, rfl⟩, trivial⟩, (by rw [whereS, if_neg (fun h => h7 h.1)]; exact Wk.tup2 Wk1.nil), rfl⟩

set_option maxRecDepth 10000 in
theorem shape_Place (d p : List Int) (h : okD d) (hw : within d p) : Pure Try.prog 103 [ints d, ints p] (iv (place d p)) := by
  have hs := strides_length d
  have hp := within_length hw
  have h3 := h.2.1
  intro σ
  refine acalls Try.func103 rfl rfl (by decide) rfl rfl ?_
  refine aseq ?_
  refine areg rfl ?_
  refine s_det (D.assign rfl) rfl ?_
  refine s_nil ?_
  refine aseq ?_
  refine areg rfl ?_
  refine s_det (D.assign rfl) rfl ?_
  refine s_nil ?_
  refine aseq ?_
  refine aseq ?_
  refine areg rfl ?_
  refine s_det (D.move rfl) rfl ?_
  refine s_det (D.call (evc rfl ev0) b_shape_Strides (shape_Strides _ (by first | assumption | omega))) rfl ?_
  refine s_det (D.len_m rfl rfl) rfl ?_
  refine s_det (D.move rfl) rfl ?_
  refine s_nil ?_
  refine ablock ?_
  -- LOOP writes [5, 11] keeps [1, 9, 10]
  refine aloop (ι := Nat × Int) (fun s => s.1 ≤ d.length ∧ 0 ≤ s.2 ∧ s.2 ≤ 512 * s.1 ∧ s.2 + dot ((strides d).drop s.1) (p.drop s.1) = place d p) (fun s => d.length - s.1) (fun s => [(1, ints p), (5, iv s.2), (9, ints (strides d)), (10, iv (strides d).length), (11, iv s.1)]) (fun s => σ) (0, 0) ⟨by simp, by simp, by simp, by simp [dot_strides]⟩ ?_ rfl fun s hs => ?_
  · exact (.cons rfl (.cons rfl (.cons rfl (.cons rfl (.cons rfl .nil)))))
  obtain ⟨i, m⟩ := s
  obtain ⟨hi, hm0, hm1, hm⟩ := hs
  dsimp only at hi hm0 hm1 hm
  refine aseq ?_
  refine areg rfl ?_
  refine s_cmp (D.lss rfl rfl rfl) rfl (fun h12 => ?_) (fun h12 => ?_)
  · replace h12 := of_decide_eq_true h12
    have hlt : i < (strides d).length := by omega
    have hlt2 : i < p.length := by omega
    have b1 := strides_le 64 h.2.2.1 h.2.2.2 _ (List.getElem_mem hlt)
    have b2 := within_le h.2.2.1 hw _ (List.getElem_mem hlt2)
    have b3 : 0 ≤ (strides d)[i] * p[i] := Int.mul_nonneg b1.1 b2.1
    have b4 : (strides d)[i] * p[i] ≤ 64 * 8 := Int.mul_le_mul b1.2 b2.2 b2.1 (by decide)
    rw [List.drop_eq_getElem_cons hlt, List.drop_eq_getElem_cons hlt2] at hm
    simp only [dot] at hm
    refine s_nil ?_
    refine aseq ?_
    refine acond_t rfl ?_
    refine askip ?_
    refine aseq ?_
    refine ablock ?_
    refine aseq ?_
    refine areg rfl ?_
    refine s_det (D.move rfl) rfl ?_
    refine s_det (D.idx_m rfl rfl (by omega) (get_lt (i := i) hlt) rfl) rfl ?_
    refine s_det (D.load_i rfl rfl) rfl ?_
    refine s_det (D.assign rfl) rfl ?_
    refine s_det (D.assign rfl) rfl ?_
    refine s_nil ?_
    refine areg rfl ?_
    refine s_det (D.move rfl) rfl ?_
    refine s_det (D.move rfl) rfl ?_
    refine s_det (D.move rfl) rfl ?_
    refine s_det (D.move rfl) rfl ?_
    refine s_det (D.idx_m rfl rfl (by omega) (get_lt (i := i) hlt2) rfl) rfl ?_
    refine s_det (D.load_i rfl rfl) rfl ?_
    refine s_det (D.mul rfl rfl (w64 (by omega) (by omega))) rfl ?_
    refine s_det (D.add rfl rfl (w64 (by omega) (by omega))) rfl ?_
    refine s_det (D.assign rfl) rfl ?_
    refine s_nil ?_
    refine areg rfl ?_
    refine s_det (D.add rfl rfl (w64 (by omega) (by omega))) rfl ?_
    refine s_det (D.move rfl) rfl ?_
    refine s_nil ?_
    exact ⟨(i + 1, m + (strides d)[i] * p[i]), ⟨by omega, by dsimp only; omega, by dsimp only; omega, by dsimp only; omega⟩, by dsimp only; omega, (.cons rfl (.cons rfl (.cons rfl (.cons rfl (.cons rfl .nil))))), rfl⟩
  · replace h12 := of_decide_eq_false h12
    refine s_nil ?_
    refine aseq ?_
    refine acond_f rfl ?_
    refine aexit ?_
    refine aseq ?_
    refine areg rfl ?_
    refine s_det (D.move rfl) rfl ?_
    refine s_det (D.assign rfl) rfl ?_
    refine s_nil ?_
    refine aret ?_
    exact ⟨[_], ⟨⟨rfl, rfl⟩, trivial⟩, (by
      have e : p.length ≤ i := by dsimp only at h12; omega
      rw [List.drop_of_length_le (show (strides d).length ≤ i by dsimp only at h12; omega), List.drop_of_length_le e] at hm
      rw [← hm]; simp [dot, tupOf]), rfl⟩

set_option maxRecDepth 10000 in
theorem shape_At (d p : List Int) (hp : p.length ≤ 4398046511104) : Pure Try.prog 31 [ints d, ints p] (.tup [iv (atS d p).1, iv (atS d p).2]) := by
  intro σ
  refine acalls Try.func31 rfl rfl (by decide) rfl rfl ?_
  refine aseq ?_
  refine areg rfl ?_
  refine s_det (D.assign rfl) rfl ?_
  refine s_det (D.assign rfl) rfl ?_
  refine s_nil ?_
  refine aseq ?_
  refine aseq ?_
  refine areg rfl ?_
  refine s_det (D.move rfl) rfl ?_
  refine s_cmp (D.call (evc rfl ev0) b_shape_May (shape_May _)) rfl (fun h9 => ?_) (fun h9 => ?_)
  · replace h9 := of_decide_eq_true h9
    refine s_det (D.not rfl rfl) rfl ?_
    refine s_det (D.move rfl) rfl ?_
    refine s_yes rfl rfl ?_
    refine s_det (D.move rfl) rfl ?_
    refine s_yes rfl rfl ?_
    refine s_det (D.len_m rfl rfl) rfl ?_
    refine s_yes rfl rfl ?_
    refine s_det (D.move rfl) rfl ?_
    refine s_yes rfl rfl ?_
    refine s_det (D.len_m rfl rfl) rfl ?_
    refine s_yes rfl rfl ?_
    refine s_cmp (D.neq rfl rfl rfl) rfl (fun h16 => ?_) (fun h16 => ?_)
    · replace h16 := of_decide_eq_true h16
      refine s_det (D.pick rfl rfl rfl rfl) rfl ?_
      refine s_nil ?_
      refine acond_t rfl ?_
      refine aseq ?_
      refine areg rfl ?_
      refine s_det (D.assign rfl) rfl ?_
      refine s_det (D.assign rfl) rfl ?_
      refine s_nil ?_
      refine aret ?_
      exact ⟨[_, _], ⟨⟨rfl, rfl⟩, ⟨rfl, rfl⟩, trivial⟩, (by rw [atS, if_neg (fun h => by have := within_length h.2; omega)]; rfl), rfl⟩
    · replace h16 := of_decide_eq_false h16
      have hl : p.length = d.length := by omega
      refine s_det (D.pick rfl rfl rfl rfl) rfl ?_
      refine s_nil ?_
      refine acond_f rfl ?_
      refine askip ?_
      refine aseq ?_
      refine aseq ?_
      refine areg rfl ?_
      refine s_det (D.move rfl) rfl ?_
      refine s_det (D.len_m rfl rfl) rfl ?_
      refine s_det (D.move rfl) rfl ?_
      refine s_nil ?_
      refine ablock ?_
      -- LOOP writes [20] keeps [0, 1, 18, 19]
      refine aloop (ι := Nat) (fun i => i ≤ p.length ∧ ∀ j, (h : j < p.length) → (h' : j < d.length) → j < i → 0 ≤ p[j] ∧ p[j] < d[j]) (fun i => p.length - i) (fun i => [(0, ints d), (1, ints p), (18, ints p), (19, iv p.length), (20, iv i)]) (fun i => σ) 0 ⟨by omega, fun j _ _ h => by omega⟩ ?_ rfl fun i hi => ?_
      · exact (.cons rfl (.cons rfl (.cons rfl (.cons rfl (.cons rfl .nil)))))
      obtain ⟨hi, ha⟩ := hi
      refine aseq ?_
      refine areg rfl ?_
      refine s_cmp (D.lss rfl rfl rfl) rfl (fun h21 => ?_) (fun h21 => ?_)
      · replace h21 := of_decide_eq_true h21
        have hlt : i < p.length := by omega
        have hltd : i < d.length := by omega
        refine s_nil ?_
        refine aseq ?_
        refine acond_t rfl ?_
        refine askip ?_
        refine aseq ?_
        refine ablock ?_
        refine aseq ?_
        refine areg rfl ?_
        refine s_det (D.move rfl) rfl ?_
        refine s_det (D.idx_m rfl rfl (by omega) (get_lt (i := i) hlt) rfl) rfl ?_
        refine s_det (D.load_i rfl rfl) rfl ?_
        refine s_det (D.assign rfl) rfl ?_
        refine s_det (D.assign rfl) rfl ?_
        refine s_nil ?_
        refine aseq ?_
        refine areg rfl ?_
        refine s_det (D.move rfl) rfl ?_
        refine s_cmp (D.lss rfl rfl rfl) rfl (fun h26 => ?_) (fun h26 => ?_)
        · replace h26 := of_decide_eq_true h26
          refine s_det (D.move rfl) rfl ?_
          refine s_no rfl rfl rfl rfl ?_
          refine s_no rfl rfl rfl rfl ?_
          refine s_no rfl rfl rfl rfl ?_
          refine s_no rfl rfl rfl rfl ?_
          refine s_no rfl rfl rfl rfl ?_
          refine s_no rfl rfl rfl rfl ?_
          refine s_det (D.pick rfl rfl rfl rfl) rfl ?_
          refine s_nil ?_
          refine acond_t rfl ?_
          refine aseq ?_
          refine areg rfl ?_
          refine s_det (D.assign rfl) rfl ?_
          refine s_det (D.assign rfl) rfl ?_
          refine s_nil ?_
          refine aret ?_
          exact ⟨[_, _], ⟨⟨rfl, rfl⟩, ⟨rfl, rfl⟩, trivial⟩, (by rw [atS, if_neg (fun h => by have := (within_drop d p hl).1 h.2 i hlt hltd; omega)]; rfl), rfl⟩
        · replace h26 := of_decide_eq_false h26
          refine s_det (D.move rfl) rfl ?_
          refine s_yes rfl rfl ?_
          refine s_det (D.move rfl) rfl ?_
          refine s_yes rfl rfl ?_
          refine s_det (D.move rfl) rfl ?_
          refine s_yes rfl rfl ?_
          refine s_det (D.move rfl) rfl ?_
          refine s_yes rfl rfl ?_
          refine s_det (D.idx_m rfl rfl (by omega) (get_lt (i := i) hltd) rfl) rfl ?_
          refine s_yes rfl rfl ?_
          refine s_det (D.load_i rfl rfl) rfl ?_
          refine s_yes rfl rfl ?_
          refine s_cmp (D.geq rfl rfl rfl) rfl (fun h33 => ?_) (fun h33 => ?_)
          · replace h33 := of_decide_eq_true h33
            refine s_det (D.pick rfl rfl rfl rfl) rfl ?_
            refine s_nil ?_
            refine acond_t rfl ?_
            refine aseq ?_
            refine areg rfl ?_
            refine s_det (D.assign rfl) rfl ?_
            refine s_det (D.assign rfl) rfl ?_
            refine s_nil ?_
            refine aret ?_
            exact ⟨[_, _], ⟨⟨rfl, rfl⟩, ⟨rfl, rfl⟩, trivial⟩, (by rw [atS, if_neg (fun h => by have := (within_drop d p hl).1 h.2 i hlt hltd; omega)]; rfl), rfl⟩
          · replace h33 := of_decide_eq_false h33
            refine s_det (D.pick rfl rfl rfl rfl) rfl ?_
            refine s_nil ?_
            refine acond_f rfl ?_
            refine askip ?_
            refine areg rfl ?_
            refine s_det (D.add rfl rfl (w64 (by omega) (by omega))) rfl ?_
            refine s_det (D.move rfl) rfl ?_
            refine s_nil ?_
            refine ⟨i + 1, ⟨by omega, fun j h h' hj => ?_⟩, by omega, (.cons rfl (.cons rfl (.cons rfl (.cons rfl (.cons rfl .nil))))), rfl⟩
            by_cases hji : j = i
            · subst hji; exact ⟨by omega, by omega⟩
            · exact ha j h h' (by omega)
      · replace h21 := of_decide_eq_false h21
        have hw : within d p := (within_drop d p hl).2 fun j h h' => ha j h h' (by omega)
        refine s_nil ?_
        refine aseq ?_
        refine acond_f rfl ?_
        refine aexit ?_
        refine aseq ?_
        refine areg rfl ?_
        refine s_det (D.move rfl) rfl ?_
        refine s_det (D.move rfl) rfl ?_
        refine s_det (D.call (evc rfl (evc rfl ev0)) b_shape_Place (shape_Place _ _ (by first | assumption | omega) (by first | assumption | omega))) rfl ?_
        refine s_det (D.assign rfl) rfl ?_
        refine s_det (D.assign rfl) rfl ?_
        refine s_nil ?_
        refine aret ?_
        exact ⟨[_, _], ⟨⟨rfl, rfl⟩, ⟨rfl, rfl⟩, trivial⟩, (by rw [atS, if_pos ⟨h9, hw⟩]; rfl), rfl⟩
  · replace h9 := of_decide_eq_false h9
    refine s_det (D.not rfl rfl) rfl ?_
    refine s_det (D.move rfl) rfl ?_
    refine s_no rfl rfl rfl rfl ?_
    refine s_no rfl rfl rfl rfl ?_
    refine s_no rfl rfl rfl rfl ?_
    refine s_no rfl rfl rfl rfl ?_
    refine s_no rfl rfl rfl rfl ?_
    refine s_det (D.pick rfl rfl rfl rfl) rfl ?_
    refine s_nil ?_
    refine acond_t rfl ?_
    refine aseq ?_
    refine areg rfl ?_
    refine s_det (D.assign rfl) rfl ?_
    refine s_det (D.assign rfl) rfl ?_
    refine s_nil ?_
    refine aret ?_
    exact ⟨[_, _], ⟨⟨rfl, rfl⟩, ⟨rfl, rfl⟩, trivial⟩, (by rw [atS, if_neg (fun h => h9 h.1)]; rfl), rfl⟩

set_option maxRecDepth 10000 in
theorem shape_Same (a b : List Int) : Pure Try.prog 92 [ints a, ints b] (.tup [bv (sameS a b).1, iv (sameS a b).2]) := by
  intro σ
  refine acalls Try.func92 rfl rfl (by decide) rfl rfl ?_
  refine aseq ?_
  refine areg rfl ?_
  refine s_det (D.assign rfl) rfl ?_
  refine s_det (D.assign rfl) rfl ?_
  refine s_nil ?_
  refine aseq ?_
  refine aseq ?_
  refine areg rfl ?_
  refine s_det (D.move rfl) rfl ?_
  refine s_cmp (D.call (evc rfl ev0) b_shape_May (shape_May _)) rfl (fun h7 => ?_) (fun h7 => ?_)
  · replace h7 := of_decide_eq_true h7
    refine s_det (D.not rfl rfl) rfl ?_
    refine s_det (D.move rfl) rfl ?_
    refine s_yes rfl rfl ?_
    refine s_det (D.move rfl) rfl ?_
    refine s_yes rfl rfl ?_
    refine s_cmp (D.call (evc rfl ev0) b_shape_May (shape_May _)) rfl (fun h11 => ?_) (fun h11 => ?_)
    · replace h11 := of_decide_eq_true h11
      refine s_yes rfl rfl ?_
      refine s_det (D.not rfl rfl) rfl ?_
      refine s_det (D.pick rfl rfl rfl rfl) rfl ?_
      refine s_nil ?_
      refine acond_f rfl ?_
      refine askip ?_
      refine aseq ?_
      refine areg rfl ?_
      refine s_det (D.move rfl) rfl ?_
      refine s_det (D.move rfl) rfl ?_
      refine s_det (D.call (evc rfl (evc rfl ev0)) b_slices_Equal (slices_Equal a b (by have := h7.2.1; omega) (by have := h11.2.1; omega))) rfl ?_
      refine s_det (D.assign rfl) rfl ?_
      refine s_det (D.assign rfl) rfl ?_
      refine s_nil ?_
      refine aret ?_
      exact ⟨[_, _], ⟨⟨rfl, rfl⟩, ⟨rfl, rfl⟩, trivial⟩, (by rw [sameS, if_pos ⟨h7, h11⟩]; rfl), rfl⟩
    · replace h11 := of_decide_eq_false h11
      refine s_yes rfl rfl ?_
      refine s_det (D.not rfl rfl) rfl ?_
      refine s_det (D.pick rfl rfl rfl rfl) rfl ?_
      refine s_nil ?_
      refine acond_t rfl ?_
      refine aseq ?_
      refine areg rfl ?_
      refine s_det (D.assign rfl) rfl ?_
      refine s_det (D.assign rfl) rfl ?_
      refine s_nil ?_
      refine aret ?_
      exact ⟨[_, _], ⟨⟨rfl, rfl⟩, ⟨rfl, rfl⟩, trivial⟩, (by rw [sameS, if_neg (fun h => h11 h.2)]; rfl), rfl⟩
  · replace h7 := of_decide_eq_false h7
    refine s_det (D.not rfl rfl) rfl ?_
    refine s_det (D.move rfl) rfl ?_
    refine s_no rfl rfl rfl rfl ?_
    refine s_no rfl rfl rfl rfl ?_
    refine s_no rfl rfl rfl rfl ?_
    refine s_det (D.pick rfl rfl rfl rfl) rfl ?_
    refine s_nil ?_
    refine acond_t rfl ?_
    refine aseq ?_
    refine areg rfl ?_
    refine s_det (D.assign rfl) rfl ?_
    refine s_det (D.assign rfl) rfl ?_
    refine s_nil ?_
    refine aret ?_
    exact ⟨[_, _], ⟨⟨rfl, rfl⟩, ⟨rfl, rfl⟩, trivial⟩, (by rw [sameS, if_neg (fun h => h7 h.1)]; rfl), rfl⟩

set_option maxRecDepth 10000 in
theorem shape_Grows (a b : List Int) (ha : a.length ≤ 4398046511104) (hb : b.length ≤ 4398046511104) : Pure Try.prog 95 [ints a, ints b] (bv (decide (growsD a b))) := by
  intro σ
  refine acalls Try.func95 rfl rfl (by decide) rfl rfl ?_
  refine aseq ?_
  refine areg rfl ?_
  refine s_det (D.assign rfl) rfl ?_
  refine s_nil ?_
  refine aseq ?_
  refine aseq ?_
  refine areg rfl ?_
  refine s_det (D.move rfl) rfl ?_
  refine s_det (D.len_m rfl rfl) rfl ?_
  refine s_det (D.move rfl) rfl ?_
  refine s_det (D.len_m rfl rfl) rfl ?_
  refine s_cmp (D.neq rfl rfl rfl) rfl (fun h11 => ?_) (fun h11 => ?_)
  · replace h11 := of_decide_eq_true h11
    refine s_nil ?_
    refine acond_t rfl ?_
    refine aseq ?_
    refine areg rfl ?_
    refine s_det (D.assign rfl) rfl ?_
    refine s_nil ?_
    refine aret ?_
    exact ⟨[_], ⟨⟨rfl, rfl⟩, trivial⟩, bvF (fun h => by have := growsD_length h; omega), rfl⟩
  · replace h11 := of_decide_eq_false h11
    have hl : a.length = b.length := by omega
    refine s_nil ?_
    refine acond_f rfl ?_
    refine askip ?_
    refine aseq ?_
    refine aseq ?_
    refine areg rfl ?_
    refine s_det (D.move rfl) rfl ?_
    refine s_det (D.len_m rfl rfl) rfl ?_
    refine s_det (D.move rfl) rfl ?_
    refine s_nil ?_
    refine ablock ?_
    -- LOOP writes [14] keeps [1, 12, 13]
    refine aloop (ι := Nat) (fun i => i ≤ a.length ∧ (growsD a b ↔ growsD (a.drop i) (b.drop i))) (fun i => a.length - i) (fun i => [(1, ints b), (12, ints a), (13, iv a.length), (14, iv i)]) (fun i => σ) 0 ⟨by omega, by simp⟩ ?_ rfl fun i hi => ?_
    · exact (.cons rfl (.cons rfl (.cons rfl (.cons rfl .nil))))
    obtain ⟨hi, hg⟩ := hi
    refine aseq ?_
    refine areg rfl ?_
    refine s_cmp (D.lss rfl rfl rfl) rfl (fun h15 => ?_) (fun h15 => ?_)
    · replace h15 := of_decide_eq_true h15
      have hlt : i < a.length := by omega
      have hlt2 : i < b.length := by omega
      rw [growsD_drop hlt hlt2] at hg
      refine s_nil ?_
      refine aseq ?_
      refine acond_t rfl ?_
      refine askip ?_
      refine aseq ?_
      refine ablock ?_
      refine aseq ?_
      refine areg rfl ?_
      refine s_det (D.move rfl) rfl ?_
      refine s_det (D.idx_m rfl rfl (by omega) (get_lt (i := i) hlt) rfl) rfl ?_
      refine s_det (D.load_i rfl rfl) rfl ?_
      refine s_det (D.assign rfl) rfl ?_
      refine s_det (D.assign rfl) rfl ?_
      refine s_nil ?_
      refine aseq ?_
      refine areg rfl ?_
      refine s_det (D.move rfl) rfl ?_
      refine s_cmp (D.neq rfl rfl rfl) rfl (fun h20 => ?_) (fun h20 => ?_)
      · replace h20 := of_decide_eq_true h20
        refine s_det (D.move rfl) rfl ?_
        refine s_yes rfl rfl ?_
        refine s_det (D.move rfl) rfl ?_
        refine s_yes rfl rfl ?_
        refine s_det (D.move rfl) rfl ?_
        refine s_yes rfl rfl ?_
        refine s_det (D.move rfl) rfl ?_
        refine s_yes rfl rfl ?_
        refine s_det (D.idx_m rfl rfl (by omega) (get_lt (i := i) hlt2) rfl) rfl ?_
        refine s_yes rfl rfl ?_
        refine s_det (D.load_i rfl rfl) rfl ?_
        refine s_yes rfl rfl ?_
        refine s_cmp (D.neq rfl rfl rfl) rfl (fun h27 => ?_) (fun h27 => ?_)
        · replace h27 := of_decide_eq_true h27
          refine s_det (D.pick rfl rfl rfl rfl) rfl ?_
          refine s_nil ?_
          refine acond_t rfl ?_
          refine aseq ?_
          refine areg rfl ?_
          refine s_det (D.assign rfl) rfl ?_
          refine s_nil ?_
          refine aret ?_
          exact ⟨[_], ⟨⟨rfl, rfl⟩, trivial⟩, bvF (fun h => by have := (hg.1 h).1; omega), rfl⟩
        · replace h27 := of_decide_eq_false h27
          refine s_det (D.pick rfl rfl rfl rfl) rfl ?_
          refine s_nil ?_
          refine acond_f rfl ?_
          refine askip ?_
          refine areg rfl ?_
          refine s_det (D.add rfl rfl (w64 (by omega) (by omega))) rfl ?_
          refine s_det (D.move rfl) rfl ?_
          refine s_nil ?_
          exact ⟨i + 1, ⟨by omega, hg.trans ⟨fun h => h.2, fun h => ⟨.inr (by omega), h⟩⟩⟩, by omega, (.cons rfl (.cons rfl (.cons rfl (.cons rfl .nil)))), rfl⟩
      · replace h20 := of_decide_eq_false h20
        refine s_det (D.move rfl) rfl ?_
        refine s_no rfl rfl rfl rfl ?_
        refine s_no rfl rfl rfl rfl ?_
        refine s_no rfl rfl rfl rfl ?_
        refine s_no rfl rfl rfl rfl ?_
        refine s_no rfl rfl rfl rfl ?_
        refine s_no rfl rfl rfl rfl ?_
        refine s_det (D.pick rfl rfl rfl rfl) rfl ?_
        refine s_nil ?_
        refine acond_f rfl ?_
        refine askip ?_
        refine areg rfl ?_
        refine s_det (D.add rfl rfl (w64 (by omega) (by omega))) rfl ?_
        refine s_det (D.move rfl) rfl ?_
        refine s_nil ?_
        exact ⟨i + 1, ⟨by omega, hg.trans ⟨fun h => h.2, fun h => ⟨.inl (by omega), h⟩⟩⟩, by omega, (.cons rfl (.cons rfl (.cons rfl (.cons rfl .nil)))), rfl⟩
    · replace h15 := of_decide_eq_false h15
      refine s_nil ?_
      refine aseq ?_
      refine acond_f rfl ?_
      refine aexit ?_
      refine aseq ?_
      refine areg rfl ?_
      refine s_det (D.assign rfl) rfl ?_
      refine s_nil ?_
      refine aret ?_
      exact ⟨[_], ⟨⟨rfl, rfl⟩, trivial⟩, bvT (hg.2 (growsD_end (by omega) hl)), rfl⟩

set_option maxRecDepth 10000 in
theorem shape_Wider (a b : List Int) : Pure Try.prog 21 [ints a, ints b] (iv (widerS a b)) := by
  intro σ
  refine acalls Try.func21 rfl rfl (by decide) rfl rfl ?_
  refine aseq ?_
  refine areg rfl ?_
  refine s_det (D.assign rfl) rfl ?_
  refine s_nil ?_
  refine aseq ?_
  refine ablock ?_
  refine aseq ?_
  refine areg rfl ?_
  refine s_det (D.move rfl) rfl ?_
  refine s_cmp (D.call (evc rfl ev0) b_shape_May (shape_May _)) rfl (fun h7 => ?_) (fun h7 => ?_)
  · replace h7 := of_decide_eq_true h7
    refine s_det (D.not rfl rfl) rfl ?_
    refine s_det (D.move rfl) rfl ?_
    refine s_yes rfl rfl ?_
    refine s_det (D.move rfl) rfl ?_
    refine s_yes rfl rfl ?_
    refine s_cmp (D.call (evc rfl ev0) b_shape_May (shape_May _)) rfl (fun h11 => ?_) (fun h11 => ?_)
    · replace h11 := of_decide_eq_true h11
      refine s_yes rfl rfl ?_
      refine s_det (D.not rfl rfl) rfl ?_
      refine s_det (D.pick rfl rfl rfl rfl) rfl ?_
      refine s_det (D.assign rfl) rfl ?_
      refine s_nil ?_
      refine acond_f rfl ?_
      refine aseq ?_
      refine areg rfl ?_
      refine s_det (D.move rfl) rfl ?_
      refine s_det (D.move rfl) rfl ?_
      refine s_cmp (D.call (evc rfl (evc rfl ev0)) b_shape_Grows (shape_Grows a b (by have := h7.2.1; omega) (by have := h11.2.1; omega))) rfl (fun h17 => ?_) (fun h17 => ?_)
      · replace h17 := of_decide_eq_true h17
        refine s_det (D.not rfl rfl) rfl ?_
        refine s_det (D.assign rfl) rfl ?_
        refine s_nil ?_
        refine acond_f rfl ?_
        refine askip ?_
        refine aseq ?_
        refine areg rfl ?_
        refine s_det (D.assign rfl) rfl ?_
        refine s_nil ?_
        refine aret ?_
        exact ⟨[_], ⟨⟨rfl, rfl⟩, trivial⟩, (by rw [widerS, if_pos ⟨h7, h11⟩, if_pos h17]; rfl), rfl⟩
      · replace h17 := of_decide_eq_false h17
        refine s_det (D.not rfl rfl) rfl ?_
        refine s_det (D.assign rfl) rfl ?_
        refine s_nil ?_
        refine acond_t rfl ?_
        refine aseq ?_
        refine areg rfl ?_
        refine s_det (D.assign rfl) rfl ?_
        refine s_nil ?_
        refine aret ?_
        exact ⟨[_], ⟨⟨rfl, rfl⟩, trivial⟩, (by rw [widerS, if_pos ⟨h7, h11⟩, if_neg h17]; rfl), rfl⟩
    · replace h11 := of_decide_eq_false h11
      refine s_yes rfl rfl ?_
      refine s_det (D.not rfl rfl) rfl ?_
      refine s_det (D.pick rfl rfl rfl rfl) rfl ?_
      refine s_det (D.assign rfl) rfl ?_
      refine s_nil ?_
      refine acond_t rfl ?_
      refine aseq ?_
      refine areg rfl ?_
      refine s_det (D.assign rfl) rfl ?_
      refine s_nil ?_
      refine aret ?_
      exact ⟨[_], ⟨⟨rfl, rfl⟩, trivial⟩, (by rw [widerS, if_neg (fun h => h11 h.2)]; rfl), rfl⟩
  · replace h7 := of_decide_eq_false h7
    refine s_det (D.not rfl rfl) rfl ?_
    refine s_det (D.move rfl) rfl ?_
    refine s_no rfl rfl rfl rfl ?_
    refine s_no rfl rfl rfl rfl ?_
    refine s_no rfl rfl rfl rfl ?_
    refine s_det (D.pick rfl rfl rfl rfl) rfl ?_
    refine s_det (D.assign rfl) rfl ?_
    refine s_nil ?_
    refine acond_t rfl ?_
    refine aseq ?_
    refine areg rfl ?_
    refine s_det (D.assign rfl) rfl ?_
    refine s_nil ?_
    refine aret ?_
    exact ⟨[_], ⟨⟨rfl, rfl⟩, trivial⟩, (by rw [widerS, if_neg (fun h => h7 h.1)]; rfl), rfl⟩

set_option maxRecDepth 10000 in
theorem shape_Fill_s (d : List Int) (v : Int) (σ : AH) : ACalls Try.prog 25 [ints d, iv v] σ (OwnTEs (fillS d v).1 (fillS d v).2 σ) := by
  skip
  refine acalls Try.func25 rfl rfl (by decide) rfl rfl ?_
  refine aseq ?_
  refine areg rfl ?_
  refine s_act rfl (A.alloc rfl rfl rfl fun b4 hb4 => ?_)
  refine s_det (D.assign rfl) rfl ?_
  refine s_nil ?_
  refine aseq ?_
  refine aseq ?_
  refine areg rfl ?_
  refine s_det (D.move rfl) rfl ?_
  refine s_cmp (D.call (evc rfl ev0) b_shape_May (shape_May _)) rfl (fun h9 => ?_) (fun h9 => ?_)
  · replace h9 := of_decide_eq_true h9
    have hA : (fillT d v).x.length = (zerosT d).x.length := by simp [fillT, zerosT]
    have h64 : (zerosT d).x.length ≤ 64 := by have := h9.2.2.2; simp [zerosT]; omega
    refine s_det (D.not rfl rfl) rfl ?_
    refine s_nil ?_
    refine acond_f rfl ?_
    refine askip ?_
    refine aseq ?_
    refine areg rfl ?_
    refine s_det (D.move rfl) rfl ?_
    refine s_act rfl (A.call (evc rfl ev0) b_shape_New (shape_New_own _ (by first | assumption | omega) _) fun y σ' hy => ?_)
    obtain ⟨b13, c13, hb13, hc13, hn13, rfl, rfl⟩ := hy
    refine s_act rfl (A.alloc rfl rfl rfl fun b6 hb6 => ?_)
    refine s_do (A.store rfl rfl (AH.set_self ..) rfl rfl (by rfl) rfl rfl ?_)
    refine s_nil ?_
    rw [AH.set_set]
    refine afix (d := 6) rfl hb6 ?_
    refine aseq ?_
    refine aseq ?_
    refine areg rfl ?_
    refine s_det (D.field_i rfl rfl rfl) rfl ?_
    refine s_det (D.load_i rfl rfl) rfl ?_
    refine s_det (D.len_r rfl rfl) rfl ?_
    refine s_det (D.move rfl) rfl ?_
    refine s_nil ?_
    refine ablock ?_
    -- LOOP writes [17] keeps [1, 4, 6, 16]
    refine aloop (ι := Nat) (fun i => i ≤ (zerosT d).x.length) (fun i => (zerosT d).x.length - i) (fun i => [(1, iv v), (4, .ptr b4 0 [] 0), (6, .iptr (.agg [.ref b13 1 0 (zerosT d).d.length, .ref c13 1 0 (zerosT d).x.length])), (16, iv (zerosT d).x.length), (17, iv i)]) (fun i => (σ.set b4 (.row 2 [nilT])).ten b13 c13 (zerosT d).d ((fillT d v).x.take i ++ List.replicate ((zerosT d).x.length - i) 0)) 0 (by omega) ?_ (congrArg (AH.ten _ b13 c13 _) (by simp [zerosT])) fun i hi => ?_
    · exact (.cons rfl (.cons rfl (.cons rfl (.cons rfl (.cons rfl .nil)))))
    refine aseq ?_
    refine areg rfl ?_
    refine s_cmp (D.lss rfl rfl rfl) rfl (fun h18 => ?_) (fun h18 => ?_)
    · replace h18 := of_decide_eq_true h18
      refine s_nil ?_
      refine aseq ?_
      refine acond_t rfl ?_
      refine askip ?_
      refine aseq ?_
      refine ablock ?_
      refine aseq ?_
      refine areg rfl ?_
      refine s_det (D.move rfl) rfl ?_
      refine s_det (D.assign rfl) rfl ?_
      refine s_nil ?_
      refine areg rfl ?_
      refine s_det (D.field_i rfl rfl rfl) rfl ?_
      refine s_det (D.load_i rfl rfl) rfl ?_
      refine s_det (D.move rfl) rfl ?_
      refine s_det (D.move rfl) rfl ?_
      refine s_det (D.idx_r rfl rfl (by omega) rfl) rfl ?_
      refine s_do (A.store_t rfl rfl (by rw [fill_len hA hi]; omega) rfl ?_)
      refine s_nil ?_
      refine areg rfl ?_
      refine s_det (D.add rfl rfl (w64 (by omega) (by omega))) rfl ?_
      refine s_det (D.move rfl) rfl ?_
      refine s_nil ?_
      exact ⟨i + 1, by omega, by omega, (.cons rfl (.cons rfl (.cons rfl (.cons rfl (.cons rfl .nil))))), congrArg (AH.ten _ b13 c13 _) (fill_set hA (by omega) (by simp [fillT]))⟩
    · replace h18 := of_decide_eq_false h18
      refine s_nil ?_
      refine aseq ?_
      refine acond_f rfl ?_
      refine aexit ?_
      refine aseq ?_
      refine areg rfl ?_
      refine s_det (D.load_i rfl rfl) rfl ?_
      refine s_do (A.store rfl rfl (ten_cell hb13 hc13) rfl rfl (by rfl) rfl rfl ?_)
      refine s_det (D.assign rfl) rfl ?_
      refine s_nil ?_
      refine aret ?_
      exact ⟨[_, _], ⟨⟨.inr ⟨_, _, _, _, _, _, _, rfl, AH.set_self .., rfl, rfl⟩, rfl⟩, ⟨rfl, rfl⟩, trivial⟩, by rw [fillS, if_pos h9]; exact .inr ⟨_, rfl, ten_done rfl (fill_all hA (by omega)) rfl hA.symm hb4 hb13 hc13 hn13⟩⟩
  · replace h9 := of_decide_eq_false h9
    refine s_det (D.not rfl rfl) rfl ?_
    refine s_nil ?_
    refine acond_t rfl ?_
    refine aseq ?_
    refine areg rfl ?_
    refine s_det (D.build rfl rfl rfl) rfl ?_
    refine s_do (A.store rfl rfl (AH.set_self ..) rfl rfl (by rfl) rfl rfl ?_)
    refine s_det (D.assign rfl) rfl ?_
    refine s_nil ?_
    refine aret ?_
    exact ⟨[_, _], ⟨⟨.inr ⟨_, _, _, _, _, _, _, rfl, AH.set_self .., rfl, rfl⟩, rfl⟩, ⟨rfl, rfl⟩, trivial⟩, by rw [fillS, if_neg h9]; exact nil_done rfl hb4⟩

theorem shape_Fill_own (d : List Int) (v : Int) (σ : AH) : ACalls Try.prog 25 [ints d, iv v] σ (OwnTE (fillS d v).1 (fillS d v).2 σ) := (shape_Fill_s d v σ).ownTE
theorem shape_Fill (d : List Int) (v : Int) : Pure Try.prog 25 [ints d, iv v] (.tup [tv (fillS d v).1, iv (fillS d v).2]) := pure_of_ownTE fun σ => shape_Fill_own d v σ

end Go.Proofs.Ytpjcidlkdfebhaa.F
