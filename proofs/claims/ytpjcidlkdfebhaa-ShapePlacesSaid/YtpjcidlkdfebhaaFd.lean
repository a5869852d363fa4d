/- Functions of the program and of the references: what they compute, by the layer Al. Made by a program of this session (wip/al/alfill.py) out of wip/al/specs. -/
import Derived.Test.YtpjcidlkdfebhaaFc
import Derived.Test.YtpjcidlkdfebhaaProg
namespace Go.Proofs.Ytpjcidlkdfebhaa.F
open Go Go.Proofs.Al
set_option linter.unusedVariables false
set_option linter.unusedSimpArgs false
set_option maxRecDepth 10000 in
theorem gradusref1_Dims (d : List Int) : Pure Try.prog 75 [ints d] (bv (decide (okD d))) := by
  intro σ
  refine acalls Try.func75 rfl rfl (by decide) rfl rfl ?_
  refine aseq ?_
  refine areg rfl ?_
  refine s_det (D.assign rfl) rfl ?_
  refine s_nil ?_
  refine aseq ?_
  refine aseq ?_
  refine areg rfl ?_
  refine s_det (D.move rfl) rfl ?_
  refine s_det (D.len_m rfl rfl) rfl ?_
  refine s_cmp (D.call (evc rfl (evc rfl (evc rfl ev0))) b_gradusref0_Between (gradusref0_Between _ _ _)) rfl (fun h7 => ?_) (fun h7 => ?_)
  · replace h7 := of_decide_eq_true h7
    refine s_det (D.not rfl rfl) rfl ?_
    refine s_nil ?_
    refine acond_f rfl ?_
    refine askip ?_
    refine aseq ?_
    refine areg rfl ?_
    refine s_det (D.assign rfl) rfl ?_
    refine s_nil ?_
    refine aseq ?_
    refine aseq ?_
    refine areg rfl ?_
    refine s_det (D.assign rfl) rfl ?_
    refine s_nil ?_
    refine ablock ?_
    -- LOOP writes [3, 4] keeps [0]
    refine aloop (ι := Nat × Int) (fun s => s.1 ≤ d.length ∧ allR (d.take s.1) ∧ s.2 = (d.take s.1).foldl (fun a x => IntKind.i64.wrap (a * x)) 1) (fun s => d.length - s.1) (fun s => [(0, ints d), (3, iv s.2), (4, iv s.1)]) (fun s => σ) (0, 1) ⟨by simp, by simp [allR], by simp⟩ ?_ rfl fun s hs => ?_
    · exact (.cons rfl (.cons rfl (.cons rfl .nil)))
    obtain ⟨i, acc⟩ := s
    obtain ⟨hi, ha, hp⟩ := hs
    dsimp only at hi ha hp
    refine aseq ?_
    refine aseq ?_
    refine areg rfl ?_
    refine s_det (D.move rfl) rfl ?_
    refine s_det (D.move rfl) rfl ?_
    refine s_det (D.len_m rfl rfl) rfl ?_
    refine s_cmp (D.lss rfl rfl rfl) rfl (fun h12 => ?_) (fun h12 => ?_)
    · replace h12 := of_decide_eq_true h12
      have hlt : i < d.length := by dsimp only at h12; omega
      refine s_nil ?_
      refine acond_t rfl ?_
      refine askip ?_
      refine aseq ?_
      refine ablock ?_
      refine aseq ?_
      refine aseq ?_
      refine areg rfl ?_
      refine s_det (D.move rfl) rfl ?_
      refine s_det (D.move rfl) rfl ?_
      refine s_det (D.idx_m rfl rfl (by omega) (get_lt (i := i) hlt) rfl) rfl ?_
      refine s_det (D.load_i rfl rfl) rfl ?_
      refine s_cmp (D.call (evc rfl (evc rfl (evc rfl ev0))) b_gradusref0_Between (gradusref0_Between _ _ _)) rfl (fun h19 => ?_) (fun h19 => ?_)
      · replace h19 := of_decide_eq_true h19
        refine s_det (D.not rfl rfl) rfl ?_
        refine s_nil ?_
        refine acond_f rfl ?_
        refine askip ?_
        refine areg rfl ?_
        refine s_det (D.move rfl) rfl ?_
        refine s_det (D.move rfl) rfl ?_
        refine s_det (D.move rfl) rfl ?_
        refine s_det (D.idx_m rfl rfl (by omega) (get_lt (i := i) hlt) rfl) rfl ?_
        refine s_det (D.load_i rfl rfl) rfl ?_
        refine s_det (D.mul rfl rfl rfl) rfl ?_
        refine s_det (D.assign rfl) rfl ?_
        refine s_nil ?_
        refine areg rfl ?_
        refine s_det (D.move rfl) rfl ?_
        refine s_det (D.add rfl rfl (w64 (by omega) (by omega))) rfl ?_
        refine s_det (D.assign rfl) rfl ?_
        refine s_nil ?_
        exact ⟨(i + 1, IntKind.i64.wrap (acc * d[i])), ⟨hlt, allR_take ha hlt h19, by rw [foldl_take hlt, hp]⟩, by dsimp only; omega, (.cons rfl (.cons rfl (.cons rfl .nil))), rfl⟩
      · replace h19 := of_decide_eq_false h19
        refine s_det (D.not rfl rfl) rfl ?_
        refine s_nil ?_
        refine acond_t rfl ?_
        refine aseq ?_
        refine areg rfl ?_
        refine s_det (D.assign rfl) rfl ?_
        refine s_nil ?_
        refine aret ?_
        exact ⟨[_], ⟨⟨rfl, rfl⟩, trivial⟩, bvF (fun h => h19 (h.2.2.1 _ (List.getElem_mem hlt))), rfl⟩
    · replace h12 := of_decide_eq_false h12
      have e : d.take i = d := List.take_of_length_le (by dsimp only at h12; omega)
      rw [e] at ha hp
      rw [prodW1 ha (by omega)] at hp
      refine s_nil ?_
      refine acond_f rfl ?_
      refine aexit ?_
      refine aseq ?_
      refine areg rfl ?_
      refine s_det (D.move rfl) rfl ?_
      refine s_det (D.leq rfl rfl rfl) rfl ?_
      refine s_det (D.assign rfl) rfl ?_
      refine s_nil ?_
      refine aret ?_
      exact ⟨[_], ⟨⟨rfl, rfl⟩, trivial⟩, bvI (by subst hp; exact ⟨fun h => ⟨by omega, by omega, ha, h⟩, fun h => h.2.2.2⟩), rfl⟩
  · replace h7 := of_decide_eq_false h7
    refine s_det (D.not rfl rfl) rfl ?_
    refine s_nil ?_
    refine acond_t rfl ?_
    refine aseq ?_
    refine areg rfl ?_
    refine s_det (D.assign rfl) rfl ?_
    refine s_nil ?_
    refine aret ?_
    exact ⟨[_], ⟨⟨rfl, rfl⟩, trivial⟩, bvF (fun h => h7 ⟨by have := h.1; omega, by have := h.2.1; omega⟩), rfl⟩

set_option maxRecDepth 10000 in
theorem gradusref1_CellsR (d : List Int) (h : allR d) (hl : d.length ≤ 3) : Pure Try.prog 76 [ints d] (iv (prod d)) := by
  intro σ
  refine acalls Try.func76 rfl rfl (by decide) rfl rfl ?_
  refine aseq ?_
  refine areg rfl ?_
  refine s_det (D.assign rfl) rfl ?_
  refine s_nil ?_
  refine aseq ?_
  refine areg rfl ?_
  refine s_det (D.assign rfl) rfl ?_
  refine s_nil ?_
  refine aseq ?_
  refine aseq ?_
  refine areg rfl ?_
  refine s_det (D.assign rfl) rfl ?_
  refine s_nil ?_
  refine ablock ?_
  -- LOOP writes [3, 4] keeps [0]
  refine aloop (ι := Nat × Int) (fun s => s.1 ≤ d.length ∧ s.2 = (d.take s.1).foldl (fun a x => IntKind.i64.wrap (a * x)) 1) (fun s => d.length - s.1) (fun s => [(0, ints d), (3, iv s.2), (4, iv s.1)]) (fun s => σ) (0, 1) ⟨by simp, by simp⟩ ?_ rfl fun s hs => ?_
  · exact (.cons rfl (.cons rfl (.cons rfl .nil)))
  obtain ⟨i, acc⟩ := s
  obtain ⟨hi, hp⟩ := hs
  dsimp only at hi hp
  refine aseq ?_
  refine aseq ?_
  refine areg rfl ?_
  refine s_det (D.move rfl) rfl ?_
  refine s_det (D.move rfl) rfl ?_
  refine s_det (D.len_m rfl rfl) rfl ?_
  refine s_cmp (D.lss rfl rfl rfl) rfl (fun h8 => ?_) (fun h8 => ?_)
  · replace h8 := of_decide_eq_true h8
    have hlt : i < d.length := by dsimp only at h8; omega
    refine s_nil ?_
    refine acond_t rfl ?_
    refine askip ?_
    refine aseq ?_
    refine ablock ?_
    refine areg rfl ?_
    refine s_det (D.move rfl) rfl ?_
    refine s_det (D.move rfl) rfl ?_
    refine s_det (D.move rfl) rfl ?_
    refine s_det (D.idx_m rfl rfl (by omega) (get_lt (i := i) hlt) rfl) rfl ?_
    refine s_det (D.load_i rfl rfl) rfl ?_
    refine s_det (D.mul rfl rfl rfl) rfl ?_
    refine s_det (D.assign rfl) rfl ?_
    refine s_nil ?_
    refine areg rfl ?_
    refine s_det (D.move rfl) rfl ?_
    refine s_det (D.add rfl rfl (w64 (by omega) (by omega))) rfl ?_
    refine s_det (D.assign rfl) rfl ?_
    refine s_nil ?_
    exact ⟨(i + 1, IntKind.i64.wrap (acc * d[i])), ⟨hlt, by rw [foldl_take hlt, hp]⟩, by dsimp only; omega, (.cons rfl (.cons rfl (.cons rfl .nil))), rfl⟩
  · replace h8 := of_decide_eq_false h8
    refine s_nil ?_
    refine acond_f rfl ?_
    refine aexit ?_
    refine aseq ?_
    refine areg rfl ?_
    refine s_det (D.move rfl) rfl ?_
    refine s_det (D.assign rfl) rfl ?_
    refine s_nil ?_
    refine aret ?_
    exact ⟨[_], ⟨⟨rfl, rfl⟩, trivial⟩, (by
      rw [List.take_of_length_le (by dsimp only at h8; omega), prodW1 h hl] at hp
      subst hp; rfl), rfl⟩

theorem gradusref1_Cells (d : List Int) (h : okD d) : Pure Try.prog 76 [ints d] (iv (prod d)) := gradusref1_CellsR d h.2.2.1 h.2.1

set_option maxRecDepth 10000 in
theorem gradusref1_Tensor (t : Tn) : Pure Try.prog 36 [tv t] (bv (decide (okTn t))) := by
  intro σ
  refine acalls Try.func36 rfl rfl (by decide) rfl rfl ?_
  refine aseq ?_
  refine areg rfl ?_
  refine s_det (D.box_i rfl rfl) rfl ?_
  refine s_det (D.assign rfl) rfl ?_
  refine s_nil ?_
  refine aseq ?_
  refine adraw [.det 0, .det 1, .det 2, .det 3, .det 4, .det 5, .det 6, .det 7, .det 8, .det 9, .det 10, .det 11, .det 12] rfl (by kernel_rfl) ?_
  refine d_det rfl (D.field_i rfl rfl rfl) rfl ?_
  refine d_det rfl (D.load_i rfl rfl) rfl ?_
  refine d_cmp rfl (D.call (evc rfl ev0) b_gradusref1_Dims (gradusref1_Dims _)) rfl (fun h5 => ?_) (fun h5 => ?_)
  · replace h5 := of_decide_eq_true h5
    refine d_det rfl (D.move rfl) rfl ?_
    refine d_yes rfl rfl rfl (D.field_i rfl rfl rfl) rfl ?_
    refine d_yes rfl rfl rfl (D.load_i rfl rfl) rfl ?_
    refine d_yes rfl rfl rfl (D.len_m rfl rfl) rfl ?_
    refine d_yes rfl rfl rfl (D.field_i rfl rfl rfl) rfl ?_
    refine d_yes rfl rfl rfl (D.load_i rfl rfl) rfl ?_
    refine d_yes rfl rfl rfl (D.call (evc rfl ev0) b_gradusref1_Cells (gradusref1_Cells _ (by first | assumption | omega))) rfl ?_
    refine d_yes rfl rfl rfl (D.eql rfl rfl rfl) rfl ?_
    refine d_det rfl (D.pick rfl rfl rfl rfl) rfl ?_
    refine d_det rfl (D.assign rfl) rfl ?_
    refine d_nil ?_
    refine aret ?_
    exact ⟨[_], ⟨⟨rfl, rfl⟩, trivial⟩, bvI ⟨fun h => And.intro h5 h, fun h => h.2⟩, rfl⟩
  · replace h5 := of_decide_eq_false h5
    refine d_det rfl (D.move rfl) rfl ?_
    refine d_no rfl rfl rfl rfl rfl ?_
    refine d_no rfl rfl rfl rfl rfl ?_
    refine d_no rfl rfl rfl rfl rfl ?_
    refine d_no rfl rfl rfl rfl rfl ?_
    refine d_no rfl rfl rfl rfl rfl ?_
    refine d_no rfl rfl rfl rfl rfl ?_
    refine d_no rfl rfl rfl rfl rfl ?_
    refine d_det rfl (D.pick rfl rfl rfl rfl) rfl ?_
    refine d_det rfl (D.assign rfl) rfl ?_
    refine d_nil ?_
    refine aret ?_
    exact ⟨[_], ⟨⟨rfl, rfl⟩, trivial⟩, bvF fun h => h5 h.1, rfl⟩

set_option maxRecDepth 10000 in
theorem gradusref1_Steps_own (d : List Int) (h : okD d) (σ : AH) : ACalls Try.prog 87 [ints d] σ (OwnS iv 1 (strides d) σ) := by
  have hs := strides_length d
  have h3 := h.2.1
  refine acalls Try.func87 rfl rfl (by decide) rfl rfl ?_
  refine aseq ?_
  refine areg rfl ?_
  refine s_det (D.assign rfl) rfl ?_
  refine s_nil ?_
  refine aseq ?_
  refine areg rfl ?_
  refine s_det (D.move rfl) rfl ?_
  refine s_det (D.len_m rfl rfl) rfl ?_
  refine s_act rfl (A.make_x rfl sl_int (by omega) fun b8 hb8 => ?_)
  refine s_det (D.assign rfl) rfl ?_
  refine s_nil ?_
  refine aseq ?_
  refine areg rfl ?_
  refine s_det (D.assign rfl) rfl ?_
  refine s_nil ?_
  refine aseq ?_
  refine aseq ?_
  refine areg rfl ?_
  refine s_det (D.move rfl) rfl ?_
  refine s_det (D.len_m rfl rfl) rfl ?_
  refine s_det (D.sub rfl rfl (w64 (by omega) (by omega))) rfl ?_
  refine s_det (D.assign rfl) rfl ?_
  refine s_nil ?_
  refine ablock ?_
  -- LOOP writes [4, 5] keeps [0, 3]
  refine aloop (ι := Nat) (fun m => m ≤ d.length) (fun m => m) (fun m => [(0, ints d), (3, .ref b8 1 0 d.length), (4, iv (prod (d.drop m))), (5, iv ((m : Int) - 1))]) (fun m => σ.set b8 (rowI (List.replicate m 0 ++ (strides d).drop m))) d.length (Nat.le_refl _) ?_ (by rw [List.drop_of_length_le (by omega)]; simp) fun m hm => ?_
  · exact .cons rfl (.cons rfl (.cons (by rw [List.drop_of_length_le (by omega)]; rfl) (.cons rfl .nil)))
  refine aseq ?_
  refine aseq ?_
  refine areg rfl ?_
  refine s_det (D.move rfl) rfl ?_
  refine s_cmp (D.geq rfl rfl rfl) rfl (fun h13 => ?_) (fun h13 => ?_)
  · replace h13 := of_decide_eq_true h13
    obtain ⟨i, rfl⟩ : ∃ i, m = i + 1 := ⟨m - 1, by omega⟩
    have hlt : i < d.length := by omega
    have e : (((i + 1 : Nat) : Int) - 1) = (i : Int) := by omega
    have hp := prod_drop hlt
    have hq := prod_small (allR_drop h.2.2.1 i) (by simp; omega)
    have hq' : -9223372036854775808 ≤ prod (d.drop (i + 1)) * d[i] ∧ prod (d.drop (i + 1)) * d[i] ≤ 9223372036854775807 := by rw [Int.mul_comm, ← hp]; omega
    rw [Int.mul_comm] at hp
    rw [e]
    refine s_nil ?_
    refine acond_t rfl ?_
    refine askip ?_
    refine aseq ?_
    refine ablock ?_
    refine aseq ?_
    refine areg rfl ?_
    refine s_det (D.move rfl) rfl ?_
    refine s_det (D.move rfl) rfl ?_
    refine s_det (D.move rfl) rfl ?_
    refine s_det (D.idx_r rfl rfl (j := i) hlt rfl) rfl ?_
    refine s_do (A.store_r rfl rfl (by rw [fillr_len (by omega)]; omega) rfl ?_)
    refine s_nil ?_
    refine areg rfl ?_
    refine s_det (D.move rfl) rfl ?_
    refine s_det (D.move rfl) rfl ?_
    refine s_det (D.move rfl) rfl ?_
    refine s_det (D.idx_m rfl rfl (by omega) (get_lt (i := i) hlt) rfl) rfl ?_
    refine s_det (D.load_i rfl rfl) rfl ?_
    refine s_det (D.mul rfl rfl (w64 hq'.1 hq'.2)) rfl ?_
    refine s_det (D.assign rfl) rfl ?_
    refine s_nil ?_
    refine areg rfl ?_
    refine s_det (D.move rfl) rfl ?_
    refine s_det (D.sub rfl rfl (w64 (by omega) (by omega))) rfl ?_
    refine s_det (D.assign rfl) rfl ?_
    refine s_nil ?_
    refine ⟨i, by omega, by omega, .cons rfl (.cons rfl (.cons ?_ (.cons rfl .nil))), ?_⟩
    · rw [hp]; rfl
    · rw [fillr_set (by omega) (strides_get d i hlt)]
  · replace h13 := of_decide_eq_false h13
    refine s_nil ?_
    refine acond_f rfl ?_
    refine aexit ?_
    refine aseq ?_
    refine areg rfl ?_
    refine s_det (D.move rfl) rfl ?_
    refine s_det (D.assign rfl) rfl ?_
    refine s_nil ?_
    refine aret ?_
    exact ⟨[_], ⟨⟨rfl, rfl⟩, trivial⟩, ⟨b8, hb8, by simp [hs, tupOf], by rw [show m = 0 by omega]; simp⟩⟩

theorem gradusref1_Steps (d : List Int) (h : okD d) : Pure Try.prog 87 [ints d] (ints (strides d)) := pure_of_own fun σ => gradusref1_Steps_own d h σ

set_option maxRecDepth 10000 in
theorem gradusref1_At (d p : List Int) (h : okD d) (hw : within d p) : Pure Try.prog 89 [ints d, ints p] (iv (place d p)) := by
  have hp := within_length hw
  have h3 := h.2.1
  have hr := place_range h.2.2.1 hw
  have h64 := h.2.2.2
  intro σ
  refine acalls Try.func89 rfl rfl (by decide) rfl rfl ?_
  refine aseq ?_
  refine areg rfl ?_
  refine s_det (D.assign rfl) rfl ?_
  refine s_nil ?_
  refine aseq ?_
  refine areg rfl ?_
  refine s_det (D.assign rfl) rfl ?_
  refine s_nil ?_
  refine aseq ?_
  refine aseq ?_
  refine areg rfl ?_
  refine s_det (D.assign rfl) rfl ?_
  refine s_nil ?_
  refine ablock ?_
  -- LOOP writes [5, 6] keeps [0, 1]
  refine aloop (ι := Nat × Int) (fun s => s.1 ≤ d.length ∧ 0 ≤ s.2 ∧ s.2 * prod (d.drop s.1) + place (d.drop s.1) (p.drop s.1) = place d p) (fun s => d.length - s.1) (fun s => [(0, ints d), (1, ints p), (5, iv s.2), (6, iv s.1)]) (fun s => σ) (0, 0) ⟨by simp, by simp, by simp⟩ ?_ rfl fun s hs => ?_
  · exact (.cons rfl (.cons rfl (.cons rfl (.cons rfl .nil))))
  obtain ⟨i, m⟩ := s
  obtain ⟨hi, hm0, hm⟩ := hs
  dsimp only at hi hm0 hm
  refine aseq ?_
  refine aseq ?_
  refine areg rfl ?_
  refine s_det (D.move rfl) rfl ?_
  refine s_det (D.move rfl) rfl ?_
  refine s_det (D.len_m rfl rfl) rfl ?_
  refine s_cmp (D.lss rfl rfl rfl) rfl (fun h10 => ?_) (fun h10 => ?_)
  · replace h10 := of_decide_eq_true h10
    have hlt : i < d.length := by dsimp only at h10; omega
    have hlt2 : i < p.length := by omega
    have b1 := h.2.2.1 _ (List.getElem_mem hlt)
    have b2 := within_le h.2.2.1 hw _ (List.getElem_mem hlt2)
    have b3 := prod_pos (allR_drop h.2.2.1 i)
    have b4 := (place_range (allR_drop h.2.2.1 i) (within_dropn i hw)).1
    have b5 := Int.mul_le_mul_of_nonneg_left b3 hm0
    have b6 : 0 ≤ m * d[i] := Int.mul_nonneg hm0 (by have := b1.1; omega)
    have b7 : m * d[i] ≤ 64 * 8 := Int.mul_le_mul (by omega) b1.2 (by have := b1.1; omega) (by decide)
    rw [place_drop hlt hlt2, prod_drop hlt] at hm
    refine s_nil ?_
    refine acond_t rfl ?_
    refine askip ?_
    refine aseq ?_
    refine ablock ?_
    refine adraw [.det 0, .det 1, .det 2, .det 3, .det 4, .det 5, .det 6, .det 7, .det 8, .det 9, .det 10, .det 11] rfl (by kernel_rfl) ?_
    refine d_det rfl (D.move rfl) rfl ?_
    refine d_det rfl (D.move rfl) rfl ?_
    refine d_det rfl (D.move rfl) rfl ?_
    refine d_det rfl (D.idx_m rfl rfl (by omega) (get_lt (i := i) hlt) rfl) rfl ?_
    refine d_det rfl (D.load_i rfl rfl) rfl ?_
    refine d_det rfl (D.mul rfl rfl (w64 (x := m * d[i]) (by omega) (by omega))) rfl ?_
    refine d_det rfl (D.move rfl) rfl ?_
    refine d_det rfl (D.move rfl) rfl ?_
    refine d_det rfl (D.idx_m rfl rfl (by omega) (get_lt (i := i) hlt2) rfl) rfl ?_
    refine d_det rfl (D.load_i rfl rfl) rfl ?_
    refine d_det rfl (D.add rfl rfl (w64 (x := m * d[i] + p[i]) (by omega) (by omega))) rfl ?_
    refine d_det rfl (D.assign rfl) rfl ?_
    refine d_nil ?_
    refine areg rfl ?_
    refine s_det (D.move rfl) rfl ?_
    refine s_det (D.add rfl rfl (w64 (by omega) (by omega))) rfl ?_
    refine s_det (D.assign rfl) rfl ?_
    refine s_nil ?_
    exact ⟨(i + 1, m * d[i] + p[i]), ⟨hlt, by dsimp only; omega, by dsimp only; rw [← hm, Int.add_mul, Int.mul_assoc, Int.mul_comm p[i], Int.add_assoc]⟩, by dsimp only; omega, (.cons rfl (.cons rfl (.cons rfl (.cons rfl .nil)))), rfl⟩
  · replace h10 := of_decide_eq_false h10
    refine s_nil ?_
    refine acond_f rfl ?_
    refine aexit ?_
    refine aseq ?_
    refine areg rfl ?_
    refine s_det (D.move rfl) rfl ?_
    refine s_det (D.assign rfl) rfl ?_
    refine s_nil ?_
    refine aret ?_
    exact ⟨[_], ⟨⟨rfl, rfl⟩, trivial⟩, (by
      rw [List.drop_of_length_le (show d.length ≤ i by dsimp only at h10; omega), List.drop_of_length_le (show p.length ≤ i by dsimp only at h10; omega)] at hm
      rw [← hm]; simp [prod, place, tupOf]), rfl⟩

set_option maxRecDepth 10000 in
theorem gradusref1_Where_own (d : List Int) (n : Int) (h : okD d) (h0 : 0 ≤ n) (hn : n < prod d) (σ : AH) : ACalls Try.prog 91 [ints d, iv n] σ (OwnS iv 1 (nums d n) σ) := by
  have ha := nums_length d n
  have h3 := h.2.1
  have h64 := h.2.2.2
  refine acalls Try.func91 rfl rfl (by decide) rfl rfl ?_
  refine aseq ?_
  refine areg rfl ?_
  refine s_det (D.assign rfl) rfl ?_
  refine s_nil ?_
  refine aseq ?_
  refine areg rfl ?_
  refine s_det (D.move rfl) rfl ?_
  refine s_det (D.len_m rfl rfl) rfl ?_
  refine s_act rfl (A.make_x rfl sl_int (by omega) fun b9 hb9 => ?_)
  refine s_det (D.assign rfl) rfl ?_
  refine s_nil ?_
  refine aseq ?_
  refine aseq ?_
  refine areg rfl ?_
  refine s_det (D.move rfl) rfl ?_
  refine s_det (D.len_m rfl rfl) rfl ?_
  refine s_det (D.sub rfl rfl (w64 (by omega) (by omega))) rfl ?_
  refine s_det (D.assign rfl) rfl ?_
  refine s_nil ?_
  refine ablock ?_
  -- LOOP writes [1, 6] keeps [0, 5]
  refine aloop (ι := Nat) (fun m => m ≤ d.length) (fun m => m) (fun m => [(0, ints d), (1, iv (n / prod (d.drop m))), (5, .ref b9 1 0 d.length), (6, iv ((m : Int) - 1))]) (fun m => σ.set b9 (rowI (List.replicate m 0 ++ (nums d n).drop m))) d.length (Nat.le_refl _) ?_ (by rw [List.drop_of_length_le (by omega)]; simp) fun m hm => ?_
  · exact .cons rfl (.cons (by rw [List.drop_of_length_le (by omega)]; simp [prod]; rfl) (.cons rfl (.cons rfl .nil)))
  refine aseq ?_
  refine aseq ?_
  refine areg rfl ?_
  refine s_det (D.move rfl) rfl ?_
  refine s_cmp (D.geq rfl rfl rfl) rfl (fun h14 => ?_) (fun h14 => ?_)
  · replace h14 := of_decide_eq_true h14
    obtain ⟨i, rfl⟩ : ∃ i, m = i + 1 := ⟨m - 1, by omega⟩
    have hlt : i < d.length := by omega
    have e : (((i + 1 : Nat) : Int) - 1) = (i : Int) := by omega
    have b1 := h.2.2.1 _ (List.getElem_mem hlt)
    have b3 := prod_pos (allR_drop h.2.2.1 (i + 1))
    have q0 := Int.ediv_nonneg h0 (show 0 ≤ prod (d.drop (i + 1)) by omega)
    have q1 : n / prod (d.drop (i + 1)) ≤ n := Int.ediv_le_self _ h0
    have hg := nums_get h.2.2.1 h0 hn i (by omega) hlt
    have hdd : n / prod (d.drop (i + 1)) / d[i] = n / prod (d.drop i) := by rw [Int.ediv_ediv_of_nonneg (by omega), prod_drop hlt, Int.mul_comm]
    rw [e]
    refine s_nil ?_
    refine acond_t rfl ?_
    refine askip ?_
    refine aseq ?_
    refine ablock ?_
    refine aseq ?_
    refine areg rfl ?_
    refine s_det (D.move rfl) rfl ?_
    refine s_det (D.move rfl) rfl ?_
    refine s_det (D.move rfl) rfl ?_
    refine s_det (D.move rfl) rfl ?_
    refine s_det (D.move rfl) rfl ?_
    refine s_det (D.idx_m rfl rfl (by omega) (get_lt (i := i) hlt) rfl) rfl ?_
    refine s_det (D.load_i rfl rfl) rfl ?_
    refine s_det (D.rem rfl rfl (by have := b1.1; omega) (tmodw q0)) rfl ?_
    refine s_det (D.idx_r rfl rfl (j := i) hlt rfl) rfl ?_
    refine s_do (A.store_r rfl rfl (by rw [fillr_len (by omega)]; omega) rfl ?_)
    refine s_nil ?_
    refine areg rfl ?_
    refine s_det (D.move rfl) rfl ?_
    refine s_det (D.move rfl) rfl ?_
    refine s_det (D.move rfl) rfl ?_
    refine s_det (D.idx_m rfl rfl (by omega) (get_lt (i := i) hlt) rfl) rfl ?_
    refine s_det (D.load_i rfl rfl) rfl ?_
    refine s_det (D.quo rfl rfl (by have := b1.1; omega) (tdivw q0 (by omega) b1.1)) rfl ?_
    refine s_det (D.assign rfl) rfl ?_
    refine s_nil ?_
    refine areg rfl ?_
    refine s_det (D.move rfl) rfl ?_
    refine s_det (D.sub rfl rfl (w64 (by omega) (by omega))) rfl ?_
    refine s_det (D.assign rfl) rfl ?_
    refine s_nil ?_
    refine ⟨i, by omega, by omega, .cons rfl (.cons ?_ (.cons rfl (.cons rfl .nil))), ?_⟩
    · rw [← hdd]; rfl
    · rw [fillr_set (by omega) hg]
  · replace h14 := of_decide_eq_false h14
    refine s_nil ?_
    refine acond_f rfl ?_
    refine aexit ?_
    refine aseq ?_
    refine areg rfl ?_
    refine s_det (D.move rfl) rfl ?_
    refine s_det (D.assign rfl) rfl ?_
    refine s_nil ?_
    refine aret ?_
    exact ⟨[_], ⟨⟨rfl, rfl⟩, trivial⟩, ⟨b9, hb9, by simp [ha, tupOf], by rw [show m = 0 by omega]; simp⟩⟩

theorem gradusref1_Where (d : List Int) (n : Int) (h : okD d) (h0 : 0 ≤ n) (hn : n < prod d) : Pure Try.prog 91 [ints d, iv n] (ints (nums d n)) := pure_of_own fun σ => gradusref1_Where_own d n h h0 hn σ

set_option maxRecDepth 10000 in
theorem gradusref1_Wider (a b : List Int) (ha : a.length ≤ 4398046511104) (hb : b.length ≤ 4398046511104) : Pure Try.prog 22 [ints a, ints b] (bv (decide (growsD a b))) := by
  intro σ
  refine acalls Try.func22 rfl rfl (by decide) rfl rfl ?_
  refine aseq ?_
  refine areg rfl ?_
  refine s_det (D.assign rfl) rfl ?_
  refine s_nil ?_
  refine aseq ?_
  refine aseq ?_
  refine areg rfl ?_
  refine s_det (D.move rfl) rfl ?_
  refine s_det (D.len_m rfl rfl) rfl ?_
  refine s_det (D.move rfl) rfl ?_
  refine s_det (D.len_m rfl rfl) rfl ?_
  refine s_cmp (D.neq rfl rfl rfl) rfl (fun h10 => ?_) (fun h10 => ?_)
  · replace h10 := of_decide_eq_true h10
    refine s_nil ?_
    refine acond_t rfl ?_
    refine aseq ?_
    refine areg rfl ?_
    refine s_det (D.assign rfl) rfl ?_
    refine s_nil ?_
    refine aret ?_
    exact ⟨[_], ⟨⟨rfl, rfl⟩, trivial⟩, bvF (fun h => by have := growsD_length h; omega), rfl⟩
  · replace h10 := of_decide_eq_false h10
    have hl : a.length = b.length := by omega
    refine s_nil ?_
    refine acond_f rfl ?_
    refine askip ?_
    refine aseq ?_
    refine aseq ?_
    refine areg rfl ?_
    refine s_det (D.assign rfl) rfl ?_
    refine s_nil ?_
    refine ablock ?_
    -- LOOP writes [5] keeps [0, 1]
    refine aloop (ι := Nat) (fun i => i ≤ a.length ∧ (growsD a b ↔ growsD (a.drop i) (b.drop i))) (fun i => a.length - i) (fun i => [(0, ints a), (1, ints b), (5, iv i)]) (fun i => σ) 0 ⟨by omega, by simp⟩ ?_ rfl fun i hi => ?_
    · exact (.cons rfl (.cons rfl (.cons rfl .nil)))
    obtain ⟨hi, hg⟩ := hi
    refine aseq ?_
    refine aseq ?_
    refine areg rfl ?_
    refine s_det (D.move rfl) rfl ?_
    refine s_det (D.move rfl) rfl ?_
    refine s_det (D.len_m rfl rfl) rfl ?_
    refine s_cmp (D.lss rfl rfl rfl) rfl (fun h14 => ?_) (fun h14 => ?_)
    · replace h14 := of_decide_eq_true h14
      have hlt : i < a.length := by omega
      have hlt2 : i < b.length := by omega
      rw [growsD_drop hlt hlt2] at hg
      refine s_nil ?_
      refine acond_t rfl ?_
      refine askip ?_
      refine aseq ?_
      refine ablock ?_
      refine aseq ?_
      refine adraw [.det 0, .det 1, .det 2, .det 3, .det 4, .det 5, .det 6, .det 7, .det 8, .det 9, .det 10, .det 11, .det 12, .det 13, .det 14, .det 15] rfl (by kernel_rfl) ?_
      refine d_det rfl (D.move rfl) rfl ?_
      refine d_det rfl (D.move rfl) rfl ?_
      refine d_det rfl (D.idx_m rfl rfl (by omega) (get_lt (i := i) hlt) rfl) rfl ?_
      refine d_det rfl (D.load_i rfl rfl) rfl ?_
      refine d_det rfl (D.move rfl) rfl ?_
      refine d_det rfl (D.move rfl) rfl ?_
      refine d_det rfl (D.idx_m rfl rfl (by omega) (get_lt (i := i) hlt2) rfl) rfl ?_
      refine d_det rfl (D.load_i rfl rfl) rfl ?_
      refine d_cmp rfl (D.neq rfl rfl rfl) rfl (fun h25 => ?_) (fun h25 => ?_)
      · replace h25 := of_decide_eq_true h25
        refine d_det rfl (D.move rfl) rfl ?_
        refine d_yes rfl rfl rfl (D.move rfl) rfl ?_
        refine d_yes rfl rfl rfl (D.move rfl) rfl ?_
        refine d_yes rfl rfl rfl (D.idx_m rfl rfl (by omega) (get_lt (i := i) hlt) rfl) rfl ?_
        refine d_yes rfl rfl rfl (D.load_i rfl rfl) rfl ?_
        refine d_yesC rfl rfl rfl (D.neq rfl rfl rfl) rfl (fun h31 => ?_) (fun h31 => ?_)
        · replace h31 := of_decide_eq_true h31
          refine d_det rfl (D.pick rfl rfl rfl rfl) rfl ?_
          refine d_nil ?_
          refine acond_t rfl ?_
          refine aseq ?_
          refine areg rfl ?_
          refine s_det (D.assign rfl) rfl ?_
          refine s_nil ?_
          refine aret ?_
          exact ⟨[_], ⟨⟨rfl, rfl⟩, trivial⟩, bvF (fun h => by have := (hg.1 h).1; omega), rfl⟩
        · replace h31 := of_decide_eq_false h31
          refine d_det rfl (D.pick rfl rfl rfl rfl) rfl ?_
          refine d_nil ?_
          refine acond_f rfl ?_
          refine askip ?_
          refine areg rfl ?_
          refine s_det (D.move rfl) rfl ?_
          refine s_det (D.add rfl rfl (w64 (by omega) (by omega))) rfl ?_
          refine s_det (D.assign rfl) rfl ?_
          refine s_nil ?_
          exact ⟨i + 1, ⟨by omega, hg.trans ⟨fun h => h.2, fun h => ⟨.inl (by omega), h⟩⟩⟩, by omega, (.cons rfl (.cons rfl (.cons rfl .nil))), rfl⟩
      · replace h25 := of_decide_eq_false h25
        refine d_det rfl (D.move rfl) rfl ?_
        refine d_no rfl rfl rfl rfl rfl ?_
        refine d_no rfl rfl rfl rfl rfl ?_
        refine d_no rfl rfl rfl rfl rfl ?_
        refine d_no rfl rfl rfl rfl rfl ?_
        refine d_no rfl rfl rfl rfl rfl ?_
        refine d_det rfl (D.pick rfl rfl rfl rfl) rfl ?_
        refine d_nil ?_
        refine acond_f rfl ?_
        refine askip ?_
        refine areg rfl ?_
        refine s_det (D.move rfl) rfl ?_
        refine s_det (D.add rfl rfl (w64 (by omega) (by omega))) rfl ?_
        refine s_det (D.assign rfl) rfl ?_
        refine s_nil ?_
        exact ⟨i + 1, ⟨by omega, hg.trans ⟨fun h => h.2, fun h => ⟨.inr (by omega), h⟩⟩⟩, by omega, (.cons rfl (.cons rfl (.cons rfl .nil))), rfl⟩
    · replace h14 := of_decide_eq_false h14
      refine s_nil ?_
      refine acond_f rfl ?_
      refine aexit ?_
      refine aseq ?_
      refine areg rfl ?_
      refine s_det (D.assign rfl) rfl ?_
      refine s_nil ?_
      refine aret ?_
      exact ⟨[_], ⟨⟨rfl, rfl⟩, trivial⟩, bvT (hg.2 (growsD_end (by omega) hl)), rfl⟩

end Go.Proofs.Ytpjcidlkdfebhaa.F
