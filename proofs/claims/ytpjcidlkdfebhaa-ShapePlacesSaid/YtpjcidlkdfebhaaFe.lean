/- Functions of the program and of the references: what they compute, by the layer Al. Made by a program of this session (wip/al/alfill.py) out of wip/al/specs. -/
import Derived.Test.YtpjcidlkdfebhaaFd
import Derived.Test.YtpjcidlkdfebhaaProg
namespace Go.Proofs.Ytpjcidlkdfebhaa.F
open Go Go.Proofs.Al
set_option linter.unusedVariables false
set_option linter.unusedSimpArgs false
set_option maxRecDepth 10000 in
theorem gradusref1_less_own (d : List Int) (n : Int) (h : okD d) (hn : 1 ≤ n) (σ : AH) : ACalls Try.prog 118 [ints d, iv n] σ (OwnS iv 1 (lessD d n) σ) := by
  obtain ⟨k, hk⟩ : ∃ k, d.length = k + 1 := ⟨d.length - 1, by have := h.1; omega⟩
  have h3 := h.2.1
  have e : (d.length : Int) - 1 = (k : Int) := by omega
  have hlt : k < d.length := by omega
  have b1 := h.2.2.1 _ (List.getElem_mem hlt)
  refine acalls Try.func118 rfl rfl (by decide) rfl rfl ?_
  refine aseq ?_
  refine areg rfl ?_
  refine s_det (D.assign rfl) rfl ?_
  refine s_nil ?_
  refine aseq ?_
  refine areg rfl ?_
  refine s_det (D.move rfl) rfl ?_
  refine s_act rfl (A.call (evc rfl ev0) b_gradusref0_CopyNumbers (gradusref0_CopyNumbers_own d (by omega) _) fun y σ' hy => ?_)
  obtain ⟨b7, hb7, rfl, rfl⟩ := hy
  refine s_det (D.assign rfl) rfl ?_
  refine s_nil ?_
  refine aseq ?_
  refine areg rfl ?_
  refine s_det (D.move rfl) rfl ?_
  refine s_det (D.move rfl) rfl ?_
  refine s_det (D.len_r rfl rfl) rfl ?_
  refine s_det (D.sub rfl rfl (r := (k : Int)) (by rw [e]; exact w64 (by omega) (by omega))) rfl ?_
  refine s_det (D.move rfl) rfl ?_
  refine s_det (D.move rfl) rfl ?_
  refine s_det (D.len_r rfl rfl) rfl ?_
  refine s_det (D.sub rfl rfl (r := (k : Int)) (by rw [e]; exact w64 (by omega) (by omega))) rfl ?_
  refine s_det (D.idx_r rfl rfl (by omega) rfl) rfl ?_
  refine s_own (AH.set_self ..) (D.load_x rfl (get_lt hlt) rfl) rfl ?_
  refine s_det (D.move rfl) rfl ?_
  refine s_det (D.quo rfl rfl (by omega) (tdivw (by have := b1.1; omega) (by have := b1.2; omega) hn)) rfl ?_
  refine s_det (D.idx_r rfl rfl (by omega) rfl) rfl ?_
  refine s_do (A.store_r rfl rfl hlt rfl ?_)
  refine s_nil ?_
  refine aseq ?_
  refine areg rfl ?_
  refine s_det (D.move rfl) rfl ?_
  refine s_det (D.assign rfl) rfl ?_
  refine s_nil ?_
  refine aret ?_
  exact ⟨[_], ⟨⟨rfl, rfl⟩, trivial⟩, ⟨b7, hb7, by simp [lessD, tupOf], by rw [lessD, lastI_get (by omega)]; simp only [hk, Nat.add_sub_cancel]⟩⟩

theorem gradusref1_less (d : List Int) (n : Int) (h : okD d) (hn : 1 ≤ n) : Pure Try.prog 118 [ints d, iv n] (ints (lessD d n)) := pure_of_own fun σ => gradusref1_less_own d n h hn σ

set_option maxRecDepth 10000 in
theorem gradusref1_narrow_own (d p : List Int) (hl : p.length = d.length) (h3 : d.length ≤ 3) (σ : AH) : ACalls Try.prog 117 [ints d, ints p] σ (OwnS iv 1 (zeroL d p) σ) := by
  have hA := zeroL_length d p
  refine acalls Try.func117 rfl rfl (by decide) rfl rfl ?_
  refine aseq ?_
  refine areg rfl ?_
  refine s_det (D.assign rfl) rfl ?_
  refine s_nil ?_
  refine aseq ?_
  refine areg rfl ?_
  refine s_det (D.move rfl) rfl ?_
  refine s_act rfl (A.call (evc rfl ev0) b_gradusref0_CopyNumbers (gradusref0_CopyNumbers_own p (by omega) _) fun y σ' hy => ?_)
  obtain ⟨b8, hb8, rfl, rfl⟩ := hy
  refine s_det (D.assign rfl) rfl ?_
  refine s_nil ?_
  refine aseq ?_
  refine aseq ?_
  refine areg rfl ?_
  refine s_det (D.assign rfl) rfl ?_
  refine s_nil ?_
  refine ablock ?_
  -- LOOP writes [6] keeps [0, 5]
  refine aloop (ι := Nat) (fun i => i ≤ p.length) (fun i => p.length - i) (fun i => [(0, ints d), (5, .ref b8 1 0 p.length), (6, iv i)]) (fun i => σ.set b8 (rowI ((zeroL d p).take i ++ p.drop i))) 0 (by omega) ?_ rfl fun i hi => ?_
  · exact (.cons rfl (.cons rfl (.cons rfl .nil)))
  refine aseq ?_
  refine aseq ?_
  refine areg rfl ?_
  refine s_det (D.move rfl) rfl ?_
  refine s_det (D.move rfl) rfl ?_
  refine s_det (D.len_r rfl rfl) rfl ?_
  refine s_cmp (D.lss rfl rfl rfl) rfl (fun h12 => ?_) (fun h12 => ?_)
  · replace h12 := of_decide_eq_true h12
    have hlt : i < p.length := by omega
    have hltd : i < d.length := by omega
    have hg := zeroL_get d p i hltd hlt (by omega)
    refine s_nil ?_
    refine acond_t rfl ?_
    refine askip ?_
    refine aseq ?_
    refine ablock ?_
    refine aseq ?_
    refine areg rfl ?_
    refine s_det (D.move rfl) rfl ?_
    refine s_det (D.move rfl) rfl ?_
    refine s_det (D.idx_m rfl rfl (by omega) (get_lt (i := i) hltd) rfl) rfl ?_
    refine s_det (D.load_i rfl rfl) rfl ?_
    refine s_cmp (D.eql rfl rfl rfl) rfl (fun h19 => ?_) (fun h19 => ?_)
    · replace h19 := of_decide_eq_true h19
      refine s_nil ?_
      refine acond_t rfl ?_
      refine areg rfl ?_
      refine s_det (D.move rfl) rfl ?_
      refine s_det (D.move rfl) rfl ?_
      refine s_det (D.idx_r rfl rfl (by omega) rfl) rfl ?_
      refine s_do (A.store_r rfl rfl (by rw [mix_len hA (by omega)]; omega) rfl ?_)
      refine s_nil ?_
      refine areg rfl ?_
      refine s_det (D.move rfl) rfl ?_
      refine s_det (D.add rfl rfl (w64 (by omega) (by omega))) rfl ?_
      refine s_det (D.assign rfl) rfl ?_
      refine s_nil ?_
      exact ⟨i + 1, by omega, by omega, (.cons rfl (.cons rfl (.cons rfl .nil))), congrArg (fun x => σ.set b8 (rowI x)) (mix_set hA (by omega) (by rw [hg, if_pos h19]))⟩
    · replace h19 := of_decide_eq_false h19
      refine s_nil ?_
      refine acond_f rfl ?_
      refine askip ?_
      refine areg rfl ?_
      refine s_det (D.move rfl) rfl ?_
      refine s_det (D.add rfl rfl (w64 (by omega) (by omega))) rfl ?_
      refine s_det (D.assign rfl) rfl ?_
      refine s_nil ?_
      exact ⟨i + 1, by omega, by omega, (.cons rfl (.cons rfl (.cons rfl .nil))), congrArg (fun x => σ.set b8 (rowI x)) (mix_keep hA (by omega) (by rw [hg, if_neg h19]))⟩
  · replace h12 := of_decide_eq_false h12
    refine s_nil ?_
    refine acond_f rfl ?_
    refine aexit ?_
    refine aseq ?_
    refine areg rfl ?_
    refine s_det (D.move rfl) rfl ?_
    refine s_det (D.assign rfl) rfl ?_
    refine s_nil ?_
    refine aret ?_
    exact ⟨[_], ⟨⟨rfl, rfl⟩, trivial⟩, ⟨b8, hb8, by simp [hA, tupOf], congrArg (fun x => σ.set b8 (rowI x)) (mix_all hA (by omega))⟩⟩

theorem gradusref1_narrow (d p : List Int) (hl : p.length = d.length) (h3 : d.length ≤ 3) : Pure Try.prog 117 [ints d, ints p] (ints (zeroL d p)) := pure_of_own fun σ => gradusref1_narrow_own d p hl h3 σ

set_option maxRecDepth 10000 in
theorem gradusref1_first (l : List Int) (h0 : 1 ≤ l.length) (hl : l.length ≤ 4398046511104) : Pure Try.prog 119 [ints l] (iv (best l)) := by
  intro σ
  refine acalls Try.func119 rfl rfl (by decide) rfl rfl ?_
  refine aseq ?_
  refine areg rfl ?_
  refine s_det (D.assign rfl) rfl ?_
  refine s_nil ?_
  refine aseq ?_
  refine areg rfl ?_
  refine s_det (D.assign rfl) rfl ?_
  refine s_nil ?_
  refine aseq ?_
  refine aseq ?_
  refine areg rfl ?_
  refine s_det (D.assign rfl) rfl ?_
  refine s_nil ?_
  refine ablock ?_
  -- LOOP writes [3, 4] keeps [0]
  refine aloop (ι := Nat × Nat) (fun s => s.1 ≤ l.length ∧ ∃ hk : s.2 < l.length, (∀ j, (h : j < l.length) → j < s.1 → l[j] ≤ l[s.2]) ∧ (∀ j, (h : j < s.2) → l[j] < l[s.2])) (fun s => l.length - s.1) (fun s => [(0, ints l), (3, iv s.2), (4, iv s.1)]) (fun s => σ) (0, 0) ⟨by simp, h0, fun j _ h => by simp at h, fun j h => by simp at h⟩ ?_ rfl fun s hs => ?_
  · exact (.cons rfl (.cons rfl (.cons rfl .nil)))
  obtain ⟨i, k⟩ := s
  obtain ⟨hi, hk, ha, hb⟩ := hs
  dsimp only at hi hk ha hb
  refine aseq ?_
  refine aseq ?_
  refine areg rfl ?_
  refine s_det (D.move rfl) rfl ?_
  refine s_det (D.move rfl) rfl ?_
  refine s_det (D.len_m rfl rfl) rfl ?_
  refine s_cmp (D.lss rfl rfl rfl) rfl (fun h8 => ?_) (fun h8 => ?_)
  · replace h8 := of_decide_eq_true h8
    have hlt : i < l.length := by dsimp only at h8; omega
    refine s_nil ?_
    refine acond_t rfl ?_
    refine askip ?_
    refine aseq ?_
    refine ablock ?_
    refine aseq ?_
    refine adraw [.det 0, .det 1, .det 2, .det 3, .det 4, .det 5, .det 6, .det 7, .det 8] rfl (by kernel_rfl) ?_
    refine d_det rfl (D.move rfl) rfl ?_
    refine d_det rfl (D.move rfl) rfl ?_
    refine d_det rfl (D.idx_m rfl rfl (by omega) (get_lt (i := i) hlt) rfl) rfl ?_
    refine d_det rfl (D.load_i rfl rfl) rfl ?_
    refine d_det rfl (D.move rfl) rfl ?_
    refine d_det rfl (D.move rfl) rfl ?_
    refine d_det rfl (D.idx_m rfl rfl (by omega) (get_lt (i := k) hk) rfl) rfl ?_
    refine d_det rfl (D.load_i rfl rfl) rfl ?_
    refine d_cmp rfl (D.gtr rfl rfl rfl) rfl (fun h19 => ?_) (fun h19 => ?_)
    · replace h19 := of_decide_eq_true h19
      refine d_nil ?_
      refine acond_t rfl ?_
      refine areg rfl ?_
      refine s_det (D.move rfl) rfl ?_
      refine s_det (D.assign rfl) rfl ?_
      refine s_nil ?_
      refine areg rfl ?_
      refine s_det (D.move rfl) rfl ?_
      refine s_det (D.add rfl rfl (w64 (by omega) (by omega))) rfl ?_
      refine s_det (D.assign rfl) rfl ?_
      refine s_nil ?_
      refine ⟨(i + 1, i), ⟨hlt, hlt, fun j h hj => ?_, fun j h => ?_⟩, by dsimp only; omega, (.cons rfl (.cons rfl (.cons rfl .nil))), rfl⟩
      · dsimp only at hj ⊢
        by_cases hji : j = i
        · subst hji; exact Int.le_refl _
        · have := ha j h (by omega); omega
      · dsimp only at h ⊢
        have := ha j (by omega) h; omega
    · replace h19 := of_decide_eq_false h19
      refine d_nil ?_
      refine acond_f rfl ?_
      refine askip ?_
      refine areg rfl ?_
      refine s_det (D.move rfl) rfl ?_
      refine s_det (D.add rfl rfl (w64 (by omega) (by omega))) rfl ?_
      refine s_det (D.assign rfl) rfl ?_
      refine s_nil ?_
      refine ⟨(i + 1, k), ⟨hlt, hk, fun j h hj => ?_, fun j h => hb j h⟩, by dsimp only; omega, (.cons rfl (.cons rfl (.cons rfl .nil))), rfl⟩
      · dsimp only at hj ⊢
        by_cases hji : j = i
        · subst hji; omega
        · exact ha j h (by omega)
  · replace h8 := of_decide_eq_false h8
    refine s_nil ?_
    refine acond_f rfl ?_
    refine aexit ?_
    refine aseq ?_
    refine areg rfl ?_
    refine s_det (D.move rfl) rfl ?_
    refine s_det (D.assign rfl) rfl ?_
    refine s_nil ?_
    refine aret ?_
    exact ⟨[_], ⟨⟨rfl, rfl⟩, trivial⟩, (by rw [best_eq hk (fun j h => ha j h (by dsimp only at h8; omega)) hb]; rfl), rfl⟩

set_option maxRecDepth 10000 in
theorem gradusref1_Total (t : Tn) (h : t.sm) : Pure Try.prog 53 [tv t] (iv (sumW t.x)) := by
  have hl := h.2
  intro σ
  refine acalls Try.func53 rfl rfl (by decide) rfl rfl ?_
  refine aseq ?_
  refine areg rfl ?_
  refine s_det (D.box_i rfl rfl) rfl ?_
  refine s_det (D.assign rfl) rfl ?_
  refine s_nil ?_
  refine aseq ?_
  refine areg rfl ?_
  refine s_det (D.assign rfl) rfl ?_
  refine s_nil ?_
  refine aseq ?_
  refine aseq ?_
  refine areg rfl ?_
  refine s_det (D.assign rfl) rfl ?_
  refine s_nil ?_
  refine ablock ?_
  -- LOOP writes [3, 4] keeps [1]
  refine aloop (ι := Nat × Int) (fun s => s.1 ≤ t.x.length ∧ s.2 = (t.x.take s.1).foldl (fun a x => IntKind.i64.wrap (a + x)) 0) (fun s => t.x.length - s.1) (fun s => [(1, .iptr (tv t)), (3, iv s.2), (4, iv s.1)]) (fun s => σ) (0, 0) ⟨by simp, by simp⟩ ?_ rfl fun s hs => ?_
  · exact (.cons rfl (.cons rfl (.cons rfl .nil)))
  obtain ⟨i, m⟩ := s
  obtain ⟨hi, hm⟩ := hs
  dsimp only at hi hm
  refine aseq ?_
  refine aseq ?_
  refine areg rfl ?_
  refine s_det (D.move rfl) rfl ?_
  refine s_det (D.field_i rfl rfl rfl) rfl ?_
  refine s_det (D.load_i rfl rfl) rfl ?_
  refine s_det (D.len_m rfl rfl) rfl ?_
  refine s_cmp (D.lss rfl rfl rfl) rfl (fun h9 => ?_) (fun h9 => ?_)
  · replace h9 := of_decide_eq_true h9
    have hlt : i < t.x.length := by dsimp only at h9; omega
    refine s_nil ?_
    refine acond_t rfl ?_
    refine askip ?_
    refine aseq ?_
    refine ablock ?_
    refine areg rfl ?_
    refine s_det (D.move rfl) rfl ?_
    refine s_det (D.field_i rfl rfl rfl) rfl ?_
    refine s_det (D.load_i rfl rfl) rfl ?_
    refine s_det (D.move rfl) rfl ?_
    refine s_det (D.idx_m rfl rfl (by omega) (get_lt (i := i) hlt) rfl) rfl ?_
    refine s_det (D.load_i rfl rfl) rfl ?_
    refine s_det (D.add rfl rfl rfl) rfl ?_
    refine s_det (D.assign rfl) rfl ?_
    refine s_nil ?_
    refine areg rfl ?_
    refine s_det (D.move rfl) rfl ?_
    refine s_det (D.add rfl rfl (w64 (by omega) (by omega))) rfl ?_
    refine s_det (D.assign rfl) rfl ?_
    refine s_nil ?_
    exact ⟨(i + 1, IntKind.i64.wrap (m + t.x[i])), ⟨hlt, by rw [foldl_take hlt, hm]⟩, by dsimp only; omega, (.cons rfl (.cons rfl (.cons rfl .nil))), rfl⟩
  · replace h9 := of_decide_eq_false h9
    refine s_nil ?_
    refine acond_f rfl ?_
    refine aexit ?_
    refine aseq ?_
    refine areg rfl ?_
    refine s_det (D.move rfl) rfl ?_
    refine s_det (D.assign rfl) rfl ?_
    refine s_nil ?_
    refine aret ?_
    exact ⟨[_], ⟨⟨rfl, rfl⟩, trivial⟩, (by
      rw [List.take_of_length_le (by dsimp only at h9; omega)] at hm
      subst hm; rfl), rfl⟩

set_option maxRecDepth 10000 in
theorem gradusref1_Scale_s (a : Tn) (n : Int) (h : a.sm) (σ : AH) : ACalls Try.prog 60 [tv a, iv n] σ (OwnTs (scaleT a n) σ) := by
  have hA : (scaleT a n).x.length = a.x.length := by simp [scaleT]
  have hl := h.2
  refine acalls Try.func60 rfl rfl (by decide) rfl rfl ?_
  refine aseq ?_
  refine areg rfl ?_
  refine s_det (D.box_i rfl rfl) rfl ?_
  refine s_act rfl (A.alloc rfl rfl rfl fun b4 hb4 => ?_)
  refine s_nil ?_
  refine aseq ?_
  refine areg rfl ?_
  refine s_det (D.load_i rfl rfl) rfl ?_
  refine s_act rfl (A.call (evc rfl ev0) b_gradusref0_CopyTensor (gradusref0_CopyTensor_own _ (by first | assumption | omega) _) fun y σ' hy => ?_)
  obtain ⟨b8, c8, hb8, hc8, hn8, rfl, rfl⟩ := hy
  refine s_act rfl (A.alloc rfl rfl rfl fun b5 hb5 => ?_)
  refine s_do (A.store rfl rfl (AH.set_self ..) rfl rfl (by rfl) rfl rfl ?_)
  refine s_nil ?_
  rw [AH.set_set]
  refine afix (d := 5) rfl hb5 ?_
  refine aseq ?_
  refine aseq ?_
  refine areg rfl ?_
  refine s_det (D.assign rfl) rfl ?_
  refine s_nil ?_
  refine ablock ?_
  -- LOOP writes [6] keeps [1, 4, 5]
  refine aloop (ι := Nat) (fun i => i ≤ a.x.length) (fun i => a.x.length - i) (fun i => [(1, iv n), (4, .ptr b4 0 [] 0), (5, .iptr (.agg [.ref b8 1 0 a.d.length, .ref c8 1 0 a.x.length])), (6, iv i)]) (fun i => (σ.set b4 (.row 2 [nilT])).ten b8 c8 a.d ((scaleT a n).x.take i ++ a.x.drop i)) 0 (by omega) ?_ rfl fun i hi => ?_
  · exact (.cons rfl (.cons rfl (.cons rfl (.cons rfl .nil))))
  refine aseq ?_
  refine aseq ?_
  refine areg rfl ?_
  refine s_det (D.move rfl) rfl ?_
  refine s_det (D.field_i rfl rfl rfl) rfl ?_
  refine s_det (D.load_i rfl rfl) rfl ?_
  refine s_det (D.len_r rfl rfl) rfl ?_
  refine s_cmp (D.lss rfl rfl rfl) rfl (fun h13 => ?_) (fun h13 => ?_)
  · replace h13 := of_decide_eq_true h13
    have hlt : i < a.x.length := by omega
    refine s_nil ?_
    refine acond_t rfl ?_
    refine askip ?_
    refine aseq ?_
    refine ablock ?_
    refine adraw [.det 0, .det 1, .det 2, .det 3, .det 4, .det 5, .det 6, .det 7, .det 8, .det 9, .det 10, .act 11] rfl (by kernel_rfl) ?_
    refine d_det rfl (D.field_i rfl rfl rfl) rfl ?_
    refine d_det rfl (D.load_i rfl rfl) rfl ?_
    refine d_det rfl (D.move rfl) rfl ?_
    refine d_det rfl (D.field_i rfl rfl rfl) rfl ?_
    refine d_det rfl (D.load_i rfl rfl) rfl ?_
    refine d_det rfl (D.move rfl) rfl ?_
    refine d_det rfl (D.idx_r rfl rfl (by omega) rfl) rfl ?_
    refine d_own ten_x rfl (D.load_x rfl (mix_get hA (by omega) (Nat.le_refl i) hlt) rfl) rfl ?_
    refine d_det rfl (D.move rfl) rfl ?_
    refine d_det rfl (D.mul rfl rfl rfl) rfl ?_
    refine d_det rfl (D.idx_r rfl rfl (by omega) rfl) rfl ?_
    refine d_do rfl (by kernel_rfl) (A.store_t rfl rfl (by rw [mix_len hA (by omega)]; omega) rfl ?_)
    refine d_nil ?_
    refine areg rfl ?_
    refine s_det (D.move rfl) rfl ?_
    refine s_det (D.add rfl rfl (w64 (by omega) (by omega))) rfl ?_
    refine s_det (D.assign rfl) rfl ?_
    refine s_nil ?_
    exact ⟨i + 1, by omega, by omega, (.cons rfl (.cons rfl (.cons rfl (.cons rfl .nil)))), congrArg (AH.ten _ b8 c8 _) (mix_set hA (by omega) (by simp [scaleT]))⟩
  · replace h13 := of_decide_eq_false h13
    refine s_nil ?_
    refine acond_f rfl ?_
    refine aexit ?_
    refine aseq ?_
    refine areg rfl ?_
    refine s_det (D.load_i rfl rfl) rfl ?_
    refine s_do (A.store rfl rfl (ten_cell hb8 hc8) rfl rfl (by rfl) rfl rfl ?_)
    refine s_nil ?_
    refine aret ?_
    exact ⟨[_], ⟨⟨.inr ⟨_, _, _, _, _, _, _, rfl, AH.set_self .., rfl, rfl⟩, rfl⟩, trivial⟩, ten_done rfl (mix_all hA (by omega)) rfl hA.symm hb4 hb8 hc8 hn8⟩

theorem gradusref1_Scale (a : Tn) (n : Int) (h : a.sm) : Pure Try.prog 60 [tv a, iv n] (tv (scaleT a n)) := pure_of_ownT fun σ => (gradusref1_Scale_s a n h σ).ownT

set_option maxRecDepth 10000 in
theorem gradusref1_Gate_s (a b : Tn) (ha : a.sm) (h : b.sm) (hx : a.x.length = b.x.length) (σ : AH) : ACalls Try.prog 80 [tv a, tv b] σ (OwnTs (gateT a b) σ) := by
  have hA : (gateT a b).x.length = b.x.length := by simp [gateT]; omega
  have hl := h.2
  refine acalls Try.func80 rfl rfl (by decide) rfl rfl ?_
  refine aseq ?_
  refine areg rfl ?_
  refine s_det (D.box_i rfl rfl) rfl ?_
  refine s_det (D.box_i rfl rfl) rfl ?_
  refine s_act rfl (A.alloc rfl rfl rfl fun b4 hb4 => ?_)
  refine s_nil ?_
  refine aseq ?_
  refine areg rfl ?_
  refine s_det (D.load_i rfl rfl) rfl ?_
  refine s_act rfl (A.call (evc rfl ev0) b_gradusref0_CopyTensor (gradusref0_CopyTensor_own _ (by first | assumption | omega) _) fun y σ' hy => ?_)
  obtain ⟨b8, c8, hb8, hc8, hn8, rfl, rfl⟩ := hy
  refine s_act rfl (A.alloc rfl rfl rfl fun b5 hb5 => ?_)
  refine s_do (A.store rfl rfl (AH.set_self ..) rfl rfl (by rfl) rfl rfl ?_)
  refine s_nil ?_
  rw [AH.set_set]
  refine afix (d := 5) rfl hb5 ?_
  refine aseq ?_
  refine aseq ?_
  refine areg rfl ?_
  refine s_det (D.assign rfl) rfl ?_
  refine s_nil ?_
  refine ablock ?_
  -- LOOP writes [6] keeps [2, 4, 5]
  refine aloop (ι := Nat) (fun i => i ≤ b.x.length) (fun i => b.x.length - i) (fun i => [(2, .iptr (tv a)), (4, .ptr b4 0 [] 0), (5, .iptr (.agg [.ref b8 1 0 b.d.length, .ref c8 1 0 b.x.length])), (6, iv i)]) (fun i => (σ.set b4 (.row 2 [nilT])).ten b8 c8 b.d ((gateT a b).x.take i ++ b.x.drop i)) 0 (by omega) ?_ rfl fun i hi => ?_
  · exact (.cons rfl (.cons rfl (.cons rfl (.cons rfl .nil))))
  refine aseq ?_
  refine aseq ?_
  refine areg rfl ?_
  refine s_det (D.move rfl) rfl ?_
  refine s_det (D.field_i rfl rfl rfl) rfl ?_
  refine s_det (D.load_i rfl rfl) rfl ?_
  refine s_det (D.len_r rfl rfl) rfl ?_
  refine s_cmp (D.lss rfl rfl rfl) rfl (fun h13 => ?_) (fun h13 => ?_)
  · replace h13 := of_decide_eq_true h13
    have hlt : i < b.x.length := by omega
    have hlta : i < a.x.length := by omega
    refine s_nil ?_
    refine acond_t rfl ?_
    refine askip ?_
    refine aseq ?_
    refine ablock ?_
    refine aseq ?_
    refine areg rfl ?_
    refine s_det (D.field_i rfl rfl rfl) rfl ?_
    refine s_det (D.load_i rfl rfl) rfl ?_
    refine s_det (D.move rfl) rfl ?_
    refine s_det (D.idx_m rfl rfl (by omega) (get_lt (i := i) hlta) rfl) rfl ?_
    refine s_det (D.load_i rfl rfl) rfl ?_
    refine s_cmp (D.leq rfl rfl rfl) rfl (fun h21 => ?_) (fun h21 => ?_)
    · replace h21 := of_decide_eq_true h21
      refine s_nil ?_
      refine acond_t rfl ?_
      refine areg rfl ?_
      refine s_det (D.field_i rfl rfl rfl) rfl ?_
      refine s_det (D.load_i rfl rfl) rfl ?_
      refine s_det (D.move rfl) rfl ?_
      refine s_det (D.idx_r rfl rfl (by omega) rfl) rfl ?_
      refine s_do (A.store_t rfl rfl (by rw [mix_len hA (by omega)]; omega) rfl ?_)
      refine s_nil ?_
      refine areg rfl ?_
      refine s_det (D.move rfl) rfl ?_
      refine s_det (D.add rfl rfl (w64 (by omega) (by omega))) rfl ?_
      refine s_det (D.assign rfl) rfl ?_
      refine s_nil ?_
      exact ⟨i + 1, by omega, by omega, (.cons rfl (.cons rfl (.cons rfl (.cons rfl .nil)))), congrArg (AH.ten _ b8 c8 _) (mix_set hA (by omega) (by simp [gateT, h21]))⟩
    · replace h21 := of_decide_eq_false h21
      refine s_nil ?_
      refine acond_f rfl ?_
      refine askip ?_
      refine areg rfl ?_
      refine s_det (D.move rfl) rfl ?_
      refine s_det (D.add rfl rfl (w64 (by omega) (by omega))) rfl ?_
      refine s_det (D.assign rfl) rfl ?_
      refine s_nil ?_
      exact ⟨i + 1, by omega, by omega, (.cons rfl (.cons rfl (.cons rfl (.cons rfl .nil)))), congrArg (AH.ten _ b8 c8 _) (mix_keep hA (by omega) (by simp only [gateT, List.getElem_zipWith]; rw [if_neg h21]))⟩
  · replace h13 := of_decide_eq_false h13
    refine s_nil ?_
    refine acond_f rfl ?_
    refine aexit ?_
    refine aseq ?_
    refine areg rfl ?_
    refine s_det (D.load_i rfl rfl) rfl ?_
    refine s_do (A.store rfl rfl (ten_cell hb8 hc8) rfl rfl (by rfl) rfl rfl ?_)
    refine s_nil ?_
    refine aret ?_
    exact ⟨[_], ⟨⟨.inr ⟨_, _, _, _, _, _, _, rfl, AH.set_self .., rfl, rfl⟩, rfl⟩, trivial⟩, ten_done rfl (mix_all hA (by omega)) rfl hA.symm hb4 hb8 hc8 hn8⟩

theorem gradusref1_Gate (a b : Tn) (ha : a.sm) (h : b.sm) (hx : a.x.length = b.x.length) : Pure Try.prog 80 [tv a, tv b] (tv (gateT a b)) := pure_of_ownT fun σ => (gradusref1_Gate_s a b ha h hx σ).ownT

end Go.Proofs.Ytpjcidlkdfebhaa.F
