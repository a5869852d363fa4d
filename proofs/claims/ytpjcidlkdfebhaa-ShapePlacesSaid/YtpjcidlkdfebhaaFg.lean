/- Functions of the program and of the references: what they compute, by the layer Al. Made by a program of this session (wip/al/alfill.py) out of wip/al/specs. -/
import Derived.Test.YtpjcidlkdfebhaaFf
import Derived.Test.YtpjcidlkdfebhaaProg
namespace Go.Proofs.Ytpjcidlkdfebhaa.F
open Go Go.Proofs.Al
set_option linter.unusedVariables false
set_option linter.unusedSimpArgs false
set_option maxRecDepth 10000 in
theorem gradusref1_Wide_s (a : Tn) (d : List Int) (ha : okTn a) (hd : okD d) (hg : growsD a.d d) (σ : AH) : ACalls Try.prog 77 [tv a, ints d] σ (OwnTs (wideT a d) σ) := by
  have hA : (wideT a d).x.length = (fillT d 0).x.length := by simp [wideT, fillT, tab_len]
  obtain ⟨N, hN, hN1⟩ := prod_nat hd.2.2.1
  have hN2 : (fillT d 0).x.length = N := by simp [fillT, hN]
  have h64 := hd.2.2.2
  have hal := ha.2
  refine acalls Try.func77 rfl rfl (by decide) rfl rfl ?_
  refine aseq ?_
  refine areg rfl ?_
  refine s_det (D.box_i rfl rfl) rfl ?_
  refine s_act rfl (A.alloc rfl rfl rfl fun b4 hb4 => ?_)
  refine s_nil ?_
  refine aseq ?_
  refine areg rfl ?_
  refine s_det (D.move rfl) rfl ?_
  refine s_act rfl (A.call (evc rfl (evc rfl ev0)) b_gradusref1_Fill (gradusref1_Fill_own d 0 hd _) fun y σ' hy => ?_)
  obtain ⟨b8, c8, hb8, hc8, hn8, rfl, rfl⟩ := hy
  refine s_act rfl (A.alloc rfl rfl rfl fun b5 hb5 => ?_)
  refine s_do (A.store rfl rfl (AH.set_self ..) rfl rfl (by rfl) rfl rfl ?_)
  refine s_nil ?_
  rw [AH.set_set]
  refine afix (d := 5) rfl hb5 ?_
  refine aseq ?_
  refine aseq ?_
  refine areg rfl ?_
  refine s_det (D.assign rfl) rfl ?_
  refine s_nil ?_
  refine ablock ?_
  -- LOOP writes [6] keeps [1, 2, 4, 5]
  refine aloop (ι := Nat) (fun i => i ≤ N) (fun i => N - i) (fun i => [(1, ints d), (2, .iptr (tv a)), (4, .ptr b4 0 [] 0), (5, .iptr (.agg [.ref b8 1 0 d.length, .ref c8 1 0 (fillT d 0).x.length])), (6, iv i)]) (fun i => (σ.set b4 (.row 2 [nilT])).ten b8 c8 d ((wideT a d).x.take i ++ List.replicate ((fillT d 0).x.length - i) 0)) 0 (by omega) ?_ (congrArg (AH.ten _ b8 c8 _) (by simp [fillT])) fun i hi => ?_
  · exact (.cons rfl (.cons rfl (.cons rfl (.cons rfl (.cons rfl .nil)))))
  refine aseq ?_
  refine aseq ?_
  refine areg rfl ?_
  refine s_det (D.move rfl) rfl ?_
  refine s_det (D.field_i rfl rfl rfl) rfl ?_
  refine s_det (D.load_i rfl rfl) rfl ?_
  refine s_det (D.len_r rfl rfl) rfl ?_
  refine s_cmp (D.lss rfl rfl rfl) rfl (fun h13 => ?_) (fun h13 => ?_)
  · replace h13 := of_decide_eq_true h13
    refine s_nil ?_
    have hlt : i < N := by omega
    have hr : 0 ≤ place a.d (zeroL a.d (nums d (i : Int))) ∧ place a.d (zeroL a.d (nums d (i : Int))) < prod a.d := low_range ha.1.2.2.1 hd.2.2.1 hg (n := (i : Int)) (by omega) (by omega)
    have hx : (place a.d (zeroL a.d (nums d (i : Int)))).toNat < a.x.length := by omega
    refine acond_t rfl ?_
    refine askip ?_
    refine aseq ?_
    refine ablock ?_
    refine adraw [.det 0, .det 1, .det 2, .det 3, .det 4, .det 5, .det 6, .det 7, .det 8, .det 9, .det 10, .det 11, .det 12, .det 13, .det 14, .det 15, .det 16, .act 17] rfl (by kernel_rfl) ?_
    refine d_det rfl (D.field_i rfl rfl rfl) rfl ?_
    refine d_det rfl (D.load_i rfl rfl) rfl ?_
    refine d_det rfl (D.move rfl) rfl ?_
    refine d_det rfl (D.field_i rfl rfl rfl) rfl ?_
    refine d_det rfl (D.load_i rfl rfl) rfl ?_
    refine d_det rfl (D.field_i rfl rfl rfl) rfl ?_
    refine d_det rfl (D.load_i rfl rfl) rfl ?_
    refine d_det rfl (D.field_i rfl rfl rfl) rfl ?_
    refine d_det rfl (D.load_i rfl rfl) rfl ?_
    refine d_det rfl (D.move rfl) rfl ?_
    refine d_det rfl (D.move rfl) rfl ?_
    refine d_det rfl (D.call (evc rfl (evc rfl ev0)) b_gradusref1_Where (gradusref1_Where d (i : Int) hd (by omega) (by omega))) rfl ?_
    refine d_det rfl (D.call (evc rfl (evc rfl ev0)) b_gradusref1_narrow (gradusref1_narrow a.d (nums d (i : Int)) (by rw [nums_length]; exact (growsD_length hg).symm) ha.1.2.1)) rfl ?_
    refine d_det rfl (D.call (evc rfl (evc rfl ev0)) b_gradusref1_At (gradusref1_At a.d (zeroL a.d (nums d (i : Int))) ha.1 (zero_within hg (nums_within hd.2.2.1 (by omega) (by omega))))) rfl ?_
    refine d_det rfl (D.idx_m rfl rfl hr.1 (get_lt hx) rfl) rfl ?_
    refine d_det rfl (D.load_i rfl rfl) rfl ?_
    refine d_det rfl (D.idx_r rfl rfl (by omega) rfl) rfl ?_
    refine d_do rfl (by kernel_rfl) (A.store_t rfl rfl (by rw [fill_len hA (by omega)]; omega) rfl ?_)
    refine d_nil ?_
    refine areg rfl ?_
    refine s_det (D.move rfl) rfl ?_
    refine s_det (D.add rfl rfl (w64 (by omega) (by omega))) rfl ?_
    refine s_det (D.assign rfl) rfl ?_
    refine s_nil ?_
    exact ⟨i + 1, by omega, by omega, (.cons rfl (.cons rfl (.cons rfl (.cons rfl (.cons rfl .nil))))), congrArg (AH.ten _ b8 c8 _) (fill_set hA (by omega) (by simp only [wideT, tab_getE]; exact rd_toNat hx))⟩
  · replace h13 := of_decide_eq_false h13
    refine s_nil ?_
    refine acond_f rfl ?_
    refine aexit ?_
    refine aseq ?_
    refine areg rfl ?_
    refine s_det (D.load_i rfl rfl) rfl ?_
    refine s_do (A.store rfl rfl (ten_cell hb8 hc8) rfl rfl (by rfl) rfl rfl ?_)
    refine s_nil ?_
    refine aret ?_
    exact ⟨[_], ⟨⟨.inr ⟨_, _, _, _, _, _, _, rfl, AH.set_self .., rfl, rfl⟩, rfl⟩, trivial⟩, ten_done rfl (fill_all hA (by omega)) rfl hA.symm hb4 hb8 hc8 hn8⟩

theorem gradusref1_Wide (a : Tn) (d : List Int) (ha : okTn a) (hd : okD d) (hg : growsD a.d d) : Pure Try.prog 77 [tv a, ints d] (tv (wideT a d)) := pure_of_ownT fun σ => (gradusref1_Wide_s a d ha hd hg σ).ownT

set_option maxRecDepth 10000 in
theorem gradusref1_Sum_s (a : Tn) (d : List Int) (ha : okTn a) (hd : okD d) (hg : growsD d a.d) (σ : AH) : ACalls Try.prog 78 [tv a, ints d] σ (OwnTs (sumT a d) σ) := by
  obtain ⟨N, hN, hN1⟩ := prod_nat hd.2.2.1
  have hN2 : (fillT d 0).x.length = N := by simp [fillT, hN]
  have h64 := ha.1.2.2.2
  have hal := ha.2
  refine acalls Try.func78 rfl rfl (by decide) rfl rfl ?_
  refine aseq ?_
  refine areg rfl ?_
  refine s_det (D.box_i rfl rfl) rfl ?_
  refine s_act rfl (A.alloc rfl rfl rfl fun b4 hb4 => ?_)
  refine s_nil ?_
  refine aseq ?_
  refine areg rfl ?_
  refine s_det (D.move rfl) rfl ?_
  refine s_act rfl (A.call (evc rfl (evc rfl ev0)) b_gradusref1_Fill (gradusref1_Fill_own d 0 hd _) fun y σ' hy => ?_)
  obtain ⟨b9, c9, hb9, hc9, hn9, rfl, rfl⟩ := hy
  refine s_act rfl (A.alloc rfl rfl rfl fun b5 hb5 => ?_)
  refine s_do (A.store rfl rfl (AH.set_self ..) rfl rfl (by rfl) rfl rfl ?_)
  refine s_nil ?_
  rw [AH.set_set]
  refine afix (d := 5) rfl hb5 ?_
  refine aseq ?_
  refine aseq ?_
  refine areg rfl ?_
  refine s_det (D.assign rfl) rfl ?_
  refine s_nil ?_
  refine ablock ?_
  -- LOOP writes [6] keeps [1, 2, 4, 5]
  refine aloop (ι := Nat × List Int) (fun s => s.1 ≤ a.x.length ∧ s.2.length = N ∧ sumG d a.d (a.x.drop s.1) s.1 s.2 = (sumT a d).x) (fun s => a.x.length - s.1) (fun s => [(1, ints d), (2, .iptr (tv a)), (4, .ptr b4 0 [] 0), (5, .iptr (.agg [.ref b9 1 0 d.length, .ref c9 1 0 (fillT d 0).x.length])), (6, iv s.1)]) (fun s => (σ.set b4 (.row 2 [nilT])).ten b9 c9 d s.2) (0, (fillT d 0).x) ⟨by simp, hN2, rfl⟩ ?_ rfl fun s hs => ?_
  · exact (.cons rfl (.cons rfl (.cons rfl (.cons rfl (.cons rfl .nil)))))
  obtain ⟨i, acc⟩ := s
  obtain ⟨hi, hacc, hs⟩ := hs
  dsimp only at hi hacc hs
  refine aseq ?_
  refine aseq ?_
  refine areg rfl ?_
  refine s_det (D.move rfl) rfl ?_
  refine s_det (D.field_i rfl rfl rfl) rfl ?_
  refine s_det (D.load_i rfl rfl) rfl ?_
  refine s_det (D.len_m rfl rfl) rfl ?_
  refine s_cmp (D.lss rfl rfl rfl) rfl (fun h14 => ?_) (fun h14 => ?_)
  · replace h14 := of_decide_eq_true h14
    refine s_nil ?_
    have hlt : i < a.x.length := by dsimp only at h14; omega
    have hr : 0 ≤ place d (zeroL d (nums a.d (i : Int))) ∧ place d (zeroL d (nums a.d (i : Int))) < prod d := low_range hd.2.2.1 ha.1.2.2.1 hg (n := (i : Int)) (by omega) (by omega)
    have hx : (place d (zeroL d (nums a.d (i : Int)))).toNat < acc.length := by omega
    rw [sumG_step hlt] at hs
    refine acond_t rfl ?_
    refine askip ?_
    refine aseq ?_
    refine ablock ?_
    refine aseq ?_
    refine areg rfl ?_
    refine s_det (D.move rfl) rfl ?_
    refine s_det (D.move rfl) rfl ?_
    refine s_det (D.field_i rfl rfl rfl) rfl ?_
    refine s_det (D.load_i rfl rfl) rfl ?_
    refine s_det (D.move rfl) rfl ?_
    refine s_det (D.call (evc rfl (evc rfl ev0)) b_gradusref1_Where (gradusref1_Where a.d (i : Int) ha.1 (by omega) (by omega))) rfl ?_
    refine s_det (D.call (evc rfl (evc rfl ev0)) b_gradusref1_narrow (gradusref1_narrow d (nums a.d (i : Int)) (by rw [nums_length]; exact (growsD_length hg).symm) hd.2.1)) rfl ?_
    refine s_det (D.call (evc rfl (evc rfl ev0)) b_gradusref1_At (gradusref1_At d (zeroL d (nums a.d (i : Int))) hd (zero_within hg (nums_within ha.1.2.2.1 (by omega) (by omega))))) rfl ?_
    refine s_det (D.assign rfl) rfl ?_
    refine s_nil ?_
    refine adraw [.det 0, .det 1, .det 2, .det 3, .det 4, .det 5, .det 6, .det 7, .det 8, .det 9, .det 10, .det 11, .det 12, .det 13, .det 14, .act 15] rfl (by kernel_rfl) ?_
    refine d_det rfl (D.field_i rfl rfl rfl) rfl ?_
    refine d_det rfl (D.load_i rfl rfl) rfl ?_
    refine d_det rfl (D.move rfl) rfl ?_
    refine d_det rfl (D.field_i rfl rfl rfl) rfl ?_
    refine d_det rfl (D.load_i rfl rfl) rfl ?_
    refine d_det rfl (D.move rfl) rfl ?_
    refine d_det rfl (D.idx_ri rfl rfl hr.1 (by omega) rfl) rfl ?_
    refine d_own ten_x rfl (D.load_x rfl (get_lt hx) rfl) rfl ?_
    refine d_det rfl (D.field_i rfl rfl rfl) rfl ?_
    refine d_det rfl (D.load_i rfl rfl) rfl ?_
    refine d_det rfl (D.move rfl) rfl ?_
    refine d_det rfl (D.idx_m rfl rfl (by omega) (get_lt (i := i) hlt) rfl) rfl ?_
    refine d_det rfl (D.load_i rfl rfl) rfl ?_
    refine d_det rfl (D.add rfl rfl rfl) rfl ?_
    refine d_det rfl (D.idx_ri rfl rfl hr.1 (by omega) rfl) rfl ?_
    refine d_do rfl (by kernel_rfl) (A.store_t rfl rfl hx rfl ?_)
    refine d_nil ?_
    refine areg rfl ?_
    refine s_det (D.move rfl) rfl ?_
    refine s_det (D.add rfl rfl (w64 (by omega) (by omega))) rfl ?_
    refine s_det (D.assign rfl) rfl ?_
    refine s_nil ?_
    exact ⟨(i + 1, acc.set (place d (zeroL d (nums a.d (i : Int)))).toNat (IntKind.i64.wrap (acc[(place d (zeroL d (nums a.d (i : Int)))).toNat] + a.x[i]))), ⟨hlt, by dsimp only; rw [List.length_set]; exact hacc, by dsimp only; rw [← hs, ← rd_toNat hx]; rfl⟩, by dsimp only; omega, (.cons rfl (.cons rfl (.cons rfl (.cons rfl (.cons rfl .nil))))), rfl⟩
  · replace h14 := of_decide_eq_false h14
    rw [List.drop_of_length_le (by dsimp only at h14; omega), sumG] at hs
    have hl : (sumT a d).x.length = N := by rw [← hs]; exact hacc
    refine s_nil ?_
    refine acond_f rfl ?_
    refine aexit ?_
    refine aseq ?_
    refine areg rfl ?_
    refine s_det (D.load_i rfl rfl) rfl ?_
    refine s_do (A.store rfl rfl (ten_cell hb9 hc9) rfl rfl (by rfl) rfl rfl ?_)
    refine s_nil ?_
    refine aret ?_
    exact ⟨[_], ⟨⟨.inr ⟨_, _, _, _, _, _, _, rfl, AH.set_self .., rfl, rfl⟩, rfl⟩, trivial⟩, ten_done rfl hs rfl (by rw [hl, hN2]) hb4 hb9 hc9 hn9⟩

theorem gradusref1_Sum (a : Tn) (d : List Int) (ha : okTn a) (hd : okD d) (hg : growsD d a.d) : Pure Try.prog 78 [tv a, ints d] (tv (sumT a d)) := pure_of_ownT fun σ => (gradusref1_Sum_s a d ha hd hg σ).ownT

set_option maxRecDepth 10000 in
theorem gradusref1_One_s (n : Nat) (h1 : 1 ≤ n) (h8 : n ≤ 8) (σ : AH) : ACalls Try.prog 43 [iv n] σ (OwnTs (oneT n) σ) := by
  have hd := okD2 h1 h8 h1 h8
  have hN2 : (fillT [(n : Int), (n : Int)] 0).x.length = n * n := by simp only [fillT, prod2, List.length_replicate]; omega
  have h64 := mul88 h8 h8
  refine acalls Try.func43 rfl rfl (by decide) rfl rfl ?_
  refine aseq ?_
  refine areg rfl ?_
  refine s_act rfl (A.alloc rfl rfl rfl fun b2 hb2 => ?_)
  refine s_nil ?_
  refine aseq ?_
  refine areg rfl ?_
  refine s_det (D.move rfl) rfl ?_
  refine s_det (D.move rfl) rfl ?_
  refine s_det (D.lit sl_int (pc rfl rfl (pc rfl rfl p0)) rfl rfl (by decide)) rfl ?_
  refine s_act rfl (A.call (evw rfl Wk.less (evc rfl ev0)) b_gradusref1_Fill (gradusref1_Fill_own [(n : Int), (n : Int)] 0 hd _) fun y σ' hy => ?_)
  obtain ⟨b8, c8, hb8, hc8, hn8, rfl, rfl⟩ := hy
  refine s_act rfl (A.alloc rfl rfl rfl fun b3 hb3 => ?_)
  refine s_do (A.store rfl rfl (AH.set_self ..) rfl rfl (by rfl) rfl rfl ?_)
  refine s_nil ?_
  rw [AH.set_set]
  refine afix (d := 3) rfl hb3 ?_
  refine aseq ?_
  refine aseq ?_
  refine areg rfl ?_
  refine s_det (D.assign rfl) rfl ?_
  refine s_nil ?_
  refine ablock ?_
  -- LOOP writes [4] keeps [0, 2, 3]
  refine aloop (ι := Nat) (fun i => i ≤ n) (fun i => n - i) (fun i => [(0, iv n), (2, .ptr b2 0 [] 0), (3, .iptr (.agg [.ref b8 1 0 2, .ref c8 1 0 (fillT [(n : Int), (n : Int)] 0).x.length])), (4, iv i)]) (fun i => (σ.set b2 (.row 2 [nilT])).ten b8 c8 [(n : Int), (n : Int)] (tab (n * n) fun m => if m / n = m % n ∧ m / n < i then 1 else 0)) 0 (by omega) ?_ (congrArg (AH.ten _ b8 c8 _) (by simp only [fillT, prod2]; rw [show ((n * n : Nat) : Int).toNat = n * n by omega, tab_zero]; exact tab_congr fun m _ => by simp)) fun i hi => ?_
  · exact (.cons rfl (.cons rfl (.cons rfl (.cons rfl .nil))))
  refine aseq ?_
  refine aseq ?_
  refine areg rfl ?_
  refine s_det (D.move rfl) rfl ?_
  refine s_det (D.move rfl) rfl ?_
  refine s_cmp (D.lss rfl rfl rfl) rfl (fun h11 => ?_) (fun h11 => ?_)
  · replace h11 := of_decide_eq_true h11
    refine s_nil ?_
    have hlt : i < n := by omega
    have hp := pos_lt hlt hlt
    refine acond_t rfl ?_
    refine askip ?_
    refine aseq ?_
    refine ablock ?_
    refine areg rfl ?_
    refine s_det (D.field_i rfl rfl rfl) rfl ?_
    refine s_det (D.load_i rfl rfl) rfl ?_
    refine s_det (D.move rfl) rfl ?_
    refine s_det (D.move rfl) rfl ?_
    refine s_det (D.mul rfl rfl (mulN (mul88' (by omega) h8))) rfl ?_
    refine s_det (D.move rfl) rfl ?_
    refine s_det (D.add rfl rfl (addN (by omega))) rfl ?_
    refine s_det (D.idx_r rfl rfl (by omega) rfl) rfl ?_
    refine s_do (A.store_t rfl rfl (by rw [tab_len]; exact hp) rfl ?_)
    refine s_nil ?_
    refine areg rfl ?_
    refine s_det (D.move rfl) rfl ?_
    refine s_det (D.add rfl rfl (w64 (by omega) (by omega))) rfl ?_
    refine s_det (D.assign rfl) rfl ?_
    refine s_nil ?_
    refine ⟨i + 1, by omega, by omega, (.cons rfl (.cons rfl (.cons rfl (.cons rfl .nil)))), congrArg (AH.ten _ b8 c8 _) ?_⟩
    rw [tab_set]
    refine tab_congr fun m hm => ?_
    have hiff := divmod_iff (m := m) (i := i) hlt
    by_cases h1 : m = i * n + i
    · obtain ⟨q1, q2⟩ := hiff.1 h1
      simp [h1, divmod hlt]
    · rw [if_neg h1]
      by_cases h2 : m / n = m % n
      · have : m / n ≠ i := fun e => h1 (hiff.2 ⟨e, by omega⟩)
        by_cases h3 : m / n < i
        · rw [if_pos ⟨h2, h3⟩, if_pos ⟨h2, by omega⟩]
        · rw [if_neg (fun h => h3 h.2), if_neg (fun h => by omega)]
      · rw [if_neg (fun h => h2 h.1), if_neg (fun h => h2 h.1)]
  · replace h11 := of_decide_eq_false h11
    have hfin : (tab (n * n) fun m => if m / n = m % n ∧ m / n < i then 1 else 0) = (oneT n).x := tab_congr fun m hm => by
      have h2 : m / n < n := Nat.div_lt_of_lt_mul hm
      by_cases h3 : m / n = m % n
      · rw [if_pos ⟨h3, by omega⟩, if_pos h3]
      · rw [if_neg (fun h => h3 h.1), if_neg h3]
    refine s_nil ?_
    refine acond_f rfl ?_
    refine aexit ?_
    refine aseq ?_
    refine areg rfl ?_
    refine s_det (D.load_i rfl rfl) rfl ?_
    refine s_do (A.store rfl rfl (ten_cell hb8 hc8) rfl rfl (by rfl) rfl rfl ?_)
    refine s_nil ?_
    refine aret ?_
    exact ⟨[_], ⟨⟨.inr ⟨_, _, _, _, _, _, _, rfl, AH.set_self .., rfl, rfl⟩, rfl⟩, trivial⟩, ten_done rfl hfin rfl (by rw [hN2]; simp [oneT, tab_len]) hb2 hb8 hc8 hn8⟩

theorem gradusref1_One (n : Nat) (h1 : 1 ≤ n) (h8 : n ≤ 8) : Pure Try.prog 43 [iv n] (tv (oneT n)) := pure_of_ownT fun σ => (gradusref1_One_s n h1 h8 σ).ownT

set_option maxRecDepth 10000 in
theorem gradusref1_Max_s (a : Tn) (n : Nat) (ha : okTn a) (h1 : 1 ≤ n) (h8 : n ≤ 8) (hn : lastI a.d % (n : Int) = 0) (σ : AH) : ACalls Try.prog 81 [tv a, iv n] σ (OwnTs (maxT a n) σ) := by
  obtain ⟨hl, hp⟩ := lessD_ok ha.1 (n := (n : Int)) (by omega) hn
  obtain ⟨q, hq, hq1⟩ := prod_nat hl.2.2.1
  have hA : (maxT a n).x.length = (fillT (lessD a.d n) 0).x.length := by simp [maxT, maxG, fillT]
  have hN2 : (fillT (lessD a.d n) 0).x.length = q := by simp [fillT, hq]
  have h64 := ha.1.2.2.2
  have hal : a.x.length = q * n := by have := ha.2; rw [← hp, hq, ← Int.natCast_mul] at this; omega
  have h64' : q * n ≤ 64 := by have := ha.2; omega
  have hq64 : q ≤ 64 := Nat.le_trans (Nat.le_mul_of_pos_right q (by omega)) h64'
  refine acalls Try.func81 rfl rfl (by decide) rfl rfl ?_
  refine aseq ?_
  refine areg rfl ?_
  refine s_det (D.box_i rfl rfl) rfl ?_
  refine s_act rfl (A.alloc rfl rfl rfl fun b4 hb4 => ?_)
  refine s_nil ?_
  refine aseq ?_
  refine areg rfl ?_
  refine s_det (D.field_i rfl rfl rfl) rfl ?_
  refine s_det (D.load_i rfl rfl) rfl ?_
  refine s_det (D.move rfl) rfl ?_
  refine s_det (D.call (evc rfl (evc rfl ev0)) b_gradusref1_less (gradusref1_less a.d (n : Int) ha.1 (by omega))) rfl ?_
  refine s_act rfl (A.call (evc rfl (evc rfl ev0)) b_gradusref1_Fill (gradusref1_Fill_own (lessD a.d n) 0 hl _) fun y σ' hy => ?_)
  obtain ⟨b12, c12, hb12, hc12, hn12, rfl, rfl⟩ := hy
  refine s_act rfl (A.alloc rfl rfl rfl fun b5 hb5 => ?_)
  refine s_do (A.store rfl rfl (AH.set_self ..) rfl rfl (by rfl) rfl rfl ?_)
  refine s_nil ?_
  rw [AH.set_set]
  refine afix (d := 5) rfl hb5 ?_
  refine aseq ?_
  refine aseq ?_
  refine areg rfl ?_
  refine s_det (D.assign rfl) rfl ?_
  refine s_nil ?_
  refine ablock ?_
  -- LOOP writes [6] keeps [1, 2, 4, 5]
  refine aloop (ι := Nat) (fun i => i ≤ q) (fun i => q - i) (fun i => [(1, iv n), (2, .iptr (tv a)), (4, .ptr b4 0 [] 0), (5, .iptr (.agg [.ref b12 1 0 (lessD a.d n).length, .ref c12 1 0 (fillT (lessD a.d n) 0).x.length])), (6, iv i)]) (fun i => (σ.set b4 (.row 2 [nilT])).ten b12 c12 (lessD a.d n) ((maxT a n).x.take i ++ List.replicate ((fillT (lessD a.d n) 0).x.length - i) 0)) 0 (by omega) ?_ (congrArg (AH.ten _ b12 c12 _) (by simp [fillT])) fun i hi => ?_
  · exact (.cons rfl (.cons rfl (.cons rfl (.cons rfl (.cons rfl .nil)))))
  refine aseq ?_
  refine aseq ?_
  refine areg rfl ?_
  refine s_det (D.move rfl) rfl ?_
  refine s_det (D.field_i rfl rfl rfl) rfl ?_
  refine s_det (D.load_i rfl rfl) rfl ?_
  refine s_det (D.len_r rfl rfl) rfl ?_
  refine s_cmp (D.lss rfl rfl rfl) rfl (fun h17 => ?_) (fun h17 => ?_)
  · replace h17 := of_decide_eq_true h17
    refine s_nil ?_
    have hlt : i < q := by omega
    have hin : i * n + n ≤ q * n := by have := Nat.mul_le_mul_right n hlt; rw [Nat.succ_mul] at this; exact this
    have hbl := blk_length hal hlt
    have hbb := best_lt (l := blk a.x n i) (by omega)
    refine acond_t rfl ?_
    refine askip ?_
    refine aseq ?_
    refine ablock ?_
    refine aseq ?_
    refine areg rfl ?_
    refine s_det (D.field_i rfl rfl rfl) rfl ?_
    refine s_det (D.load_i rfl rfl) rfl ?_
    refine s_det (D.move rfl) rfl ?_
    refine s_det (D.move rfl) rfl ?_
    refine s_det (D.mul rfl rfl (mulN (a := i) (b := n) (by omega))) rfl ?_
    refine s_det (D.move rfl) rfl ?_
    refine s_det (D.move rfl) rfl ?_
    refine s_det (D.mul rfl rfl (mulN (a := i) (b := n) (by omega))) rfl ?_
    refine s_det (D.move rfl) rfl ?_
    refine s_det (D.add rfl rfl (addN (a := i * n) (b := n) (by omega))) rfl ?_
    refine s_det (D.cut_blk (n := n) (i := i) rfl rfl rfl (by omega) rfl) rfl ?_
    refine s_det (D.assign rfl) rfl ?_
    refine s_nil ?_
    refine adraw [.det 0, .det 1, .det 2, .det 3, .det 4, .det 5, .det 6, .det 7, .det 8, .act 9] rfl (by kernel_rfl) ?_
    refine d_det rfl (D.field_i rfl rfl rfl) rfl ?_
    refine d_det rfl (D.load_i rfl rfl) rfl ?_
    refine d_det rfl (D.move rfl) rfl ?_
    refine d_det rfl (D.move rfl) rfl ?_
    refine d_det rfl (D.move rfl) rfl ?_
    refine d_det rfl (D.call (evc rfl ev0) b_gradusref1_first (gradusref1_first (blk a.x n i) (by omega) (by omega))) rfl ?_
    refine d_det rfl (D.idx_m rfl rfl (by omega) (get_lt (i := best (blk a.x n i)) hbb) rfl) rfl ?_
    refine d_det rfl (D.load_i rfl rfl) rfl ?_
    refine d_det rfl (D.idx_r rfl rfl (by omega) rfl) rfl ?_
    refine d_do rfl (by kernel_rfl) (A.store_t rfl rfl (by rw [fill_len hA (by omega)]; omega) rfl ?_)
    refine d_nil ?_
    refine areg rfl ?_
    refine s_det (D.move rfl) rfl ?_
    refine s_det (D.add rfl rfl (w64 (by omega) (by omega))) rfl ?_
    refine s_det (D.assign rfl) rfl ?_
    refine s_nil ?_
    exact ⟨i + 1, by omega, by omega, (.cons rfl (.cons rfl (.cons rfl (.cons rfl (.cons rfl .nil))))), congrArg (AH.ten _ b12 c12 _) (fill_set hA (by omega) (by rw [best_get hbb]; simp [maxT, maxG]))⟩
  · replace h17 := of_decide_eq_false h17
    refine s_nil ?_
    refine acond_f rfl ?_
    refine aexit ?_
    refine aseq ?_
    refine areg rfl ?_
    refine s_det (D.load_i rfl rfl) rfl ?_
    refine s_do (A.store rfl rfl (ten_cell hb12 hc12) rfl rfl (by rfl) rfl rfl ?_)
    refine s_nil ?_
    refine aret ?_
    exact ⟨[_], ⟨⟨.inr ⟨_, _, _, _, _, _, _, rfl, AH.set_self .., rfl, rfl⟩, rfl⟩, trivial⟩, ten_done rfl (fill_all hA (by omega)) rfl hA.symm hb4 hb12 hc12 hn12⟩

theorem gradusref1_Max (a : Tn) (n : Nat) (ha : okTn a) (h1 : 1 ≤ n) (h8 : n ≤ 8) (hn : lastI a.d % (n : Int) = 0) : Pure Try.prog 81 [tv a, iv n] (tv (maxT a n)) := pure_of_ownT fun σ => (gradusref1_Max_s a n ha h1 h8 hn σ).ownT

set_option maxRecDepth 10000 in
theorem gradusref1_Pick_s (a b : Tn) (n : Nat) (ha : okTn a) (hb : b.sm) (h1 : 1 ≤ n) (h8 : n ≤ 8) (hl : a.x.length = b.x.length * n) (σ : AH) : ACalls Try.prog 84 [tv a, tv b, iv n] σ (OwnTs (pickT a b n) σ) := by
  have hN2 : (fillT a.d 0).x.length = a.x.length := by have := ha.2; simp [fillT]; omega
  have h64 := ha.1.2.2.2
  have hal := ha.2
  have hb2 := hb.2
  refine acalls Try.func84 rfl rfl (by decide) rfl rfl ?_
  refine aseq ?_
  refine areg rfl ?_
  refine s_det (D.box_i rfl rfl) rfl ?_
  refine s_det (D.box_i rfl rfl) rfl ?_
  refine s_act rfl (A.alloc rfl rfl rfl fun b6 hb6 => ?_)
  refine s_nil ?_
  refine aseq ?_
  refine areg rfl ?_
  refine s_det (D.field_i rfl rfl rfl) rfl ?_
  refine s_det (D.load_i rfl rfl) rfl ?_
  refine s_act rfl (A.call (evc rfl (evc rfl ev0)) b_gradusref1_Fill (gradusref1_Fill_own a.d 0 ha.1 _) fun y σ' hy => ?_)
  obtain ⟨b11, c11, hb11, hc11, hn11, rfl, rfl⟩ := hy
  refine s_act rfl (A.alloc rfl rfl rfl fun b7 hb7 => ?_)
  refine s_do (A.store rfl rfl (AH.set_self ..) rfl rfl (by rfl) rfl rfl ?_)
  refine s_nil ?_
  rw [AH.set_set]
  refine afix (d := 7) rfl hb7 ?_
  refine aseq ?_
  refine aseq ?_
  refine areg rfl ?_
  refine s_det (D.assign rfl) rfl ?_
  refine s_nil ?_
  refine ablock ?_
  -- LOOP writes [8] keeps [2, 3, 4, 6, 7]
  refine aloop (ι := Nat × List Int) (fun s => s.1 ≤ b.x.length ∧ s.2.length = a.x.length ∧ pickG a.x n (b.x.drop s.1) s.1 s.2 = (pickT a b n).x) (fun s => b.x.length - s.1) (fun s => [(2, iv n), (3, .iptr (tv a)), (4, .iptr (tv b)), (6, .ptr b6 0 [] 0), (7, .iptr (.agg [.ref b11 1 0 a.d.length, .ref c11 1 0 (fillT a.d 0).x.length])), (8, iv s.1)]) (fun s => (σ.set b6 (.row 2 [nilT])).ten b11 c11 a.d s.2) (0, (fillT a.d 0).x) ⟨by simp, hN2, rfl⟩ ?_ rfl fun s hs => ?_
  · exact (.cons rfl (.cons rfl (.cons rfl (.cons rfl (.cons rfl (.cons rfl .nil))))))
  obtain ⟨i, acc⟩ := s
  obtain ⟨hi, hacc, hs⟩ := hs
  dsimp only at hi hacc hs
  refine aseq ?_
  refine aseq ?_
  refine areg rfl ?_
  refine s_det (D.move rfl) rfl ?_
  refine s_det (D.field_i rfl rfl rfl) rfl ?_
  refine s_det (D.load_i rfl rfl) rfl ?_
  refine s_det (D.len_m rfl rfl) rfl ?_
  refine s_cmp (D.lss rfl rfl rfl) rfl (fun h16 => ?_) (fun h16 => ?_)
  · replace h16 := of_decide_eq_true h16
    refine s_nil ?_
    have hlt : i < b.x.length := by dsimp only at h16; omega
    have hin : i * n + n ≤ b.x.length * n := by have := Nat.mul_le_mul_right n hlt; rw [Nat.succ_mul] at this; exact this
    have hbl := blk_length hl hlt
    have hbb := best_lt (l := blk a.x n i) (by omega)
    rw [pickG_step hlt] at hs
    refine acond_t rfl ?_
    refine askip ?_
    refine aseq ?_
    refine ablock ?_
    refine adraw [.det 0, .det 1, .det 2, .det 3, .det 4, .det 5, .det 6, .det 7, .det 8, .det 9, .det 10, .det 11, .det 12, .det 13, .det 14, .det 15, .det 16, .det 17, .det 18, .det 19, .det 20, .det 21, .det 22, .det 23, .act 24] rfl (by kernel_rfl) ?_
    refine d_det rfl (D.field_i rfl rfl rfl) rfl ?_
    refine d_det rfl (D.load_i rfl rfl) rfl ?_
    refine d_det rfl (D.move rfl) rfl ?_
    refine d_det rfl (D.move rfl) rfl ?_
    refine d_det rfl (D.mul rfl rfl (mulN (a := i) (b := n) (by omega))) rfl ?_
    refine d_det rfl (D.field_i rfl rfl rfl) rfl ?_
    refine d_det rfl (D.load_i rfl rfl) rfl ?_
    refine d_det rfl (D.move rfl) rfl ?_
    refine d_det rfl (D.move rfl) rfl ?_
    refine d_det rfl (D.mul rfl rfl (mulN (a := i) (b := n) (by omega))) rfl ?_
    refine d_det rfl (D.move rfl) rfl ?_
    refine d_det rfl (D.move rfl) rfl ?_
    refine d_det rfl (D.mul rfl rfl (mulN (a := i) (b := n) (by omega))) rfl ?_
    refine d_det rfl (D.move rfl) rfl ?_
    refine d_det rfl (D.add rfl rfl (addN (a := i * n) (b := n) (by omega))) rfl ?_
    refine d_det rfl (D.cut_blk (n := n) (i := i) rfl rfl rfl (by omega) rfl) rfl ?_
    refine d_det rfl (D.call (evc rfl ev0) b_gradusref1_first (gradusref1_first (blk a.x n i) (by omega) (by omega))) rfl ?_
    refine d_det rfl (D.add rfl rfl (addN (a := i * n) (b := best (blk a.x n i)) (by omega))) rfl ?_
    refine d_det rfl (D.field_i rfl rfl rfl) rfl ?_
    refine d_det rfl (D.load_i rfl rfl) rfl ?_
    refine d_det rfl (D.move rfl) rfl ?_
    refine d_det rfl (D.idx_m rfl rfl (by omega) (get_lt (i := i) hlt) rfl) rfl ?_
    refine d_det rfl (D.load_i rfl rfl) rfl ?_
    refine d_det rfl (D.idx_r rfl rfl (j := i * n + best (blk a.x n i)) (by rw [hN2]; omega) rfl) rfl ?_
    refine d_do rfl (by kernel_rfl) (A.store_t rfl rfl (by rw [hacc]; omega) rfl ?_)
    refine d_nil ?_
    refine areg rfl ?_
    refine s_det (D.move rfl) rfl ?_
    refine s_det (D.add rfl rfl (w64 (by omega) (by omega))) rfl ?_
    refine s_det (D.assign rfl) rfl ?_
    refine s_nil ?_
    exact ⟨(i + 1, acc.set (i * n + best (blk a.x n i)) b.x[i]), ⟨hlt, by dsimp only; rw [List.length_set]; exact hacc, hs⟩, by dsimp only; omega, (.cons rfl (.cons rfl (.cons rfl (.cons rfl (.cons rfl (.cons rfl .nil)))))), rfl⟩
  · replace h16 := of_decide_eq_false h16
    rw [List.drop_of_length_le (by dsimp only at h16; omega), pickG] at hs
    have hl2 : (pickT a b n).x.length = a.x.length := by rw [← hs]; exact hacc
    refine s_nil ?_
    refine acond_f rfl ?_
    refine aexit ?_
    refine aseq ?_
    refine areg rfl ?_
    refine s_det (D.load_i rfl rfl) rfl ?_
    refine s_do (A.store rfl rfl (ten_cell hb11 hc11) rfl rfl (by rfl) rfl rfl ?_)
    refine s_nil ?_
    refine aret ?_
    exact ⟨[_], ⟨⟨.inr ⟨_, _, _, _, _, _, _, rfl, AH.set_self .., rfl, rfl⟩, rfl⟩, trivial⟩, ten_done rfl hs rfl (by rw [hl2, hN2]) hb6 hb11 hc11 hn11⟩

theorem gradusref1_Pick (a b : Tn) (n : Nat) (ha : okTn a) (hb : b.sm) (h1 : 1 ≤ n) (h8 : n ≤ 8) (hl : a.x.length = b.x.length * n) : Pure Try.prog 84 [tv a, tv b, iv n] (tv (pickT a b n)) := pure_of_ownT fun σ => (gradusref1_Pick_s a b n ha hb h1 h8 hl σ).ownT

end Go.Proofs.Ytpjcidlkdfebhaa.F
