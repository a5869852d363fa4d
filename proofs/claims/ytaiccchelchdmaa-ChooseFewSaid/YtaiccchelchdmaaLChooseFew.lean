/- Functions of the program and of the references: what they compute, by the layer Al. Made by a program of this session (wip/al/alfill.py) out of wip/al/specs. -/
import Derived.Test.YtaiccchelchdmaaHe
import Derived.Test.YtaiccchelchdmaaBe
import Derived.Test.YtaiccchelchdmaaProg
namespace Go.Proofs.Ytaiccchelchdmaa.F
open Go Go.Proofs.Al
set_option linter.unusedVariables false
set_option linter.unusedSimpArgs false
theorem set_dig (a m j : Nat) : (List.replicate (a + 1) 0 ++ dig m j).set a ((j / 3 ^ m % 3 : Nat) : Int) = List.replicate a 0 ++ dig (m + 1) j := by
  rw [List.replicate_succ', List.append_assoc, List.set_append_right _ _ (by simp)]
  simp [dig]

set_option maxRecDepth 10000 in
theorem chooseFew_pure (x : AskC) (hx : G25 x) : Pure Try.prog 6 [enc25 x] (bv true) := by
  obtain ⟨hl, hc, hn⟩ := hx.ok
  obtain ⟨L, C, N⟩ := x
  dsimp only at hl hc hn
  intro σ
  refine acalls Try.func6 rfl rfl (by decide) rfl rfl ?_
  refine aseq ?_
  refine areg rfl ?_
  refine s_det (D.box_i rfl rfl) rfl ?_
  refine s_det (D.assign rfl) rfl ?_
  refine s_nil ?_
  refine aseq ?_
  refine aseq ?_
  refine areg rfl ?_
  refine s_det (D.load_i rfl rfl) rfl ?_
  refine s_cmp (D.call (evc rfl ev0) b_graduslaw15_Heavy (graduslaw15_Heavy (L, C, N) hl hc hn)) rfl (fun h24 => ?_) (fun h24 => ?_)
  · replace h24 := of_decide_eq_true h24
    refine s_det (D.move rfl) rfl ?_
    refine s_no rfl rfl rfl rfl ?_
    refine s_no rfl rfl rfl rfl ?_
    refine s_no rfl rfl rfl rfl ?_
    refine s_no rfl rfl rfl rfl ?_
    refine s_det (D.pick rfl rfl rfl rfl) rfl ?_
    refine s_nil ?_
    refine acond_t rfl ?_
    refine aseq ?_
    refine areg rfl ?_
    refine s_det (D.assign rfl) rfl ?_
    refine s_nil ?_
    refine aret ?_
    exact ⟨[_], ⟨⟨rfl, rfl⟩, trivial⟩, rfl, rfl⟩
  · replace h24 := of_decide_eq_false h24
    have hl8 : L.length ≤ 100 := by unfold hvC at h24; simp only at h24; omega
    refine s_det (D.move rfl) rfl ?_
    refine s_yes rfl rfl ?_
    refine s_det (D.field_i rfl rfl rfl) rfl ?_
    refine s_yes rfl rfl ?_
    refine s_det (D.load_i rfl rfl) rfl ?_
    refine s_yes rfl rfl ?_
    refine s_cmp (D.call (evc rfl ev0) b_gradusref14_Items (gradusref14_Items L (by omega))) rfl (fun h28 => ?_) (fun h28 => ?_)
    · replace h28 := of_decide_eq_true h28
      have hL := h28.2
      have hl12 := h28.1
      obtain ⟨l, hle⟩ : ∃ l, l = L.take 5 := ⟨_, rfl⟩
      have hll : l.length ≤ 5 := by rw [hle, List.length_take]; omega
      have hlo : okL l := ⟨by omega, fun x hx => hL x (List.mem_of_mem_take (by rw [hle] at hx; exact hx))⟩
      refine s_yes rfl rfl ?_
      refine s_det (D.not rfl rfl) rfl ?_
      refine s_det (D.pick rfl rfl rfl rfl) rfl ?_
      refine s_nil ?_
      refine acond_f rfl ?_
      refine askip ?_
      refine aseq ?_
      refine areg rfl ?_
      refine s_det (D.field_i rfl rfl rfl) rfl ?_
      refine s_det (D.load_i rfl rfl) rfl ?_
      refine s_det (D.assign rfl) rfl ?_
      refine s_nil ?_
      refine amidz (fun _ : Unit => True) (fun _ => [(1, .iptr (enc25 (L, C, N))), (3, items l)]) (fun _ => σ) ?_ ?_
      · refine aseq ?_
        refine areg rfl ?_
        refine s_det (D.move rfl) rfl ?_
        refine s_det (D.len_m rfl rfl) rfl ?_
        refine s_cmp (D.gtr rfl rfl rfl) rfl (fun h35 => ?_) (fun h35 => ?_)
        · replace h35 := of_decide_eq_true h35
          refine s_nil ?_
          refine acond_t rfl ?_
          refine areg rfl ?_
          refine s_det (D.move rfl) rfl ?_
          refine s_det (D.cut_hi (m := 5) rfl rfl (show 5 ≤ L.length by have h : (L.length : Int) > 5 := h35; omega) rfl) rfl ?_
          refine s_det (D.assign rfl) rfl ?_
          refine s_nil ?_
          exact ⟨(), trivial, Sub.refl σ, (.cons rfl (.cons (by rw [hle]; rfl) .nil))⟩
        · replace h35 := of_decide_eq_false h35
          refine s_nil ?_
          refine acond_f rfl ?_
          refine askip ?_
          exact ⟨(), trivial, Sub.refl σ, (.cons rfl (.cons (by rw [hle, List.take_of_length_le (show L.length ≤ 5 by have h : ¬ (L.length : Int) > 5 := h35; omega)]; rfl) .nil))⟩
      · intro _ _
        refine aseq ?_
        refine aseq ?_
        refine areg rfl ?_
        refine s_det (D.assign rfl) rfl ?_
        refine s_nil ?_
        refine ablock ?_
        -- LOOP writes [4] keeps [1, 3]
        refine aloop (ι := Nat) (fun k => k ≤ N.length) (fun k => N.length - k) (fun k => [(1, .iptr (enc25 (L, C, N))), (3, items l), (4, iv k)]) (fun k => σ) 0 (by omega) ?_ rfl fun k hk => ?_
        · exact (.cons rfl (.cons rfl (.cons rfl .nil)))
        refine aseq ?_
        refine aseq ?_
        refine areg rfl ?_
        refine s_det (D.move rfl) rfl ?_
        refine s_det (D.field_i rfl rfl rfl) rfl ?_
        refine s_det (D.load_i rfl rfl) rfl ?_
        refine s_det (D.len_m rfl rfl) rfl ?_
        refine s_cmp (D.lss rfl rfl rfl) rfl (fun h42 => ?_) (fun h42 => ?_)
        · replace h42 := of_decide_eq_true h42
          have hkn : k < N.length := by have h : (k : Int) < (N.length : Int) := h42; omega
          refine s_det (D.move rfl) rfl ?_
          refine s_yes rfl rfl ?_
          refine s_det (D.move rfl) rfl ?_
          refine s_yes rfl rfl ?_
          refine s_cmp (D.lss rfl rfl rfl) rfl (fun h45 => ?_) (fun h45 => ?_)
          · replace h45 := of_decide_eq_true h45
            refine s_det (D.pick rfl rfl rfl rfl) rfl ?_
            refine s_nil ?_
            refine acond_t rfl ?_
            refine askip ?_
            refine aseq ?_
            refine ablock ?_
            refine aseq ?_
            refine areg rfl ?_
            refine s_det (D.field_i rfl rfl rfl) rfl ?_
            refine s_det (D.load_i rfl rfl) rfl ?_
            refine s_det (D.move rfl) rfl ?_
            refine s_det (D.idx_m rfl rfl (by omega) (get_lt (i := k) hkn) rfl) rfl ?_
            refine s_det (D.load_i rfl rfl) rfl ?_
            obtain ⟨bl, be, hbr⟩ : ∃ bl be, bestR l N[k] 12 = (bl, be) := ⟨_, _, rfl⟩
            refine s_det (D.assign rfl) rfl ?_
            refine s_nil ?_
            refine aseq ?_
            refine areg rfl ?_
            refine s_det (D.move rfl) rfl ?_
            refine s_det (D.move rfl) rfl ?_
            refine s_det (D.call (evc rfl (evc rfl (evc rfl ev0))) b_choose_Best (Pure.to (y' := .tup [ints bl, iv be]) (choose_Best l N[k] 12 (by omega)) (by rw [hbr]))) rfl ?_
            refine s_det (D.move rfl) rfl ?_
            refine s_det (D.extract rfl rfl) rfl ?_
            refine s_det (D.extract rfl rfl) rfl ?_
            refine s_det (D.assign rfl) rfl ?_
            refine s_det (D.assign rfl) rfl ?_
            refine s_nil ?_
            refine aseq ?_
            refine aseq ?_
            refine areg rfl ?_
            refine s_det (D.move rfl) rfl ?_
            refine s_cmp (D.call (evc rfl (evc rfl ev0)) b_gradusref0_Num (gradusref0_Num _ _)) rfl (fun h61 => ?_) (fun h61 => ?_)
            · replace h61 := of_decide_eq_true h61
              have hk : askC l N[k] 12 := ⟨hlo, h61, by decide, by decide⟩
              obtain ⟨j0, o⟩ := opt (room := N[k]) (host := 12) hlo.2 h61.1 (by decide)
              obtain ⟨rfl, rfl⟩ := Prod.mk.inj (hbr.symm.trans (bestR_k hk o.eq))
              refine s_det (D.not rfl rfl) rfl ?_
              refine s_nil ?_
              refine acond_f rfl ?_
              refine askip ?_
              refine aseq ?_
              refine areg rfl ?_
              refine s_det (D.move rfl) rfl ?_
              refine s_det (D.move rfl) rfl ?_
              refine s_det (D.call (evc rfl (evc rfl (evc rfl ev0))) b_choose_Least (Pure.to (y' := .tup [iv (sum0 l (dig l.length j0)).c, iv 0]) (choose_Least l N[k] 12 (by omega)) (by rw [leastR_k hk, o.eq]))) rfl ?_
              refine s_det (D.move rfl) rfl ?_
              refine s_det (D.extract rfl rfl) rfl ?_
              refine s_det (D.extract rfl rfl) rfl ?_
              refine s_det (D.assign rfl) rfl ?_
              refine s_det (D.assign rfl) rfl ?_
              refine s_nil ?_
              refine aseq ?_
              refine aseq ?_
              refine areg rfl ?_
              refine s_det (D.move rfl) rfl ?_
              refine s_det (D.call (evc rfl ev0) b_graduslaw15_num (graduslaw15_num _)) rfl ?_
              refine s_det (D.neq rfl rfl (decide_eq_false (by omega))) rfl ?_
              refine s_det (D.move rfl) rfl ?_
              refine s_yes rfl rfl ?_
              refine s_det (D.move rfl) rfl ?_
              refine s_yes rfl rfl ?_
              refine s_det (D.call (evc rfl ev0) b_graduslaw15_num (graduslaw15_num _)) rfl ?_
              refine s_yes rfl rfl ?_
              refine s_det (D.neq rfl rfl (decide_eq_false (by omega))) rfl ?_
              refine s_det (D.pick rfl rfl rfl rfl) rfl ?_
              refine s_det (D.move rfl) rfl ?_
              refine s_yes rfl rfl ?_
              refine s_det (D.move rfl) rfl ?_
              refine s_yes rfl rfl ?_
              refine s_det (D.len_m rfl rfl) rfl ?_
              refine s_yes rfl rfl ?_
              refine s_det (D.move rfl) rfl ?_
              refine s_yes rfl rfl ?_
              refine s_det (D.len_m rfl rfl) rfl ?_
              refine s_yes rfl rfl ?_
              refine s_det (D.neq rfl rfl (decide_eq_false (by rw [dig_len]; exact fun h => h rfl))) rfl ?_
              refine s_det (D.pick rfl rfl rfl rfl) rfl ?_
              refine s_nil ?_
              refine acond_f rfl ?_
              refine askip ?_
              refine aseq ?_
              refine areg rfl ?_
              refine s_det (D.assign rfl) rfl ?_
              refine s_nil ?_
              refine aseq ?_
              refine aseq ?_
              refine areg rfl ?_
              refine s_det (D.assign rfl) rfl ?_
              refine s_nil ?_
              refine ablock ?_
              -- LOOP writes [10, 11] keeps [1, 3, 4, 5, 6, 8]
              refine aloop (ι := Nat) (fun i => i ≤ l.length) (fun i => l.length - i) (fun i => [(1, .iptr (enc25 (L, C, N))), (3, items l), (4, iv k), (5, iv N[k]), (6, ints (dig l.length j0)), (8, iv (sum0 l (dig l.length j0)).c), (10, iv ((3 ^ i : Nat) : Int)), (11, iv i)]) (fun i => σ) 0 (by omega) ?_ rfl fun i hi => ?_
              · exact (.cons rfl (.cons rfl (.cons rfl (.cons rfl (.cons rfl (.cons rfl (.cons rfl (.cons rfl .nil))))))))
              refine aseq ?_
              refine aseq ?_
              refine areg rfl ?_
              refine s_det (D.move rfl) rfl ?_
              refine s_det (D.move rfl) rfl ?_
              refine s_det (D.len_m rfl rfl) rfl ?_
              refine s_cmp (D.lss rfl rfl rfl) rfl (fun h90 => ?_) (fun h90 => ?_)
              · replace h90 := of_decide_eq_true h90
                have hp3 : 3 ^ i ≤ 3 ^ 5 := Nat.pow_le_pow_right (by decide) (by omega)
                generalize hqq : 3 ^ i = q at hp3 ⊢
                refine s_nil ?_
                refine acond_t rfl ?_
                refine askip ?_
                refine aseq ?_
                refine ablock ?_
                refine areg rfl ?_
                refine s_det (D.move rfl) rfl ?_
                refine s_det (D.mul rfl rfl (r := ((3 ^ (i + 1) : Nat) : Int)) (by rw [w64 (by omega) (by omega), Nat.pow_succ, hqq]; omega)) rfl ?_
                refine s_det (D.assign rfl) rfl ?_
                refine s_nil ?_
                refine areg rfl ?_
                refine s_det (D.move rfl) rfl ?_
                refine s_det (D.add rfl rfl (w64 (by omega) (by omega))) rfl ?_
                refine s_det (D.assign rfl) rfl ?_
                refine s_nil ?_
                exact ⟨i + 1, by omega, by omega, (.cons rfl (.cons rfl (.cons rfl (.cons rfl (.cons rfl (.cons rfl (.cons rfl (.cons rfl .nil)))))))), rfl⟩
              · replace h90 := of_decide_eq_false h90
                obtain rfl : i = l.length := by omega
                have hp3 : 3 ^ l.length ≤ 3 ^ 5 := Nat.pow_le_pow_right (by decide) (by omega)
                have hj0 := o.lt
                generalize 3 ^ l.length = M at hp3 hj0 ⊢
                refine s_nil ?_
                refine acond_f rfl ?_
                refine aexit ?_
                refine aseq ?_
                refine areg rfl ?_
                refine s_det (D.assign rfl) rfl ?_
                refine s_nil ?_
                refine aseq ?_
                refine aseq ?_
                refine areg rfl ?_
                refine s_det (D.assign rfl) rfl ?_
                refine s_nil ?_
                refine ablock ?_
                -- LOOP writes [12, 13] keeps [1, 3, 4, 5, 6, 8, 10]
                refine aloop (ι := Nat) (fun j => j ≤ M) (fun j => M - j) (fun j => [(1, .iptr (enc25 (L, C, N))), (3, items l), (4, iv k), (5, iv N[k]), (6, ints (dig l.length j0)), (8, iv (sum0 l (dig l.length j0)).c), (10, iv M), (12, bv (decide (j ≤ j0))), (13, iv j)]) (fun j => σ) 0 (by omega) ?_ rfl fun j hj => ?_
                · exact .cons rfl (.cons rfl (.cons rfl (.cons rfl (.cons rfl (.cons rfl (.cons rfl (.cons (by rw [decide_eq_true (Nat.zero_le _)]; rfl) (.cons rfl .nil))))))))
                refine aseq ?_
                refine aseq ?_
                refine areg rfl ?_
                refine s_det (D.move rfl) rfl ?_
                refine s_det (D.move rfl) rfl ?_
                refine s_cmp (D.lss rfl rfl rfl) rfl (fun h97 => ?_) (fun h97 => ?_)
                · replace h97 := of_decide_eq_true h97
                  refine s_nil ?_
                  refine acond_t rfl ?_
                  refine askip ?_
                  refine aseq ?_
                  refine ablock ?_
                  refine aseq ?_
                  refine areg rfl ?_
                  refine s_det (D.move rfl) rfl ?_
                  refine s_det (D.len_m rfl rfl) rfl ?_
                  refine s_act rfl (A.make_x rfl sl_int (by omega) fun b102 hb102 => ?_)
                  refine s_det (D.assign rfl) rfl ?_
                  refine s_nil ?_
                  refine aseq ?_
                  refine areg rfl ?_
                  refine s_det (D.move rfl) rfl ?_
                  refine s_det (D.assign rfl) rfl ?_
                  refine s_nil ?_
                  refine aseq ?_
                  refine aseq ?_
                  refine areg rfl ?_
                  refine s_det (D.move rfl) rfl ?_
                  refine s_det (D.len_m rfl rfl) rfl ?_
                  refine s_det (D.sub rfl rfl (w64 (by omega) (by omega))) rfl ?_
                  refine s_det (D.assign rfl) rfl ?_
                  refine s_nil ?_
                  refine ablock ?_
                  -- LOOP writes [15, 16] keeps [1, 3, 4, 5, 6, 8, 10, 12, 13, 14]
                  refine aloop (ι := Nat × Nat) (fun p => p.1 + p.2 = l.length) (fun p => p.1) (fun p => [(1, .iptr (enc25 (L, C, N))), (3, items l), (4, iv k), (5, iv N[k]), (6, ints (dig l.length j0)), (8, iv (sum0 l (dig l.length j0)).c), (10, iv M), (12, bv (decide (j ≤ j0))), (13, iv j), (14, .ref b102 1 0 l.length), (15, iv ((j / 3 ^ p.2 : Nat) : Int)), (16, iv ((p.1 : Int) - 1))]) (fun p => σ.set b102 (rowI (List.replicate p.1 0 ++ dig p.2 j))) (l.length, 0) (by simp) ?_ (by simp only [dig, List.append_nil]) fun p hp => ?_
                  · exact .cons rfl (.cons rfl (.cons rfl (.cons rfl (.cons rfl (.cons rfl (.cons rfl (.cons rfl (.cons rfl (.cons rfl (.cons (by rw [Nat.pow_zero, Nat.div_one]; rfl) (.cons rfl .nil)))))))))))
                  obtain ⟨a, m⟩ := p
                  dsimp only at hp ⊢
                  refine aseq ?_
                  refine aseq ?_
                  refine areg rfl ?_
                  refine s_det (D.move rfl) rfl ?_
                  refine s_cmp (D.geq rfl rfl rfl) rfl (fun h108 => ?_) (fun h108 => ?_)
                  · replace h108 := of_decide_eq_true h108
                    obtain ⟨a, rfl⟩ : ∃ a', a = a' + 1 := ⟨a - 1, by omega⟩
                    have hq : j / 3 ^ m ≤ j := Nat.div_le_self _ _
                    generalize hqq : j / 3 ^ m = q at hq ⊢
                    rw [show ((a + 1 : Nat) : Int) - 1 = (a : Int) by omega]
                    refine s_nil ?_
                    refine acond_t rfl ?_
                    refine askip ?_
                    refine aseq ?_
                    refine ablock ?_
                    refine aseq ?_
                    refine areg rfl ?_
                    refine s_det (D.move rfl) rfl ?_
                    refine s_det (D.move rfl) rfl ?_
                    refine s_det (D.move rfl) rfl ?_
                    refine s_det (D.rem rfl rfl (by omega) (r := ((q % 3 : Nat) : Int)) (by rw [tmodw (by omega)]; rfl)) rfl ?_
                    refine s_det (D.idx_r rfl rfl (by omega) rfl) rfl ?_
                    refine s_do (A.store_r rfl rfl (show a < (List.replicate (a + 1) 0 ++ dig m j).length by simp [dig_len]; omega) rfl ?_)
                    refine s_nil ?_
                    refine areg rfl ?_
                    refine s_det (D.move rfl) rfl ?_
                    refine s_det (D.quo rfl rfl (by omega) (r := ((j / 3 ^ (m + 1) : Nat) : Int)) (by rw [tdivw (by omega) (by omega) (by omega), Nat.pow_succ, ← Nat.div_div_eq_div_mul, hqq]; rfl)) rfl ?_
                    refine s_det (D.assign rfl) rfl ?_
                    refine s_nil ?_
                    refine areg rfl ?_
                    refine s_det (D.move rfl) rfl ?_
                    refine s_det (D.sub rfl rfl (w64 (by omega) (by omega))) rfl ?_
                    refine s_det (D.assign rfl) rfl ?_
                    refine s_nil ?_
                    exact ⟨(a, m + 1), by simp only; omega, by simp only; omega, (.cons rfl (.cons rfl (.cons rfl (.cons rfl (.cons rfl (.cons rfl (.cons rfl (.cons rfl (.cons rfl (.cons rfl (.cons rfl (.cons rfl .nil)))))))))))), by simp only; rw [← hqq, set_dig]⟩
                  · replace h108 := of_decide_eq_false h108
                    refine s_nil ?_
                    refine acond_f rfl ?_
                    refine aexit ?_
                    obtain rfl : a = 0 := by omega
                    obtain rfl : m = l.length := by omega
                    have hC : okC l (dig l.length j) := ⟨dig_len _ _, dig_in _ _⟩
                    refine afreezew [(1, .iptr (enc25 (L, C, N))), (3, items l), (4, iv k), (5, iv N[k]), (6, ints (dig l.length j0)), (8, iv (sum0 l (dig l.length j0)).c), (10, iv M), (12, bv (decide (j ≤ j0))), (13, iv j), (14, ints (dig l.length j))] σ ((Sub.refl σ).set hb102 _) (.cons rfl (.cons rfl (.cons rfl (.cons rfl (.cons rfl (.cons rfl (.cons rfl (.cons rfl (.cons rfl (.pz rfl (Pz.whole (AH.set_self ..) hb102 (by simp [dig_len])) (.refl _) .nil)))))))))) ?_
                    refine aseq ?_
                    refine areg rfl ?_
                    refine s_det (D.move rfl) rfl ?_
                    refine s_det (D.move rfl) rfl ?_
                    refine s_det (D.move rfl) rfl ?_
                    refine s_det (D.call (evc rfl (evc rfl (evc rfl (evc rfl ev0)))) b_choose_Fits (Pure.to (y' := .tup [bv (decide (fits N[k] 12 (sum0 l (dig l.length j)))), iv 0]) (choose_Fits l (dig l.length j) N[k] 12 (by omega) (by rw [dig_len]; omega)) (by rw [fitS_k hk hC]))) rfl ?_
                    refine s_det (D.move rfl) rfl ?_
                    refine s_cmp (D.extract rfl rfl) rfl (fun h123 => ?_) (fun h123 => ?_)
                    · replace h123 := of_decide_eq_true h123
                      refine s_det (D.extract rfl rfl) rfl ?_
                      refine s_det (D.assign rfl) rfl ?_
                      refine s_det (D.assign rfl) rfl ?_
                      refine s_nil ?_
                      refine aseq ?_
                      refine areg rfl ?_
                      refine s_det (D.move rfl) rfl ?_
                      refine s_det (D.move rfl) rfl ?_
                      refine s_det (D.call (evc rfl (evc rfl ev0)) b_choose_Cost (Pure.to (y' := .tup [iv (sum0 l (dig l.length j)).c, iv (sum0 l (dig l.length j)).k, iv (sum0 l (dig l.length j)).m, iv 0]) (choose_Cost l (dig l.length j) (by omega) (by rw [dig_len]; omega)) (by rw [costS_k hlo hC]))) rfl ?_
                      refine s_det (D.move rfl) rfl ?_
                      refine s_det (D.extract rfl rfl) rfl ?_
                      refine s_det (D.extract rfl rfl) rfl ?_
                      refine s_det (D.extract rfl rfl) rfl ?_
                      refine s_det (D.extract rfl rfl) rfl ?_
                      refine s_det (D.assign rfl) rfl ?_
                      refine s_det (D.assign rfl) rfl ?_
                      refine s_det (D.assign rfl) rfl ?_
                      refine s_det (D.assign rfl) rfl ?_
                      refine s_nil ?_
                      refine aseq ?_
                      refine aseq ?_
                      refine areg rfl ?_
                      refine s_det (D.move rfl) rfl ?_
                      refine s_det (D.call (evc rfl ev0) b_graduslaw15_num (graduslaw15_num _)) rfl ?_
                      refine s_det (D.neq rfl rfl (decide_eq_false (by omega))) rfl ?_
                      refine s_det (D.move rfl) rfl ?_
                      refine s_yes rfl rfl ?_
                      refine s_det (D.move rfl) rfl ?_
                      refine s_yes rfl rfl ?_
                      refine s_det (D.call (evc rfl ev0) b_graduslaw15_num (graduslaw15_num _)) rfl ?_
                      refine s_yes rfl rfl ?_
                      refine s_det (D.neq rfl rfl (decide_eq_false (by omega))) rfl ?_
                      refine s_det (D.pick rfl rfl rfl rfl) rfl ?_
                      refine s_det (D.move rfl) rfl ?_
                      refine s_yes rfl rfl ?_
                      refine s_det (D.move rfl) rfl ?_
                      refine s_yes rfl rfl ?_
                      refine s_det (D.move rfl) rfl ?_
                      refine s_yes rfl rfl ?_
                      refine s_det (D.move rfl) rfl ?_
                      refine s_yes rfl rfl ?_
                      refine s_det (D.move rfl) rfl ?_
                      refine s_yes rfl rfl ?_
                      refine s_det (D.lss rfl rfl (decide_eq_false (by have := o.least _ hC h123; omega))) rfl ?_
                      refine s_yes rfl rfl ?_
                      refine s_det (D.pick rfl rfl rfl rfl) rfl ?_
                      refine s_det (D.pick rfl rfl rfl rfl) rfl ?_
                      refine s_nil ?_
                      refine acond_f rfl ?_
                      refine askip ?_
                      refine aseq ?_
                      refine areg rfl ?_
                      refine s_det (D.move rfl) rfl ?_
                      refine s_det (D.move rfl) rfl ?_
                      refine s_yes rfl rfl ?_
                      refine s_det (D.move rfl) rfl ?_
                      refine s_yes rfl rfl ?_
                      refine s_det (D.move rfl) rfl ?_
                      refine s_yes rfl rfl ?_
                      refine s_cmp (D.eql rfl rfl rfl) rfl (fun h153 => ?_) (fun h153 => ?_)
                      · replace h153 := of_decide_eq_true h153
                        refine s_det (D.pick rfl rfl rfl rfl) rfl ?_
                        refine s_det (D.move rfl) rfl ?_
                        refine s_yes rfl rfl ?_
                        refine s_det (D.move rfl) rfl ?_
                        refine s_det (D.pick rfl rfl rfl rfl) rfl ?_
                        refine s_nil ?_
                        -- cond t157 unknown
                        refine acond rfl (fun h157 => ?_) (fun h157 => ?_)
                        · have h1 := of_decide_eq_true h157
                          have hjj : j = j0 := (Nat.lt_or_ge j j0).elim (fun h2 => absurd (o.first j h2 h123) (by omega)) (fun h2 => by omega)
                          refine aseq ?_
                          refine areg rfl ?_
                          refine s_det (D.assign rfl) rfl ?_
                          refine s_nil ?_
                          refine aseq ?_
                          refine areg rfl ?_
                          refine s_det (D.move rfl) rfl ?_
                          refine s_det (D.move rfl) rfl ?_
                          refine s_det (D.call (evc rfl (evc rfl ev0)) b_gradusref0_EqNumbers (Pure.toT (gradusref0_EqNumbers (dig l.length j) (dig l.length j0) (by rw [dig_len]; omega) (by rw [dig_len]; omega)) (by rw [hjj]))) rfl ?_
                          refine s_det (D.not rfl rfl) rfl ?_
                          refine s_nil ?_
                          refine acond_f rfl ?_
                          refine askip ?_
                          refine areg rfl ?_
                          refine s_det (D.move rfl) rfl ?_
                          refine s_det (D.add rfl rfl (w64 (by omega) (by omega))) rfl ?_
                          refine s_det (D.assign rfl) rfl ?_
                          refine s_nil ?_
                          exact ⟨j + 1, by omega, by omega, .cons rfl (.cons rfl (.cons rfl (.cons rfl (.cons rfl (.cons rfl (.cons rfl (.cons (by rw [decide_eq_false (show ¬ j + 1 ≤ j0 by omega)]; rfl) (.cons rfl .nil)))))))), rfl⟩
                        · have hno := of_decide_eq_false h157
                          refine askip ?_
                          refine areg rfl ?_
                          refine s_det (D.move rfl) rfl ?_
                          refine s_det (D.add rfl rfl (w64 (by omega) (by omega))) rfl ?_
                          refine s_det (D.assign rfl) rfl ?_
                          refine s_nil ?_
                          exact ⟨j + 1, by omega, by omega, .cons rfl (.cons rfl (.cons rfl (.cons rfl (.cons rfl (.cons rfl (.cons rfl (.cons (by rw [decide_eq_decide.2 (show j + 1 ≤ j0 ↔ j ≤ j0 by omega)]; rfl) (.cons rfl .nil)))))))), rfl⟩
                      · replace h153 := of_decide_eq_false h153
                        have hne : j ≠ j0 := fun e => h153 (by rw [e])
                        refine s_det (D.pick rfl rfl rfl rfl) rfl ?_
                        refine s_det (D.move rfl) rfl ?_
                        refine s_no rfl rfl rfl rfl ?_
                        refine s_det (D.pick rfl rfl rfl rfl) rfl ?_
                        refine s_nil ?_
                        refine acond_f rfl ?_
                        refine askip ?_
                        refine areg rfl ?_
                        refine s_det (D.move rfl) rfl ?_
                        refine s_det (D.add rfl rfl (w64 (by omega) (by omega))) rfl ?_
                        refine s_det (D.assign rfl) rfl ?_
                        refine s_nil ?_
                        exact ⟨j + 1, by omega, by omega, .cons rfl (.cons rfl (.cons rfl (.cons rfl (.cons rfl (.cons rfl (.cons rfl (.cons (by rw [decide_eq_decide.2 (show j + 1 ≤ j0 ↔ j ≤ j0 by omega)]; rfl) (.cons rfl .nil)))))))), rfl⟩
                    · replace h123 := of_decide_eq_false h123
                      have hne : j ≠ j0 := fun e => h123 (by rw [e]; exact o.fit)
                      refine s_det (D.extract rfl rfl) rfl ?_
                      refine s_det (D.assign rfl) rfl ?_
                      refine s_det (D.assign rfl) rfl ?_
                      refine s_nil ?_
                      refine aseq ?_
                      refine areg rfl ?_
                      refine s_det (D.move rfl) rfl ?_
                      refine s_det (D.move rfl) rfl ?_
                      refine s_det (D.call (evc rfl (evc rfl ev0)) b_choose_Cost (Pure.to (y' := .tup [iv (sum0 l (dig l.length j)).c, iv (sum0 l (dig l.length j)).k, iv (sum0 l (dig l.length j)).m, iv 0]) (choose_Cost l (dig l.length j) (by omega) (by rw [dig_len]; omega)) (by rw [costS_k hlo hC]))) rfl ?_
                      refine s_det (D.move rfl) rfl ?_
                      refine s_det (D.extract rfl rfl) rfl ?_
                      refine s_det (D.extract rfl rfl) rfl ?_
                      refine s_det (D.extract rfl rfl) rfl ?_
                      refine s_det (D.extract rfl rfl) rfl ?_
                      refine s_det (D.assign rfl) rfl ?_
                      refine s_det (D.assign rfl) rfl ?_
                      refine s_det (D.assign rfl) rfl ?_
                      refine s_det (D.assign rfl) rfl ?_
                      refine s_nil ?_
                      refine aseq ?_
                      refine aseq ?_
                      refine areg rfl ?_
                      refine s_det (D.move rfl) rfl ?_
                      refine s_det (D.call (evc rfl ev0) b_graduslaw15_num (graduslaw15_num _)) rfl ?_
                      refine s_det (D.neq rfl rfl (decide_eq_false (by omega))) rfl ?_
                      refine s_det (D.move rfl) rfl ?_
                      refine s_yes rfl rfl ?_
                      refine s_det (D.move rfl) rfl ?_
                      refine s_yes rfl rfl ?_
                      refine s_det (D.call (evc rfl ev0) b_graduslaw15_num (graduslaw15_num _)) rfl ?_
                      refine s_yes rfl rfl ?_
                      refine s_det (D.neq rfl rfl (decide_eq_false (by omega))) rfl ?_
                      refine s_det (D.pick rfl rfl rfl rfl) rfl ?_
                      refine s_det (D.move rfl) rfl ?_
                      refine s_yes rfl rfl ?_
                      refine s_det (D.move rfl) rfl ?_
                      refine s_yes rfl rfl ?_
                      refine s_det (D.move rfl) rfl ?_
                      refine s_no rfl rfl rfl rfl ?_
                      refine s_no rfl rfl rfl rfl ?_
                      refine s_no rfl rfl rfl rfl ?_
                      refine s_yes rfl rfl ?_
                      refine s_det (D.pick rfl rfl rfl rfl) rfl ?_
                      refine s_det (D.pick rfl rfl rfl rfl) rfl ?_
                      refine s_nil ?_
                      refine acond_f rfl ?_
                      refine askip ?_
                      refine aseq ?_
                      refine areg rfl ?_
                      refine s_det (D.move rfl) rfl ?_
                      refine s_det (D.move rfl) rfl ?_
                      refine s_no rfl rfl rfl rfl ?_
                      refine s_no rfl rfl rfl rfl ?_
                      refine s_no rfl rfl rfl rfl ?_
                      refine s_det (D.pick rfl rfl rfl rfl) rfl ?_
                      refine s_det (D.move rfl) rfl ?_
                      refine s_no rfl rfl rfl rfl ?_
                      refine s_det (D.pick rfl rfl rfl rfl) rfl ?_
                      refine s_nil ?_
                      refine acond_f rfl ?_
                      refine askip ?_
                      refine areg rfl ?_
                      refine s_det (D.move rfl) rfl ?_
                      refine s_det (D.add rfl rfl (w64 (by omega) (by omega))) rfl ?_
                      refine s_det (D.assign rfl) rfl ?_
                      refine s_nil ?_
                      exact ⟨j + 1, by omega, by omega, .cons rfl (.cons rfl (.cons rfl (.cons rfl (.cons rfl (.cons rfl (.cons rfl (.cons (by rw [decide_eq_decide.2 (show j + 1 ≤ j0 ↔ j ≤ j0 by omega)]; rfl) (.cons rfl .nil)))))))), rfl⟩
                · replace h97 := of_decide_eq_false h97
                  rw [decide_eq_false (show ¬ j ≤ j0 by omega)]
                  refine s_nil ?_
                  refine acond_f rfl ?_
                  refine aexit ?_
                  refine aseq ?_
                  refine areg rfl ?_
                  refine s_det (D.move rfl) rfl ?_
                  refine s_nil ?_
                  refine acond_f rfl ?_
                  refine askip ?_
                  refine areg rfl ?_
                  refine s_det (D.move rfl) rfl ?_
                  refine s_det (D.add rfl rfl (w64 (by omega) (by omega))) rfl ?_
                  refine s_det (D.assign rfl) rfl ?_
                  refine s_nil ?_
                  exact ⟨k + 1, by omega, by omega, (.cons rfl (.cons rfl (.cons rfl .nil))), rfl⟩
            · replace h61 := of_decide_eq_false h61
              have hbf : bestR l N[k] 12 = ([], 1) := by rw [bestR, if_neg (fun h => h61 h.2.1)]
              obtain ⟨rfl, rfl⟩ := Prod.mk.inj (hbr.symm.trans hbf)
              refine s_det (D.not rfl rfl) rfl ?_
              refine s_nil ?_
              refine acond_t rfl ?_
              refine aseq ?_
              refine aseq ?_
              refine areg rfl ?_
              refine s_det (D.move rfl) rfl ?_
              refine s_det (D.call (evc rfl ev0) b_graduslaw15_num (graduslaw15_num _)) rfl ?_
              refine s_det (D.neq rfl rfl (decide_eq_false (by omega))) rfl ?_
              refine s_nil ?_
              refine acond_f rfl ?_
              refine askip ?_
              refine aexit ?_
              refine areg rfl ?_
              refine s_det (D.move rfl) rfl ?_
              refine s_det (D.add rfl rfl (w64 (by omega) (by omega))) rfl ?_
              refine s_det (D.assign rfl) rfl ?_
              refine s_nil ?_
              exact ⟨k + 1, by omega, by omega, (.cons rfl (.cons rfl (.cons rfl .nil))), rfl⟩
          · replace h45 := of_decide_eq_false h45
            refine s_det (D.pick rfl rfl rfl rfl) rfl ?_
            refine s_nil ?_
            refine acond_f rfl ?_
            refine aexit ?_
            refine aseq ?_
            refine areg rfl ?_
            refine s_det (D.move rfl) rfl ?_
            refine s_yes rfl rfl ?_
            refine s_det (D.call ev0 b_graduslaw15_wakes graduslaw15_wakes) rfl ?_
            refine s_det (D.pick rfl rfl rfl rfl) rfl ?_
            refine s_det (D.assign rfl) rfl ?_
            refine s_nil ?_
            refine aret ?_
            exact ⟨[_], ⟨⟨rfl, rfl⟩, trivial⟩, rfl, rfl⟩
        · replace h42 := of_decide_eq_false h42
          refine s_det (D.move rfl) rfl ?_
          refine s_no rfl rfl rfl rfl ?_
          refine s_no rfl rfl rfl rfl ?_
          refine s_det (D.pick rfl rfl rfl rfl) rfl ?_
          refine s_nil ?_
          refine acond_f rfl ?_
          refine aexit ?_
          refine aseq ?_
          refine areg rfl ?_
          refine s_det (D.move rfl) rfl ?_
          refine s_yes rfl rfl ?_
          refine s_det (D.call ev0 b_graduslaw15_wakes graduslaw15_wakes) rfl ?_
          refine s_det (D.pick rfl rfl rfl rfl) rfl ?_
          refine s_det (D.assign rfl) rfl ?_
          refine s_nil ?_
          refine aret ?_
          exact ⟨[_], ⟨⟨rfl, rfl⟩, trivial⟩, rfl, rfl⟩
    · replace h28 := of_decide_eq_false h28
      refine s_yes rfl rfl ?_
      refine s_det (D.not rfl rfl) rfl ?_
      refine s_det (D.pick rfl rfl rfl rfl) rfl ?_
      refine s_nil ?_
      refine acond_t rfl ?_
      refine aseq ?_
      refine areg rfl ?_
      refine s_det (D.assign rfl) rfl ?_
      refine s_nil ?_
      refine aret ?_
      exact ⟨[_], ⟨⟨rfl, rfl⟩, trivial⟩, rfl, rfl⟩

end Go.Proofs.Ytaiccchelchdmaa.F
