/- Functions of the program and of the references: what they compute, by the layer Al. Made by a program of this session (wip/al/alfill.py) out of wip/al/specs. -/
import Derived.Test.YtaiccchelchdmaaHf
import Derived.Test.YtaiccchelchdmaaProg
namespace Go.Proofs.Ytaiccchelchdmaa.F
open Go Go.Proofs.Al
set_option linter.unusedVariables false
set_option linter.unusedSimpArgs false
theorem dig_at (a x : Nat) (v : Int) (T : List Int) : (dig a x ++ ([v] ++ T))[a]? = some v := by
  rw [List.getElem?_append_right (by rw [dig_len]; exact Nat.le_refl _)]
  simp [dig_len]
theorem dig_set (a x : Nat) (v w : Int) (T : List Int) : (dig a x ++ ([v] ++ T)).set a w = dig a x ++ ([w] ++ T) := by
  rw [List.set_append_right _ _ (by rw [dig_len]; exact Nat.le_refl _)]
  simp [dig_len]
theorem odo_q {j m : Nat} (h : (j + 1) % 3 ^ m = 0) : ∃ t, j + 1 = 3 ^ m * t ∧ j / 3 ^ m + 1 = t := by
  obtain ⟨t, ht⟩ := Nat.dvd_of_mod_eq_zero h
  refine ⟨t, ht, ?_⟩
  obtain ⟨u, rfl⟩ : ∃ u, t = u + 1 := ⟨t - 1, by
    have : t ≠ 0 := fun e => by rw [e, Nat.mul_zero] at ht; omega
    omega⟩
  congr 1
  have hp := pow3 m
  rw [Nat.mul_succ] at ht
  apply Nat.div_eq_of_lt_le
  · rw [Nat.mul_comm]; omega
  · rw [Nat.succ_mul, Nat.mul_comm]; omega
theorem odo2 {j m : Nat} (h : (j + 1) % 3 ^ m = 0) (h2 : j / 3 ^ m % 3 = 2) : (j + 1) % 3 ^ (m + 1) = 0 := by
  obtain ⟨t, h3, h4⟩ := odo_q h
  have : t % 3 = 0 := by omega
  obtain ⟨u, rfl⟩ := Nat.dvd_of_mod_eq_zero this
  apply Nat.mod_eq_zero_of_dvd
  exact ⟨u, by rw [h3, Nat.pow_succ, Nat.mul_assoc]⟩
theorem odo_row {a m j : Nat} (h : (j + 1) % 3 ^ m = 0) (h2 : j / 3 ^ m % 3 ≠ 2) : dig (a + 1 + m) (j + 1) = dig a (j / 3 ^ m / 3) ++ ([((j / 3 ^ m % 3 + 1 : Nat) : Int)] ++ List.replicate m 0) := by
  obtain ⟨t, h3, h4⟩ := odo_q h
  rw [dig_add, h3, Nat.mul_div_cancel_left _ (pow3 m), Nat.mul_comm, dig_mul, ← h4, dig_snoc, List.append_assoc]
  generalize j / 3 ^ m = q at h2
  rw [show (q + 1) / 3 = q / 3 by omega, show (q + 1) % 3 = q % 3 + 1 by omega]
theorem odo_lt {a m j : Nat} (h : (j + 1) % 3 ^ m = 0) (h2 : j / 3 ^ m % 3 ≠ 2) (hj : j < 3 ^ (a + 1 + m)) : j + 1 < 3 ^ (a + 1 + m) := by
  obtain ⟨t, h3, h4⟩ := odo_q h
  rcases Nat.lt_or_ge (j + 1) (3 ^ (a + 1 + m)) with h5 | h5
  · exact h5
  have h6 : 3 ^ m * t = 3 ^ m * 3 ^ (a + 1) := by rw [← h3, ← Nat.pow_add, Nat.add_comm m]; omega
  have h7 := Nat.eq_of_mul_eq_mul_left (pow3 m) h6
  rw [Nat.pow_succ] at h7
  have := pow3 a
  omega

set_option maxRecDepth 10000 in
theorem gradusref14_Best (L : List It) (room host : Int) (hL : okL L) : Pure Try.prog 20 [items L, iv room, iv host] (ints ((bestS L room host).1.getD [])) := by
  have hl12 := hL.1
  refine pure_of_subw fun σ => ?_
  refine acalls Try.func20 rfl rfl (by decide) rfl rfl ?_
  refine aseq ?_
  refine areg rfl ?_
  refine s_det (D.assign rfl) rfl ?_
  refine s_nil ?_
  refine aseq ?_
  refine areg rfl ?_
  refine s_det (D.move rfl) rfl ?_
  refine s_det (D.len_m rfl rfl) rfl ?_
  refine s_act rfl (A.make_x rfl sl_int (by omega) fun b16 hb16 => ?_)
  refine s_det (D.assign rfl) rfl ?_
  refine s_nil ?_
  refine aseq ?_
  refine areg rfl ?_
  refine s_det (D.assign rfl) rfl ?_
  refine s_det (D.assign rfl) rfl ?_
  refine s_nil ?_
  refine ablock ?_
  -- LOOP writes [6, 8, 9] keeps [0, 1, 2, 7]
  refine aloop (ι := Nat) (fun j => j < 3 ^ L.length) (fun j => 3 ^ L.length - j) (fun j => [(0, items L), (1, iv room), (2, iv host), (7, .ref b16 1 0 L.length), (8, bestV (upTo L room host j).1), (9, iv (upTo L room host j).2)]) (fun j => σ.set b16 (rowI (dig L.length j))) 0 (pow3 _) ?_ (by rw [dig_zero]) fun j hj => ?_
  · exact (.cons rfl (.cons rfl (.cons rfl (.cons rfl (.cons rfl (.cons rfl .nil))))))
  refine ablock ?_
  refine aseq ?_
  refine areg rfl ?_
  refine s_det (D.move rfl) rfl ?_
  refine s_det (D.move rfl) rfl ?_
  refine s_act rfl (A.call (evc rfl (evc rfl ev0)) b_gradusref14_Cost (Pure.reads (gradusref14_Cost L (dig L.length j) hL ⟨dig_len _ _, dig_in _ _⟩) rfl rfl (pz2 (.refl _) (Pz.whole (AH.set_self ..) rfl (by simp [dig_len])))) fun y σ' hy => ?_)
  obtain ⟨rfl, rfl⟩ := hy
  refine s_det (D.move rfl) rfl ?_
  refine s_det (D.extract rfl rfl) rfl ?_
  refine s_det (D.extract rfl rfl) rfl ?_
  refine s_det (D.extract rfl rfl) rfl ?_
  refine s_det (D.assign rfl) rfl ?_
  refine s_det (D.assign rfl) rfl ?_
  refine s_det (D.assign rfl) rfl ?_
  refine s_nil ?_
  refine amidz (fun _ : Unit => True) (fun _ => [(0, items L), (1, iv room), (2, iv host), (7, .ref b16 1 0 L.length), (8, bestV (upTo L room host (j + 1)).1), (9, iv (upTo L room host (j + 1)).2)]) (fun _ => σ.set b16 (rowI (dig L.length j))) ?_ ?_
  · refine aseq ?_
    refine areg rfl ?_
    refine s_det (D.move rfl) rfl ?_
    refine s_det (D.move rfl) rfl ?_
    refine s_cmp (D.leq rfl rfl rfl) rfl (fun h26 => ?_) (fun h26 => ?_)
    · replace h26 := of_decide_eq_true h26
      refine s_det (D.move rfl) rfl ?_
      refine s_yes rfl rfl ?_
      refine s_det (D.move rfl) rfl ?_
      refine s_yes rfl rfl ?_
      refine s_det (D.move rfl) rfl ?_
      refine s_yes rfl rfl ?_
      refine s_cmp (D.leq rfl rfl rfl) rfl (fun h30 => ?_) (fun h30 => ?_)
      · replace h30 := of_decide_eq_true h30
        refine s_det (D.pick rfl rfl rfl rfl) rfl ?_
        refine s_det (D.move rfl) rfl ?_
        refine s_yes rfl rfl ?_
        refine s_det (D.move rfl) rfl ?_
        refine s_yes rfl rfl ?_
        refine s_cmp (D.lss rfl rfl rfl) rfl (fun h34 => ?_) (fun h34 => ?_)
        · replace h34 := of_decide_eq_true h34
          refine s_yes rfl rfl ?_
          refine s_det (D.move rfl) rfl ?_
          refine s_no rfl rfl rfl rfl ?_
          refine s_no rfl rfl rfl rfl ?_
          refine s_no rfl rfl rfl rfl ?_
          refine s_yes rfl rfl ?_
          refine s_det (D.pick rfl rfl rfl rfl) rfl ?_
          refine s_det (D.pick rfl rfl rfl rfl) rfl ?_
          refine s_nil ?_
          refine acond_t rfl ?_
          refine areg rfl ?_
          refine s_det (D.move rfl) rfl ?_
          refine s_act rfl (A.call (evc rfl ev0) b_gradusref0_CopyNumbers (gradusref0_CopyNumbers_r (dig L.length j) L.length (dig_len _ _).symm (by rw [dig_len]; omega) b16 _ (AH.set_self ..)) fun y σ' hy => ?_)
          obtain ⟨rfl, rfl⟩ := hy
          refine s_det (D.move rfl) rfl ?_
          refine s_det (D.assign rfl) rfl ?_
          refine s_det (D.assign rfl) rfl ?_
          refine s_nil ?_
          have e : upTo L room host (j + 1) = (some (dig L.length j), (sum0 L (dig L.length j)).c) := by rw [upTo_succ, updS, if_pos ⟨⟨h26, h30⟩, .inl h34⟩]
          exact ⟨(), trivial, Sub.refl _, .cons rfl (.cons rfl (.cons rfl (.cons rfl (.cons (by rw [e]; rfl) (.cons (by rw [e]; rfl) .nil)))))⟩
        · replace h34 := of_decide_eq_false h34
          refine s_yes rfl rfl ?_
          refine s_det (D.move rfl) rfl ?_
          refine s_yes rfl rfl ?_
          refine s_det (D.move rfl) rfl ?_
          refine s_yes rfl rfl ?_
          refine s_det (D.move rfl) rfl ?_
          refine s_yes rfl rfl ?_
          refine s_cmp (D.lss rfl rfl rfl) rfl (fun h38 => ?_) (fun h38 => ?_)
          · replace h38 := of_decide_eq_true h38
            refine s_yes rfl rfl ?_
            refine s_det (D.pick rfl rfl rfl rfl) rfl ?_
            refine s_det (D.pick rfl rfl rfl rfl) rfl ?_
            refine s_nil ?_
            refine acond_t rfl ?_
            refine areg rfl ?_
            refine s_det (D.move rfl) rfl ?_
            refine s_act rfl (A.call (evc rfl ev0) b_gradusref0_CopyNumbers (gradusref0_CopyNumbers_r (dig L.length j) L.length (dig_len _ _).symm (by rw [dig_len]; omega) b16 _ (AH.set_self ..)) fun y σ' hy => ?_)
            obtain ⟨rfl, rfl⟩ := hy
            refine s_det (D.move rfl) rfl ?_
            refine s_det (D.assign rfl) rfl ?_
            refine s_det (D.assign rfl) rfl ?_
            refine s_nil ?_
            have e : upTo L room host (j + 1) = (some (dig L.length j), (sum0 L (dig L.length j)).c) := by rw [upTo_succ, updS, if_pos ⟨⟨h26, h30⟩, .inr h38⟩]
            exact ⟨(), trivial, Sub.refl _, .cons rfl (.cons rfl (.cons rfl (.cons rfl (.cons (by rw [e]; rfl) (.cons (by rw [e]; rfl) .nil)))))⟩
          · replace h38 := of_decide_eq_false h38
            refine s_yes rfl rfl ?_
            refine s_det (D.pick rfl rfl rfl rfl) rfl ?_
            refine s_det (D.pick rfl rfl rfl rfl) rfl ?_
            refine s_nil ?_
            refine acond_f rfl ?_
            refine askip ?_
            have e : upTo L room host (j + 1) = upTo L room host j := by rw [upTo_succ, updS, if_neg (fun h => h.2.elim h34 h38)]
            exact ⟨(), trivial, Sub.refl _, .cons rfl (.cons rfl (.cons rfl (.cons rfl (.cons (by rw [e]; rfl) (.cons (by rw [e]; rfl) .nil)))))⟩
      · replace h30 := of_decide_eq_false h30
        refine s_det (D.pick rfl rfl rfl rfl) rfl ?_
        refine s_det (D.move rfl) rfl ?_
        refine s_no rfl rfl rfl rfl ?_
        refine s_no rfl rfl rfl rfl ?_
        refine s_no rfl rfl rfl rfl ?_
        refine s_noU rfl rfl rfl ?_
        refine s_noU rfl rfl rfl ?_
        refine s_noU rfl rfl rfl ?_
        refine s_no rfl rfl rfl rfl ?_
        refine s_det (D.pick rfl rfl rfl rfl) rfl ?_
        refine s_nil ?_
        refine acond_f rfl ?_
        refine askip ?_
        have e : upTo L room host (j + 1) = upTo L room host j := by rw [upTo_succ, updS, if_neg (fun h => h30 h.1.2)]
        exact ⟨(), trivial, Sub.refl _, .cons rfl (.cons rfl (.cons rfl (.cons rfl (.cons (by rw [e]; rfl) (.cons (by rw [e]; rfl) .nil)))))⟩
    · replace h26 := of_decide_eq_false h26
      refine s_det (D.move rfl) rfl ?_
      refine s_no rfl rfl rfl rfl ?_
      refine s_no rfl rfl rfl rfl ?_
      refine s_no rfl rfl rfl rfl ?_
      refine s_det (D.pick rfl rfl rfl rfl) rfl ?_
      refine s_det (D.move rfl) rfl ?_
      refine s_no rfl rfl rfl rfl ?_
      refine s_no rfl rfl rfl rfl ?_
      refine s_no rfl rfl rfl rfl ?_
      refine s_noU rfl rfl rfl ?_
      refine s_noU rfl rfl rfl ?_
      refine s_noU rfl rfl rfl ?_
      refine s_no rfl rfl rfl rfl ?_
      refine s_det (D.pick rfl rfl rfl rfl) rfl ?_
      refine s_nil ?_
      refine acond_f rfl ?_
      refine askip ?_
      have e : upTo L room host (j + 1) = upTo L room host j := by rw [upTo_succ, updS, if_neg (fun h => h26 h.1.1)]
      exact ⟨(), trivial, Sub.refl _, .cons rfl (.cons rfl (.cons rfl (.cons rfl (.cons (by rw [e]; rfl) (.cons (by rw [e]; rfl) .nil)))))⟩
  · intro _ _
    refine aseq ?_
    refine areg rfl ?_
    refine s_det (D.move rfl) rfl ?_
    refine s_det (D.len_r rfl rfl) rfl ?_
    refine s_det (D.sub rfl rfl (w64 (by omega) (by omega))) rfl ?_
    refine s_det (D.assign rfl) rfl ?_
    refine s_nil ?_
    refine aseq ?_
    refine ablock ?_
    -- LOOP writes [13] keeps [0, 1, 2, 6, 7, 8, 9]
    refine aloop (ι := Nat × Nat) (fun p => p.1 + p.2 = L.length ∧ (j + 1) % 3 ^ p.2 = 0) (fun p => p.1) (fun p => [(0, items L), (1, iv room), (2, iv host), (7, .ref b16 1 0 L.length), (8, bestV (upTo L room host (j + 1)).1), (9, iv (upTo L room host (j + 1)).2), (13, iv ((p.1 : Int) - 1))]) (fun p => σ.set b16 (rowI (dig p.1 (j / 3 ^ p.2) ++ List.replicate p.2 0))) (L.length, 0) ⟨by simp, by simp [Nat.mod_one]⟩ ?_ (by simp) fun p hp => ?_
    · exact (.cons rfl (.cons rfl (.cons rfl (.cons rfl (.cons rfl (.cons rfl (.cons rfl .nil)))))))
    obtain ⟨a, m⟩ := p
    obtain ⟨hp, hdv⟩ := hp
    dsimp only at hp hdv ⊢
    refine aseq ?_
    refine aseq ?_
    refine areg rfl ?_
    refine s_det (D.move rfl) rfl ?_
    refine s_cmp (D.geq rfl rfl rfl) rfl (fun h48 => ?_) (fun h48 => ?_)
    · replace h48 := of_decide_eq_true h48
      obtain ⟨a, rfl⟩ : ∃ a', a = a' + 1 := ⟨a - 1, by omega⟩
      rw [show ((a + 1 : Nat) : Int) - 1 = (a : Int) by omega, dig_snoc, List.append_assoc]
      refine s_det (D.move rfl) rfl ?_
      refine s_yes rfl rfl ?_
      refine s_det (D.move rfl) rfl ?_
      refine s_yes rfl rfl ?_
      refine s_det (D.move rfl) rfl ?_
      refine s_yes rfl rfl ?_
      refine s_det (D.idx_r rfl rfl (by omega) rfl) rfl ?_
      refine s_yes rfl rfl ?_
      refine s_own (AH.set_self ..) (D.load_x rfl (dig_at ..) rfl) rfl ?_
      refine s_yes rfl rfl ?_
      refine s_cmp (D.eql rfl rfl rfl) rfl (fun h54 => ?_) (fun h54 => ?_)
      · replace h54 := of_decide_eq_true h54
        refine s_det (D.pick rfl rfl rfl rfl) rfl ?_
        refine s_nil ?_
        refine acond_t rfl ?_
        refine askip ?_
        refine ablock ?_
        refine aseq ?_
        refine areg rfl ?_
        refine s_det (D.move rfl) rfl ?_
        refine s_det (D.move rfl) rfl ?_
        refine s_det (D.idx_r rfl rfl (by omega) rfl) rfl ?_
        refine s_do (A.store_r rfl rfl (show a < (dig a (j / 3 ^ m / 3) ++ ([((j / 3 ^ m % 3 : Nat) : Int)] ++ List.replicate m 0)).length by simp [dig_len]) rfl ?_)
        refine s_nil ?_
        refine areg rfl ?_
        refine s_det (D.move rfl) rfl ?_
        refine s_det (D.sub rfl rfl (w64 (by omega) (by omega))) rfl ?_
        refine s_det (D.assign rfl) rfl ?_
        refine s_nil ?_
        exact ⟨(a, m + 1), ⟨by simp only; omega, odo2 hdv (by omega)⟩, by simp only; omega, (.cons rfl (.cons rfl (.cons rfl (.cons rfl (.cons rfl (.cons rfl (.cons rfl .nil))))))), by simp only; rw [dig_set, Nat.pow_succ, ← Nat.div_div_eq_div_mul]; rfl⟩
      · replace h54 := of_decide_eq_false h54
        refine s_det (D.pick rfl rfl rfl rfl) rfl ?_
        refine s_nil ?_
        refine acond_f rfl ?_
        refine aexit ?_
        refine aseq ?_
        refine aseq ?_
        refine areg rfl ?_
        refine s_det (D.move rfl) rfl ?_
        refine s_cmp (D.lss rfl rfl rfl) rfl (fun h62 => ?_) (fun h62 => ?_)
        · replace h62 := of_decide_eq_true h62
          refine s_nil ?_
          refine acond_t rfl ?_
          refine aseq ?_
          refine areg rfl ?_
          refine s_det (D.move rfl) rfl ?_
          refine s_det (D.assign rfl) rfl ?_
          refine s_nil ?_
          refine aret ?_
          exact absurd h62 (by omega)
        · replace h62 := of_decide_eq_false h62
          refine s_nil ?_
          refine acond_f rfl ?_
          refine askip ?_
          refine areg rfl ?_
          refine s_det (D.move rfl) rfl ?_
          refine s_det (D.move rfl) rfl ?_
          refine s_det (D.idx_r rfl rfl (by omega) rfl) rfl ?_
          refine s_own (AH.set_self ..) (D.load_x rfl (dig_at ..) rfl) rfl ?_
          refine s_det (D.add rfl rfl (r := ((j / 3 ^ m % 3 + 1 : Nat) : Int)) (by rw [w64 (by omega) (by omega)]; rfl)) rfl ?_
          refine s_det (D.idx_r rfl rfl (by omega) rfl) rfl ?_
          refine s_do (A.store_r rfl rfl (show a < (dig a (j / 3 ^ m / 3) ++ ([((j / 3 ^ m % 3 : Nat) : Int)] ++ List.replicate m 0)).length by simp [dig_len]) rfl ?_)
          refine s_nil ?_
          have h2 : j / 3 ^ m % 3 ≠ 2 := by omega
          have hn : L.length = a + 1 + m := by omega
          have hj2 : j + 1 < 3 ^ L.length := by rw [hn] at hj ⊢; exact odo_lt hdv h2 hj
          exact ⟨j + 1, hj2, by omega, (.cons rfl (.cons rfl (.cons rfl (.cons rfl (.cons rfl (.cons rfl .nil)))))), by rw [dig_set, ← odo_row hdv h2, ← hn]⟩
    · replace h48 := of_decide_eq_false h48
      refine s_det (D.move rfl) rfl ?_
      refine s_no rfl rfl rfl rfl ?_
      refine s_no rfl rfl rfl rfl ?_
      refine s_no rfl rfl rfl rfl ?_
      refine s_no rfl rfl rfl rfl ?_
      refine s_no rfl rfl rfl rfl ?_
      refine s_det (D.pick rfl rfl rfl rfl) rfl ?_
      refine s_nil ?_
      refine acond_f rfl ?_
      refine aexit ?_
      refine aseq ?_
      refine aseq ?_
      refine areg rfl ?_
      refine s_det (D.move rfl) rfl ?_
      refine s_cmp (D.lss rfl rfl rfl) rfl (fun h62 => ?_) (fun h62 => ?_)
      · obtain rfl : a = 0 := by omega
        obtain rfl : m = L.length := by omega
        have hj3 : j + 1 = 3 ^ L.length := by
          have := Nat.le_of_dvd (by omega) (Nat.dvd_of_mod_eq_zero hdv)
          omega
        replace h62 := of_decide_eq_true h62
        refine s_nil ?_
        refine acond_t rfl ?_
        refine aseq ?_
        refine areg rfl ?_
        refine s_det (D.move rfl) rfl ?_
        refine s_det (D.assign rfl) rfl ?_
        refine s_nil ?_
        refine aret ?_
        exact ⟨[_], ⟨⟨rfl, rfl⟩, trivial⟩, by rw [hj3, ← bestS_all hL.2]; exact Wk.one (wk_best _) rfl rfl, (by repeat (first | exact Sub.refl _ | refine Sub.set ?_ (by first | assumption | exact (AH.set_none (by assumption)).1 | exact (AH.set_none (AH.set_none (by assumption)).1).1 | exact (AH.set_none (AH.set_none (AH.set_none (by assumption)).1).1).1 | exact (AH.set_none (AH.set_none (AH.set_none (AH.set_none (by assumption)).1).1).1).1 | exact (AH.set_none (AH.set_none (AH.set_none (AH.set_none (AH.set_none (by assumption)).1).1).1).1).1 | exact (AH.set_none (AH.set_none (AH.set_none (AH.set_none (AH.set_none (AH.set_none (by assumption)).1).1).1).1).1).1) _))⟩
      · exact absurd (show ((a : Int) - 1) < 0 by omega) (of_decide_eq_false h62)

end Go.Proofs.Ytaiccchelchdmaa.F
