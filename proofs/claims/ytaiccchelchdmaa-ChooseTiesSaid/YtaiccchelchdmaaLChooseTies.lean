/- Functions of the program and of the references: what they compute, by the layer Al. Made by a program of this session (wip/al/alfill.py) out of wip/al/specs. -/
import Derived.Test.YtaiccchelchdmaaHd
import Derived.Test.YtaiccchelchdmaaAskCho
import Derived.Test.YtaiccchelchdmaaAw
import Derived.Test.YtaiccchelchdmaaProg
namespace Go.Proofs.Ytaiccchelchdmaa.F
open Go Go.Proofs.Al
set_option linter.unusedVariables false
set_option linter.unusedSimpArgs false
theorem best_tie {n m : Nat} (hn : n ≤ 8) (hm : m ≤ 100) : Pure Try.prog 7 [items (List.replicate n tieI), iv (m : Int), iv 99] (.tup [ints (tie n (m / 2)), iv 0]) :=
  (choose_Best (List.replicate n tieI) m 99 (by simp; omega)).to (by rw [tie_best hn hm])

set_option maxRecDepth 10000 in
theorem chooseTies_pure (x : AskC) (hx : G25 x) : Pure Try.prog 3 [enc25 x] (bv true) := by
  obtain ⟨L, C, N⟩ := x
  obtain ⟨hl, hc, hn⟩ := hx.ok
  dsimp only at hl hc hn
  obtain ⟨n, hnn⟩ : ∃ n, n = 1 + L.length % 8 := ⟨_, rfl⟩
  intro σ
  refine acalls Try.func3 rfl rfl (by decide) rfl rfl ?_
  refine aseq ?_
  refine areg rfl ?_
  refine s_det (D.box_i rfl rfl) rfl ?_
  refine s_det (D.assign rfl) rfl ?_
  refine s_nil ?_
  refine aseq ?_
  refine areg rfl ?_
  refine s_det (D.field_i rfl rfl rfl) rfl ?_
  refine s_det (D.load_i rfl rfl) rfl ?_
  refine s_det (D.len_m rfl rfl) rfl ?_
  refine s_det (D.rem rfl rfl (by omega) (r := ((L.length % 8 : Nat) : Int)) (by rw [tmodw (by omega)]; rfl)) rfl ?_
  refine s_det (D.add rfl rfl (r := (n : Int)) (by rw [w64 (by omega) (by omega)]; simp only [hnn]; omega)) rfl ?_
  refine s_det (D.assign rfl) rfl ?_
  refine s_nil ?_
  refine aseq ?_
  refine areg rfl ?_
  refine s_det (D.assign rfl) rfl ?_
  refine s_nil ?_
  refine aseq ?_
  refine aseq ?_
  refine areg rfl ?_
  refine s_det (D.assign rfl) rfl ?_
  refine s_nil ?_
  refine ablock ?_
  -- LOOP writes [4, 5] keeps [3]
  refine aown (d := 4) (k := 3) rfl fun b hb => ?_
  refine aloop (ι := Nat × Nat × List It) (fun s => s.1 ≤ n ∧ s.2.2 = List.replicate s.1 tieI ∧ σ s.2.1 = none) (fun s => n - s.1) (fun s => [(3, iv n), (4, .ref s.2.1 3 0 s.2.2.length), (5, iv s.1)]) (fun s => σ.set s.2.1 (.row 3 (s.2.2.map itv))) (0, b, []) ⟨by omega, rfl, hb⟩ ?_ rfl fun s hs => ?_
  · exact .cons rfl (.cons rfl (.cons rfl .nil))
  obtain ⟨i, b, l⟩ := s
  obtain ⟨hi, hrl, hb⟩ := hs
  dsimp only at hi hrl hb
  have hll : l.length = i := by rw [hrl]; simp
  refine aseq ?_
  refine aseq ?_
  refine areg rfl ?_
  refine s_det (D.move rfl) rfl ?_
  refine s_det (D.move rfl) rfl ?_
  refine s_cmp (D.lss rfl rfl rfl) rfl (fun h18 => ?_) (fun h18 => ?_)
  · replace h18 := of_decide_eq_true h18
    refine s_nil ?_
    refine acond_t rfl ?_
    refine askip ?_
    refine aseq ?_
    refine ablock ?_
    refine areg rfl ?_
    refine s_det (D.move rfl) rfl ?_
    refine s_det (D.build rfl rfl ⟨_, rfl, rfl, rfl, by simp, ⟨_, rfl, rfl, rfl, by simp, ⟨_, rfl, rfl, rfl, by simp, rfl⟩⟩⟩) rfl ?_
    refine s_det (D.lit sl_Item (pc rfl rfl p0) rfl rfl (by decide)) rfl ?_
    refine s_act rfl (A.append1 (f := itv) (v := tieI) rfl (AH.set_self ..) rfl sl_Item rfl (show (l.length + 1) * 24 ≤ 70368744177664 by omega) (by decide) rfl fun b17 hb17 => ?_)
    refine s_det (D.assign rfl) rfl ?_
    refine s_nil ?_
    refine areg rfl ?_
    refine s_det (D.move rfl) rfl ?_
    refine s_det (D.add rfl rfl (w64 (by omega) (by omega))) rfl ?_
    refine s_det (D.assign rfl) rfl ?_
    refine s_nil ?_
    exact ⟨(i + 1, b17, l ++ [tieI]), ⟨by simp only; omega, by rw [hrl, List.replicate_succ'], (AH.set_none hb17).1⟩, by simp only; omega, .cons rfl (.cons rfl (.cons rfl .nil)), by simp only; rw [AH.del_set_self hb]⟩
  · replace h18 := of_decide_eq_false h18
    have hin : i = n := by omega
    subst hin
    subst hrl
    refine s_nil ?_
    refine acond_f rfl ?_
    refine aexit ?_
    refine aseq ?_
    refine aseq ?_
    refine areg rfl ?_
    refine s_det (D.assign rfl) rfl ?_
    refine s_nil ?_
    refine ablock ?_
    -- LOOP writes [6] keeps [3, 4]
    refine afreezew [(3, iv (i : Int)), (4, items (List.replicate i tieI)), (6, iv 0)] σ ((Sub.refl σ).set hb _) (.cons rfl (.pz rfl (Pz.whole (AH.set_self ..) hb (by simp)) (.refl _) (.cons rfl .nil))) ?_
    generalize i = n at *
    refine aloop (ι := Nat) (fun m => m ≤ 2 * n + 2) (fun m => 2 * n + 2 - m) (fun m => [(3, iv n), (4, items (List.replicate n tieI)), (6, iv m)]) (fun m => σ) 0 (by omega) ?_ rfl fun m hm => ?_
    · exact (.cons rfl (.cons rfl (.cons rfl .nil)))
    refine aseq ?_
    refine aseq ?_
    refine areg rfl ?_
    refine s_det (D.move rfl) rfl ?_
    refine s_det (D.move rfl) rfl ?_
    refine s_det (D.mul rfl rfl (w64 (by omega) (by omega))) rfl ?_
    refine s_det (D.add rfl rfl (w64 (by omega) (by omega))) rfl ?_
    refine s_cmp (D.leq rfl rfl rfl) rfl (fun h29 => ?_) (fun h29 => ?_)
    · replace h29 := of_decide_eq_true h29
      refine s_nil ?_
      refine acond_t rfl ?_
      refine askip ?_
      refine aseq ?_
      refine ablock ?_
      refine aseq ?_
      refine areg rfl ?_
      refine s_det (D.move rfl) rfl ?_
      refine s_det (D.move rfl) rfl ?_
      refine s_det (D.call (evc rfl (evc rfl (evc rfl ev0))) b_choose_Best (best_tie (n := n) (m := m) (by omega) (by omega))) rfl ?_
      refine s_det (D.move rfl) rfl ?_
      refine s_det (D.extract rfl rfl) rfl ?_
      refine s_det (D.extract rfl rfl) rfl ?_
      refine s_det (D.assign rfl) rfl ?_
      refine s_det (D.assign rfl) rfl ?_
      refine s_nil ?_
      refine aseq ?_
      refine aseq ?_
      refine areg rfl ?_
      refine s_det (D.move rfl) rfl ?_
      refine s_det (D.call (evc rfl ev0) b_graduslaw15_num (graduslaw15_num _)) rfl ?_
      refine s_det (D.neq rfl rfl (decide_eq_false (by omega))) rfl ?_
      refine s_det (D.move rfl) rfl ?_
      refine s_yes rfl rfl ?_
      refine s_det (D.move rfl) rfl ?_
      refine s_yes rfl rfl ?_
      refine s_det (D.len_m rfl rfl) rfl ?_
      refine s_yes rfl rfl ?_
      refine s_det (D.move rfl) rfl ?_
      refine s_yes rfl rfl ?_
      refine s_det (D.neq rfl rfl (decide_eq_false (by rw [tie_len]; omega))) rfl ?_
      refine s_det (D.pick rfl rfl rfl rfl) rfl ?_
      refine s_nil ?_
      refine acond_f rfl ?_
      refine askip ?_
      refine aseq ?_
      refine areg rfl ?_
      refine s_det (D.assign rfl) rfl ?_
      refine s_nil ?_
      refine ablock ?_
      -- LOOP writes [9] keeps [3, 4, 6, 7]
      refine aloop (ι := Nat) (fun i => i ≤ n) (fun i => n - i) (fun i => [(3, iv n), (4, items (List.replicate n tieI)), (6, iv m), (7, ints (tie n (m / 2))), (9, iv i)]) (fun i => σ) 0 (by omega) ?_ rfl fun i hi => ?_
      · exact (.cons rfl (.cons rfl (.cons rfl (.cons rfl (.cons rfl .nil)))))
      refine aseq ?_
      refine aseq ?_
      refine areg rfl ?_
      refine s_det (D.move rfl) rfl ?_
      refine s_det (D.move rfl) rfl ?_
      refine s_cmp (D.lss rfl rfl rfl) rfl (fun h49 => ?_) (fun h49 => ?_)
      · replace h49 := of_decide_eq_true h49
        refine s_nil ?_
        refine acond_t rfl ?_
        refine askip ?_
        refine aseq ?_
        refine ablock ?_
        refine aseq ?_
        refine areg rfl ?_
        refine s_det (D.assign rfl) rfl ?_
        refine s_nil ?_
        refine amidz (fun w : Int => w = (if i < m / 2 then 0 else 1)) (fun w => [(3, iv n), (4, items (List.replicate n tieI)), (6, iv m), (7, ints (tie n (m / 2))), (9, iv i), (10, iv w)]) (fun _ => σ) ?_ ?_
        · refine aseq ?_
          refine areg rfl ?_
          refine s_det (D.move rfl) rfl ?_
          refine s_det (D.move rfl) rfl ?_
          refine s_det (D.quo rfl rfl (by omega) (r := ((m / 2 : Nat) : Int)) (by rw [tdivw (by omega) (by omega) (by omega)]; omega)) rfl ?_
          refine s_cmp (D.lss rfl rfl rfl) rfl (fun h55 => ?_) (fun h55 => ?_)
          · replace h55 := of_decide_eq_true h55
            refine s_nil ?_
            refine acond_t rfl ?_
            refine areg rfl ?_
            refine s_det (D.assign rfl) rfl ?_
            refine s_nil ?_
            exact ⟨0, by rw [if_pos (by omega)], Sub.refl σ, (.cons rfl (.cons rfl (.cons rfl (.cons rfl (.cons rfl (.cons rfl .nil))))))⟩
          · replace h55 := of_decide_eq_false h55
            refine s_nil ?_
            refine acond_f rfl ?_
            refine askip ?_
            exact ⟨1, by rw [if_neg (by omega)], Sub.refl σ, (.cons rfl (.cons rfl (.cons rfl (.cons rfl (.cons rfl (.cons rfl .nil))))))⟩
        · intro w hw
          refine aseq ?_
          refine areg rfl ?_
          refine s_det (D.move rfl) rfl ?_
          refine s_det (D.move rfl) rfl ?_
          refine s_det (D.idx_m rfl rfl (by omega) (get_lt (i := i) (by rw [tie_len]; omega)) rfl) rfl ?_
          refine s_det (D.load_i rfl rfl) rfl ?_
          refine s_det (D.move rfl) rfl ?_
          refine s_det (D.neq rfl rfl (decide_eq_false (fun h => h (by rw [tie_get, hw])))) rfl ?_
          refine s_nil ?_
          refine acond_f rfl ?_
          refine askip ?_
          refine areg rfl ?_
          refine s_det (D.move rfl) rfl ?_
          refine s_det (D.add rfl rfl (w64 (by omega) (by omega))) rfl ?_
          refine s_det (D.assign rfl) rfl ?_
          refine s_nil ?_
          exact ⟨i + 1, by omega, by omega, (.cons rfl (.cons rfl (.cons rfl (.cons rfl (.cons rfl .nil))))), rfl⟩
      · replace h49 := of_decide_eq_false h49
        refine s_nil ?_
        refine acond_f rfl ?_
        refine aexit ?_
        refine areg rfl ?_
        refine s_det (D.move rfl) rfl ?_
        refine s_det (D.add rfl rfl (w64 (by omega) (by omega))) rfl ?_
        refine s_det (D.assign rfl) rfl ?_
        refine s_nil ?_
        exact ⟨m + 1, by omega, by omega, (.cons rfl (.cons rfl (.cons rfl .nil))), rfl⟩
    · replace h29 := of_decide_eq_false h29
      refine s_nil ?_
      refine acond_f rfl ?_
      refine aexit ?_
      refine aseq ?_
      refine areg rfl ?_
      refine s_det (D.call ev0 b_graduslaw15_wakes graduslaw15_wakes) rfl ?_
      refine s_det (D.assign rfl) rfl ?_
      refine s_nil ?_
      refine aret ?_
      exact ⟨[_], ⟨⟨rfl, rfl⟩, trivial⟩, rfl, rfl⟩

end Go.Proofs.Ytaiccchelchdmaa.F
