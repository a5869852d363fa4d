/- Functions of the program and of the references: what they compute, by the layer Al. Made by a program of this session (wip/al/alfill.py) out of wip/al/specs. -/
import Derived.Test.YtpjcidlkdfebhaaFh
import Derived.Test.YtpjcidlkdfebhaaProg
namespace Go.Proofs.Ytpjcidlkdfebhaa.F
open Go Go.Proofs.Al
set_option linter.unusedVariables false
set_option linter.unusedSimpArgs false
set_option maxRecDepth 10000 in
theorem gradusref1_Power (n k : Nat) (x : List Int) (h1 : 1 ≤ n) (h8 : n ≤ 8) (hx : x.length = n * n) (hk : k ≤ 4398046511104) : Pure Try.prog 46 [tv ⟨[(n : Int), (n : Int)], x⟩, iv k] (tv (powT n ⟨[(n : Int), (n : Int)], x⟩ k)) := by
  refine pure_of_sub fun σ => ?_
  refine acalls Try.func46 rfl rfl (by decide) rfl rfl ?_
  refine aseq ?_
  refine areg rfl ?_
  refine s_act rfl (A.box_o rfl rfl fun b2 hb2 => ?_)
  refine s_act rfl (A.alloc rfl rfl rfl fun b4 hb4 => ?_)
  refine s_nil ?_
  refine aseq ?_
  refine areg rfl ?_
  refine s_det (D.field_p rfl rfl) rfl ?_
  refine s_own (AH.get_set hb4 (AH.set_self ..)) (D.load_p rfl rfl rfl rfl) rfl ?_
  refine s_det (D.idx_m rfl rfl (by omega) rfl rfl) rfl ?_
  refine s_det (D.load_i rfl rfl) rfl ?_
  refine s_det (D.call (evc rfl ev0) b_gradusref1_One (gradusref1_One n h1 h8)) rfl ?_
  refine s_act rfl (A.alloc rfl rfl rfl fun b5 hb5 => ?_)
  obtain ⟨hb5', n54⟩ := AH.set_none hb5
  obtain ⟨hb5', n52⟩ := AH.set_none hb5'
  obtain ⟨hb4', n42⟩ := AH.set_none hb4
  refine s_do (A.store rfl rfl (AH.set_self ..) rfl rfl (by rfl) rfl rfl ?_)
  refine s_nil ?_
  refine aseq ?_
  refine ablock ?_
  -- LOOP writes [1] keeps [2, 4, 5]
  refine aloop (ι := Nat × List Int × List Int × Nat) (fun s => s.2.2.2 ≤ s.1 ∧ s.2.2.2 ≤ 4398046511104 ∧ s.2.1.length = n * n ∧ s.2.2.1.length = n * n ∧ powF n s.1 ⟨[(n : Int), (n : Int)], s.2.1⟩ ⟨[(n : Int), (n : Int)], s.2.2.1⟩ s.2.2.2 = powT n ⟨[(n : Int), (n : Int)], x⟩ k) (fun s => s.1) (fun s => [(1, iv s.2.2.2), (2, .ptr b2 0 [] 0), (4, .ptr b4 0 [] 0), (5, .ptr b5 0 [] 0)]) (fun s => ((σ.set b2 (.row 2 [tv ⟨[(n : Int), (n : Int)], s.2.2.1⟩])).set b4 (.row 2 [nilT])).set b5 (.row 2 [tv ⟨[(n : Int), (n : Int)], s.2.1⟩])) (k, (oneT n).x, x, k) ⟨Nat.le_refl _, hk, by simp [oneT, tab_len], hx, rfl⟩ ?_ (AH.set_set ..) fun s hs => ?_
  · exact (.cons rfl (.cons rfl (.cons rfl (.cons rfl .nil))))
  obtain ⟨f, xt, xa, j⟩ := s
  obtain ⟨hjf, hj, hxt, hxa, hs⟩ := hs
  dsimp only at hjf hj hxt hxa hs
  refine aseq ?_
  refine aseq ?_
  refine areg rfl ?_
  refine s_det (D.move rfl) rfl ?_
  refine s_cmp (D.gtr rfl rfl rfl) rfl (fun h12 => ?_) (fun h12 => ?_)
  · replace h12 := of_decide_eq_true h12
    obtain ⟨f, rfl⟩ : ∃ g, f = g + 1 := ⟨f - 1, by dsimp only at h12; omega⟩
    rw [powF, if_neg (by dsimp only at h12; omega)] at hs
    refine s_nil ?_
    refine acond_t rfl ?_
    refine askip ?_
    refine ablock ?_
    refine aseq ?_
    refine aseq ?_
    refine areg rfl ?_
    refine s_det (D.move rfl) rfl ?_
    refine s_det (D.and rfl rfl (and1 (k := j) hj)) rfl ?_
    refine s_cmp (D.eql rfl rfl rfl) rfl (fun h15 => ?_) (fun h15 => ?_)
    · replace h15 := of_decide_eq_true h15
      refine s_nil ?_
      refine acond_t rfl ?_
      refine areg rfl ?_
      refine s_own (AH.set_self ..) (D.load_p rfl rfl rfl rfl) rfl ?_
      refine s_own (look2 n42 n52) (D.load_p rfl rfl rfl rfl) rfl ?_
      refine s_det (D.call (evc rfl (evc rfl ev0)) b_gradusref1_Mat (gradusref1_Mat n n n xt xa h1 h8 h1 h8 h1 h8 hxt hxa)) rfl ?_
      refine s_do (A.store rfl rfl (AH.set_self ..) rfl rfl (by rfl) rfl rfl ?_)
      refine s_nil ?_
      refine aseq ?_
      refine areg rfl ?_
      refine s_own (by rw [AH.set_set]; exact look2 n42 n52) (D.load_p rfl rfl rfl rfl) rfl ?_
      refine s_own (by rw [AH.set_set]; exact look2 n42 n52) (D.load_p rfl rfl rfl rfl) rfl ?_
      refine s_det (D.call (evc rfl (evc rfl ev0)) b_gradusref1_Mat (gradusref1_Mat n n n xa xa h1 h8 h1 h8 h1 h8 hxa hxa)) rfl ?_
      refine s_do (A.store rfl rfl (by rw [AH.set_set]; exact look2 n42 n52) rfl rfl (by rfl) rfl rfl ?_)
      refine s_nil ?_
      refine areg rfl ?_
      refine s_det (D.move rfl) rfl ?_
      refine s_det (D.shr rfl rfl (by omega) shr1) rfl ?_
      refine s_det (D.assign rfl) rfl ?_
      refine s_nil ?_
      refine ⟨(f, (matT n n n ⟨[(n : Int), (n : Int)], xt⟩ ⟨[(n : Int), (n : Int)], xa⟩).x, (matT n n n ⟨[(n : Int), (n : Int)], xa⟩ ⟨[(n : Int), (n : Int)], xa⟩).x, j / 2), ⟨by dsimp only; omega, by dsimp only; omega, by simp [matT, tab_len], by simp [matT, tab_len], ?_⟩, by dsimp only; omega, (.cons rfl (.cons rfl (.cons rfl (.cons rfl .nil)))), ?_⟩
      · rw [if_pos (by omega)] at hs; exact hs
      · refine (congrArg (fun h => AH.set h b2 _) (AH.set_set ..)).trans (deep2 n42 n52)
    · replace h15 := of_decide_eq_false h15
      refine s_nil ?_
      refine acond_f rfl ?_
      refine askip ?_
      refine aseq ?_
      refine areg rfl ?_
      refine s_own (look2 n42 n52) (D.load_p rfl rfl rfl rfl) rfl ?_
      refine s_own (look2 n42 n52) (D.load_p rfl rfl rfl rfl) rfl ?_
      refine s_det (D.call (evc rfl (evc rfl ev0)) b_gradusref1_Mat (gradusref1_Mat n n n xa xa h1 h8 h1 h8 h1 h8 hxa hxa)) rfl ?_
      refine s_do (A.store rfl rfl (look2 n42 n52) rfl rfl (by rfl) rfl rfl ?_)
      refine s_nil ?_
      refine areg rfl ?_
      refine s_det (D.move rfl) rfl ?_
      refine s_det (D.shr rfl rfl (by omega) shr1) rfl ?_
      refine s_det (D.assign rfl) rfl ?_
      refine s_nil ?_
      refine ⟨(f, xt, (matT n n n ⟨[(n : Int), (n : Int)], xa⟩ ⟨[(n : Int), (n : Int)], xa⟩).x, j / 2), ⟨by dsimp only; omega, by dsimp only; omega, hxt, by simp [matT, tab_len], ?_⟩, by dsimp only; omega, (.cons rfl (.cons rfl (.cons rfl (.cons rfl .nil)))), ?_⟩
      · rw [if_neg (by omega)] at hs; exact hs
      · exact deep2 n42 n52
  · replace h12 := of_decide_eq_false h12
    have hj0 : j = 0 := by dsimp only at h12; omega
    refine s_nil ?_
    refine acond_f rfl ?_
    refine aexit ?_
    refine aseq ?_
    refine areg rfl ?_
    refine s_own (AH.set_self ..) (D.load_p rfl rfl rfl rfl) rfl ?_
    refine s_do (A.store rfl rfl (look4 n54) rfl rfl (by rfl) rfl rfl ?_)
    refine s_nil ?_
    refine aret ?_
    exact ⟨[_], ⟨⟨.inr ⟨_, _, _, _, _, _, _, rfl, AH.set_self .., rfl, rfl⟩, rfl⟩, trivial⟩, by
      have e : powF n f ⟨[(n : Int), (n : Int)], xt⟩ ⟨[(n : Int), (n : Int)], xa⟩ j = ⟨[(n : Int), (n : Int)], xt⟩ := by
        cases f with
        | zero => rfl
        | succ f => rw [powF, if_pos hj0]
      rw [← hs, e]
      exact ⟨rfl, (((((Sub.refl σ).set hb2 _).set hb4' _).set hb5' _).set hb4' _)⟩⟩

end Go.Proofs.Ytpjcidlkdfebhaa.F
