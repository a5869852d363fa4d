/- Functions of the program and of the references: what they compute, by the layer Al. Made by a program of this session (wip/al/alfill.py) out of wip/al/specs. -/
import Derived.Test.YtaiccchelchdmaaHb
import Derived.Test.YtaiccchelchdmaaProg
namespace Go.Proofs.Ytaiccchelchdmaa.F
open Go Go.Proofs.Al
set_option linter.unusedVariables false
set_option linter.unusedSimpArgs false
set_option maxRecDepth 10000 in
theorem choose_found (L : List It) (room host : Int) (hL : okL L) (σ : AH) : ACalls Try.prog 24 [items L, iv room, iv host] σ (fun y σ' => ∃ br bn, y = .ptr br 0 [] 0 ∧ σ' br = some (srow L room host bn (bestS L room host)) ∧ Sub σ σ') := by
  obtain ⟨hl, hL⟩ := hL
  refine acalls Try.func24 rfl rfl (by decide) rfl rfl ?_
  refine aseq ?_
  refine areg rfl ?_
  refine s_det (D.assign rfl) rfl ?_
  refine s_nil ?_
  refine aseq ?_
  refine areg rfl ?_
  refine s_det (D.move rfl) rfl ?_
  refine s_det (D.move rfl) rfl ?_
  refine s_det (D.move rfl) rfl ?_
  refine s_det (D.move rfl) rfl ?_
  refine s_det (D.len_m rfl rfl) rfl ?_
  refine s_act rfl (A.make_x rfl sl_int (by omega) fun b13 hb13 => ?_)
  refine s_det (D.build rfl rfl ⟨_, rfl, rfl, rfl, by simp, ⟨_, rfl, rfl, rfl, by simp, ⟨_, rfl, rfl, rfl, by simp, ⟨_, rfl, rfl, rfl, by simp, ⟨_, rfl, rfl, rfl, by simp, rfl⟩⟩⟩⟩⟩) rfl ?_
  refine s_act rfl (A.box_o rfl rfl fun b17 hb17 => ?_)
  obtain ⟨hb17', n17⟩ := AH.set_none hb17
  refine s_det (D.assign rfl) rfl ?_
  refine s_nil ?_
  refine aseq ?_
  refine areg rfl ?_
  refine s_det (D.move rfl) rfl ?_
  refine s_det (D.build rfl rfl rfl) rfl ?_
  refine s_act rfl (A.call (evc rfl (evc rfl (evc rfl ev0))) b_choose_search_from (choose_search_from L room host b17 b13 (Ne.symm n17) hl hL L.length 0 ⟨0, 0, 0⟩ (none, -1) (List.replicate L.length 0) _ rfl (Nat.zero_le _) smOk0 (by simp) (AH.set_self ..) (by rw [AH.set_ne (Ne.symm n17), AH.set_self])) fun y σ' hy => ?_)
  obtain ⟨rfl, nw, hw1, hw2, rfl⟩ := hy
  refine s_nil ?_
  refine aseq ?_
  refine areg rfl ?_
  refine s_det (D.move rfl) rfl ?_
  refine s_det (D.assign rfl) rfl ?_
  refine s_nil ?_
  refine aret ?_
  exact ⟨[_], ⟨⟨rfl, rfl⟩, trivial⟩, _, _, rfl, by rw [AH.set_ne n17, AH.set_self]; rfl, (by repeat (first | exact Sub.refl _ | refine Sub.set ?_ (by first | assumption | exact (AH.set_none (by assumption)).1 | exact (AH.set_none (AH.set_none (by assumption)).1).1 | exact (AH.set_none (AH.set_none (AH.set_none (by assumption)).1).1).1 | exact (AH.set_none (AH.set_none (AH.set_none (AH.set_none (by assumption)).1).1).1).1 | exact (AH.set_none (AH.set_none (AH.set_none (AH.set_none (AH.set_none (by assumption)).1).1).1).1).1 | exact (AH.set_none (AH.set_none (AH.set_none (AH.set_none (AH.set_none (AH.set_none (by assumption)).1).1).1).1).1).1) _))⟩

set_option maxRecDepth 10000 in
theorem choose_Best (L : List It) (room host : Int) (hl : L.length ≤ 4398046511104) : Pure Try.prog 7 [items L, iv room, iv host] (.tup [ints (bestR L room host).1, iv (bestR L room host).2]) := by
  refine pure_of_subw fun σ => ?_
  refine acalls Try.func7 rfl rfl (by decide) rfl rfl ?_
  refine aseq ?_
  refine areg rfl ?_
  refine s_det (D.assign rfl) rfl ?_
  refine s_det (D.assign rfl) rfl ?_
  refine s_nil ?_
  refine aseq ?_
  refine aseq ?_
  refine areg rfl ?_
  refine s_det (D.move rfl) rfl ?_
  refine s_det (D.move rfl) rfl ?_
  refine s_det (D.move rfl) rfl ?_
  refine s_cmp (D.call (evc rfl (evc rfl (evc rfl ev0))) b_choose_asked (choose_asked L room host hl)) rfl (fun h11 => ?_) (fun h11 => ?_)
  · replace h11 := of_decide_eq_true h11
    refine s_det (D.not rfl rfl) rfl ?_
    refine s_nil ?_
    refine acond_f rfl ?_
    refine askip ?_
    refine aseq ?_
    refine areg rfl ?_
    refine s_det (D.move rfl) rfl ?_
    refine s_det (D.move rfl) rfl ?_
    refine s_det (D.move rfl) rfl ?_
    refine s_act rfl (A.call (evc rfl (evc rfl (evc rfl ev0))) b_choose_found (choose_found L room host h11.1 _) fun y σ' hy => ?_)
    obtain ⟨br, bn, rfl, hbr, hsub⟩ := hy
    refine s_det (D.nilCheck_p rfl) rfl ?_
    refine s_det (D.field_p rfl rfl) rfl ?_
    refine s_own hbr (D.load_p rfl rfl rfl rfl) rfl ?_
    refine s_det (D.assign rfl) rfl ?_
    refine s_det (D.assign rfl) rfl ?_
    refine s_nil ?_
    refine aret ?_
    exact ⟨[_, _], ⟨⟨rfl, rfl⟩, ⟨rfl, rfl⟩, trivial⟩, by rw [bestR, if_pos h11]; exact Wk.tup2 (wk_best _), hsub⟩
  · replace h11 := of_decide_eq_false h11
    refine s_det (D.not rfl rfl) rfl ?_
    refine s_nil ?_
    refine acond_t rfl ?_
    refine aseq ?_
    refine areg rfl ?_
    refine s_det (D.assign rfl) rfl ?_
    refine s_det (D.assign rfl) rfl ?_
    refine s_nil ?_
    refine aret ?_
    exact ⟨[_, _], ⟨⟨rfl, rfl⟩, ⟨rfl, rfl⟩, trivial⟩, by rw [bestR, if_neg h11]; exact Wk.tup2 Wk1.nil, Sub.refl _⟩

set_option maxRecDepth 10000 in
theorem choose_Least (L : List It) (room host : Int) (hl : L.length ≤ 4398046511104) : Pure Try.prog 17 [items L, iv room, iv host] (.tup [iv (leastR L room host).1, iv (leastR L room host).2]) := by
  refine pure_of_sub fun σ => ?_
  refine acalls Try.func17 rfl rfl (by decide) rfl rfl ?_
  refine aseq ?_
  refine areg rfl ?_
  refine s_det (D.assign rfl) rfl ?_
  refine s_det (D.assign rfl) rfl ?_
  refine s_nil ?_
  refine aseq ?_
  refine aseq ?_
  refine areg rfl ?_
  refine s_det (D.move rfl) rfl ?_
  refine s_det (D.move rfl) rfl ?_
  refine s_det (D.move rfl) rfl ?_
  refine s_cmp (D.call (evc rfl (evc rfl (evc rfl ev0))) b_choose_asked (choose_asked L room host hl)) rfl (fun h11 => ?_) (fun h11 => ?_)
  · replace h11 := of_decide_eq_true h11
    refine s_det (D.not rfl rfl) rfl ?_
    refine s_nil ?_
    refine acond_f rfl ?_
    refine askip ?_
    refine aseq ?_
    refine areg rfl ?_
    refine s_det (D.move rfl) rfl ?_
    refine s_det (D.move rfl) rfl ?_
    refine s_det (D.move rfl) rfl ?_
    refine s_act rfl (A.call (evc rfl (evc rfl (evc rfl ev0))) b_choose_found (choose_found L room host h11.1 _) fun y σ' hy => ?_)
    obtain ⟨br, bn, rfl, hbr, hsub⟩ := hy
    refine s_det (D.nilCheck_p rfl) rfl ?_
    refine s_det (D.field_p rfl rfl) rfl ?_
    refine s_own hbr (D.load_p rfl rfl rfl rfl) rfl ?_
    refine s_det (D.assign rfl) rfl ?_
    refine s_det (D.assign rfl) rfl ?_
    refine s_nil ?_
    refine aret ?_
    exact ⟨[_, _], ⟨⟨rfl, rfl⟩, ⟨rfl, rfl⟩, trivial⟩, by rw [leastR, if_pos h11]; rfl, hsub⟩
  · replace h11 := of_decide_eq_false h11
    refine s_det (D.not rfl rfl) rfl ?_
    refine s_nil ?_
    refine acond_t rfl ?_
    refine aseq ?_
    refine areg rfl ?_
    refine s_det (D.assign rfl) rfl ?_
    refine s_det (D.assign rfl) rfl ?_
    refine s_nil ?_
    refine aret ?_
    exact ⟨[_, _], ⟨⟨rfl, rfl⟩, ⟨rfl, rfl⟩, trivial⟩, by rw [leastR, if_neg h11]; rfl, Sub.refl _⟩

end Go.Proofs.Ytaiccchelchdmaa.F
