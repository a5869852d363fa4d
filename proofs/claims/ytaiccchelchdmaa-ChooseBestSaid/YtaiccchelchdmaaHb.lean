/- Functions of the program and of the references: what they compute, by the layer Al. Made by a program of this session (wip/al/alfill.py) out of wip/al/specs. -/
import Derived.Test.YtaiccchelchdmaaHa
import Derived.Test.YtaiccchelchdmaaProg
namespace Go.Proofs.Ytaiccchelchdmaa.F
open Go Go.Proofs.Al
set_option linter.unusedVariables false
set_option linter.unusedSimpArgs false
set_option maxRecDepth 10000 in
theorem slices_Clone_rs (l : List Int) (n : Nat) (hn : n = l.length) (hl : l.length ≤ 4398046511104) (b : Nat) (σ : AH) (hσ : σ b = some (rowI l)) : ACalls Try.prog 36 [.ref b 1 0 n] σ (fun y σ' => (l = [] ∧ (∃ k, y = .list true k []) ∧ σ' = σ) ∨ OwnS iv 1 l σ y σ') := by
  skip
  refine acalls Try.func36 rfl rfl (by decide) rfl rfl ?_
  refine aseq ?_
  refine areg rfl ?_
  refine s_det (D.assign rfl) rfl ?_
  refine s_nil ?_
  refine aseq ?_
  refine aseq ?_
  refine areg rfl ?_
  refine s_det (D.move rfl) rfl ?_
  refine s_act rfl (A.eqlNilr rfl rfl fun c4 h4 => ?_)
  by_cases hc : c4 = true
  · subst hc
    refine s_nil ?_
    refine acond_t rfl ?_
    refine aseq ?_
    refine areg rfl ?_
    refine s_det (D.assign rfl) rfl ?_
    refine s_nil ?_
    refine aret ?_
    exact ⟨[_], ⟨⟨rfl, rfl⟩, trivial⟩, .inl ⟨List.length_eq_zero_iff.1 (by have := h4 rfl; omega), ⟨_, rfl⟩, rfl⟩⟩
  · obtain rfl : c4 = false := by simpa using hc
    refine s_nil ?_
    refine acond_f rfl ?_
    refine askip ?_
    refine aseq ?_
    refine areg rfl ?_
    refine s_det (D.lit sl_int p0 rfl rfl (by decide)) rfl ?_
    refine s_det (D.move rfl) rfl ?_
    by_cases hl0 : l = []
    · subst hl0
      refine s_act rfl (A.append_e rfl (.ref rfl hσ (by simp [hn]) (by simp)) sl_int rfl (by simp) (by decide) rfl (fun _ => ?_) (fun h => absurd rfl h))
      refine s_det (D.assign rfl) rfl ?_
      refine s_nil ?_
      refine aret ?_
      exact ⟨[_], ⟨⟨rfl, rfl⟩, trivial⟩, .inl ⟨rfl, ⟨_, rfl⟩, rfl⟩⟩
    refine s_act rfl (A.append_e (xs := l.map iv) rfl (.ref rfl hσ (by simp [hn]) (by rw [hn, List.drop_zero]; exact List.take_of_length_le (by simp))) sl_int rfl (by simp; omega) (by decide) rfl (fun h => absurd (List.map_eq_nil_iff.1 h) hl0) (fun _ b7 hb7 => ?_))
    refine s_det (D.assign rfl) rfl ?_
    refine s_nil ?_
    refine aret ?_
    exact ⟨[_], ⟨⟨rfl, rfl⟩, trivial⟩, .inr ⟨b7, hb7, by simp [tupOf], rfl⟩⟩

theorem slices_Clone_r (l : List Int) (n : Nat) (hn : n = l.length) (hl : l.length ≤ 4398046511104) (b : Nat) (σ : AH) (hσ : σ b = some (rowI l)) : ACalls Try.prog 36 [.ref b 1 0 n] σ (fun y σ' => y = ints l ∧ σ' = σ) := by
  have h1 : ACalls Try.prog 36 [.ref b 1 0 n] σ (fun y σ' => (y = ints l ∧ σ' = σ) ∨ OwnS iv 1 l σ y σ') := (slices_Clone_rs l n hn hl b σ hσ).wk fun y σ' hy => by
    rcases hy with ⟨rfl, ⟨k, rfl⟩, rfl⟩ | hy
    · exact ⟨_, Wk.nil (k' := 1) (c := true) |>.trans Wk.less, .inl ⟨rfl, rfl⟩⟩
    · exact ⟨_, .refl _, .inr hy⟩
  refine h1.freeze fun y σ' hy => ?_
  rcases hy with ⟨rfl, rfl⟩ | ⟨b, hb, rfl, rfl⟩
  · exact ⟨_, _, Sub.refl _, .refl _, rfl, rfl⟩
  · exact ⟨_, σ, Sub.set (Sub.refl σ) hb _, Pz.whole (AH.set_self ..) hb (by simp), rfl, rfl⟩
theorem take_set_succ {l : List Int} {i : Nat} {v : Int} (h : i < l.length) : (l.set i v).take (i + 1) = l.take i ++ [v] := by
  rw [← take_snoc (l := l.set i v) (i := i) (by simpa using h), List.take_set_of_le (Nat.le_refl _)]; simp
theorem take_of_take {l m : List Int} {i : Nat} (h : l.take (i + 1) = m.take (i + 1)) : l.take i = m.take i := by
  have := congrArg (List.take i) h
  rwa [List.take_take, List.take_take, Nat.min_eq_left (by omega)] at this

set_option maxRecDepth 10000 in
theorem choose_search_from (L : List It) (room host : Int) (br bn : Nat) (hn : bn ≠ br) (hl : L.length ≤ 12) (hL : ∀ x ∈ L, okIt x) : ∀ (n i : Nat) (s : Sm) (a : Acc) (now : List Int) (σ : AH), L.length - i = n → i ≤ L.length → smOk i s → now.length = L.length →
    σ br = some (srow L room host bn a) → σ bn = some (rowI now) → ACalls Try.prog 30 [.ptr br 0 [] 0, iv (i : Int), smv s] σ (fun y σ' => y = .tup [] ∧ ∃ now' : List Int, now'.length = L.length ∧ now'.take i = now.take i ∧
      σ' = (σ.set br (srow L room host bn (srch room host (L.drop i) (now.take i) s a))).set bn (rowI now')) := by
  intro n
  induction n using Nat.strongRecOn with | _ n ih => ?_
  intro i s a now σ hin hi hs hnl hσr hσn
  subst hin
  refine acalls Try.func30 rfl rfl (by decide) rfl rfl ?_
  refine aseq ?_
  refine areg rfl ?_
  refine s_det (D.box_i rfl rfl) rfl ?_
  refine s_nil ?_
  refine aseq ?_
  refine aseq ?_
  refine adraw [.det 0, .det 1, .det 2, .det 3, .det 4, .det 5, .det 6, .det 7, .det 8, .det 9, .det 10, .det 11, .det 12, .det 13, .det 14, .det 15, .det 16, .det 17, .det 18, .det 19, .det 20, .det 21, .det 22, .det 23, .det 24, .det 25, .det 26, .det 27, .det 28, .det 29, .det 30, .det 31] rfl (by kernel_rfl) ?_
  refine d_det rfl (D.field_i rfl rfl rfl) rfl ?_
  refine d_det rfl (D.load_i rfl rfl) rfl ?_
  refine d_det rfl (D.move rfl) rfl ?_
  refine d_det rfl (D.nilCheck_p rfl) rfl ?_
  refine d_det rfl (D.field_p rfl rfl) rfl ?_
  refine d_own hσr rfl (D.load_p rfl rfl rfl rfl) rfl ?_
  refine d_cmp rfl (D.gtr rfl rfl rfl) rfl (fun h13 => ?_) (fun h13 => ?_)
  · replace h13 := of_decide_eq_true h13
    refine d_det rfl (D.move rfl) rfl ?_
    refine d_no rfl rfl rfl rfl rfl ?_
    refine d_no rfl rfl rfl rfl rfl ?_
    refine d_no rfl rfl rfl rfl rfl ?_
    refine d_no rfl rfl rfl rfl rfl ?_
    refine d_no rfl rfl rfl rfl rfl ?_
    refine d_no rfl rfl rfl rfl rfl ?_
    refine d_no rfl rfl rfl rfl rfl ?_
    refine d_det rfl (D.pick rfl rfl rfl rfl) rfl ?_
    refine d_det rfl (D.move rfl) rfl ?_
    refine d_no rfl rfl rfl rfl rfl ?_
    refine d_no rfl rfl rfl rfl rfl ?_
    refine d_no rfl rfl rfl rfl rfl ?_
    refine d_no rfl rfl rfl rfl rfl ?_
    refine d_no rfl rfl rfl rfl rfl ?_
    refine d_no rfl rfl rfl rfl rfl ?_
    refine d_noU rfl rfl rfl rfl ?_
    refine d_noU rfl rfl rfl rfl ?_
    refine d_noU rfl rfl rfl rfl ?_
    refine d_noU rfl rfl rfl rfl ?_
    refine d_noU rfl rfl rfl rfl ?_
    refine d_noU rfl rfl rfl rfl ?_
    refine d_noU rfl rfl rfl rfl ?_
    refine d_no rfl rfl rfl rfl rfl ?_
    refine d_det rfl (D.pick rfl rfl rfl rfl) rfl ?_
    refine d_nil ?_
    refine acond_t rfl ?_
    refine aret ?_
    exact ⟨[], trivial, rfl, now, hnl, rfl, by rw [srch_cut (.inl h13), AH.set_id hσr, AH.set_id hσn]⟩
  · replace h13 := of_decide_eq_false h13
    refine d_det rfl (D.move rfl) rfl ?_
    refine d_yes rfl rfl rfl (D.field_i rfl rfl rfl) rfl ?_
    refine d_yes rfl rfl rfl (D.load_i rfl rfl) rfl ?_
    refine d_yes rfl rfl rfl (D.move rfl) rfl ?_
    refine d_yes rfl rfl rfl (D.nilCheck_p rfl) rfl ?_
    refine d_yes rfl rfl rfl (D.field_p rfl rfl) rfl ?_
    refine d_yesO rfl rfl rfl (D.load_p rfl rfl rfl rfl) hσr rfl ?_
    refine d_yesC rfl rfl rfl (D.gtr rfl rfl rfl) rfl (fun h21 => ?_) (fun h21 => ?_)
    · replace h21 := of_decide_eq_true h21
      refine d_det rfl (D.pick rfl rfl rfl rfl) rfl ?_
      refine d_det rfl (D.move rfl) rfl ?_
      refine d_no rfl rfl rfl rfl rfl ?_
      refine d_no rfl rfl rfl rfl rfl ?_
      refine d_no rfl rfl rfl rfl rfl ?_
      refine d_no rfl rfl rfl rfl rfl ?_
      refine d_no rfl rfl rfl rfl rfl ?_
      refine d_no rfl rfl rfl rfl rfl ?_
      refine d_noU rfl rfl rfl rfl ?_
      refine d_noU rfl rfl rfl rfl ?_
      refine d_noU rfl rfl rfl rfl ?_
      refine d_noU rfl rfl rfl rfl ?_
      refine d_noU rfl rfl rfl rfl ?_
      refine d_noU rfl rfl rfl rfl ?_
      refine d_noU rfl rfl rfl rfl ?_
      refine d_no rfl rfl rfl rfl rfl ?_
      refine d_det rfl (D.pick rfl rfl rfl rfl) rfl ?_
      refine d_nil ?_
      refine acond_t rfl ?_
      refine aret ?_
      exact ⟨[], trivial, rfl, now, hnl, rfl, by rw [srch_cut (.inr (.inl h21)), AH.set_id hσr, AH.set_id hσn]⟩
    · replace h21 := of_decide_eq_false h21
      refine d_det rfl (D.pick rfl rfl rfl rfl) rfl ?_
      refine d_det rfl (D.move rfl) rfl ?_
      refine d_yes rfl rfl rfl (D.move rfl) rfl ?_
      refine d_yes rfl rfl rfl (D.nilCheck_p rfl) rfl ?_
      refine d_yes rfl rfl rfl (D.field_p rfl rfl) rfl ?_
      refine d_yesO rfl rfl rfl (D.load_p rfl rfl rfl rfl) hσr rfl ?_
      refine d_yesC rfl rfl rfl (D.geq rfl rfl rfl) rfl (fun h28 => ?_) (fun h28 => ?_)
      · replace h28 := of_decide_eq_true h28
        refine d_yes rfl rfl rfl (D.move rfl) rfl ?_
        refine d_yes rfl rfl rfl (D.field_i rfl rfl rfl) rfl ?_
        refine d_yes rfl rfl rfl (D.load_i rfl rfl) rfl ?_
        refine d_yes rfl rfl rfl (D.move rfl) rfl ?_
        refine d_yes rfl rfl rfl (D.nilCheck_p rfl) rfl ?_
        refine d_yes rfl rfl rfl (D.field_p rfl rfl) rfl ?_
        refine d_yesO rfl rfl rfl (D.load_p rfl rfl rfl rfl) hσr rfl ?_
        refine d_yesC rfl rfl rfl (D.geq rfl rfl rfl) rfl (fun h36 => ?_) (fun h36 => ?_)
        · replace h36 := of_decide_eq_true h36
          refine d_yes rfl rfl rfl (D.pick rfl rfl rfl rfl) rfl ?_
          refine d_det rfl (D.pick rfl rfl rfl rfl) rfl ?_
          refine d_nil ?_
          refine acond_t rfl ?_
          refine aret ?_
          exact ⟨[], trivial, rfl, now, hnl, rfl, by rw [srch_cut (.inr (.inr ⟨h28, h36⟩)), AH.set_id hσr, AH.set_id hσn]⟩
        · replace h36 := of_decide_eq_false h36
          refine d_yes rfl rfl rfl (D.pick rfl rfl rfl rfl) rfl ?_
          refine d_det rfl (D.pick rfl rfl rfl rfl) rfl ?_
          refine d_nil ?_
          refine acond_f rfl ?_
          refine askip ?_
          refine aseq ?_
          refine aseq ?_
          refine areg rfl ?_
          refine s_det (D.move rfl) rfl ?_
          refine s_det (D.move rfl) rfl ?_
          refine s_det (D.nilCheck_p rfl) rfl ?_
          refine s_det (D.field_p rfl rfl) rfl ?_
          have hcut : ¬ cutS room host s a := fun h => by unfold cutS at h; omega
          refine s_own hσr (D.load_p rfl rfl rfl rfl) rfl ?_
          refine s_det (D.len_m rfl rfl) rfl ?_
          refine s_cmp (D.eql rfl rfl rfl) rfl (fun h45 => ?_) (fun h45 => ?_)
          · replace h45 := of_decide_eq_true h45
            refine s_nil ?_
            refine acond_t rfl ?_
            refine aseq ?_
            refine adraw [.det 0, .det 1, .det 2, .det 3, .det 4, .det 5, .det 7, .det 8, .act 6, .det 9, .det 10, .act 11, .det 12, .det 13, .act 14] rfl (by kernel_rfl) ?_
            refine d_det rfl (D.move rfl) rfl ?_
            refine d_det rfl (D.move rfl) rfl ?_
            refine d_det rfl (D.move rfl) rfl ?_
            refine d_det rfl (D.nilCheck_p rfl) rfl ?_
            refine d_det rfl (D.field_p rfl rfl) rfl ?_
            refine d_own hσr rfl (D.load_p rfl rfl rfl rfl) rfl ?_
            refine d_det rfl (D.field_i rfl rfl rfl) rfl ?_
            refine d_det rfl (D.load_i rfl rfl) rfl ?_
            refine d_act rfl rfl (by kernel_rfl) (A.call (evc rfl ev0) b_slices_Clone (slices_Clone_r now L.length hnl.symm (by omega) bn σ hσn) fun y σ' hy => ?_)
            obtain ⟨rfl, rfl⟩ := hy
            refine d_det rfl (D.nilCheck_p rfl) rfl ?_
            refine d_det rfl (D.field_p rfl rfl) rfl ?_
            refine d_do rfl (by kernel_rfl) (A.store rfl rfl hσr rfl rfl (by rfl) rfl rfl ?_)
            refine d_det rfl (D.nilCheck_p rfl) rfl ?_
            refine d_det rfl (D.field_p rfl rfl) rfl ?_
            refine d_do rfl (by kernel_rfl) (A.store rfl rfl (AH.set_self ..) rfl rfl (by rfl) rfl rfl ?_)
            refine d_nil ?_
            refine aret ?_
            exact ⟨[], trivial, rfl, now, hnl, rfl, by rw [List.drop_eq_nil_of_le (by omega), srch_end hcut, AH.set_set, List.take_of_length_le (by omega)]; exact (AH.set_id (by rw [AH.set_ne hn]; exact hσn)).symm⟩
          · replace h45 := of_decide_eq_false h45
            have hlt : i < L.length := by omega
            refine s_nil ?_
            refine acond_f rfl ?_
            refine askip ?_
            refine aseq ?_
            refine areg rfl ?_
            refine s_det (D.move rfl) rfl ?_
            refine s_nil ?_
            refine ablock ?_
            -- LOOP writes [59] keeps [0, 1, 5]
            refine aloop (ι := Nat × List Int) (fun p => p.1 ≤ 3 ∧ p.2.length = L.length ∧ p.2.take i = now.take i) (fun p => 3 - p.1) (fun p => [(0, .ptr br 0 [] 0), (1, iv i), (5, .iptr (smv s)), (59, iv p.1)]) (fun p => (σ.set br (srow L room host bn (kidsS room host (L.drop (i + 1)) (now.take i) s L[i] p.1 a))).set bn (rowI p.2)) (0, now) ⟨by simp, hnl, rfl⟩ ?_ (by simp only; rw [show kidsS room host (L.drop (i + 1)) (now.take i) s L[i] 0 a = a from rfl, AH.set_id hσr, AH.set_id hσn]) fun p hp => ?_
            · exact (.cons rfl (.cons rfl (.cons rfl (.cons rfl .nil))))
            obtain ⟨k, nk⟩ := p
            obtain ⟨hk1, hk2, hk3⟩ := hp
            dsimp only at hk1 hk2 hk3
            refine aseq ?_
            refine areg rfl ?_
            refine s_cmp (D.lss rfl rfl rfl) rfl (fun h60 => ?_) (fun h60 => ?_)
            · replace h60 := of_decide_eq_true h60
              refine s_nil ?_
              refine aseq ?_
              refine acond_t rfl ?_
              refine askip ?_
              refine aseq ?_
              refine ablock ?_
              refine aseq ?_
              refine areg rfl ?_
              refine s_det (D.move rfl) rfl ?_
              refine s_det (D.assign rfl) rfl ?_
              refine s_nil ?_
              refine aseq ?_
              refine areg rfl ?_
              refine s_det (D.move rfl) rfl ?_
              refine s_det (D.nilCheck_p rfl) rfl ?_
              refine s_det (D.field_p rfl rfl) rfl ?_
              refine s_own (by rw [AH.set_ne (Ne.symm hn), AH.set_self]) (D.load_p rfl rfl rfl rfl) rfl ?_
              refine s_det (D.move rfl) rfl ?_
              refine s_det (D.move rfl) rfl ?_
              refine s_det (D.idx_r rfl rfl (by omega) rfl) rfl ?_
              refine s_do (A.store_r rfl rfl (show i < nk.length by omega) rfl ?_)
              refine s_nil ?_
              refine adraw [.det 0, .det 1, .det 2, .det 3, .det 4, .det 5, .det 6, .det 8, .det 11, .act 7, .det 9, .det 10, .det 12, .act 13] rfl (by kernel_rfl) ?_
              refine d_det rfl (D.move rfl) rfl ?_
              refine d_det rfl (D.move rfl) rfl ?_
              refine d_det rfl (D.add rfl rfl (w64 (by omega) (by omega))) rfl ?_
              refine d_det rfl (D.load_i rfl rfl) rfl ?_
              refine d_det rfl (D.move rfl) rfl ?_
              refine d_det rfl (D.nilCheck_p rfl) rfl ?_
              refine d_det rfl (D.field_p rfl rfl) rfl ?_
              refine d_det rfl (D.move rfl) rfl ?_
              refine d_det rfl (D.move rfl) rfl ?_
              refine d_act rfl rfl rfl ((D.load_p rfl rfl rfl rfl _ (by rw [AH.set_ne (Ne.symm hn), AH.set_self])).mono fun y σ' hy => ?_)
              obtain ⟨rfl, rfl⟩ := hy
              refine d_det rfl (D.idx_m rfl rfl (by omega) (get_lt (i := i) hlt) rfl) rfl ?_
              refine d_det rfl (D.load_i rfl rfl) rfl ?_
              refine d_det rfl (D.call (evc rfl (evc rfl (evc rfl ev0))) b_choose_sums_plus (choose_sums_plus s L[i] k i (by omega) hs (hL _ (List.getElem_mem hlt)) ⟨by omega, by omega⟩)) rfl ?_
              refine d_act rfl rfl rfl (A.call (evc rfl (evc rfl (evc rfl ev0))) b_choose_search_from (ih (L.length - (i + 1)) (by omega) (i + 1) (plusS s L[i] k) (kidsS room host (L.drop (i + 1)) (now.take i) s L[i] k a) (nk.set i k) _ rfl (by omega) (plusS_ok hs (hL _ (List.getElem_mem hlt))) (by simpa using hk2) (by rw [AH.set_ne (Ne.symm hn), AH.set_self]) (AH.set_self ..)) fun y σ' hy => ?_)
              obtain ⟨rfl, nw, hw1, hw2, rfl⟩ := hy
              refine d_nil ?_
              refine areg rfl ?_
              refine s_det (D.add rfl rfl (w64 (by omega) (by omega))) rfl ?_
              refine s_det (D.move rfl) rfl ?_
              refine s_nil ?_
              exact ⟨(k + 1, nw), ⟨by simp only; omega, hw1, by rw [← hk3]; have := take_of_take hw2; rw [this, List.take_set_of_le (Nat.le_refl _)]⟩, by simp only; omega, (.cons rfl (.cons rfl (.cons rfl (.cons rfl .nil)))), by rw [take_set_succ (by omega), hk3, ← kidsS_step]; exact fix2 hn⟩
            · replace h60 := of_decide_eq_false h60
              refine s_nil ?_
              refine aseq ?_
              refine acond_f rfl ?_
              refine aexit ?_
              exact ⟨[], trivial, rfl, nk, hk2, hk3, by rw [show L.drop i = L[i] :: L.drop (i + 1) from List.drop_eq_getElem_cons hlt, srch_go hcut, show k = 3 by omega]⟩
      · replace h28 := of_decide_eq_false h28
        refine d_yes rfl rfl rfl (D.move rfl) rfl ?_
        refine d_no rfl rfl rfl rfl rfl ?_
        refine d_no rfl rfl rfl rfl rfl ?_
        refine d_no rfl rfl rfl rfl rfl ?_
        refine d_no rfl rfl rfl rfl rfl ?_
        refine d_no rfl rfl rfl rfl rfl ?_
        refine d_no rfl rfl rfl rfl rfl ?_
        refine d_no rfl rfl rfl rfl rfl ?_
        refine d_yes rfl rfl rfl (D.pick rfl rfl rfl rfl) rfl ?_
        refine d_det rfl (D.pick rfl rfl rfl rfl) rfl ?_
        refine d_nil ?_
        refine acond_f rfl ?_
        refine askip ?_
        refine aseq ?_
        refine aseq ?_
        refine areg rfl ?_
        refine s_det (D.move rfl) rfl ?_
        refine s_det (D.move rfl) rfl ?_
        refine s_det (D.nilCheck_p rfl) rfl ?_
        refine s_det (D.field_p rfl rfl) rfl ?_
        have hcut : ¬ cutS room host s a := fun h => by unfold cutS at h; omega
        refine s_own hσr (D.load_p rfl rfl rfl rfl) rfl ?_
        refine s_det (D.len_m rfl rfl) rfl ?_
        refine s_cmp (D.eql rfl rfl rfl) rfl (fun h45 => ?_) (fun h45 => ?_)
        · replace h45 := of_decide_eq_true h45
          refine s_nil ?_
          refine acond_t rfl ?_
          refine aseq ?_
          refine adraw [.det 0, .det 1, .det 2, .det 3, .det 4, .det 5, .det 7, .det 8, .act 6, .det 9, .det 10, .act 11, .det 12, .det 13, .act 14] rfl (by kernel_rfl) ?_
          refine d_det rfl (D.move rfl) rfl ?_
          refine d_det rfl (D.move rfl) rfl ?_
          refine d_det rfl (D.move rfl) rfl ?_
          refine d_det rfl (D.nilCheck_p rfl) rfl ?_
          refine d_det rfl (D.field_p rfl rfl) rfl ?_
          refine d_own hσr rfl (D.load_p rfl rfl rfl rfl) rfl ?_
          refine d_det rfl (D.field_i rfl rfl rfl) rfl ?_
          refine d_det rfl (D.load_i rfl rfl) rfl ?_
          refine d_act rfl rfl (by kernel_rfl) (A.call (evc rfl ev0) b_slices_Clone (slices_Clone_r now L.length hnl.symm (by omega) bn σ hσn) fun y σ' hy => ?_)
          obtain ⟨rfl, rfl⟩ := hy
          refine d_det rfl (D.nilCheck_p rfl) rfl ?_
          refine d_det rfl (D.field_p rfl rfl) rfl ?_
          refine d_do rfl (by kernel_rfl) (A.store rfl rfl hσr rfl rfl (by rfl) rfl rfl ?_)
          refine d_det rfl (D.nilCheck_p rfl) rfl ?_
          refine d_det rfl (D.field_p rfl rfl) rfl ?_
          refine d_do rfl (by kernel_rfl) (A.store rfl rfl (AH.set_self ..) rfl rfl (by rfl) rfl rfl ?_)
          refine d_nil ?_
          refine aret ?_
          exact ⟨[], trivial, rfl, now, hnl, rfl, by rw [List.drop_eq_nil_of_le (by omega), srch_end hcut, AH.set_set, List.take_of_length_le (by omega)]; exact (AH.set_id (by rw [AH.set_ne hn]; exact hσn)).symm⟩
        · replace h45 := of_decide_eq_false h45
          have hlt : i < L.length := by omega
          refine s_nil ?_
          refine acond_f rfl ?_
          refine askip ?_
          refine aseq ?_
          refine areg rfl ?_
          refine s_det (D.move rfl) rfl ?_
          refine s_nil ?_
          refine ablock ?_
          -- LOOP writes [59] keeps [0, 1, 5]
          refine aloop (ι := Nat × List Int) (fun p => p.1 ≤ 3 ∧ p.2.length = L.length ∧ p.2.take i = now.take i) (fun p => 3 - p.1) (fun p => [(0, .ptr br 0 [] 0), (1, iv i), (5, .iptr (smv s)), (59, iv p.1)]) (fun p => (σ.set br (srow L room host bn (kidsS room host (L.drop (i + 1)) (now.take i) s L[i] p.1 a))).set bn (rowI p.2)) (0, now) ⟨by simp, hnl, rfl⟩ ?_ (by simp only; rw [show kidsS room host (L.drop (i + 1)) (now.take i) s L[i] 0 a = a from rfl, AH.set_id hσr, AH.set_id hσn]) fun p hp => ?_
          · exact (.cons rfl (.cons rfl (.cons rfl (.cons rfl .nil))))
          obtain ⟨k, nk⟩ := p
          obtain ⟨hk1, hk2, hk3⟩ := hp
          dsimp only at hk1 hk2 hk3
          refine aseq ?_
          refine areg rfl ?_
          refine s_cmp (D.lss rfl rfl rfl) rfl (fun h60 => ?_) (fun h60 => ?_)
          · replace h60 := of_decide_eq_true h60
            refine s_nil ?_
            refine aseq ?_
            refine acond_t rfl ?_
            refine askip ?_
            refine aseq ?_
            refine ablock ?_
            refine aseq ?_
            refine areg rfl ?_
            refine s_det (D.move rfl) rfl ?_
            refine s_det (D.assign rfl) rfl ?_
            refine s_nil ?_
            refine aseq ?_
            refine areg rfl ?_
            refine s_det (D.move rfl) rfl ?_
            refine s_det (D.nilCheck_p rfl) rfl ?_
            refine s_det (D.field_p rfl rfl) rfl ?_
            refine s_own (by rw [AH.set_ne (Ne.symm hn), AH.set_self]) (D.load_p rfl rfl rfl rfl) rfl ?_
            refine s_det (D.move rfl) rfl ?_
            refine s_det (D.move rfl) rfl ?_
            refine s_det (D.idx_r rfl rfl (by omega) rfl) rfl ?_
            refine s_do (A.store_r rfl rfl (show i < nk.length by omega) rfl ?_)
            refine s_nil ?_
            refine adraw [.det 0, .det 1, .det 2, .det 3, .det 4, .det 5, .det 6, .det 8, .det 11, .act 7, .det 9, .det 10, .det 12, .act 13] rfl (by kernel_rfl) ?_
            refine d_det rfl (D.move rfl) rfl ?_
            refine d_det rfl (D.move rfl) rfl ?_
            refine d_det rfl (D.add rfl rfl (w64 (by omega) (by omega))) rfl ?_
            refine d_det rfl (D.load_i rfl rfl) rfl ?_
            refine d_det rfl (D.move rfl) rfl ?_
            refine d_det rfl (D.nilCheck_p rfl) rfl ?_
            refine d_det rfl (D.field_p rfl rfl) rfl ?_
            refine d_det rfl (D.move rfl) rfl ?_
            refine d_det rfl (D.move rfl) rfl ?_
            refine d_act rfl rfl rfl ((D.load_p rfl rfl rfl rfl _ (by rw [AH.set_ne (Ne.symm hn), AH.set_self])).mono fun y σ' hy => ?_)
            obtain ⟨rfl, rfl⟩ := hy
            refine d_det rfl (D.idx_m rfl rfl (by omega) (get_lt (i := i) hlt) rfl) rfl ?_
            refine d_det rfl (D.load_i rfl rfl) rfl ?_
            refine d_det rfl (D.call (evc rfl (evc rfl (evc rfl ev0))) b_choose_sums_plus (choose_sums_plus s L[i] k i (by omega) hs (hL _ (List.getElem_mem hlt)) ⟨by omega, by omega⟩)) rfl ?_
            refine d_act rfl rfl rfl (A.call (evc rfl (evc rfl (evc rfl ev0))) b_choose_search_from (ih (L.length - (i + 1)) (by omega) (i + 1) (plusS s L[i] k) (kidsS room host (L.drop (i + 1)) (now.take i) s L[i] k a) (nk.set i k) _ rfl (by omega) (plusS_ok hs (hL _ (List.getElem_mem hlt))) (by simpa using hk2) (by rw [AH.set_ne (Ne.symm hn), AH.set_self]) (AH.set_self ..)) fun y σ' hy => ?_)
            obtain ⟨rfl, nw, hw1, hw2, rfl⟩ := hy
            refine d_nil ?_
            refine areg rfl ?_
            refine s_det (D.add rfl rfl (w64 (by omega) (by omega))) rfl ?_
            refine s_det (D.move rfl) rfl ?_
            refine s_nil ?_
            exact ⟨(k + 1, nw), ⟨by simp only; omega, hw1, by rw [← hk3]; have := take_of_take hw2; rw [this, List.take_set_of_le (Nat.le_refl _)]⟩, by simp only; omega, (.cons rfl (.cons rfl (.cons rfl (.cons rfl .nil)))), by rw [take_set_succ (by omega), hk3, ← kidsS_step]; exact fix2 hn⟩
          · replace h60 := of_decide_eq_false h60
            refine s_nil ?_
            refine aseq ?_
            refine acond_f rfl ?_
            refine aexit ?_
            exact ⟨[], trivial, rfl, nk, hk2, hk3, by rw [show L.drop i = L[i] :: L.drop (i + 1) from List.drop_eq_getElem_cons hlt, srch_go hcut, show k = 3 by omega]⟩

end Go.Proofs.Ytaiccchelchdmaa.F
