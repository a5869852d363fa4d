/- Functions of the program and of the references: what they compute, by the layer Al. Made by a program of this session (wip/al/alfill.py) out of wip/al/specs. -/
import Derived.Test.YtpjcidlkdfebhaaGh
import Derived.Test.YtpjcidlkdfebhaaAy
import Derived.Test.YtpjcidlkdfebhaaProg
namespace Go.Proofs.Ytpjcidlkdfebhaa.F
open Go Go.Proofs.Al
set_option linter.unusedVariables false
set_option linter.unusedSimpArgs false
set_option maxRecDepth 10000 in
theorem slices_Max (l : List Int) (h0 : 1 ≤ l.length) (hl : l.length ≤ 4398046511104) : Pure Try.prog 113 [ints l] (iv (mxL l)) := by
  intro σ
  refine acalls Try.func113 rfl rfl (by decide) rfl rfl ?_
  refine aseq ?_
  refine areg rfl ?_
  refine s_det (D.assign rfl) rfl ?_
  refine s_nil ?_
  refine aseq ?_
  refine aseq ?_
  refine areg rfl ?_
  refine s_det (D.move rfl) rfl ?_
  refine s_det (D.len_m rfl rfl) rfl ?_
  refine s_det (D.lss rfl rfl (decide_eq_false (by omega))) rfl ?_
  refine s_nil ?_
  refine acond_f rfl ?_
  refine askip ?_
  refine aseq ?_
  refine areg rfl ?_
  refine s_det (D.move rfl) rfl ?_
  refine s_det (D.idx_m rfl rfl (by omega) (get_lt (i := 0) (by omega)) rfl) rfl ?_
  refine s_det (D.load_i rfl rfl) rfl ?_
  refine s_det (D.assign rfl) rfl ?_
  refine s_nil ?_
  refine aseq ?_
  refine aseq ?_
  refine areg rfl ?_
  refine s_det (D.assign rfl) rfl ?_
  refine s_nil ?_
  refine ablock ?_
  -- LOOP writes [3, 4] keeps [0]
  refine aloop (ι := Nat × Int) (fun s => 1 ≤ s.1 ∧ s.1 ≤ l.length ∧ s.2 = mxL (l.take s.1)) (fun s => l.length - s.1) (fun s => [(0, ints l), (3, iv s.2), (4, iv s.1)]) (fun s => σ) (1, l[0]) ⟨Nat.le_refl _, h0, by cases l with | nil => simp at h0 | cons a l => rfl⟩ ?_ rfl fun s hs => ?_
  · exact (.cons rfl (.cons rfl (.cons rfl .nil)))
  obtain ⟨i, m⟩ := s
  obtain ⟨hi1, hi, hm⟩ := hs
  dsimp only at hi1 hi hm
  refine aseq ?_
  refine aseq ?_
  refine areg rfl ?_
  refine s_det (D.move rfl) rfl ?_
  refine s_det (D.move rfl) rfl ?_
  refine s_det (D.len_m rfl rfl) rfl ?_
  refine s_cmp (D.lss rfl rfl rfl) rfl (fun h15 => ?_) (fun h15 => ?_)
  · replace h15 := of_decide_eq_true h15
    have hlt : i < l.length := by dsimp only at h15; omega
    refine s_nil ?_
    refine acond_t rfl ?_
    refine askip ?_
    refine aseq ?_
    refine ablock ?_
    refine areg rfl ?_
    refine s_det (D.move rfl) rfl ?_
    refine s_det (D.move rfl) rfl ?_
    refine s_det (D.move rfl) rfl ?_
    refine s_det (D.idx_m rfl rfl (by omega) (get_lt (i := i) hlt) rfl) rfl ?_
    refine s_det (D.load_i rfl rfl) rfl ?_
    refine s_det (D.max2 rfl rfl rfl) rfl ?_
    refine s_det (D.assign rfl) rfl ?_
    refine s_nil ?_
    refine areg rfl ?_
    refine s_det (D.move rfl) rfl ?_
    refine s_det (D.add rfl rfl (w64 (by omega) (by omega))) rfl ?_
    refine s_det (D.assign rfl) rfl ?_
    refine s_nil ?_
    exact ⟨(i + 1, if l[i] > m then l[i] else m), ⟨by dsimp only; omega, hlt, by dsimp only; rw [mxL_take hi1 hlt, ← hm]; rfl⟩, by dsimp only; omega, (.cons rfl (.cons rfl (.cons rfl .nil))), rfl⟩
  · replace h15 := of_decide_eq_false h15
    refine s_nil ?_
    refine acond_f rfl ?_
    refine aexit ?_
    refine aseq ?_
    refine areg rfl ?_
    refine s_det (D.move rfl) rfl ?_
    refine s_det (D.assign rfl) rfl ?_
    refine s_nil ?_
    refine aret ?_
    exact ⟨[_], ⟨⟨rfl, rfl⟩, trivial⟩, (by
      rw [List.take_of_length_le (by dsimp only at h15; omega)] at hm
      subst hm; rfl), rfl⟩

set_option maxRecDepth 10000 in
theorem slices_Index (l : List Int) (v : Int) (hv : v ∈ l) (hl : l.length ≤ 4398046511104) : Pure Try.prog 126 [ints l, iv v] (iv (fst v l)) := by
  intro σ
  refine acalls Try.func126 rfl rfl (by decide) rfl rfl ?_
  refine aseq ?_
  refine areg rfl ?_
  refine s_det (D.assign rfl) rfl ?_
  refine s_nil ?_
  refine aseq ?_
  refine aseq ?_
  refine areg rfl ?_
  refine s_det (D.move rfl) rfl ?_
  refine s_det (D.len_m rfl rfl) rfl ?_
  refine s_det (D.move rfl) rfl ?_
  refine s_nil ?_
  refine ablock ?_
  -- LOOP writes [8] keeps [0, 1, 7]
  refine aloop (ι := Nat) (fun i => i ≤ l.length ∧ ∀ j, (h : j < l.length) → j < i → l[j] ≠ v) (fun i => l.length - i) (fun i => [(0, ints l), (1, iv v), (7, iv l.length), (8, iv i)]) (fun i => σ) 0 ⟨by omega, fun j _ h => by omega⟩ ?_ rfl fun i hi => ?_
  · exact (.cons rfl (.cons rfl (.cons rfl (.cons rfl .nil))))
  obtain ⟨hi, hne⟩ := hi
  refine aseq ?_
  refine areg rfl ?_
  refine s_cmp (D.lss rfl rfl rfl) rfl (fun h9 => ?_) (fun h9 => ?_)
  · replace h9 := of_decide_eq_true h9
    have hlt : i < l.length := by omega
    refine s_nil ?_
    refine aseq ?_
    refine acond_t rfl ?_
    refine askip ?_
    refine aseq ?_
    refine ablock ?_
    refine aseq ?_
    refine areg rfl ?_
    refine s_det (D.move rfl) rfl ?_
    refine s_det (D.assign rfl) rfl ?_
    refine s_nil ?_
    refine aseq ?_
    refine areg rfl ?_
    refine s_det (D.move rfl) rfl ?_
    refine s_det (D.move rfl) rfl ?_
    refine s_det (D.move rfl) rfl ?_
    refine s_det (D.idx_m rfl rfl (by omega) (get_lt (i := i) hlt) rfl) rfl ?_
    refine s_det (D.load_i rfl rfl) rfl ?_
    refine s_cmp (D.eql rfl rfl rfl) rfl (fun h16 => ?_) (fun h16 => ?_)
    · replace h16 := of_decide_eq_true h16
      refine s_nil ?_
      refine acond_t rfl ?_
      refine aseq ?_
      refine areg rfl ?_
      refine s_det (D.move rfl) rfl ?_
      refine s_det (D.assign rfl) rfl ?_
      refine s_nil ?_
      refine aret ?_
      exact ⟨[_], ⟨⟨rfl, rfl⟩, trivial⟩, (by rw [fst_eq hlt h16.symm (fun j h' => hne j (by omega) h')]; rfl), rfl⟩
    · replace h16 := of_decide_eq_false h16
      refine s_nil ?_
      refine acond_f rfl ?_
      refine askip ?_
      refine areg rfl ?_
      refine s_det (D.add rfl rfl (w64 (by omega) (by omega))) rfl ?_
      refine s_det (D.move rfl) rfl ?_
      refine s_nil ?_
      exact ⟨i + 1, ⟨hlt, fun j h hj => by
          by_cases e : j = i
          · subst e; exact Ne.symm h16
          · exact hne j h (by omega)⟩, by omega, (.cons rfl (.cons rfl (.cons rfl (.cons rfl .nil)))), rfl⟩
  · replace h9 := of_decide_eq_false h9
    refine s_nil ?_
    refine aseq ?_
    refine acond_f rfl ?_
    refine aexit ?_
    refine aseq ?_
    refine areg rfl ?_
    refine s_det (D.assign rfl) rfl ?_
    refine s_nil ?_
    refine aret ?_
    exact ⟨[_], ⟨⟨rfl, rfl⟩, trivial⟩, (by
      exfalso
      obtain ⟨j, hj, e⟩ := List.getElem_of_mem hv
      exact hne j hj (by omega) e), rfl⟩

set_option maxRecDepth 10000 in
theorem gate_greatest (l : List Int) (h0 : 1 ≤ l.length) (hl : l.length ≤ 4398046511104) : Pure Try.prog 115 [ints l] (iv (best l)) := by
  intro σ
  refine acalls Try.func115 rfl rfl (by decide) rfl rfl ?_
  refine aseq ?_
  refine areg rfl ?_
  refine s_det (D.assign rfl) rfl ?_
  refine s_nil ?_
  refine aseq ?_
  refine areg rfl ?_
  refine s_det (D.move rfl) rfl ?_
  refine s_det (D.move rfl) rfl ?_
  refine s_det (D.call (evc rfl ev0) b_slices_Max (slices_Max l h0 hl)) rfl ?_
  refine s_det (D.call (evc rfl (evc rfl ev0)) b_slices_Index (slices_Index l (mxL l) (mxL_mem (by omega)) hl)) rfl ?_
  refine s_det (D.assign rfl) rfl ?_
  refine s_nil ?_
  refine aret ?_
  exact ⟨[_], ⟨⟨rfl, rfl⟩, trivial⟩, rfl, rfl⟩

set_option maxRecDepth 10000 in
theorem gate_Less_s (d : List Int) (n : Nat) (hd : okD d) (h1 : 1 ≤ n) (h8 : n ≤ 8) (σ : AH) : ACalls Try.prog 125 [ints d, iv n] σ (OwnSEs (lessS d n).1 (bv (lessS d n).2) σ) := by
  have hl0 := hd.1
  have hl3 := hd.2.1
  have hle := lastI_get (d := d) (by omega)
  have hr := hd.2.2.1 _ (List.getElem_mem (show d.length - 1 < d.length by omega))
  rw [← hle] at hr
  refine acalls Try.func125 rfl rfl (by decide) rfl rfl ?_
  refine aseq ?_
  refine areg rfl ?_
  refine s_det (D.assign rfl) rfl ?_
  refine s_det (D.assign rfl) rfl ?_
  refine s_nil ?_
  refine aseq ?_
  refine areg rfl ?_
  refine s_det (D.move rfl) rfl ?_
  refine s_act rfl (A.call (evc rfl ev0) b_slices_Clone (slices_Clone_own d (by omega) _) fun y σ' hy => ?_)
  obtain ⟨b8, hb8, rfl, rfl⟩ := hy
  refine s_det (D.assign rfl) rfl ?_
  refine s_nil ?_
  refine aseq ?_
  refine areg rfl ?_
  refine s_det (D.move rfl) rfl ?_
  refine s_det (D.len_r rfl rfl) rfl ?_
  refine s_det (D.sub rfl rfl (r := ((d.length - 1 : Nat) : Int)) (by rw [w64 (by omega) (by omega)]; omega)) rfl ?_
  refine s_det (D.assign rfl) rfl ?_
  refine s_nil ?_
  refine aseq ?_
  refine aseq ?_
  refine areg rfl ?_
  refine s_det (D.move rfl) rfl ?_
  refine s_det (D.move rfl) rfl ?_
  refine s_det (D.idx_r rfl rfl (by omega) rfl) rfl ?_
  refine s_own (AH.set_self ..) (D.load_x rfl (get_lt (i := d.length - 1) (by omega)) rfl) rfl ?_
  refine s_det (D.move rfl) rfl ?_
  refine s_det (D.rem rfl rfl (by omega) (r := lastI d % (n : Int)) (by rw [← hle, tmodw (by have := hr.1; omega)])) rfl ?_
  refine s_cmp (D.neq rfl rfl rfl) rfl (fun h18 => ?_) (fun h18 => ?_)
  · replace h18 := of_decide_eq_true h18
    refine s_nil ?_
    refine acond_t rfl ?_
    refine aseq ?_
    refine areg rfl ?_
    refine s_det (D.assign rfl) rfl ?_
    refine s_det (D.assign rfl) rfl ?_
    refine s_nil ?_
    refine aret ?_
    exact ⟨[_, _], ⟨⟨rfl, rfl⟩, ⟨rfl, rfl⟩, trivial⟩, by rw [lessS_e h18]; exact .inl ⟨rfl, rfl, (by repeat (first | exact Sub.refl _ | refine Sub.set ?_ (by first | assumption | exact (AH.set_none (by assumption)).1 | exact (AH.set_none (AH.set_none (by assumption)).1).1 | exact (AH.set_none (AH.set_none (AH.set_none (by assumption)).1).1).1 | exact (AH.set_none (AH.set_none (AH.set_none (AH.set_none (by assumption)).1).1).1).1 | exact (AH.set_none (AH.set_none (AH.set_none (AH.set_none (AH.set_none (by assumption)).1).1).1).1).1 | exact (AH.set_none (AH.set_none (AH.set_none (AH.set_none (AH.set_none (AH.set_none (by assumption)).1).1).1).1).1).1) _))⟩⟩
  · replace h18 := of_decide_eq_false h18
    have h18' : lastI d % (n : Int) = 0 := Decidable.byContradiction h18
    refine s_nil ?_
    refine acond_f rfl ?_
    refine askip ?_
    refine aseq ?_
    refine areg rfl ?_
    refine s_det (D.move rfl) rfl ?_
    refine s_det (D.move rfl) rfl ?_
    refine s_det (D.idx_r rfl rfl (by omega) rfl) rfl ?_
    refine s_own (AH.set_self ..) (D.load_x rfl (get_lt (i := d.length - 1) (by omega)) rfl) rfl ?_
    refine s_det (D.move rfl) rfl ?_
    refine s_det (D.quo rfl rfl (by omega) (r := lastI d / (n : Int)) (by rw [← hle, tdivw (by have := hr.1; omega) (by have := hr.2; omega) (by omega)])) rfl ?_
    refine s_det (D.idx_r rfl rfl (by omega) rfl) rfl ?_
    refine s_do (A.store_r rfl rfl (by omega) rfl ?_)
    refine s_nil ?_
    refine aseq ?_
    refine areg rfl ?_
    refine s_det (D.move rfl) rfl ?_
    refine s_det (D.assign rfl) rfl ?_
    refine s_det (D.assign rfl) rfl ?_
    refine s_nil ?_
    refine aret ?_
    exact ⟨[_, _], ⟨⟨rfl, rfl⟩, ⟨rfl, rfl⟩, trivial⟩, by rw [lessS_k h18']; exact .inr ⟨.ref b8 1 0 d.length, rfl, b8, hb8, by simp [lessD], AH.set_self .., (by repeat (first | exact Sub.refl _ | refine Sub.set ?_ (by first | assumption | exact (AH.set_none (by assumption)).1 | exact (AH.set_none (AH.set_none (by assumption)).1).1 | exact (AH.set_none (AH.set_none (AH.set_none (by assumption)).1).1).1 | exact (AH.set_none (AH.set_none (AH.set_none (AH.set_none (by assumption)).1).1).1).1 | exact (AH.set_none (AH.set_none (AH.set_none (AH.set_none (AH.set_none (by assumption)).1).1).1).1).1 | exact (AH.set_none (AH.set_none (AH.set_none (AH.set_none (AH.set_none (AH.set_none (by assumption)).1).1).1).1).1).1) _))⟩⟩

theorem gate_Less (d : List Int) (n : Nat) (hd : okD d) (h1 : 1 ≤ n) (h8 : n ≤ 8) : Pure Try.prog 125 [ints d, iv n] (.tup [ints (lessS d n).1, bv (lessS d n).2]) := pure_of_ownSE fun σ => (gate_Less_s d n hd h1 h8 σ).ownSE

set_option maxRecDepth 10000 in
theorem gate_asked (a : Tn) (n : Int) : Pure Try.prog 112 [tv a, iv n] (.tup [ints (askS a n).1, iv (askS a n).2]) := by
  refine pure_wk fun σ => ?_
  refine acalls Try.func112 rfl rfl (by decide) rfl rfl ?_
  refine aseq ?_
  refine areg rfl ?_
  refine s_det (D.box_i rfl rfl) rfl ?_
  refine s_det (D.assign rfl) rfl ?_
  refine s_det (D.assign rfl) rfl ?_
  refine s_nil ?_
  refine aseq ?_
  refine aseq ?_
  refine areg rfl ?_
  refine s_det (D.load_i rfl rfl) rfl ?_
  refine s_cmp (D.call (evc rfl ev0) b_shape_Is (shape_Is a)) rfl (fun h9 => ?_) (fun h9 => ?_)
  · replace h9 := of_decide_eq_true h9
    refine s_det (D.not rfl rfl) rfl ?_
    refine s_det (D.move rfl) rfl ?_
    refine s_yes rfl rfl ?_
    refine s_det (D.move rfl) rfl ?_
    refine s_yes rfl rfl ?_
    refine s_cmp (D.lss rfl rfl rfl) rfl (fun h13 => ?_) (fun h13 => ?_)
    · replace h13 := of_decide_eq_true h13
      refine s_det (D.pick rfl rfl rfl rfl) rfl ?_
      refine s_det (D.move rfl) rfl ?_
      refine s_no rfl rfl rfl rfl ?_
      refine s_no rfl rfl rfl rfl ?_
      refine s_det (D.pick rfl rfl rfl rfl) rfl ?_
      refine s_nil ?_
      refine acond_t rfl ?_
      refine aseq ?_
      refine areg rfl ?_
      refine s_det (D.assign rfl) rfl ?_
      refine s_det (D.assign rfl) rfl ?_
      refine s_nil ?_
      refine aret ?_
      exact ⟨[_, _], ⟨⟨rfl, rfl⟩, ⟨rfl, rfl⟩, trivial⟩, (by rw [askS_f (fun h => by have := h.2.1; omega)]; exact Wk.tup2 Wk1.nil), rfl⟩
    · replace h13 := of_decide_eq_false h13
      refine s_det (D.pick rfl rfl rfl rfl) rfl ?_
      refine s_det (D.move rfl) rfl ?_
      refine s_yes rfl rfl ?_
      refine s_det (D.move rfl) rfl ?_
      refine s_yes rfl rfl ?_
      refine s_cmp (D.gtr rfl rfl rfl) rfl (fun h17 => ?_) (fun h17 => ?_)
      · replace h17 := of_decide_eq_true h17
        refine s_det (D.pick rfl rfl rfl rfl) rfl ?_
        refine s_nil ?_
        refine acond_t rfl ?_
        refine aseq ?_
        refine areg rfl ?_
        refine s_det (D.assign rfl) rfl ?_
        refine s_det (D.assign rfl) rfl ?_
        refine s_nil ?_
        refine aret ?_
        exact ⟨[_, _], ⟨⟨rfl, rfl⟩, ⟨rfl, rfl⟩, trivial⟩, (by rw [askS_f (fun h => by have := h.2.2; omega)]; exact Wk.tup2 Wk1.nil), rfl⟩
      · replace h17 := of_decide_eq_false h17
        have hP : askP a n := ⟨h9, by omega, by omega⟩
        obtain ⟨n, rfl⟩ : ∃ k : Nat, n = (k : Int) := ⟨n.toNat, by omega⟩
        refine s_det (D.pick rfl rfl rfl rfl) rfl ?_
        refine s_nil ?_
        refine acond_f rfl ?_
        refine askip ?_
        refine aseq ?_
        refine areg rfl ?_
        refine s_det (D.field_i rfl rfl rfl) rfl ?_
        refine s_det (D.load_i rfl rfl) rfl ?_
        refine s_det (D.move rfl) rfl ?_
        refine s_det (D.call (evc rfl (evc rfl ev0)) b_gate_Less (gate_Less a.d n h9.1 (by omega) (by omega))) rfl ?_
        refine s_det (D.move rfl) rfl ?_
        refine s_det (D.extract rfl rfl) rfl ?_
        refine s_det (D.extract rfl rfl) rfl ?_
        refine s_det (D.assign rfl) rfl ?_
        refine s_det (D.assign rfl) rfl ?_
        refine s_nil ?_
        refine aseq ?_
        refine aseq ?_
        refine areg rfl ?_
        refine s_det (D.move rfl) rfl ?_
        refine s_det (D.not rfl rfl) rfl ?_
        refine s_nil ?_
        -- cond t27 unknown
        refine acond rfl (fun h27 => ?_) (fun h27 => ?_)
        · have hz : ¬ lastI a.d % (n : Int) = 0 := fun hz => by rw [lessS_k hz] at h27; cases h27
          refine aseq ?_
          refine areg rfl ?_
          refine s_det (D.assign rfl) rfl ?_
          refine s_det (D.assign rfl) rfl ?_
          refine s_nil ?_
          refine aret ?_
          exact ⟨[_, _], ⟨⟨rfl, rfl⟩, ⟨rfl, rfl⟩, trivial⟩, (by rw [askS_e hP hz]; exact Wk.tup2 Wk1.nil), rfl⟩
        · have hz : lastI a.d % (n : Int) = 0 := Decidable.byContradiction fun hz => by rw [lessS_e hz] at h27; cases h27
          refine askip ?_
          refine aseq ?_
          refine areg rfl ?_
          refine s_det (D.move rfl) rfl ?_
          refine s_det (D.assign rfl) rfl ?_
          refine s_det (D.assign rfl) rfl ?_
          refine s_nil ?_
          refine aret ?_
          exact ⟨[_, _], ⟨⟨rfl, rfl⟩, ⟨rfl, rfl⟩, trivial⟩, (by rw [askS_k hP hz, lessS_k hz]; exact .refl _), rfl⟩
  · replace h9 := of_decide_eq_false h9
    refine s_det (D.not rfl rfl) rfl ?_
    refine s_det (D.move rfl) rfl ?_
    refine s_no rfl rfl rfl rfl ?_
    refine s_no rfl rfl rfl rfl ?_
    refine s_det (D.pick rfl rfl rfl rfl) rfl ?_
    refine s_det (D.move rfl) rfl ?_
    refine s_no rfl rfl rfl rfl ?_
    refine s_no rfl rfl rfl rfl ?_
    refine s_det (D.pick rfl rfl rfl rfl) rfl ?_
    refine s_nil ?_
    refine acond_t rfl ?_
    refine aseq ?_
    refine areg rfl ?_
    refine s_det (D.assign rfl) rfl ?_
    refine s_det (D.assign rfl) rfl ?_
    refine s_nil ?_
    refine aret ?_
    exact ⟨[_, _], ⟨⟨rfl, rfl⟩, ⟨rfl, rfl⟩, trivial⟩, (by rw [askS_f (fun h => h9 h.1)]; exact Wk.tup2 Wk1.nil), rfl⟩

end Go.Proofs.Ytpjcidlkdfebhaa.F
