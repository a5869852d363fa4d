/- Functions of the program and of the references: what they compute, by the layer Al. Made by a program of this session (wip/al/alfill.py) out of wip/al/specs. -/
import Derived.Test.YtpjcidlkdfebhaaGa
import Derived.Test.YtpjcidlkdfebhaaAlt
import Derived.Test.YtpjcidlkdfebhaaAs
import Derived.Test.YtpjcidlkdfebhaaProg
namespace Go.Proofs.Ytpjcidlkdfebhaa.F
open Go Go.Proofs.Al
set_option linter.unusedVariables false
set_option linter.unusedSimpArgs false
set_option maxRecDepth 10000 in
theorem graduslaw0_Lists (l : List (List Int)) (c : Bool) (hl : l.length ≤ 17592186044416) (hf : ∀ t ∈ l, t.length ≤ 17592186044416) : Pure Try.prog 96 [.list c 1 (l.map ints)] (iv (wtL l)) := by
  intro σ
  refine acalls Try.func96 rfl rfl (by decide) rfl rfl ?_
  refine aseq ?_
  refine areg rfl ?_
  refine s_det (D.assign rfl) rfl ?_
  refine s_nil ?_
  refine aseq ?_
  refine areg rfl ?_
  refine s_det (D.move rfl) rfl ?_
  refine s_det (D.len_m rfl rfl) rfl ?_
  refine s_det (D.assign rfl) rfl ?_
  refine s_nil ?_
  refine aseq ?_
  refine aseq ?_
  refine areg rfl ?_
  refine s_det (D.assign rfl) rfl ?_
  refine s_nil ?_
  refine ablock ?_
  -- LOOP writes [3, 4] keeps [0]
  refine aloop (ι := Nat × Nat) (fun s => s.1 ≤ l.length ∧ s.2 ≤ 105553116266496 ∧ wlF (l.drop s.1) s.2 = wtL l) (fun s => l.length - s.1) (fun s => [(0, .list c 1 (l.map ints)), (3, iv s.2), (4, iv s.1)]) (fun s => σ) (0, l.length) ⟨by simp, by dsimp only; omega, rfl⟩ ?_ rfl fun s hs => ?_
  · exact (.cons rfl (.cons rfl (.cons rfl .nil)))
  obtain ⟨i, m⟩ := s
  obtain ⟨hi, hm, hw⟩ := hs
  dsimp only at hi hm hw
  refine aseq ?_
  refine aseq ?_
  refine areg rfl ?_
  refine s_det (D.move rfl) rfl ?_
  refine s_det (D.move rfl) rfl ?_
  refine s_det (D.len_m rfl rfl) rfl ?_
  refine s_cmp (D.lss rfl rfl rfl) rfl (fun h10 => ?_) (fun h10 => ?_)
  · replace h10 := of_decide_eq_true h10
    have hlt : i < l.length := by dsimp only at h10; omega
    have hfi := hf _ (List.getElem_mem hlt)
    rw [List.drop_eq_getElem_cons hlt] at hw
    unfold wlF at hw
    refine s_det (D.move rfl) rfl ?_
    refine s_yes rfl rfl ?_
    refine s_det (D.move rfl) rfl ?_
    refine s_yes rfl rfl ?_
    refine s_cmp (D.lss rfl rfl rfl) rfl (fun h13 => ?_) (fun h13 => ?_)
    · replace h13 := of_decide_eq_true h13
      have hmm : m < 1048576 := by dsimp only at h13; omega
      rw [if_pos hmm] at hw
      refine s_det (D.pick rfl rfl rfl rfl) rfl ?_
      refine s_nil ?_
      refine acond_t rfl ?_
      refine askip ?_
      refine aseq ?_
      refine ablock ?_
      refine areg rfl ?_
      refine s_det (D.move rfl) rfl ?_
      refine s_det (D.move rfl) rfl ?_
      refine s_det (D.move rfl) rfl ?_
      refine s_det (D.idx_m rfl rfl (by omega) (get_lt (i := i) hlt) rfl) rfl ?_
      refine s_det (D.load_i rfl rfl) rfl ?_
      refine s_det (D.len_m rfl rfl) rfl ?_
      refine s_det (D.add rfl rfl (r := ((m + l[i].length : Nat) : Int)) (by rw [Int.natCast_add]; exact w64 (by dsimp only; omega) (by dsimp only; omega))) rfl ?_
      refine s_det (D.assign rfl) rfl ?_
      refine s_nil ?_
      refine areg rfl ?_
      refine s_det (D.move rfl) rfl ?_
      refine s_det (D.add rfl rfl (w64 (by omega) (by omega))) rfl ?_
      refine s_det (D.assign rfl) rfl ?_
      refine s_nil ?_
      exact ⟨(i + 1, m + l[i].length), ⟨hlt, by dsimp only; omega, hw⟩, by dsimp only; omega, (.cons rfl (.cons rfl (.cons rfl .nil))), rfl⟩
    · replace h13 := of_decide_eq_false h13
      rw [if_neg (by dsimp only at h13; omega)] at hw
      refine s_det (D.pick rfl rfl rfl rfl) rfl ?_
      refine s_nil ?_
      refine acond_f rfl ?_
      refine aexit ?_
      refine aseq ?_
      refine areg rfl ?_
      refine s_det (D.move rfl) rfl ?_
      refine s_det (D.assign rfl) rfl ?_
      refine s_nil ?_
      refine aret ?_
      exact ⟨[_], ⟨⟨rfl, rfl⟩, trivial⟩, (by rw [← hw]; rfl), rfl⟩
  · replace h10 := of_decide_eq_false h10
    refine s_det (D.move rfl) rfl ?_
    refine s_no rfl rfl rfl rfl ?_
    refine s_no rfl rfl rfl rfl ?_
    refine s_det (D.pick rfl rfl rfl rfl) rfl ?_
    refine s_nil ?_
    refine acond_f rfl ?_
    refine aexit ?_
    refine aseq ?_
    refine areg rfl ?_
    refine s_det (D.move rfl) rfl ?_
    refine s_det (D.assign rfl) rfl ?_
    refine s_nil ?_
    refine aret ?_
    exact ⟨[_], ⟨⟨rfl, rfl⟩, trivial⟩, (by rw [List.drop_of_length_le (by dsimp only at h10; omega)] at hw; rw [← hw]; rfl), rfl⟩

set_option maxRecDepth 10000 in
theorem graduslaw1_Heavy (ds ps : List (List Int)) (ns : List Int) (ts : List Tn) (h1 : ds.length ≤ 17592186044416) (h2 : ∀ t ∈ ds, t.length ≤ 17592186044416) (h3 : ps.length ≤ 17592186044416) (h4 : ∀ t ∈ ps, t.length ≤ 17592186044416)
    (h5 : ns.length ≤ 17592186044416) (h6 : ts.length ≤ 17592186044416) (h7 : ∀ t ∈ ts, t.fit) : Pure Try.prog 24 [.agg [.list false 1 (ds.map ints), .list false 1 (ps.map ints), ints ns, .list false 2 (ts.map tv)]] (bv (decide (900 < wtL ds + wtL ps + ns.length + wtT ts))) := by
  have k1 := wtL_le' h2 h1
  have k2 := wtL_le' h4 h3
  have k3 := wtT_le' h7 h6
  intro σ
  refine acalls Try.func24 rfl rfl (by decide) rfl rfl ?_
  refine aseq ?_
  refine areg rfl ?_
  refine s_det (D.box_i rfl rfl) rfl ?_
  refine s_det (D.assign rfl) rfl ?_
  refine s_nil ?_
  refine aseq ?_
  refine adraw [.det 0, .det 1, .det 2, .det 3, .det 4, .det 5, .det 6, .det 7, .det 8, .det 9, .det 10, .det 11, .det 12, .det 13, .det 14, .det 15, .det 16] rfl (by kernel_rfl) ?_
  refine d_det rfl (D.field_i rfl rfl rfl) rfl ?_
  refine d_det rfl (D.load_i rfl rfl) rfl ?_
  refine d_det rfl (D.call (evc rfl ev0) b_graduslaw0_Lists (graduslaw0_Lists ds false h1 h2)) rfl ?_
  refine d_det rfl (D.field_i rfl rfl rfl) rfl ?_
  refine d_det rfl (D.load_i rfl rfl) rfl ?_
  refine d_det rfl (D.call (evc rfl ev0) b_graduslaw0_Lists (graduslaw0_Lists ps false h3 h4)) rfl ?_
  refine d_det rfl (D.add rfl rfl (addN46 (by omega))) rfl ?_
  refine d_det rfl (D.field_i rfl rfl rfl) rfl ?_
  refine d_det rfl (D.load_i rfl rfl) rfl ?_
  refine d_det rfl (D.len_m rfl rfl) rfl ?_
  refine d_det rfl (D.add rfl rfl (addN46 (by omega))) rfl ?_
  refine d_det rfl (D.field_i rfl rfl rfl) rfl ?_
  refine d_det rfl (D.load_i rfl rfl) rfl ?_
  refine d_det rfl (D.call (evc rfl ev0) b_graduslaw0_TensorsWeight (graduslaw0_TensorsWeight ts (by omega) h7)) rfl ?_
  refine d_det rfl (D.add rfl rfl (addN46 (by omega))) rfl ?_
  refine d_det rfl (D.gtr rfl rfl rfl) rfl ?_
  refine d_det rfl (D.assign rfl) rfl ?_
  refine d_nil ?_
  refine aret ?_
  exact ⟨[_], ⟨⟨rfl, rfl⟩, trivial⟩, bvI (by omega), rfl⟩

set_option maxRecDepth 10000 in
theorem graduslaw0_Within (i n : Nat) (hi : i ≤ 4611686018427387904) (hn : n ≤ 4611686018427387904) (h0 : 0 < n) : Pure Try.prog 85 [iv i, iv n] (iv ((i % n : Nat) : Int)) := by
  intro σ
  refine acalls Try.func85 rfl rfl (by decide) rfl rfl ?_
  refine aseq ?_
  refine areg rfl ?_
  refine s_det (D.assign rfl) rfl ?_
  refine s_nil ?_
  refine aseq ?_
  refine areg rfl ?_
  refine s_det (D.move rfl) rfl ?_
  refine s_det (D.convI rfl rfl (r := (i : Int)) (wU (by omega))) rfl ?_
  refine s_det (D.move rfl) rfl ?_
  refine s_det (D.convI rfl rfl (r := (n : Int)) (wU (by omega))) rfl ?_
  refine s_det (D.rem rfl rfl (by omega) (r := ((i % n : Nat) : Int)) (by rw [tmodw (by omega)]; omega)) rfl ?_
  refine s_det (D.convI rfl rfl (r := ((i % n : Nat) : Int)) (w64 (by omega) (by have := Nat.mod_lt i h0; omega))) rfl ?_
  refine s_det (D.assign rfl) rfl ?_
  refine s_nil ?_
  refine aret ?_
  exact ⟨[_], ⟨⟨rfl, rfl⟩, trivial⟩, rfl, rfl⟩

end Go.Proofs.Ytpjcidlkdfebhaa.F
