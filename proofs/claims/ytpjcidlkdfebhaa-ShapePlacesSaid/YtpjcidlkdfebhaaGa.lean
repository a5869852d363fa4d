/- Functions of the program and of the references: what they compute, by the layer Al. Made by a program of this session (wip/al/alfill.py) out of wip/al/specs. -/
import Derived.Test.YtpjcidlkdfebhaaFj
import Derived.Test.YtpjcidlkdfebhaaProg
namespace Go.Proofs.Ytpjcidlkdfebhaa.F
open Go Go.Proofs.Al
set_option linter.unusedVariables false
set_option linter.unusedSimpArgs false
set_option maxRecDepth 10000 in
theorem graduslaw2_num (e : Int) : Pure Try.prog 54 [iv e] (iv e) := by
  intro σ
  refine acalls Try.func54 rfl rfl (by decide) rfl rfl ?_
  refine aseq ?_
  refine areg rfl ?_
  refine s_det (D.assign rfl) rfl ?_
  refine s_nil ?_
  refine aseq ?_
  refine areg rfl ?_
  refine s_det (D.move rfl) rfl ?_
  refine s_det (D.assign rfl) rfl ?_
  refine s_nil ?_
  refine aret ?_
  exact ⟨[_], ⟨⟨rfl, rfl⟩, trivial⟩, rfl, rfl⟩

set_option maxRecDepth 10000 in
theorem graduslaw2_sum (l : List Int) (hl : l.length ≤ 4398046511104) : Pure Try.prog 61 [ints l] (iv (sumW l)) := by
  intro σ
  refine acalls Try.func61 rfl rfl (by decide) rfl rfl ?_
  refine aseq ?_
  refine areg rfl ?_
  refine s_det (D.assign rfl) rfl ?_
  refine s_nil ?_
  refine aseq ?_
  refine areg rfl ?_
  refine s_det (D.assign rfl) rfl ?_
  refine s_nil ?_
  refine aseq ?_
  refine aseq ?_
  refine areg rfl ?_
  refine s_det (D.assign rfl) rfl ?_
  refine s_nil ?_
  refine ablock ?_
  -- LOOP writes [3, 4] keeps [0]
  refine aloop (ι := Nat × Int) (fun s => s.1 ≤ l.length ∧ s.2 = (l.take s.1).foldl (fun a x => IntKind.i64.wrap (a + x)) 0) (fun s => l.length - s.1) (fun s => [(0, ints l), (3, iv s.2), (4, iv s.1)]) (fun s => σ) (0, 0) ⟨by simp, by simp⟩ ?_ rfl fun s hs => ?_
  · exact (.cons rfl (.cons rfl (.cons rfl .nil)))
  obtain ⟨i, m⟩ := s
  obtain ⟨hi, hm⟩ := hs
  dsimp only at hi hm
  refine aseq ?_
  refine aseq ?_
  refine areg rfl ?_
  refine s_det (D.move rfl) rfl ?_
  refine s_det (D.move rfl) rfl ?_
  refine s_det (D.len_m rfl rfl) rfl ?_
  refine s_cmp (D.lss rfl rfl rfl) rfl (fun h8 => ?_) (fun h8 => ?_)
  · replace h8 := of_decide_eq_true h8
    have hlt : i < l.length := by dsimp only at h8; omega
    refine s_nil ?_
    refine acond_t rfl ?_
    refine askip ?_
    refine aseq ?_
    refine ablock ?_
    refine areg rfl ?_
    refine s_det (D.move rfl) rfl ?_
    refine s_det (D.move rfl) rfl ?_
    refine s_det (D.move rfl) rfl ?_
    refine s_det (D.idx_m rfl rfl (by omega) (get_lt (i := i) hlt) rfl) rfl ?_
    refine s_det (D.load_i rfl rfl) rfl ?_
    refine s_det (D.add rfl rfl rfl) rfl ?_
    refine s_det (D.assign rfl) rfl ?_
    refine s_nil ?_
    refine areg rfl ?_
    refine s_det (D.move rfl) rfl ?_
    refine s_det (D.add rfl rfl (w64 (by omega) (by omega))) rfl ?_
    refine s_det (D.assign rfl) rfl ?_
    refine s_nil ?_
    exact ⟨(i + 1, IntKind.i64.wrap (m + l[i])), ⟨hlt, by rw [foldl_take hlt, hm]⟩, by dsimp only; omega, (.cons rfl (.cons rfl (.cons rfl .nil))), rfl⟩
  · replace h8 := of_decide_eq_false h8
    refine s_nil ?_
    refine acond_f rfl ?_
    refine aexit ?_
    refine aseq ?_
    refine areg rfl ?_
    refine s_det (D.move rfl) rfl ?_
    refine s_det (D.assign rfl) rfl ?_
    refine s_nil ?_
    refine aret ?_
    exact ⟨[_], ⟨⟨rfl, rfl⟩, trivial⟩, (by
      rw [List.take_of_length_le (by dsimp only at h8; omega)] at hm
      subst hm; rfl), rfl⟩

abbrev wk2 : Tn := ⟨[2], [3, -4]⟩

set_option maxRecDepth 10000 in
theorem graduslaw2_wakes : Pure Try.prog 55 [] (bv true) := by
  intro σ
  refine acalls Try.func55 rfl rfl (by decide) rfl rfl ?_
  refine aseq ?_
  refine areg rfl ?_
  refine s_det (D.assign rfl) rfl ?_
  refine s_nil ?_
  refine aseq ?_
  refine areg rfl ?_
  refine s_det (D.lit sl_int (pc rfl rfl p0) rfl rfl (by decide)) rfl ?_
  refine s_det (D.lit sl_int (pc rfl rfl (pc rfl rfl p0)) rfl rfl (by decide)) rfl ?_
  refine s_det (D.build rfl rfl ⟨_, rfl, rfl, rfl, by simp, ⟨_, rfl, rfl, rfl, by simp, rfl⟩⟩) rfl ?_
  refine s_act rfl (A.alloc rfl rfl rfl fun b1 hb1 => ?_)
  refine s_do (A.store rfl rfl (AH.set_self ..) rfl rfl (by rfl) rfl rfl ?_)
  refine s_nil ?_
  rw [AH.set_set]
  refine afix (d := 1) rfl hb1 ?_
  refine aseq ?_
  refine areg rfl ?_
  refine s_det (D.load_i rfl rfl) rfl ?_
  refine s_det (D.load_i rfl rfl) rfl ?_
  refine s_det (D.call (evw rfl (wkT (t := wk2) rfl rfl) (evw rfl (wkT (t := wk2) rfl rfl) ev0)) b_ring_Sub (ring_Sub wk2 wk2)) rfl ?_
  refine s_det (D.move rfl) rfl ?_
  refine s_det (D.extract rfl rfl) rfl ?_
  refine s_det (D.extract rfl rfl) rfl ?_
  refine s_act rfl (A.alloc rfl rfl rfl fun b2 hb2 => ?_)
  refine s_do (A.store rfl rfl (AH.set_self ..) rfl rfl (by rfl) rfl rfl ?_)
  refine s_det (D.assign rfl) rfl ?_
  refine s_nil ?_
  rw [AH.set_set]
  refine afix (d := 2) rfl hb2 ?_
  refine aseq ?_
  refine areg rfl ?_
  refine s_det (D.load_i rfl rfl) rfl ?_
  refine s_det (D.load_i rfl rfl) rfl ?_
  refine s_det (D.call (evw rfl (wkT (t := wk2) rfl rfl) (evw rfl (wkT (t := wk2) rfl rfl) ev0)) b_ring_Dot (ring_Dot wk2 wk2)) rfl ?_
  refine s_det (D.move rfl) rfl ?_
  refine s_det (D.extract rfl rfl) rfl ?_
  refine s_det (D.extract rfl rfl) rfl ?_
  refine s_det (D.assign rfl) rfl ?_
  refine s_det (D.assign rfl) rfl ?_
  refine s_nil ?_
  refine aseq ?_
  refine areg rfl ?_
  refine s_det (D.move rfl) rfl ?_
  refine s_det (D.call (evc rfl ev0) b_graduslaw2_num (graduslaw2_num _)) rfl ?_
  refine s_det (D.eql rfl rfl (decide_eq_true (by decide +kernel))) rfl ?_
  refine s_det (D.move rfl) rfl ?_
  refine s_yes rfl rfl ?_
  refine s_det (D.move rfl) rfl ?_
  refine s_yes rfl rfl ?_
  refine s_det (D.call (evc rfl ev0) b_graduslaw2_num (graduslaw2_num _)) rfl ?_
  refine s_yes rfl rfl ?_
  refine s_det (D.eql rfl rfl (decide_eq_true (by decide +kernel))) rfl ?_
  refine s_det (D.pick rfl rfl rfl rfl) rfl ?_
  refine s_det (D.move rfl) rfl ?_
  refine s_yes rfl rfl ?_
  refine s_det (D.field_i rfl rfl rfl) rfl ?_
  refine s_yes rfl rfl ?_
  refine s_det (D.load_i rfl rfl) rfl ?_
  refine s_yes rfl rfl ?_
  refine s_det (D.lit sl_int (pc rfl rfl (pc rfl rfl p0)) rfl rfl (by decide)) rfl ?_
  refine s_yes rfl rfl ?_
  refine s_det (D.call (evc rfl (evw rfl Wk.less ev0)) b_gradusref0_EqNumbers (Pure.toT (gradusref0_EqNumbers (twoS opS wk2 wk2).1.x [0, 0] (by decide +kernel) (by decide)) (by decide +kernel))) rfl ?_
  refine s_det (D.pick rfl rfl rfl rfl) rfl ?_
  refine s_det (D.move rfl) rfl ?_
  refine s_yes rfl rfl ?_
  refine s_det (D.move rfl) rfl ?_
  refine s_yes rfl rfl ?_
  refine s_det (D.eql rfl rfl rfl) rfl ?_
  refine s_det (D.pick rfl rfl rfl rfl) rfl ?_
  refine s_det (D.assign rfl) rfl ?_
  refine s_nil ?_
  refine aret ?_
  exact ⟨[_], ⟨⟨rfl, rfl⟩, trivial⟩, (congrArg bv (decide_eq_true (by decide +kernel))), rfl⟩

set_option maxRecDepth 10000 in
theorem graduslaw0_TensorsWeight (l : List Tn) (hl : l.length ≤ 70368744177664) (hf : ∀ t ∈ l, t.fit) : Pure Try.prog 97 [.list false 2 (l.map tv)] (iv (wtT l)) := by
  intro σ
  refine acalls Try.func97 rfl rfl (by decide) rfl rfl ?_
  refine aseq ?_
  refine areg rfl ?_
  refine s_det (D.assign rfl) rfl ?_
  refine s_nil ?_
  refine aseq ?_
  refine areg rfl ?_
  refine s_det (D.move rfl) rfl ?_
  refine s_det (D.len_m rfl rfl) rfl ?_
  refine s_det (D.assign rfl) rfl ?_
  refine s_nil ?_
  refine aseq ?_
  refine aseq ?_
  refine areg rfl ?_
  refine s_det (D.assign rfl) rfl ?_
  refine s_nil ?_
  refine ablock ?_
  -- LOOP writes [3, 4] keeps [0]
  refine aloop (ι := Nat × Nat) (fun s => s.1 ≤ l.length ∧ (s.1 = 0 → s.2 = l.length) ∧ s.2 ≤ 105553116266496 ∧ wtF (l.drop s.1) s.2 = wtT l) (fun s => l.length - s.1) (fun s => [(0, .list false 2 (l.map tv)), (3, iv s.2), (4, iv s.1)]) (fun s => σ) (0, l.length) ⟨by simp, fun _ => rfl, by dsimp only; omega, rfl⟩ ?_ rfl fun s hs => ?_
  · exact (.cons rfl (.cons rfl (.cons rfl .nil)))
  obtain ⟨i, m⟩ := s
  obtain ⟨hi, _, hm, hw⟩ := hs
  dsimp only at hi hm hw
  refine aseq ?_
  refine aseq ?_
  refine areg rfl ?_
  refine s_det (D.move rfl) rfl ?_
  refine s_det (D.move rfl) rfl ?_
  refine s_det (D.len_m rfl rfl) rfl ?_
  refine s_cmp (D.lss rfl rfl rfl) rfl (fun h10 => ?_) (fun h10 => ?_)
  · replace h10 := of_decide_eq_true h10
    have hlt : i < l.length := by dsimp only at h10; omega
    have hfi := hf _ (List.getElem_mem hlt)
    obtain ⟨f1, f2⟩ := hfi
    rw [List.drop_eq_getElem_cons hlt] at hw
    unfold wtF at hw
    refine s_det (D.move rfl) rfl ?_
    refine s_yes rfl rfl ?_
    refine s_det (D.move rfl) rfl ?_
    refine s_yes rfl rfl ?_
    refine s_cmp (D.lss rfl rfl rfl) rfl (fun h13 => ?_) (fun h13 => ?_)
    · replace h13 := of_decide_eq_true h13
      have hmm : m < 1048576 := by dsimp only at h13; omega
      rw [if_pos hmm] at hw
      refine s_det (D.pick rfl rfl rfl rfl) rfl ?_
      refine s_nil ?_
      refine acond_t rfl ?_
      refine askip ?_
      refine aseq ?_
      refine ablock ?_
      refine adraw [.det 0, .det 1, .det 2, .det 3, .det 4, .det 5, .det 6, .det 7, .det 8, .det 9, .det 10, .det 11, .det 12, .det 13, .det 14, .det 15, .det 16] rfl (by kernel_rfl) ?_
      refine d_det rfl (D.move rfl) rfl ?_
      refine d_det rfl (D.move rfl) rfl ?_
      refine d_det rfl (D.move rfl) rfl ?_
      refine d_det rfl (D.idx_m rfl rfl (by omega) (get_lt (i := i) hlt) rfl) rfl ?_
      refine d_det rfl (D.field_i rfl rfl rfl) rfl ?_
      refine d_det rfl (D.load_i rfl rfl) rfl ?_
      refine d_det rfl (D.len_m rfl rfl) rfl ?_
      refine d_det rfl (D.add rfl rfl (r := ((m + l[i].d.length : Nat) : Int)) (by rw [Int.natCast_add]; exact w64 (by dsimp only; omega) (by dsimp only; omega))) rfl ?_
      refine d_det rfl (D.move rfl) rfl ?_
      refine d_det rfl (D.move rfl) rfl ?_
      refine d_det rfl (D.idx_m rfl rfl (by omega) (get_lt (i := i) hlt) rfl) rfl ?_
      refine d_det rfl (D.field_i rfl rfl rfl) rfl ?_
      refine d_det rfl (D.load_i rfl rfl) rfl ?_
      refine d_det rfl (D.len_m rfl rfl) rfl ?_
      refine d_det rfl (D.quo rfl rfl (by omega) (r := ((l[i].x.length / 8 : Nat) : Int)) (by rw [tdivw (by omega) (by omega) (by omega)]; omega)) rfl ?_
      refine d_det rfl (D.add rfl rfl (addN46 (by omega))) rfl ?_
      refine d_det rfl (D.assign rfl) rfl ?_
      refine d_nil ?_
      refine areg rfl ?_
      refine s_det (D.move rfl) rfl ?_
      refine s_det (D.add rfl rfl (w64 (by omega) (by omega))) rfl ?_
      refine s_det (D.assign rfl) rfl ?_
      refine s_nil ?_
      exact ⟨(i + 1, m + l[i].d.length + l[i].x.length / 8), ⟨hlt, fun h => absurd h (by simp), by dsimp only; omega, hw⟩, by dsimp only; omega, (.cons rfl (.cons rfl (.cons rfl .nil))), rfl⟩
    · replace h13 := of_decide_eq_false h13
      rw [if_neg (by dsimp only at h13; omega)] at hw
      refine s_det (D.pick rfl rfl rfl rfl) rfl ?_
      refine s_nil ?_
      refine acond_f rfl ?_
      refine aexit ?_
      refine aseq ?_
      refine areg rfl ?_
      refine s_det (D.move rfl) rfl ?_
      refine s_det (D.assign rfl) rfl ?_
      refine s_nil ?_
      refine aret ?_
      exact ⟨[_], ⟨⟨rfl, rfl⟩, trivial⟩, (by rw [← hw]; rfl), rfl⟩
  · replace h10 := of_decide_eq_false h10
    refine s_det (D.move rfl) rfl ?_
    refine s_no rfl rfl rfl rfl ?_
    refine s_no rfl rfl rfl rfl ?_
    refine s_det (D.pick rfl rfl rfl rfl) rfl ?_
    refine s_nil ?_
    refine acond_f rfl ?_
    refine aexit ?_
    refine aseq ?_
    refine areg rfl ?_
    refine s_det (D.move rfl) rfl ?_
    refine s_det (D.assign rfl) rfl ?_
    refine s_nil ?_
    refine aret ?_
    exact ⟨[_], ⟨⟨rfl, rfl⟩, trivial⟩, (by rw [List.drop_of_length_le (by dsimp only at h10; omega)] at hw; rw [← hw]; rfl), rfl⟩

set_option maxRecDepth 10000 in
theorem graduslaw2_Heavy (ts : List Tn) (ns : List Int) (hl : ts.length ≤ 70368744177664) (hn : ns.length ≤ 70368744177664) (hf : ∀ t ∈ ts, t.fit) (hw : wtT ts ≤ 4611686018427387904) : Pure Try.prog 33 [.agg [.list false 2 (ts.map tv), ints ns]] (bv (decide (500 < wtT ts + ns.length))) := by
  intro σ
  refine acalls Try.func33 rfl rfl (by decide) rfl rfl ?_
  refine aseq ?_
  refine areg rfl ?_
  refine s_det (D.box_i rfl rfl) rfl ?_
  refine s_det (D.assign rfl) rfl ?_
  refine s_nil ?_
  refine aseq ?_
  refine adraw [.det 0, .det 1, .det 2, .det 3, .det 4, .det 5, .det 6, .det 7, .det 8] rfl (by kernel_rfl) ?_
  refine d_det rfl (D.field_i rfl rfl rfl) rfl ?_
  refine d_det rfl (D.load_i rfl rfl) rfl ?_
  refine d_det rfl (D.call (evc rfl ev0) b_graduslaw0_TensorsWeight (graduslaw0_TensorsWeight ts hl hf)) rfl ?_
  refine d_det rfl (D.field_i rfl rfl rfl) rfl ?_
  refine d_det rfl (D.load_i rfl rfl) rfl ?_
  refine d_det rfl (D.len_m rfl rfl) rfl ?_
  refine d_det rfl (D.add rfl rfl (w64 (by omega) (by omega))) rfl ?_
  refine d_det rfl (D.gtr rfl rfl rfl) rfl ?_
  refine d_det rfl (D.assign rfl) rfl ?_
  refine d_nil ?_
  refine aret ?_
  exact ⟨[_], ⟨⟨rfl, rfl⟩, trivial⟩, bvI (by omega), rfl⟩

set_option maxRecDepth 10000 in
theorem graduslaw0_Numbers (l : List Int) (b : Nat) (σ : AH) (hb : σ b = some (rowI l)) (hl : l.length ≤ 70368744177664) : ACalls Try.prog 93 [.ref b 1 0 l.length] σ (fun y σ' => y = .tup [] ∧ ∃ l', σ' = σ.set b (rowI l')) := by
  skip
  refine acalls Try.func93 rfl rfl (by decide) rfl rfl ?_
  refine aseq ?_
  refine areg rfl ?_
  refine s_det (D.assign rfl) rfl ?_
  refine s_nil ?_
  refine ablock ?_
  -- LOOP writes [2] keeps [0]
  refine aloop (ι := Nat × List Int) (fun s => s.1 ≤ l.length ∧ s.2.length = l.length) (fun s => l.length - s.1) (fun s => [(0, .ref b 1 0 l.length), (2, iv s.1)]) (fun s => σ.set b (rowI s.2)) (0, l) ⟨by simp, rfl⟩ ?_ (AH.set_eq hb).symm fun s hs => ?_
  · exact (.cons rfl (.cons rfl .nil))
  obtain ⟨i, m⟩ := s
  obtain ⟨hi, hm⟩ := hs
  dsimp only at hi hm
  refine aseq ?_
  refine aseq ?_
  refine areg rfl ?_
  refine s_det (D.move rfl) rfl ?_
  refine s_det (D.move rfl) rfl ?_
  refine s_det (D.len_r rfl rfl) rfl ?_
  refine s_cmp (D.lss rfl rfl rfl) rfl (fun h6 => ?_) (fun h6 => ?_)
  · replace h6 := of_decide_eq_true h6
    have hlt : i < l.length := by dsimp only at h6; omega
    refine s_nil ?_
    refine acond_t rfl ?_
    refine askip ?_
    refine aseq ?_
    refine ablock ?_
    refine areg rfl ?_
    refine s_det (D.move rfl) rfl ?_
    refine s_det (D.move rfl) rfl ?_
    refine s_det (D.idx_r rfl rfl (by omega) rfl) rfl ?_
    refine s_do (A.store_r rfl rfl (by dsimp only; omega) rfl ?_)
    refine s_nil ?_
    refine areg rfl ?_
    refine s_det (D.move rfl) rfl ?_
    refine s_det (D.add rfl rfl (w64 (by omega) (by omega))) rfl ?_
    refine s_det (D.assign rfl) rfl ?_
    refine s_nil ?_
    exact ⟨(i + 1, m.set i (-99)), ⟨hlt, by dsimp only; rw [List.length_set]; exact hm⟩, by dsimp only; omega, (.cons rfl (.cons rfl .nil)), rfl⟩
  · replace h6 := of_decide_eq_false h6
    refine s_nil ?_
    refine acond_f rfl ?_
    refine aexit ?_
    exact ⟨[], trivial, rfl, m, rfl⟩

set_option maxRecDepth 10000 in
theorem graduslaw0_Tensor (t : Tn) (b c : Nat) (σ : AH) (hb : σ b = some (rowI t.d)) (hc : σ c = some (rowI t.x)) (hn : c ≠ b) (hf : t.fit) : ACalls Try.prog 40 [.agg [.ref b 1 0 t.d.length, .ref c 1 0 t.x.length]] σ (fun y σ' => y = .tup [] ∧ ∃ d' x', σ' = (σ.set b (rowI d')).set c (rowI x')) := by
  obtain ⟨hf1, hf2⟩ := hf
  refine acalls Try.func40 rfl rfl (by decide) rfl rfl ?_
  refine aseq ?_
  refine areg rfl ?_
  refine s_det (D.box_i rfl rfl) rfl ?_
  refine s_nil ?_
  refine aseq ?_
  refine areg rfl ?_
  refine s_det (D.field_i rfl rfl rfl) rfl ?_
  refine s_det (D.load_i rfl rfl) rfl ?_
  refine s_act rfl (A.call (evc rfl ev0) b_graduslaw0_Numbers (graduslaw0_Numbers t.d b _ hb (by omega)) fun y σ' hy => ?_)
  obtain ⟨rfl, d', rfl⟩ := hy
  refine s_nil ?_
  refine areg rfl ?_
  refine s_det (D.field_i rfl rfl rfl) rfl ?_
  refine s_det (D.load_i rfl rfl) rfl ?_
  refine s_act rfl (A.call (evc rfl ev0) b_graduslaw0_Numbers (graduslaw0_Numbers t.x c _ (by rw [AH.set_ne hn]; exact hc) (by omega)) fun y σ' hy => ?_)
  obtain ⟨rfl, x', rfl⟩ := hy
  refine s_nil ?_
  exact ⟨[], trivial, rfl, d', x', rfl⟩

set_option maxRecDepth 10000 in
theorem graduslaw2_like_s (a b : Tn) (ha : okTn a) (hb : b.fit) (σ : AH) : ACalls Try.prog 56 [tv a, tv b] σ (OwnTs (like a b) σ) := by
  have hA : (like a b).x.length = a.x.length := by simp [like, tab_len]
  have h64 := ha.len.2.1
  obtain ⟨hb1, hb2⟩ := hb
  refine acalls Try.func56 rfl rfl (by decide) rfl rfl ?_
  refine aseq ?_
  refine areg rfl ?_
  refine s_det (D.box_i rfl rfl) rfl ?_
  refine s_det (D.box_i rfl rfl) rfl ?_
  refine s_act rfl (A.alloc rfl rfl rfl fun b4 hb4 => ?_)
  refine s_nil ?_
  refine aseq ?_
  refine areg rfl ?_
  refine s_det (D.load_i rfl rfl) rfl ?_
  refine s_act rfl (A.call (evc rfl ev0) b_gradusref0_CopyTensor (gradusref0_CopyTensor_own a ha.sm _) fun y σ' hy => ?_)
  obtain ⟨b8, c8, hb8, hc8, hn8, rfl, rfl⟩ := hy
  refine s_act rfl (A.alloc rfl rfl rfl fun b5 hb5 => ?_)
  refine s_do (A.store rfl rfl (AH.set_self ..) rfl rfl (by rfl) rfl rfl ?_)
  refine s_nil ?_
  rw [AH.set_set]
  refine afix (d := 5) rfl hb5 ?_
  refine aseq ?_
  refine aseq ?_
  refine areg rfl ?_
  refine s_det (D.assign rfl) rfl ?_
  refine s_nil ?_
  refine ablock ?_
  -- LOOP writes [6] keeps [3, 4, 5]
  refine aloop (ι := Nat) (fun i => i ≤ a.x.length) (fun i => a.x.length - i) (fun i => [(3, .iptr (tv b)), (4, .ptr b4 0 [] 0), (5, .iptr (.agg [.ref b8 1 0 a.d.length, .ref c8 1 0 a.x.length])), (6, iv i)]) (fun i => (σ.set b4 (.row 2 [nilT])).ten b8 c8 a.d ((like a b).x.take i ++ a.x.drop i)) 0 (by omega) ?_ rfl fun i hi => ?_
  · exact (.cons rfl (.cons rfl (.cons rfl (.cons rfl .nil))))
  refine aseq ?_
  refine aseq ?_
  refine areg rfl ?_
  refine s_det (D.move rfl) rfl ?_
  refine s_det (D.field_i rfl rfl rfl) rfl ?_
  refine s_det (D.load_i rfl rfl) rfl ?_
  refine s_det (D.len_r rfl rfl) rfl ?_
  refine s_cmp (D.lss rfl rfl rfl) rfl (fun h13 => ?_) (fun h13 => ?_)
  · replace h13 := of_decide_eq_true h13
    have hlt : i < a.x.length := by omega
    have hii : i * i ≤ 64 * 64 := Nat.mul_le_mul (by omega) (by omega)
    refine s_nil ?_
    refine acond_t rfl ?_
    refine askip ?_
    refine aseq ?_
    refine ablock ?_
    refine aseq ?_
    refine areg rfl ?_
    refine s_det (D.field_i rfl rfl rfl) rfl ?_
    refine s_det (D.load_i rfl rfl) rfl ?_
    refine s_det (D.move rfl) rfl ?_
    refine s_det (D.move rfl) rfl ?_
    refine s_det (D.move rfl) rfl ?_
    refine s_det (D.mul rfl rfl (mulN (a := i) (b := i) (by omega))) rfl ?_
    refine s_det (D.sub rfl rfl rfl) rfl ?_
    refine s_det (D.idx_r rfl rfl (by omega) rfl) rfl ?_
    refine s_do (A.store_t rfl rfl (by rw [mix_len hA (by omega)]; omega) rfl ?_)
    refine s_nil ?_
    refine aseq ?_
    refine areg rfl ?_
    refine s_det (D.field_i rfl rfl rfl) rfl ?_
    refine s_det (D.load_i rfl rfl) rfl ?_
    refine s_det (D.len_m rfl rfl) rfl ?_
    refine s_cmp (D.gtr rfl rfl rfl) rfl (fun h27 => ?_) (fun h27 => ?_)
    · replace h27 := of_decide_eq_true h27
      have hbl : 0 < b.x.length := by omega
      have hmod := Nat.mod_lt i hbl
      refine s_nil ?_
      refine acond_t rfl ?_
      refine adraw [.det 0, .det 1, .det 2, .det 3, .det 4, .det 5, .det 6, .det 7, .det 8, .det 9, .det 10, .det 11, .det 12, .det 13, .det 14, .act 15] rfl (by kernel_rfl) ?_
      refine d_det rfl (D.field_i rfl rfl rfl) rfl ?_
      refine d_det rfl (D.load_i rfl rfl) rfl ?_
      refine d_det rfl (D.move rfl) rfl ?_
      refine d_det rfl (D.field_i rfl rfl rfl) rfl ?_
      refine d_det rfl (D.load_i rfl rfl) rfl ?_
      refine d_det rfl (D.move rfl) rfl ?_
      refine d_det rfl (D.field_i rfl rfl rfl) rfl ?_
      refine d_det rfl (D.load_i rfl rfl) rfl ?_
      refine d_det rfl (D.len_m rfl rfl) rfl ?_
      refine d_det rfl (D.rem rfl rfl (by omega) (r := ((i % b.x.length : Nat) : Int)) (by rw [tmodw (by omega)]; omega)) rfl ?_
      refine d_det rfl (D.idx_m rfl rfl (by omega) (get_lt (i := i % b.x.length) hmod) rfl) rfl ?_
      refine d_det rfl (D.load_i rfl rfl) rfl ?_
      refine d_det rfl (D.move rfl) rfl ?_
      refine d_det rfl (D.add rfl rfl rfl) rfl ?_
      refine d_det rfl (D.idx_r rfl rfl (by omega) rfl) rfl ?_
      refine d_do rfl (by kernel_rfl) (A.store_t rfl rfl (by rw [List.length_set, mix_len hA (by omega)]; omega) rfl ?_)
      refine d_nil ?_
      refine areg rfl ?_
      refine s_det (D.move rfl) rfl ?_
      refine s_det (D.add rfl rfl (w64 (by omega) (by omega))) rfl ?_
      refine s_det (D.assign rfl) rfl ?_
      refine s_nil ?_
      refine ⟨i + 1, by omega, by omega, (.cons rfl (.cons rfl (.cons rfl (.cons rfl .nil)))), congrArg (AH.ten _ b8 c8 _) ?_⟩
      rw [List.set_set]
      refine mix_set hA (by omega) ?_
      simp only [like, tab_getE]
      rw [if_neg (by omega), rdN_get hmod]
    · replace h27 := of_decide_eq_false h27
      refine s_nil ?_
      refine acond_f rfl ?_
      refine askip ?_
      refine areg rfl ?_
      refine s_det (D.move rfl) rfl ?_
      refine s_det (D.add rfl rfl (w64 (by omega) (by omega))) rfl ?_
      refine s_det (D.assign rfl) rfl ?_
      refine s_nil ?_
      refine ⟨i + 1, by omega, by omega, (.cons rfl (.cons rfl (.cons rfl (.cons rfl .nil)))), congrArg (AH.ten _ b8 c8 _) (mix_set hA (by omega) ?_)⟩
      simp only [like, tab_getE]
      rw [if_pos (by omega)]
  · replace h13 := of_decide_eq_false h13
    refine s_nil ?_
    refine acond_f rfl ?_
    refine aexit ?_
    refine aseq ?_
    refine areg rfl ?_
    refine s_det (D.load_i rfl rfl) rfl ?_
    refine s_do (A.store rfl rfl (ten_cell hb8 hc8) rfl rfl (by rfl) rfl rfl ?_)
    refine s_nil ?_
    refine aret ?_
    exact ⟨[_], ⟨⟨.inr ⟨_, _, _, _, _, _, _, rfl, AH.set_self .., rfl, rfl⟩, rfl⟩, trivial⟩, ten_done rfl (mix_all hA (by omega)) rfl hA.symm hb4 hb8 hc8 hn8⟩

theorem graduslaw2_like (a b : Tn) (ha : okTn a) (hb : b.fit) : Pure Try.prog 56 [tv a, tv b] (tv (like a b)) := pure_of_ownT fun σ => (graduslaw2_like_s a b ha hb σ).ownT

end Go.Proofs.Ytpjcidlkdfebhaa.F
