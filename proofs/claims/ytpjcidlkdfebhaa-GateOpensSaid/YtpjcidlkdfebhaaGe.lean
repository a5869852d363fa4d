/- Functions of the program and of the references: what they compute, by the layer Al. Made by a program of this session (wip/al/alfill.py) out of wip/al/specs. -/
import Derived.Test.YtpjcidlkdfebhaaGd
import Derived.Test.YtpjcidlkdfebhaaProg
namespace Go.Proofs.Ytpjcidlkdfebhaa.F
open Go Go.Proofs.Al
set_option linter.unusedVariables false
set_option linter.unusedSimpArgs false
set_option maxRecDepth 10000 in
theorem graduslaw4_num (e : Int) : Pure Try.prog 38 [iv e] (iv e) := by
  intro σ
  refine acalls Try.func38 rfl rfl (by decide) rfl rfl ?_
  refine aseq ?_
  refine areg rfl ?_
  refine s_det (D.assign rfl) rfl ?_
  refine s_nil ?_
  refine aseq ?_
  refine areg rfl ?_
  refine s_det (D.move rfl) rfl ?_
  refine s_det (D.assign rfl) rfl ?_
  refine s_nil ?_
  refine aret ?_
  exact ⟨[_], ⟨⟨rfl, rfl⟩, trivial⟩, rfl, rfl⟩

set_option maxRecDepth 10000 in
theorem graduslaw4_wakes : Pure Try.prog 47 [] (bv true) := by
  intro σ
  refine acalls Try.func47 rfl rfl (by decide) rfl rfl ?_
  refine aseq ?_
  refine areg rfl ?_
  refine s_det (D.assign rfl) rfl ?_
  refine s_nil ?_
  refine aseq ?_
  refine areg rfl ?_
  refine s_det (D.call (evc rfl ev0) b_mat_One (mat_One_k 2 (by decide) (by decide))) rfl ?_
  refine s_det (D.move rfl) rfl ?_
  refine s_det (D.extract rfl rfl) rfl ?_
  refine s_det (D.extract rfl rfl) rfl ?_
  refine s_act rfl (A.alloc rfl rfl rfl fun b1 hb1 => ?_)
  refine s_do (A.store rfl rfl (AH.set_self ..) rfl rfl (by rfl) rfl rfl ?_)
  refine s_det (D.assign rfl) rfl ?_
  refine s_nil ?_
  rw [AH.set_set]
  refine afix (d := 1) rfl hb1 ?_
  refine aseq ?_
  refine areg rfl ?_
  refine s_det (D.load_i rfl rfl) rfl ?_
  refine s_det (D.load_i rfl rfl) rfl ?_
  refine s_det (D.call (evc rfl (evc rfl ev0)) b_mat_Mul (mat_Mul_lit 2 2 2 (oneT 2).x (oneT 2).x (by decide) (by decide) (by decide) (by decide) (by decide) (by decide) (by decide) (by decide))) rfl ?_
  refine s_det (D.move rfl) rfl ?_
  refine s_det (D.extract rfl rfl) rfl ?_
  refine s_det (D.extract rfl rfl) rfl ?_
  refine s_act rfl (A.alloc rfl rfl rfl fun b3 hb3 => ?_)
  refine s_do (A.store rfl rfl (AH.set_self ..) rfl rfl (by rfl) rfl rfl ?_)
  refine s_det (D.assign rfl) rfl ?_
  refine s_nil ?_
  rw [AH.set_set]
  refine afix (d := 3) rfl hb3 ?_
  refine aseq ?_
  refine areg rfl ?_
  refine s_det (D.move rfl) rfl ?_
  refine s_det (D.call (evc rfl ev0) b_graduslaw4_num (graduslaw4_num _)) rfl ?_
  refine s_det (D.eql rfl rfl (decide_eq_true (by omega))) rfl ?_
  refine s_det (D.move rfl) rfl ?_
  refine s_yes rfl rfl ?_
  refine s_det (D.move rfl) rfl ?_
  refine s_yes rfl rfl ?_
  refine s_det (D.call (evc rfl ev0) b_graduslaw4_num (graduslaw4_num _)) rfl ?_
  refine s_yes rfl rfl ?_
  refine s_det (D.eql rfl rfl (decide_eq_true (by omega))) rfl ?_
  refine s_det (D.pick rfl rfl rfl rfl) rfl ?_
  refine s_det (D.move rfl) rfl ?_
  refine s_yes rfl rfl ?_
  refine s_det (D.field_i rfl rfl rfl) rfl ?_
  refine s_yes rfl rfl ?_
  refine s_det (D.load_i rfl rfl) rfl ?_
  refine s_yes rfl rfl ?_
  refine s_det (D.lit sl_int (pc rfl rfl (pc rfl rfl (pc rfl rfl (pc rfl rfl p0)))) rfl rfl (by decide)) rfl ?_
  refine s_yes rfl rfl ?_
  refine s_det (D.call (evc rfl (evw rfl Wk.less ev0)) b_gradusref0_EqNumbers (Pure.toT (gradusref0_EqNumbers (matT 2 2 2 (oneT 2) (oneT 2)).x [1, 0, 0, 1] (by decide +kernel) (by decide)) (by decide +kernel))) rfl ?_
  refine s_det (D.pick rfl rfl rfl rfl) rfl ?_
  refine s_det (D.assign rfl) rfl ?_
  refine s_nil ?_
  refine aret ?_
  exact ⟨[_], ⟨⟨rfl, rfl⟩, trivial⟩, rfl, rfl⟩

set_option maxRecDepth 10000 in
theorem graduslaw4_square_s (t : Tn) (n : Nat) (h1 : 1 ≤ n) (h8 : n ≤ 8) (ht : t.fit) (σ : AH) : ACalls Try.prog 86 [tv t, iv n] σ (OwnTs (sqT t n) σ) := by
  obtain ⟨ht1, ht2⟩ := ht
  have hd := okD2 h1 h8 h1 h8
  have hN := fill2_len n n 3
  have h64 := mul88 h8 h8
  have hA : (sqT t n).x.length = (List.replicate (n * n) (3 : Int)).length := by simp [sqT, tab_len]
  have hA2 : (sqT t n).x.length = n * n := by simp [sqT, tab_len]
  refine acalls Try.func86 rfl rfl (by decide) rfl rfl ?_
  refine aseq ?_
  refine areg rfl ?_
  refine s_det (D.box_i rfl rfl) rfl ?_
  refine s_act rfl (A.alloc rfl rfl rfl fun b4 hb4 => ?_)
  refine s_nil ?_
  refine aseq ?_
  refine areg rfl ?_
  refine s_det (D.move rfl) rfl ?_
  refine s_det (D.move rfl) rfl ?_
  refine s_det (D.lit sl_int (pc rfl rfl (pc rfl rfl p0)) rfl rfl (by decide)) rfl ?_
  refine s_act rfl (A.call (evw rfl Wk.less (evc rfl ev0)) b_gradusref1_Fill (gradusref1_Fill_own [(n : Int), (n : Int)] 3 hd _) fun y σ' hy => ?_)
  obtain ⟨b10, c10, hb10, hc10, hn10, rfl, rfl⟩ := hy
  refine s_act rfl (A.alloc rfl rfl rfl fun b5 hb5 => ?_)
  refine s_do (A.store rfl rfl (AH.set_self ..) rfl rfl (by rfl) rfl rfl ?_)
  refine s_nil ?_
  rw [AH.set_set]
  refine afix (d := 5) rfl hb5 ?_
  refine aseq ?_
  refine aseq ?_
  refine areg rfl ?_
  refine s_det (D.assign rfl) rfl ?_
  refine s_nil ?_
  refine ablock ?_
  -- LOOP writes [6] keeps [1, 2, 4, 5]
  refine aloop (ι := Nat) (fun i => i ≤ n * n) (fun i => n * n - i) (fun i => [(1, iv n), (2, .iptr (tv t)), (4, .ptr b4 0 [] 0), (5, .iptr (.agg [.ref b10 1 0 2, .ref c10 1 0 (fillT [(n : Int), (n : Int)] 3).x.length])), (6, iv i)]) (fun i => (σ.set b4 (.row 2 [nilT])).ten b10 c10 [(n : Int), (n : Int)] ((sqT t n).x.take i ++ (List.replicate (n * n) 3).drop i)) 0 (by omega) ?_ (congrArg (AH.ten _ b10 c10 _) ((fill2_v n n 3).trans (by simp))) fun i hi => ?_
  · exact (.cons rfl (.cons rfl (.cons rfl (.cons rfl (.cons rfl .nil)))))
  refine aseq ?_
  refine aseq ?_
  refine areg rfl ?_
  refine s_det (D.move rfl) rfl ?_
  refine s_det (D.move rfl) rfl ?_
  refine s_det (D.move rfl) rfl ?_
  refine s_det (D.mul rfl rfl (mulN (a := n) (b := n) (by omega))) rfl ?_
  refine s_cmp (D.lss rfl rfl rfl) rfl (fun h15 => ?_) (fun h15 => ?_)
  · replace h15 := of_decide_eq_true h15
    have hlt : i < n * n := by omega
    refine s_det (D.move rfl) rfl ?_
    refine s_yes rfl rfl ?_
    refine s_det (D.field_i rfl rfl rfl) rfl ?_
    refine s_yes rfl rfl ?_
    refine s_det (D.load_i rfl rfl) rfl ?_
    refine s_yes rfl rfl ?_
    refine s_det (D.len_m rfl rfl) rfl ?_
    refine s_yes rfl rfl ?_
    refine s_cmp (D.gtr rfl rfl rfl) rfl (fun h20 => ?_) (fun h20 => ?_)
    · replace h20 := of_decide_eq_true h20
      have hbl : 0 < t.x.length := by omega
      have hmod := Nat.mod_lt i hbl
      refine s_det (D.pick rfl rfl rfl rfl) rfl ?_
      refine s_nil ?_
      refine acond_t rfl ?_
      refine askip ?_
      refine aseq ?_
      refine ablock ?_
      refine adraw [.det 0, .det 1, .det 2, .det 3, .det 4, .det 5, .det 6, .det 7, .det 8, .det 9, .det 10, .det 11, .det 12, .det 13, .det 14, .act 15] rfl (by kernel_rfl) ?_
      refine d_det rfl (D.field_i rfl rfl rfl) rfl ?_
      refine d_det rfl (D.load_i rfl rfl) rfl ?_
      refine d_det rfl (D.move rfl) rfl ?_
      refine d_det rfl (D.field_i rfl rfl rfl) rfl ?_
      refine d_det rfl (D.load_i rfl rfl) rfl ?_
      refine d_det rfl (D.move rfl) rfl ?_
      refine d_det rfl (D.field_i rfl rfl rfl) rfl ?_
      refine d_det rfl (D.load_i rfl rfl) rfl ?_
      refine d_det rfl (D.len_m rfl rfl) rfl ?_
      refine d_det rfl (D.rem rfl rfl (by omega) (r := ((i % t.x.length : Nat) : Int)) (by rw [tmodw (by omega)]; omega)) rfl ?_
      refine d_det rfl (D.idx_m rfl rfl (by omega) (get_lt (i := i % t.x.length) hmod) rfl) rfl ?_
      refine d_det rfl (D.load_i rfl rfl) rfl ?_
      refine d_det rfl (D.move rfl) rfl ?_
      refine d_det rfl (D.add rfl rfl rfl) rfl ?_
      refine d_det rfl (D.idx_r rfl rfl (by rw [hN]; omega) rfl) rfl ?_
      refine d_do rfl (by kernel_rfl) (A.store_t rfl rfl (by rw [mix_len hA (by omega)]; omega) rfl ?_)
      refine d_nil ?_
      refine areg rfl ?_
      refine s_det (D.move rfl) rfl ?_
      refine s_det (D.add rfl rfl (w64 (by omega) (by omega))) rfl ?_
      refine s_det (D.assign rfl) rfl ?_
      refine s_nil ?_
      refine ⟨i + 1, by omega, by omega, (.cons rfl (.cons rfl (.cons rfl (.cons rfl (.cons rfl .nil))))), congrArg (AH.ten _ b10 c10 _) (mix_set hA (by omega) ?_)⟩
      simp only [sqT, tab_getE]
      rw [if_neg (by omega), rdN_get hmod]
    · replace h20 := of_decide_eq_false h20
      have e : (sqT t n).x = List.replicate (n * n) 3 := by
        have h0 : t.x.length = 0 := by omega
        refine List.ext_getElem hA fun j h1 h2 => ?_
        simp only [sqT, tab_getE, List.getElem_replicate]
        rw [if_pos h0]
      refine s_det (D.pick rfl rfl rfl rfl) rfl ?_
      refine s_nil ?_
      refine acond_f rfl ?_
      refine aexit ?_
      refine aseq ?_
      refine areg rfl ?_
      refine s_det (D.load_i rfl rfl) rfl ?_
      refine s_do (A.store rfl rfl (ten_cell hb10 hc10) rfl rfl (by rfl) rfl rfl ?_)
      refine s_nil ?_
      refine aret ?_
      exact ⟨[_], ⟨⟨.inr ⟨_, _, _, _, _, _, _, rfl, AH.set_self .., rfl, rfl⟩, rfl⟩, trivial⟩, ten_done rfl (by rw [← e, List.take_append_drop]) rfl (by rw [hN, hA2]) hb4 hb10 hc10 hn10⟩
  · replace h15 := of_decide_eq_false h15
    refine s_det (D.move rfl) rfl ?_
    refine s_no rfl rfl rfl rfl ?_
    refine s_no rfl rfl rfl rfl ?_
    refine s_no rfl rfl rfl rfl ?_
    refine s_no rfl rfl rfl rfl ?_
    refine s_det (D.pick rfl rfl rfl rfl) rfl ?_
    refine s_nil ?_
    refine acond_f rfl ?_
    refine aexit ?_
    refine aseq ?_
    refine areg rfl ?_
    refine s_det (D.load_i rfl rfl) rfl ?_
    refine s_do (A.store rfl rfl (ten_cell hb10 hc10) rfl rfl (by rfl) rfl rfl ?_)
    refine s_nil ?_
    refine aret ?_
    exact ⟨[_], ⟨⟨.inr ⟨_, _, _, _, _, _, _, rfl, AH.set_self .., rfl, rfl⟩, rfl⟩, trivial⟩, ten_done rfl (mix_all hA (by omega)) rfl (by rw [hN, hA2]) hb4 hb10 hc10 hn10⟩

theorem graduslaw4_square (t : Tn) (n : Nat) (h1 : 1 ≤ n) (h8 : n ≤ 8) (ht : t.fit) : Pure Try.prog 86 [tv t, iv n] (tv (sqT t n)) := pure_of_ownT fun σ => (graduslaw4_square_s t n h1 h8 ht σ).ownT
theorem eqT_k {a b : Tn} (ha : okTn a) (hb : okTn b) (h : a = b) : Pure Try.prog 39 [tv a, tv b] (bv true) := Pure.toT (gradusref0_EqTensor a b ha.sm hb.sm) h
theorem mat_Power_k (n k : Nat) (x : List Int) (h1 : 1 ≤ n) (h8 : n ≤ 8) (hx : x.length = n * n) (hk : k ≤ 1073741824) : Pure Try.prog 44 [tv ⟨[(n : Int), (n : Int)], x⟩, iv k] (.tup [tv (powT n ⟨[(n : Int), (n : Int)], x⟩ k), iv 0]) :=
  (mat_Power _ _).to (by rw [powS_k ⟨okTn.lit h1 h8 h1 h8 hx, by omega, by omega⟩ ⟨rfl, rfl⟩]; rfl)

end Go.Proofs.Ytpjcidlkdfebhaa.F
