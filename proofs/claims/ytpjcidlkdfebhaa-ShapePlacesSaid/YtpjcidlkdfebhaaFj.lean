/- Functions of the program and of the references: what they compute, by the layer Al. Made by a program of this session (wip/al/alfill.py) out of wip/al/specs. -/
import Derived.Test.YtpjcidlkdfebhaaFi
import Derived.Test.YtpjcidlkdfebhaaProg
namespace Go.Proofs.Ytpjcidlkdfebhaa.F
open Go Go.Proofs.Al
set_option linter.unusedVariables false
set_option linter.unusedSimpArgs false
set_option maxRecDepth 10000 in
theorem ring_Add_1 (x y : Int) : Pure Try.prog 106 [iv x, iv y] (iv (opA x y)) := by
  intro σ
  refine acalls Try.func106 rfl rfl (by decide) rfl rfl ?_
  refine aseq ?_
  refine areg rfl ?_
  refine s_det (D.assign rfl) rfl ?_
  refine s_nil ?_
  refine aseq ?_
  refine areg rfl ?_
  refine s_det (D.move rfl) rfl ?_
  refine s_det (D.move rfl) rfl ?_
  refine s_det (D.add rfl rfl rfl) rfl ?_
  refine s_det (D.assign rfl) rfl ?_
  refine s_nil ?_
  refine aret ?_
  exact ⟨[_], ⟨⟨rfl, rfl⟩, trivial⟩, rfl, rfl⟩

set_option maxRecDepth 10000 in
theorem ring_Sub_1 (x y : Int) : Pure Try.prog 107 [iv x, iv y] (iv (opS x y)) := by
  intro σ
  refine acalls Try.func107 rfl rfl (by decide) rfl rfl ?_
  refine aseq ?_
  refine areg rfl ?_
  refine s_det (D.assign rfl) rfl ?_
  refine s_nil ?_
  refine aseq ?_
  refine areg rfl ?_
  refine s_det (D.move rfl) rfl ?_
  refine s_det (D.move rfl) rfl ?_
  refine s_det (D.sub rfl rfl rfl) rfl ?_
  refine s_det (D.assign rfl) rfl ?_
  refine s_nil ?_
  refine aret ?_
  exact ⟨[_], ⟨⟨rfl, rfl⟩, trivial⟩, rfl, rfl⟩

set_option maxRecDepth 10000 in
theorem ring_Mul_1 (x y : Int) : Pure Try.prog 108 [iv x, iv y] (iv (opM x y)) := by
  intro σ
  refine acalls Try.func108 rfl rfl (by decide) rfl rfl ?_
  refine aseq ?_
  refine areg rfl ?_
  refine s_det (D.assign rfl) rfl ?_
  refine s_nil ?_
  refine aseq ?_
  refine areg rfl ?_
  refine s_det (D.move rfl) rfl ?_
  refine s_det (D.move rfl) rfl ?_
  refine s_det (D.mul rfl rfl rfl) rfl ?_
  refine s_det (D.assign rfl) rfl ?_
  refine s_nil ?_
  refine aret ?_
  exact ⟨[_], ⟨⟨rfl, rfl⟩, trivial⟩, rfl, rfl⟩

set_option maxRecDepth 10000 in
theorem ring_Scale_1 (x y n : Int) : Pure Try.prog 110 [iv x, iv y, .iptr (iv n)] (iv (IntKind.i64.wrap (x * n))) := by
  intro σ
  refine acalls Try.func110 rfl rfl (by decide) rfl rfl ?_
  refine aseq ?_
  refine areg rfl ?_
  refine s_det (D.assign rfl) rfl ?_
  refine s_nil ?_
  refine aseq ?_
  refine areg rfl ?_
  refine s_det (D.move rfl) rfl ?_
  refine s_det (D.load_i rfl rfl) rfl ?_
  refine s_det (D.mul rfl rfl rfl) rfl ?_
  refine s_det (D.assign rfl) rfl ?_
  refine s_nil ?_
  refine aret ?_
  exact ⟨[_], ⟨⟨rfl, rfl⟩, trivial⟩, rfl, rfl⟩

set_option maxRecDepth 10000 in
theorem ring_pair (a b : Tn) : Pure Try.prog 124 [tv a, tv b] (iv (pairS a b)) := by
  intro σ
  refine acalls Try.func124 rfl rfl (by decide) rfl rfl ?_
  refine aseq ?_
  refine areg rfl ?_
  refine s_det (D.box_i rfl rfl) rfl ?_
  refine s_det (D.box_i rfl rfl) rfl ?_
  refine s_det (D.assign rfl) rfl ?_
  refine s_nil ?_
  refine aseq ?_
  refine ablock ?_
  refine aseq ?_
  refine areg rfl ?_
  refine s_det (D.load_i rfl rfl) rfl ?_
  refine s_det (D.load_i rfl rfl) rfl ?_
  refine s_det (D.lit sl_Tensor (pc rfl rfl (pc rfl rfl p0)) rfl rfl (by decide)) rfl ?_
  refine s_cmp (D.call (evc rfl ev0) b_shape_All (shape_All _ _)) rfl (fun h9 => ?_) (fun h9 => ?_)
  · replace h9 := of_decide_eq_true h9
    refine s_det (D.not rfl rfl) rfl ?_
    refine s_det (D.assign rfl) rfl ?_
    refine s_nil ?_
    refine acond_f rfl ?_
    refine aseq ?_
    refine areg rfl ?_
    refine s_det (D.field_i rfl rfl rfl) rfl ?_
    refine s_det (D.load_i rfl rfl) rfl ?_
    refine s_det (D.field_i rfl rfl rfl) rfl ?_
    refine s_det (D.load_i rfl rfl) rfl ?_
    refine s_cmp (D.call (evc rfl (evc rfl ev0)) b_slices_Equal (slices_Equal a.d b.d (by have := h9.1.1.2.1; omega) (by have := h9.2.1.2.1; omega))) rfl (fun h16 => ?_) (fun h16 => ?_)
    · replace h16 := of_decide_eq_true h16
      refine s_det (D.not rfl rfl) rfl ?_
      refine s_det (D.assign rfl) rfl ?_
      refine s_nil ?_
      refine acond_f rfl ?_
      refine askip ?_
      refine aseq ?_
      refine areg rfl ?_
      refine s_det (D.assign rfl) rfl ?_
      refine s_nil ?_
      refine aret ?_
      exact ⟨[_], ⟨⟨rfl, rfl⟩, trivial⟩, (by rw [pairS, if_pos h9, if_pos h16]; rfl), rfl⟩
    · replace h16 := of_decide_eq_false h16
      refine s_det (D.not rfl rfl) rfl ?_
      refine s_det (D.assign rfl) rfl ?_
      refine s_nil ?_
      refine acond_t rfl ?_
      refine aseq ?_
      refine areg rfl ?_
      refine s_det (D.assign rfl) rfl ?_
      refine s_nil ?_
      refine aret ?_
      exact ⟨[_], ⟨⟨rfl, rfl⟩, trivial⟩, (by rw [pairS, if_pos h9, if_neg h16]; rfl), rfl⟩
  · replace h9 := of_decide_eq_false h9
    refine s_det (D.not rfl rfl) rfl ?_
    refine s_det (D.assign rfl) rfl ?_
    refine s_nil ?_
    refine acond_t rfl ?_
    refine aseq ?_
    refine areg rfl ?_
    refine s_det (D.assign rfl) rfl ?_
    refine s_nil ?_
    refine aret ?_
    exact ⟨[_], ⟨⟨rfl, rfl⟩, trivial⟩, (by rw [pairS, if_neg h9]; rfl), rfl⟩

set_option maxRecDepth 10000 in
theorem ring_two_s (a b : Tn) (f : FuncId) (cap : List AV) (hb : bodied Try.prog f = true) (hcap : cap.all (fun a => match a with | .agg _ => false | .tup _ => false | _ => true) = true) (op : Int → Int → Int)
    (hop : ∀ x y, Pure Try.prog f (iv x :: iv y :: cap) (iv (op x y))) (σ : AH) : ACalls Try.prog 105 [tv a, tv b, .fn (.func f) cap] σ (OwnTEs (twoS op a b).1 (twoS op a b).2 σ) := by
  skip
  refine acalls Try.func105 rfl rfl (by decide) rfl rfl ?_
  refine aseq ?_
  refine areg rfl ?_
  refine s_det (D.box_i rfl rfl) rfl ?_
  refine s_det (D.box_i rfl rfl) rfl ?_
  refine s_act rfl (A.alloc rfl rfl rfl fun b6 hb6 => ?_)
  refine s_det (D.assign rfl) rfl ?_
  refine s_nil ?_
  refine aseq ?_
  refine aseq ?_
  refine areg rfl ?_
  refine s_det (D.load_i rfl rfl) rfl ?_
  refine s_det (D.load_i rfl rfl) rfl ?_
  refine s_det (D.call (evc rfl (evc rfl ev0)) b_ring_pair (ring_pair _ _)) rfl ?_
  refine s_det (D.assign rfl) rfl ?_
  refine s_nil ?_
  refine aseq ?_
  refine areg rfl ?_
  refine s_det (D.move rfl) rfl ?_
  refine s_cmp (D.neq rfl rfl rfl) rfl (fun h15 => ?_) (fun h15 => ?_)
  · replace h15 := of_decide_eq_true h15
    refine s_nil ?_
    refine acond_t rfl ?_
    refine aseq ?_
    refine areg rfl ?_
    refine s_det (D.build rfl rfl rfl) rfl ?_
    refine s_det (D.move rfl) rfl ?_
    refine s_do (A.store rfl rfl (AH.set_self ..) rfl rfl (by rfl) rfl rfl ?_)
    refine s_det (D.assign rfl) rfl ?_
    refine s_nil ?_
    refine aret ?_
    exact ⟨[_, _], ⟨⟨.inr ⟨_, _, _, _, _, _, _, rfl, AH.set_self .., rfl, rfl⟩, rfl⟩, ⟨rfl, rfl⟩, trivial⟩, by simp only [twoS]; rw [if_neg h15]; exact nil_done rfl hb6⟩
  · replace h15 := of_decide_eq_false h15
    obtain ⟨hoa, hob, hd⟩ := pairS_zero.1 (Decidable.byContradiction h15)
    have hA : (zipT op a b).x.length = (zerosT a.d).x.length := (zip_len hoa hob hd).trans hoa.zeros.symm
    have hz := hoa.zeros
    have h64 := hoa.len
    have hab := hoa.dims hob hd
    refine s_nil ?_
    refine acond_f rfl ?_
    refine askip ?_
    refine aseq ?_
    refine areg rfl ?_
    refine s_det (D.field_i rfl rfl rfl) rfl ?_
    refine s_det (D.load_i rfl rfl) rfl ?_
    refine s_act rfl (A.call (evc rfl ev0) b_shape_New (shape_New_own a.d hoa.1 _) fun y σ' hy => ?_)
    obtain ⟨b20, c20, hb20, hc20, hn20, rfl, rfl⟩ := hy
    refine s_act rfl (A.alloc rfl rfl rfl fun b9 hb9 => ?_)
    refine s_do (A.store rfl rfl (AH.set_self ..) rfl rfl (by rfl) rfl rfl ?_)
    refine s_nil ?_
    rw [AH.set_set]
    refine afix (d := 9) rfl hb9 ?_
    refine aseq ?_
    refine aseq ?_
    refine areg rfl ?_
    refine s_det (D.field_i rfl rfl rfl) rfl ?_
    refine s_det (D.load_i rfl rfl) rfl ?_
    refine s_det (D.len_r rfl rfl) rfl ?_
    refine s_det (D.move rfl) rfl ?_
    refine s_nil ?_
    refine ablock ?_
    -- LOOP writes [24] keeps [2, 3, 4, 6, 9, 23]
    refine aloop (ι := Nat) (fun i => i ≤ a.x.length) (fun i => a.x.length - i) (fun i => [(2, .fn (.func f) cap), (3, .iptr (tv a)), (4, .iptr (tv b)), (6, .ptr b6 0 [] 0), (9, .iptr (.agg [.ref b20 1 0 a.d.length, .ref c20 1 0 (zerosT a.d).x.length])), (23, iv (zerosT a.d).x.length), (24, iv i)]) (fun i => (σ.set b6 (.row 2 [nilT])).ten b20 c20 a.d ((zipT op a b).x.take i ++ List.replicate ((zerosT a.d).x.length - i) 0)) 0 (by omega) ?_ (congrArg (AH.ten _ b20 c20 _) (by simp [zerosT])) fun i hi => ?_
    · exact (.cons rfl (.cons rfl (.cons rfl (.cons rfl (.cons rfl (.cons rfl (.cons rfl .nil)))))))
    refine aseq ?_
    refine areg rfl ?_
    refine s_cmp (D.lss rfl rfl rfl) rfl (fun h25 => ?_) (fun h25 => ?_)
    · replace h25 := of_decide_eq_true h25
      have hia : i < a.x.length := by omega
      have hib : i < b.x.length := by omega
      refine s_nil ?_
      refine aseq ?_
      refine acond_t rfl ?_
      refine askip ?_
      refine aseq ?_
      refine ablock ?_
      refine aseq ?_
      refine areg rfl ?_
      refine s_det (D.move rfl) rfl ?_
      refine s_det (D.assign rfl) rfl ?_
      refine s_nil ?_
      refine adraw [.det 0, .det 1, .det 2, .det 3, .det 4, .det 5, .det 6, .det 7, .det 8, .det 9, .det 10, .det 11, .det 12, .det 13, .det 14, .det 15, .act 16] rfl (by kernel_rfl) ?_
      refine d_det rfl (D.field_i rfl rfl rfl) rfl ?_
      refine d_det rfl (D.load_i rfl rfl) rfl ?_
      refine d_det rfl (D.move rfl) rfl ?_
      refine d_det rfl (D.move rfl) rfl ?_
      refine d_det rfl (D.field_i rfl rfl rfl) rfl ?_
      refine d_det rfl (D.load_i rfl rfl) rfl ?_
      refine d_det rfl (D.move rfl) rfl ?_
      refine d_det rfl (D.idx_m rfl rfl (by omega) (get_lt (i := i) hia) rfl) rfl ?_
      refine d_det rfl (D.load_i rfl rfl) rfl ?_
      refine d_det rfl (D.field_i rfl rfl rfl) rfl ?_
      refine d_det rfl (D.load_i rfl rfl) rfl ?_
      refine d_det rfl (D.move rfl) rfl ?_
      refine d_det rfl (D.idx_m rfl rfl (by omega) (get_lt (i := i) hib) rfl) rfl ?_
      refine d_det rfl (D.load_i rfl rfl) rfl ?_
      refine d_det rfl (D.callV rfl (evc rfl (evc rfl ev0)) hb hcap (hop _ _)) rfl ?_
      refine d_det rfl (D.idx_r rfl rfl (by omega) rfl) rfl ?_
      refine d_do rfl (by kernel_rfl) (A.store_t rfl rfl (by rw [fill_len hA (by omega)]; omega) rfl ?_)
      refine d_nil ?_
      refine areg rfl ?_
      refine s_det (D.add rfl rfl (w64 (by omega) (by omega))) rfl ?_
      refine s_det (D.move rfl) rfl ?_
      refine s_nil ?_
      exact ⟨i + 1, by omega, by omega, (.cons rfl (.cons rfl (.cons rfl (.cons rfl (.cons rfl (.cons rfl (.cons rfl .nil))))))), congrArg (AH.ten _ b20 c20 _) (fill_set hA (by omega) (by simp [zipT]))⟩
    · replace h25 := of_decide_eq_false h25
      refine s_nil ?_
      refine aseq ?_
      refine acond_f rfl ?_
      refine aexit ?_
      refine aseq ?_
      refine areg rfl ?_
      refine s_det (D.load_i rfl rfl) rfl ?_
      refine s_do (A.store rfl rfl (ten_cell hb20 hc20) rfl rfl (by rfl) rfl rfl ?_)
      refine s_det (D.assign rfl) rfl ?_
      refine s_nil ?_
      refine aret ?_
      exact ⟨[_, _], ⟨⟨.inr ⟨_, _, _, _, _, _, _, rfl, AH.set_self .., rfl, rfl⟩, rfl⟩, ⟨rfl, rfl⟩, trivial⟩, by
        have e := Decidable.byContradiction h15
        simp only [twoS]
        rw [if_pos e, e]
        exact .inr ⟨_, rfl, ten_done rfl (fill_all hA (by omega)) rfl hA.symm hb6 hb20 hc20 hn20⟩⟩

theorem ring_two_own (a b : Tn) (f : FuncId) (cap : List AV) (hb : bodied Try.prog f = true) (hcap : cap.all (fun a => match a with | .agg _ => false | .tup _ => false | _ => true) = true) (op : Int → Int → Int)
      (hop : ∀ x y, Pure Try.prog f (iv x :: iv y :: cap) (iv (op x y))) (σ : AH) : ACalls Try.prog 105 [tv a, tv b, .fn (.func f) cap] σ (OwnTE (twoS op a b).1 (twoS op a b).2 σ) := (ring_two_s a b f cap hb hcap op hop σ).ownTE

set_option maxRecDepth 10000 in
theorem ring_Add_s (a b : Tn) (σ : AH) : ACalls Try.prog 48 [tv a, tv b] σ (OwnTEs (twoS opA a b).1 (twoS opA a b).2 σ) := by
  skip
  refine acalls Try.func48 rfl rfl (by decide) rfl rfl ?_
  refine aseq ?_
  refine areg rfl ?_
  refine s_det (D.box_i rfl rfl) rfl ?_
  refine s_det (D.box_i rfl rfl) rfl ?_
  refine s_act rfl (A.alloc rfl rfl rfl fun b4 hb4 => ?_)
  refine s_det (D.assign rfl) rfl ?_
  refine s_nil ?_
  refine aseq ?_
  refine areg rfl ?_
  refine s_det (D.load_i rfl rfl) rfl ?_
  refine s_det (D.load_i rfl rfl) rfl ?_
  refine s_act rfl (A.call (evc rfl (evc rfl (evc rfl ev0))) b_ring_two (ring_two_own a b 106 [] b_ring_Add_1 rfl opA ring_Add_1 _) fun y σ' hy => ?_)
  obtain ⟨_, rfl, b8, c8, hb8, hc8, hn8, rfl, rfl⟩ := hy
  refine s_det (D.extract rfl rfl) rfl ?_
  refine s_det (D.extract rfl rfl) rfl ?_
  refine s_do (A.store rfl rfl (ten_cell hb8 hc8) rfl rfl (by rfl) rfl rfl ?_)
  refine s_det (D.assign rfl) rfl ?_
  refine s_nil ?_
  refine aret ?_
  exact ⟨[_, _], ⟨⟨.inr ⟨_, _, _, _, _, _, _, rfl, AH.set_self .., rfl, rfl⟩, rfl⟩, ⟨rfl, rfl⟩, trivial⟩, .inr ⟨_, rfl, ten_done rfl rfl rfl rfl hb4 hb8 hc8 hn8⟩⟩

set_option maxRecDepth 10000 in
theorem ring_Sub_s (a b : Tn) (σ : AH) : ACalls Try.prog 49 [tv a, tv b] σ (OwnTEs (twoS opS a b).1 (twoS opS a b).2 σ) := by
  skip
  refine acalls Try.func49 rfl rfl (by decide) rfl rfl ?_
  refine aseq ?_
  refine areg rfl ?_
  refine s_det (D.box_i rfl rfl) rfl ?_
  refine s_det (D.box_i rfl rfl) rfl ?_
  refine s_act rfl (A.alloc rfl rfl rfl fun b4 hb4 => ?_)
  refine s_det (D.assign rfl) rfl ?_
  refine s_nil ?_
  refine aseq ?_
  refine areg rfl ?_
  refine s_det (D.load_i rfl rfl) rfl ?_
  refine s_det (D.load_i rfl rfl) rfl ?_
  refine s_act rfl (A.call (evc rfl (evc rfl (evc rfl ev0))) b_ring_two (ring_two_own a b 107 [] b_ring_Sub_1 rfl opS ring_Sub_1 _) fun y σ' hy => ?_)
  obtain ⟨_, rfl, b8, c8, hb8, hc8, hn8, rfl, rfl⟩ := hy
  refine s_det (D.extract rfl rfl) rfl ?_
  refine s_det (D.extract rfl rfl) rfl ?_
  refine s_do (A.store rfl rfl (ten_cell hb8 hc8) rfl rfl (by rfl) rfl rfl ?_)
  refine s_det (D.assign rfl) rfl ?_
  refine s_nil ?_
  refine aret ?_
  exact ⟨[_, _], ⟨⟨.inr ⟨_, _, _, _, _, _, _, rfl, AH.set_self .., rfl, rfl⟩, rfl⟩, ⟨rfl, rfl⟩, trivial⟩, .inr ⟨_, rfl, ten_done rfl rfl rfl rfl hb4 hb8 hc8 hn8⟩⟩

set_option maxRecDepth 10000 in
theorem ring_Mul_s (a b : Tn) (σ : AH) : ACalls Try.prog 50 [tv a, tv b] σ (OwnTEs (twoS opM a b).1 (twoS opM a b).2 σ) := by
  skip
  refine acalls Try.func50 rfl rfl (by decide) rfl rfl ?_
  refine aseq ?_
  refine areg rfl ?_
  refine s_det (D.box_i rfl rfl) rfl ?_
  refine s_det (D.box_i rfl rfl) rfl ?_
  refine s_act rfl (A.alloc rfl rfl rfl fun b4 hb4 => ?_)
  refine s_det (D.assign rfl) rfl ?_
  refine s_nil ?_
  refine aseq ?_
  refine areg rfl ?_
  refine s_det (D.load_i rfl rfl) rfl ?_
  refine s_det (D.load_i rfl rfl) rfl ?_
  refine s_act rfl (A.call (evc rfl (evc rfl (evc rfl ev0))) b_ring_two (ring_two_own a b 108 [] b_ring_Mul_1 rfl opM ring_Mul_1 _) fun y σ' hy => ?_)
  obtain ⟨_, rfl, b8, c8, hb8, hc8, hn8, rfl, rfl⟩ := hy
  refine s_det (D.extract rfl rfl) rfl ?_
  refine s_det (D.extract rfl rfl) rfl ?_
  refine s_do (A.store rfl rfl (ten_cell hb8 hc8) rfl rfl (by rfl) rfl rfl ?_)
  refine s_det (D.assign rfl) rfl ?_
  refine s_nil ?_
  refine aret ?_
  exact ⟨[_, _], ⟨⟨.inr ⟨_, _, _, _, _, _, _, rfl, AH.set_self .., rfl, rfl⟩, rfl⟩, ⟨rfl, rfl⟩, trivial⟩, .inr ⟨_, rfl, ten_done rfl rfl rfl rfl hb4 hb8 hc8 hn8⟩⟩

set_option maxRecDepth 10000 in
theorem ring_Scale_s (a : Tn) (n : Int) (σ : AH) : ACalls Try.prog 58 [tv a, iv n] σ (OwnTEs (scaleS a n).1 (scaleS a n).2 σ) := by
  rw [← scale_two]
  refine acalls Try.func58 rfl rfl (by decide) rfl rfl ?_
  refine aseq ?_
  refine areg rfl ?_
  refine s_det (D.box_i rfl rfl) rfl ?_
  refine s_det (D.box_i rfl rfl) rfl ?_
  refine s_act rfl (A.alloc rfl rfl rfl fun b4 hb4 => ?_)
  refine s_det (D.assign rfl) rfl ?_
  refine s_nil ?_
  refine aseq ?_
  refine areg rfl ?_
  refine s_det (D.load_i rfl rfl) rfl ?_
  refine s_det (D.load_i rfl rfl) rfl ?_
  refine s_det (D.makeFunc1 rfl rfl (by simp)) rfl ?_
  refine s_act rfl (A.call (evc rfl (evc rfl (evc rfl ev0))) b_ring_two (ring_two_own a a 110 [.iptr (iv n)] b_ring_Scale_1 rfl (fun x _ => IntKind.i64.wrap (x * n)) (fun x y => ring_Scale_1 x y n) _) fun y σ' hy => ?_)
  obtain ⟨_, rfl, b9, c9, hb9, hc9, hn9, rfl, rfl⟩ := hy
  refine s_det (D.extract rfl rfl) rfl ?_
  refine s_det (D.extract rfl rfl) rfl ?_
  refine s_do (A.store rfl rfl (ten_cell hb9 hc9) rfl rfl (by rfl) rfl rfl ?_)
  refine s_det (D.assign rfl) rfl ?_
  refine s_nil ?_
  refine aret ?_
  exact ⟨[_, _], ⟨⟨.inr ⟨_, _, _, _, _, _, _, rfl, AH.set_self .., rfl, rfl⟩, rfl⟩, ⟨rfl, rfl⟩, trivial⟩, .inr ⟨_, rfl, ten_done rfl rfl rfl rfl hb4 hb9 hc9 hn9⟩⟩

theorem ring_Add_own (a b : Tn) (σ : AH) : ACalls Try.prog 48 [tv a, tv b] σ (OwnTE (twoS opA a b).1 (twoS opA a b).2 σ) := (ring_Add_s a b σ).ownTE
theorem ring_Sub_own (a b : Tn) (σ : AH) : ACalls Try.prog 49 [tv a, tv b] σ (OwnTE (twoS opS a b).1 (twoS opS a b).2 σ) := (ring_Sub_s a b σ).ownTE
theorem ring_Mul_own (a b : Tn) (σ : AH) : ACalls Try.prog 50 [tv a, tv b] σ (OwnTE (twoS opM a b).1 (twoS opM a b).2 σ) := (ring_Mul_s a b σ).ownTE
theorem ring_Scale_own (a : Tn) (n : Int) (σ : AH) : ACalls Try.prog 58 [tv a, iv n] σ (OwnTE (scaleS a n).1 (scaleS a n).2 σ) := (ring_Scale_s a n σ).ownTE
theorem ring_Add (a b : Tn) : Pure Try.prog 48 [tv a, tv b] (.tup [tv (twoS opA a b).1, iv (twoS opA a b).2]) := pure_of_ownTE fun σ => ring_Add_own a b σ
theorem ring_Sub (a b : Tn) : Pure Try.prog 49 [tv a, tv b] (.tup [tv (twoS opS a b).1, iv (twoS opS a b).2]) := pure_of_ownTE fun σ => ring_Sub_own a b σ
theorem ring_Mul (a b : Tn) : Pure Try.prog 50 [tv a, tv b] (.tup [tv (twoS opM a b).1, iv (twoS opM a b).2]) := pure_of_ownTE fun σ => ring_Mul_own a b σ
theorem ring_Scale (a : Tn) (n : Int) : Pure Try.prog 58 [tv a, iv n] (.tup [tv (scaleS a n).1, iv (scaleS a n).2]) := pure_of_ownTE fun σ => ring_Scale_own a n σ

set_option maxRecDepth 10000 in
theorem ring_Neg_s (a : Tn) (σ : AH) : ACalls Try.prog 57 [tv a] σ (OwnTEs (scaleS a (-1)).1 (scaleS a (-1)).2 σ) := by
  skip
  refine acalls Try.func57 rfl rfl (by decide) rfl rfl ?_
  refine aseq ?_
  refine areg rfl ?_
  refine s_det (D.box_i rfl rfl) rfl ?_
  refine s_act rfl (A.alloc rfl rfl rfl fun b2 hb2 => ?_)
  refine s_det (D.assign rfl) rfl ?_
  refine s_nil ?_
  refine aseq ?_
  refine areg rfl ?_
  refine s_det (D.load_i rfl rfl) rfl ?_
  refine s_act rfl (A.call (evc rfl (evc rfl ev0)) b_ring_Scale (ring_Scale_own a (-1) _) fun y σ' hy => ?_)
  obtain ⟨_, rfl, b5, c5, hb5, hc5, hn5, rfl, rfl⟩ := hy
  refine s_det (D.extract rfl rfl) rfl ?_
  refine s_det (D.extract rfl rfl) rfl ?_
  refine s_do (A.store rfl rfl (ten_cell hb5 hc5) rfl rfl (by rfl) rfl rfl ?_)
  refine s_det (D.assign rfl) rfl ?_
  refine s_nil ?_
  refine aret ?_
  exact ⟨[_, _], ⟨⟨.inr ⟨_, _, _, _, _, _, _, rfl, AH.set_self .., rfl, rfl⟩, rfl⟩, ⟨rfl, rfl⟩, trivial⟩, .inr ⟨_, rfl, ten_done rfl rfl rfl rfl hb2 hb5 hc5 hn5⟩⟩

theorem ring_Neg (a : Tn) : Pure Try.prog 57 [tv a] (.tup [tv (scaleS a (-1)).1, iv (scaleS a (-1)).2]) := pure_of_ownTE fun σ => (ring_Neg_s a σ).ownTE

set_option maxRecDepth 10000 in
theorem ring_sum (l : List Int) (hl : l.length ≤ 4398046511104) : Pure Try.prog 109 [ints l] (iv (sumW l)) := by
  intro σ
  refine acalls Try.func109 rfl rfl (by decide) rfl rfl ?_
  refine aseq ?_
  refine areg rfl ?_
  refine s_det (D.assign rfl) rfl ?_
  refine s_nil ?_
  refine aseq ?_
  refine areg rfl ?_
  refine s_det (D.assign rfl) rfl ?_
  refine s_nil ?_
  refine aseq ?_
  refine aseq ?_
  refine areg rfl ?_
  refine s_det (D.move rfl) rfl ?_
  refine s_det (D.len_m rfl rfl) rfl ?_
  refine s_det (D.move rfl) rfl ?_
  refine s_nil ?_
  refine ablock ?_
  -- LOOP writes [3, 8] keeps [6, 7]
  refine aloop (ι := Nat × Int) (fun s => s.1 ≤ l.length ∧ s.2 = (l.take s.1).foldl (fun a x => IntKind.i64.wrap (a + x)) 0) (fun s => l.length - s.1) (fun s => [(3, iv s.2), (6, ints l), (7, iv l.length), (8, iv s.1)]) (fun s => σ) (0, 0) ⟨by simp, by simp⟩ ?_ rfl fun s hs => ?_
  · exact (.cons rfl (.cons rfl (.cons rfl (.cons rfl .nil))))
  obtain ⟨i, m⟩ := s
  obtain ⟨hi, hm⟩ := hs
  dsimp only at hi hm
  refine aseq ?_
  refine areg rfl ?_
  refine s_cmp (D.lss rfl rfl rfl) rfl (fun h9 => ?_) (fun h9 => ?_)
  · replace h9 := of_decide_eq_true h9
    have hlt : i < l.length := by dsimp only at h9; omega
    refine s_nil ?_
    refine aseq ?_
    refine acond_t rfl ?_
    refine askip ?_
    refine aseq ?_
    refine ablock ?_
    refine aseq ?_
    refine areg rfl ?_
    refine s_det (D.idx_m rfl rfl (by omega) (get_lt (i := i) hlt) rfl) rfl ?_
    refine s_det (D.load_i rfl rfl) rfl ?_
    refine s_det (D.assign rfl) rfl ?_
    refine s_nil ?_
    refine areg rfl ?_
    refine s_det (D.move rfl) rfl ?_
    refine s_det (D.move rfl) rfl ?_
    refine s_det (D.add rfl rfl rfl) rfl ?_
    refine s_det (D.assign rfl) rfl ?_
    refine s_nil ?_
    refine areg rfl ?_
    refine s_det (D.add rfl rfl (w64 (by omega) (by omega))) rfl ?_
    refine s_det (D.move rfl) rfl ?_
    refine s_nil ?_
    exact ⟨(i + 1, IntKind.i64.wrap (m + l[i])), ⟨hlt, by rw [foldl_take hlt, hm]⟩, by dsimp only; omega, (.cons rfl (.cons rfl (.cons rfl (.cons rfl .nil)))), rfl⟩
  · replace h9 := of_decide_eq_false h9
    refine s_nil ?_
    refine aseq ?_
    refine acond_f rfl ?_
    refine aexit ?_
    refine aseq ?_
    refine areg rfl ?_
    refine s_det (D.move rfl) rfl ?_
    refine s_det (D.assign rfl) rfl ?_
    refine s_nil ?_
    refine aret ?_
    exact ⟨[_], ⟨⟨rfl, rfl⟩, trivial⟩, (by
      rw [List.take_of_length_le (by dsimp only at h9; omega)] at hm
      subst hm; rfl), rfl⟩

set_option maxRecDepth 10000 in
theorem ring_Dot (a b : Tn) : Pure Try.prog 51 [tv a, tv b] (.tup [iv (sumW (twoS opM a b).1.x), iv (twoS opM a b).2]) := by
  refine pure_of_sub fun σ => ?_
  have hl : (twoS opM a b).1.x.length ≤ 64 := by
    simp only [twoS]
    by_cases h : pairS a b = 0
    · obtain ⟨h1, h2, h3⟩ := pairS_zero.1 h
      rw [if_pos h, zip_len h1 h2 h3]; exact h1.len.2.1
    · rw [if_neg h]; simp
  refine acalls Try.func51 rfl rfl (by decide) rfl rfl ?_
  refine aseq ?_
  refine areg rfl ?_
  refine s_det (D.box_i rfl rfl) rfl ?_
  refine s_det (D.box_i rfl rfl) rfl ?_
  refine s_det (D.assign rfl) rfl ?_
  refine s_det (D.assign rfl) rfl ?_
  refine s_nil ?_
  refine aseq ?_
  refine areg rfl ?_
  refine s_det (D.load_i rfl rfl) rfl ?_
  refine s_det (D.load_i rfl rfl) rfl ?_
  refine s_det (D.call (evc rfl (evc rfl ev0)) b_ring_Mul (ring_Mul _ _)) rfl ?_
  refine s_det (D.move rfl) rfl ?_
  refine s_det (D.extract rfl rfl) rfl ?_
  refine s_det (D.extract rfl rfl) rfl ?_
  refine s_act rfl (A.alloc rfl rfl rfl fun b6 hb6 => ?_)
  refine s_do (A.store rfl rfl (AH.set_self ..) rfl rfl (by rfl) rfl rfl ?_)
  refine s_det (D.assign rfl) rfl ?_
  refine s_nil ?_
  refine aseq ?_
  refine areg rfl ?_
  refine s_det (D.field_p rfl rfl) rfl ?_
  refine s_own (AH.set_self ..) (D.load_p rfl rfl rfl rfl) rfl ?_
  refine s_det (D.call (evc rfl ev0) b_ring_sum (ring_sum (twoS opM a b).1.x (by omega))) rfl ?_
  refine s_det (D.move rfl) rfl ?_
  refine s_det (D.assign rfl) rfl ?_
  refine s_det (D.assign rfl) rfl ?_
  refine s_nil ?_
  refine aret ?_
  exact ⟨[_, _], ⟨⟨rfl, rfl⟩, ⟨rfl, rfl⟩, trivial⟩, ⟨rfl, ((Sub.refl σ).set hb6 _).set hb6 _⟩⟩

set_option maxRecDepth 10000 in
theorem ring_Total (t : Tn) : Pure Try.prog 59 [tv t] (.tup [iv (if okTn t then sumW t.x else 0), iv (if okTn t then 0 else 1)]) := by
  intro σ
  refine acalls Try.func59 rfl rfl (by decide) rfl rfl ?_
  refine aseq ?_
  refine areg rfl ?_
  refine s_det (D.box_i rfl rfl) rfl ?_
  refine s_det (D.assign rfl) rfl ?_
  refine s_det (D.assign rfl) rfl ?_
  refine s_nil ?_
  refine aseq ?_
  refine aseq ?_
  refine areg rfl ?_
  refine s_det (D.load_i rfl rfl) rfl ?_
  refine s_cmp (D.call (evc rfl ev0) b_shape_Is (shape_Is _)) rfl (fun h5 => ?_) (fun h5 => ?_)
  · replace h5 := of_decide_eq_true h5
    refine s_det (D.not rfl rfl) rfl ?_
    refine s_nil ?_
    refine acond_f rfl ?_
    refine askip ?_
    refine aseq ?_
    refine areg rfl ?_
    refine s_det (D.field_i rfl rfl rfl) rfl ?_
    refine s_det (D.load_i rfl rfl) rfl ?_
    refine s_det (D.call (evc rfl ev0) b_ring_sum (ring_sum t.x (by have := h5.len; omega))) rfl ?_
    refine s_det (D.assign rfl) rfl ?_
    refine s_det (D.assign rfl) rfl ?_
    refine s_nil ?_
    refine aret ?_
    exact ⟨[_, _], ⟨⟨rfl, rfl⟩, ⟨rfl, rfl⟩, trivial⟩, (by rw [if_pos h5, if_pos h5]; rfl), rfl⟩
  · replace h5 := of_decide_eq_false h5
    refine s_det (D.not rfl rfl) rfl ?_
    refine s_nil ?_
    refine acond_t rfl ?_
    refine aseq ?_
    refine areg rfl ?_
    refine s_det (D.assign rfl) rfl ?_
    refine s_det (D.assign rfl) rfl ?_
    refine s_nil ?_
    refine aret ?_
    exact ⟨[_, _], ⟨⟨rfl, rfl⟩, ⟨rfl, rfl⟩, trivial⟩, (by rw [if_neg h5, if_neg h5]; rfl), rfl⟩

end Go.Proofs.Ytpjcidlkdfebhaa.F
