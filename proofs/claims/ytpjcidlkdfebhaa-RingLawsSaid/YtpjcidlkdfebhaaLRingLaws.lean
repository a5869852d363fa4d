/- Functions of the program and of the references: what they compute, by the layer Al. Made by a program of this session (wip/al/alfill.py) out of wip/al/specs. -/
import Derived.Test.YtpjcidlkdfebhaaGb
import Derived.Test.YtpjcidlkdfebhaaAskTen
import Derived.Test.YtpjcidlkdfebhaaProg
namespace Go.Proofs.Ytpjcidlkdfebhaa.F
open Go Go.Proofs.Al
set_option linter.unusedVariables false
theorem ring_Add_k {a b : Tn} (ha : okTn a) (hb : okTn b) (hd : a.d = b.d) : Pure Try.prog 48 [tv a, tv b] (.tup [tv (zipT opA a b), iv 0]) := (ring_Add a b).to (by rw [two_ok ha hb hd])
theorem ring_Sub_k {a b : Tn} (ha : okTn a) (hb : okTn b) (hd : a.d = b.d) : Pure Try.prog 49 [tv a, tv b] (.tup [tv (zipT opS a b), iv 0]) := (ring_Sub a b).to (by rw [two_ok ha hb hd])
theorem ring_Mul_k {a b : Tn} (ha : okTn a) (hb : okTn b) (hd : a.d = b.d) : Pure Try.prog 50 [tv a, tv b] (.tup [tv (zipT opM a b), iv 0]) := (ring_Mul a b).to (by rw [two_ok ha hb hd])
theorem ring_Dot_k {a b : Tn} (ha : okTn a) (hb : okTn b) (hd : a.d = b.d) : Pure Try.prog 51 [tv a, tv b] (.tup [iv (sumW (zipT opM a b).x), iv 0]) := (ring_Dot a b).to (by rw [two_ok ha hb hd])
theorem ring_Scale_k {a : Tn} (ha : okTn a) (n : Int) : Pure Try.prog 58 [tv a, iv n] (.tup [tv (scaleT a n), iv 0]) := (ring_Scale a n).to (by rw [scale_ok ha])
theorem ring_Neg_k {a : Tn} (ha : okTn a) : Pure Try.prog 57 [tv a] (.tup [tv (scaleT a (-1)), iv 0]) := (ring_Neg a).to (by rw [scale_ok ha])
theorem heavy1_nil : Pure Try.prog 24 [.agg [.list false 1 [], .list false 1 [], .list false 1 [], .list false 2 []]] (bv false) := Pure.toF (graduslaw1_Heavy [] [] [] [] (by simp) (by simp) (by simp) (by simp) (by simp) (by simp) (by simp)) (by decide)
theorem eqT_k {a b : Tn} (ha : okTn a) (hb : okTn b) (h : a = b) : Pure Try.prog 39 [tv a, tv b] (bv true) := Pure.toT (gradusref0_EqTensor a b ha.sm hb.sm) h
theorem wk_nil4 : Wk (.agg [.list true 0 [], .list true 0 [], .list true 0 [], .list true 0 []]) (.agg [.list false 1 [], .list false 1 [], .list false 1 [], .list false 2 []]) := Wk.one (Wk1.agg ⟨.nil, .nil, .nil, .nil, trivial⟩) rfl rfl

set_option maxRecDepth 10000 in
theorem graduslaw2_RingLaws (ts : List Tn) (ns : List Int) (ht : ts.length ≤ 17592186044416) (hn : ns.length ≤ 17592186044416) (hf : ∀ t ∈ ts, t.fit) (hr : ∀ t ∈ ts, ∀ x ∈ t.x, inI x) : Pure Try.prog 9 [.agg [.list false 2 (ts.map tv), ints ns]] (bv true) := by
  have hwt := wtT_le hf ht
  intro σ
  refine acalls Try.func9 rfl rfl (by decide) rfl rfl ?_
  refine aseq ?_
  refine areg rfl ?_
  refine s_det (D.box_i rfl rfl) rfl ?_
  refine s_det (D.assign rfl) rfl ?_
  refine s_nil ?_
  refine aseq ?_
  refine aseq ?_
  refine areg rfl ?_
  refine s_det (D.load_i rfl rfl) rfl ?_
  refine s_cmp (D.call (evc rfl ev0) b_graduslaw2_Heavy (graduslaw2_Heavy ts ns (by omega) (by omega) hf hwt)) rfl (fun h38 => ?_) (fun h38 => ?_)
  · replace h38 := of_decide_eq_true h38
    refine s_nil ?_
    refine acond_t rfl ?_
    refine aseq ?_
    refine areg rfl ?_
    refine s_det (D.assign rfl) rfl ?_
    refine s_nil ?_
    refine aret ?_
    exact ⟨[_], ⟨⟨rfl, rfl⟩, trivial⟩, rfl, rfl⟩
  · replace h38 := of_decide_eq_false h38
    obtain ⟨hts, hsm⟩ := wtT_small (l := ts) (by omega)
    refine s_nil ?_
    refine acond_f rfl ?_
    refine askip ?_
    refine aseq ?_
    refine aseq ?_
    refine areg rfl ?_
    refine s_det (D.assign rfl) rfl ?_
    refine s_nil ?_
    refine ablock ?_
    -- LOOP writes [3] keeps [1]
    refine aloopz (ι := Nat) (fun i => i ≤ ts.length) (fun i => ts.length - i) (fun i => [(1, .iptr (.agg [.list false 2 (ts.map tv), ints ns])), (3, iv i)]) (fun i => σ) 0 (by omega) ?_ (Sub.refl _) fun i hi => ?_
    · exact (.cons rfl (.cons rfl .nil))
    refine aseq ?_
    refine aseq ?_
    refine areg rfl ?_
    refine s_det (D.move rfl) rfl ?_
    refine s_det (D.add rfl rfl (w64 (by omega) (by omega))) rfl ?_
    refine s_det (D.field_i rfl rfl rfl) rfl ?_
    refine s_det (D.load_i rfl rfl) rfl ?_
    refine s_det (D.len_m rfl rfl) rfl ?_
    refine s_cmp (D.lss rfl rfl rfl) rfl (fun h44 => ?_) (fun h44 => ?_)
    · replace h44 := of_decide_eq_true h44
      refine s_det (D.move rfl) rfl ?_
      refine s_yes rfl rfl ?_
      refine s_det (D.move rfl) rfl ?_
      refine s_yes rfl rfl ?_
      refine s_cmp (D.lss rfl rfl rfl) rfl (fun h47 => ?_) (fun h47 => ?_)
      · replace h47 := of_decide_eq_true h47
        obtain ⟨a, hva⟩ : ∃ a, ts[i]? = some a := ⟨_, get_lt (by omega)⟩
        obtain ⟨b, hvb⟩ : ∃ a, ts[i + 1]? = some a := ⟨_, get_lt (by omega)⟩
        obtain ⟨d, hvd⟩ : ∃ a, ts[i + 2]? = some a := ⟨_, get_lt (by omega)⟩
        refine s_det (D.pick rfl rfl rfl rfl) rfl ?_
        refine s_nil ?_
        refine acond_t rfl ?_
        refine askip ?_
        refine aseq ?_
        refine ablock ?_
        refine aseq ?_
        refine adraw [.det 0, .det 1, .det 2, .det 3, .det 4, .det 5, .det 6, .det 7, .det 8, .det 9, .det 10, .det 11, .det 12, .det 13, .det 14, .det 15, .det 16, .alloc3 17 18 19, .act 20, .act 21, .act 22] rfl (by kernel_rfl) ?_
        refine d_det rfl (D.field_i rfl rfl rfl) rfl ?_
        refine d_det rfl (D.load_i rfl rfl) rfl ?_
        refine d_det rfl (D.move rfl) rfl ?_
        refine d_det rfl (D.idx_m rfl rfl (by omega) hva rfl) rfl ?_
        refine d_det rfl (D.load_i rfl rfl) rfl ?_
        refine d_det rfl (D.field_i rfl rfl rfl) rfl ?_
        refine d_det rfl (D.load_i rfl rfl) rfl ?_
        refine d_det rfl (D.move rfl) rfl ?_
        refine d_det rfl (D.add rfl rfl (w64 (by omega) (by omega))) rfl ?_
        refine d_det rfl (D.idx_m rfl rfl (by omega) hvb rfl) rfl ?_
        refine d_det rfl (D.load_i rfl rfl) rfl ?_
        refine d_det rfl (D.field_i rfl rfl rfl) rfl ?_
        refine d_det rfl (D.load_i rfl rfl) rfl ?_
        refine d_det rfl (D.move rfl) rfl ?_
        refine d_det rfl (D.add rfl rfl (w64 (by omega) (by omega))) rfl ?_
        refine d_det rfl (D.idx_m rfl rfl (by omega) hvd rfl) rfl ?_
        refine d_det rfl (D.load_i rfl rfl) rfl ?_
        refine d_new3 rfl rfl rfl rfl rfl rfl rfl rfl rfl rfl rfl rfl rfl rfl rfl fun b4 hb4 b5 hb5 hn5 b6 hb6 hn6 hm6 => ?_
        refine d_do rfl (by kernel_rfl) (A.store rfl rfl (get3a hn5 hn6) rfl rfl (by rfl) rfl rfl ?_)
        refine d_do rfl (by kernel_rfl) (A.store rfl rfl (by rw [AH.set_ne hn5]; exact get3b hm6) rfl rfl (by rfl) rfl rfl ?_)
        refine d_do rfl (by kernel_rfl) (A.store rfl rfl (by rw [AH.set_ne hm6, AH.set_ne hn6]; exact AH.set_self ..) rfl rfl (by rfl) rfl rfl ?_)
        refine d_nil ?_
        rw [fix3 hn5 hn6 hm6]
        refine aseq ?_
        refine aseq ?_
        refine areg rfl ?_
        refine s_own (get3a hn5 hn6) (D.load_p rfl rfl rfl rfl) rfl ?_
        refine s_cmp (D.call (evc rfl ev0) b_gradusref1_Tensor (gradusref1_Tensor _)) rfl (fun h69 => ?_) (fun h69 => ?_)
        · replace h69 := of_decide_eq_true h69
          have oB := like_ok b h69
          have oD := like_ok d h69
          have hla : a.x.length = (like a b).x.length := h69.dims oB rfl
          have hld : a.x.length = (like a d).x.length := h69.dims oD rfl
          have hfb := hf b (List.mem_of_getElem? hvb)
          have hfd := hf d (List.mem_of_getElem? hvd)
          have hra := hr a (List.mem_of_getElem? hva)
          refine s_det (D.not rfl rfl) rfl ?_
          refine s_nil ?_
          refine acond_f rfl ?_
          refine askip ?_
          refine aseq ?_
          refine adraw [.det 0, .det 1, .det 2, .det 3, .det 4, .det 5, .act 6, .act 7] rfl (by kernel_rfl) ?_
          refine d_own (get3a hn5 hn6) rfl (D.load_p rfl rfl rfl rfl) rfl ?_
          refine d_own (get3b hm6) rfl (D.load_p rfl rfl rfl rfl) rfl ?_
          refine d_det rfl (D.call (evc rfl (evc rfl ev0)) b_graduslaw2_like (graduslaw2_like a b h69 hfb)) rfl ?_
          refine d_own (get3a hn5 hn6) rfl (D.load_p rfl rfl rfl rfl) rfl ?_
          refine d_own (AH.set_self ..) rfl (D.load_p rfl rfl rfl rfl) rfl ?_
          refine d_det rfl (D.call (evc rfl (evc rfl ev0)) b_graduslaw2_like (graduslaw2_like a d h69 hfd)) rfl ?_
          refine d_doF (F' := [(4, b6, .row 2 [tv d]), (3, b4, .row 2 [tv a])]) rfl (by kernel_rfl) (A.store rfl rfl (get3b hm6) rfl rfl (by rfl) rfl rfl ⟨.cons (by rw [AH.set_ne hm6]; exact AH.set_self ..) (.cons (by rw [AH.set_ne (Ne.symm hn5)]; exact get3a hn5 hn6) .nil), ?_⟩)
          refine d_do rfl (by kernel_rfl) (A.store rfl rfl (by rw [AH.set_ne hm6]; exact AH.set_self ..) rfl rfl (by rfl) rfl rfl ?_)
          refine d_nil ?_
          refine afreezew [(1, .iptr (.agg [.list false 2 (ts.map tv), ints ns])), (3, iv i), (4, .iptr (tv a)), (5, .iptr (tv (like a b))), (6, .iptr (tv (like a d)))] σ (by repeat (first | exact Sub.refl _ | refine Sub.set ?_ (by first | assumption | exact (AH.set_none (by assumption)).1 | exact (AH.set_none (AH.set_none (by assumption)).1).1 | exact (AH.set_none (AH.set_none (AH.set_none (by assumption)).1).1).1) _)) (.cons rfl (.cons rfl (.fix rfl (by rw [AH.set_ne (Ne.symm hn6), AH.set_ne (Ne.symm hn5)]; exact get3a hn5 hn6) hb4 (.refl _) (.fix rfl (get2a hm6) hb5 (.refl _) (.fix rfl (AH.set_self ..) hb6 (.refl _) .nil))))) ?_
          refine aseq ?_
          refine areg rfl ?_
          refine s_det (D.load_i rfl rfl) rfl ?_
          refine s_det (D.load_i rfl rfl) rfl ?_
          refine s_det (D.call (evc rfl (evc rfl ev0)) b_ring_Add (ring_Add_k h69 oB rfl)) rfl ?_
          refine s_det (D.move rfl) rfl ?_
          refine s_det (D.extract rfl rfl) rfl ?_
          refine s_det (D.extract rfl rfl) rfl ?_
          refine s_act rfl (A.alloc rfl rfl rfl fun b7 hb7 => ?_)
          refine s_do (A.store rfl rfl (AH.set_self ..) rfl rfl (by rfl) rfl rfl ?_)
          refine s_det (D.assign rfl) rfl ?_
          refine s_nil ?_
          rw [AH.set_set]
          refine afix (d := 7) rfl hb7 ?_
          refine aseq ?_
          refine areg rfl ?_
          refine s_det (D.load_i rfl rfl) rfl ?_
          refine s_det (D.load_i rfl rfl) rfl ?_
          refine s_det (D.call (evc rfl (evc rfl ev0)) b_ring_Add (ring_Add_k oB h69 rfl)) rfl ?_
          refine s_det (D.move rfl) rfl ?_
          refine s_det (D.extract rfl rfl) rfl ?_
          refine s_det (D.extract rfl rfl) rfl ?_
          refine s_act rfl (A.alloc rfl rfl rfl fun b9 hb9 => ?_)
          refine s_do (A.store rfl rfl (AH.set_self ..) rfl rfl (by rfl) rfl rfl ?_)
          refine s_det (D.assign rfl) rfl ?_
          refine s_nil ?_
          rw [AH.set_set]
          refine afix (d := 9) rfl hb9 ?_
          refine aseq ?_
          refine areg rfl ?_
          refine s_det (D.load_i rfl rfl) rfl ?_
          refine s_det (D.load_i rfl rfl) rfl ?_
          refine s_det (D.call (evc rfl (evc rfl ev0)) b_ring_Add (ring_Add_k (zip_ok h69 oB rfl) oD rfl)) rfl ?_
          refine s_det (D.move rfl) rfl ?_
          refine s_det (D.extract rfl rfl) rfl ?_
          refine s_det (D.extract rfl rfl) rfl ?_
          refine s_act rfl (A.alloc rfl rfl rfl fun b11 hb11 => ?_)
          refine s_do (A.store rfl rfl (AH.set_self ..) rfl rfl (by rfl) rfl rfl ?_)
          refine s_det (D.assign rfl) rfl ?_
          refine s_nil ?_
          rw [AH.set_set]
          refine afix (d := 11) rfl hb11 ?_
          refine aseq ?_
          refine areg rfl ?_
          refine s_det (D.load_i rfl rfl) rfl ?_
          refine s_det (D.load_i rfl rfl) rfl ?_
          refine s_det (D.call (evc rfl (evc rfl ev0)) b_ring_Add (ring_Add_k oB oD rfl)) rfl ?_
          refine s_det (D.move rfl) rfl ?_
          refine s_det (D.extract rfl rfl) rfl ?_
          refine s_det (D.extract rfl rfl) rfl ?_
          refine s_act rfl (A.alloc rfl rfl rfl fun b13 hb13 => ?_)
          refine s_do (A.store rfl rfl (AH.set_self ..) rfl rfl (by rfl) rfl rfl ?_)
          refine s_det (D.assign rfl) rfl ?_
          refine s_nil ?_
          rw [AH.set_set]
          refine afix (d := 13) rfl hb13 ?_
          refine aseq ?_
          refine areg rfl ?_
          refine s_det (D.load_i rfl rfl) rfl ?_
          refine s_det (D.load_i rfl rfl) rfl ?_
          refine s_det (D.call (evc rfl (evc rfl ev0)) b_ring_Add (ring_Add_k h69 (zip_ok oB oD rfl) rfl)) rfl ?_
          refine s_det (D.move rfl) rfl ?_
          refine s_det (D.extract rfl rfl) rfl ?_
          refine s_det (D.extract rfl rfl) rfl ?_
          refine s_act rfl (A.alloc rfl rfl rfl fun b15 hb15 => ?_)
          refine s_do (A.store rfl rfl (AH.set_self ..) rfl rfl (by rfl) rfl rfl ?_)
          refine s_det (D.assign rfl) rfl ?_
          refine s_nil ?_
          rw [AH.set_set]
          refine afix (d := 15) rfl hb15 ?_
          refine aseq ?_
          refine areg rfl ?_
          refine s_det (D.load_i rfl rfl) rfl ?_
          refine s_det (D.load_i rfl rfl) rfl ?_
          refine s_det (D.call (evc rfl (evc rfl ev0)) b_ring_Mul (ring_Mul_k h69 (zip_ok oB oD rfl) rfl)) rfl ?_
          refine s_det (D.move rfl) rfl ?_
          refine s_det (D.extract rfl rfl) rfl ?_
          refine s_det (D.extract rfl rfl) rfl ?_
          refine s_act rfl (A.alloc rfl rfl rfl fun b17 hb17 => ?_)
          refine s_do (A.store rfl rfl (AH.set_self ..) rfl rfl (by rfl) rfl rfl ?_)
          refine s_det (D.assign rfl) rfl ?_
          refine s_nil ?_
          rw [AH.set_set]
          refine afix (d := 17) rfl hb17 ?_
          refine aseq ?_
          refine areg rfl ?_
          refine s_det (D.load_i rfl rfl) rfl ?_
          refine s_det (D.load_i rfl rfl) rfl ?_
          refine s_det (D.call (evc rfl (evc rfl ev0)) b_ring_Mul (ring_Mul_k h69 oB rfl)) rfl ?_
          refine s_det (D.move rfl) rfl ?_
          refine s_det (D.extract rfl rfl) rfl ?_
          refine s_det (D.extract rfl rfl) rfl ?_
          refine s_act rfl (A.alloc rfl rfl rfl fun b19 hb19 => ?_)
          refine s_do (A.store rfl rfl (AH.set_self ..) rfl rfl (by rfl) rfl rfl ?_)
          refine s_det (D.assign rfl) rfl ?_
          refine s_nil ?_
          rw [AH.set_set]
          refine afix (d := 19) rfl hb19 ?_
          refine aseq ?_
          refine areg rfl ?_
          refine s_det (D.load_i rfl rfl) rfl ?_
          refine s_det (D.load_i rfl rfl) rfl ?_
          refine s_det (D.call (evc rfl (evc rfl ev0)) b_ring_Mul (ring_Mul_k h69 oD rfl)) rfl ?_
          refine s_det (D.move rfl) rfl ?_
          refine s_det (D.extract rfl rfl) rfl ?_
          refine s_det (D.extract rfl rfl) rfl ?_
          refine s_act rfl (A.alloc rfl rfl rfl fun b21 hb21 => ?_)
          refine s_do (A.store rfl rfl (AH.set_self ..) rfl rfl (by rfl) rfl rfl ?_)
          refine s_det (D.assign rfl) rfl ?_
          refine s_nil ?_
          rw [AH.set_set]
          refine afix (d := 21) rfl hb21 ?_
          refine aseq ?_
          refine areg rfl ?_
          refine s_det (D.load_i rfl rfl) rfl ?_
          refine s_det (D.load_i rfl rfl) rfl ?_
          refine s_det (D.call (evc rfl (evc rfl ev0)) b_ring_Add (ring_Add_k (zip_ok h69 oB rfl) (zip_ok h69 oD rfl) rfl)) rfl ?_
          refine s_det (D.move rfl) rfl ?_
          refine s_det (D.extract rfl rfl) rfl ?_
          refine s_det (D.extract rfl rfl) rfl ?_
          refine s_act rfl (A.alloc rfl rfl rfl fun b23 hb23 => ?_)
          refine s_do (A.store rfl rfl (AH.set_self ..) rfl rfl (by rfl) rfl rfl ?_)
          refine s_det (D.assign rfl) rfl ?_
          refine s_nil ?_
          rw [AH.set_set]
          refine afix (d := 23) rfl hb23 ?_
          refine aseq ?_
          refine areg rfl ?_
          refine s_det (D.load_i rfl rfl) rfl ?_
          refine s_det (D.load_i rfl rfl) rfl ?_
          refine s_det (D.call (evc rfl (evc rfl ev0)) b_ring_Sub (ring_Sub_k (zip_ok h69 oB rfl) oB rfl)) rfl ?_
          refine s_det (D.move rfl) rfl ?_
          refine s_det (D.extract rfl rfl) rfl ?_
          refine s_det (D.extract rfl rfl) rfl ?_
          refine s_act rfl (A.alloc rfl rfl rfl fun b25 hb25 => ?_)
          refine s_do (A.store rfl rfl (AH.set_self ..) rfl rfl (by rfl) rfl rfl ?_)
          refine s_det (D.assign rfl) rfl ?_
          refine s_nil ?_
          rw [AH.set_set]
          refine afix (d := 25) rfl hb25 ?_
          refine aseq ?_
          refine areg rfl ?_
          refine s_det (D.load_i rfl rfl) rfl ?_
          refine s_det (D.call (evc rfl ev0) b_ring_Neg (ring_Neg_k h69)) rfl ?_
          refine s_det (D.move rfl) rfl ?_
          refine s_det (D.extract rfl rfl) rfl ?_
          refine s_det (D.extract rfl rfl) rfl ?_
          refine s_act rfl (A.alloc rfl rfl rfl fun b27 hb27 => ?_)
          refine s_do (A.store rfl rfl (AH.set_self ..) rfl rfl (by rfl) rfl rfl ?_)
          refine s_det (D.assign rfl) rfl ?_
          refine s_nil ?_
          rw [AH.set_set]
          refine afix (d := 27) rfl hb27 ?_
          refine aseq ?_
          refine areg rfl ?_
          refine s_det (D.load_i rfl rfl) rfl ?_
          refine s_det (D.call (evc rfl (evc rfl ev0)) b_ring_Scale (ring_Scale_k h69 (-1))) rfl ?_
          refine s_det (D.move rfl) rfl ?_
          refine s_det (D.extract rfl rfl) rfl ?_
          refine s_det (D.extract rfl rfl) rfl ?_
          refine s_act rfl (A.alloc rfl rfl rfl fun b29 hb29 => ?_)
          refine s_do (A.store rfl rfl (AH.set_self ..) rfl rfl (by rfl) rfl rfl ?_)
          refine s_det (D.assign rfl) rfl ?_
          refine s_nil ?_
          rw [AH.set_set]
          refine afix (d := 29) rfl hb29 ?_
          refine aseq ?_
          refine areg rfl ?_
          refine s_det (D.load_i rfl rfl) rfl ?_
          refine s_det (D.load_i rfl rfl) rfl ?_
          refine s_det (D.call (evc rfl (evc rfl ev0)) b_ring_Dot (ring_Dot_k h69 (zip_ok oB oD rfl) rfl)) rfl ?_
          refine s_det (D.move rfl) rfl ?_
          refine s_det (D.extract rfl rfl) rfl ?_
          refine s_det (D.extract rfl rfl) rfl ?_
          refine s_det (D.assign rfl) rfl ?_
          refine s_det (D.assign rfl) rfl ?_
          refine s_nil ?_
          refine aseq ?_
          refine areg rfl ?_
          refine s_det (D.load_i rfl rfl) rfl ?_
          refine s_det (D.load_i rfl rfl) rfl ?_
          refine s_det (D.call (evc rfl (evc rfl ev0)) b_ring_Dot (ring_Dot_k h69 oB rfl)) rfl ?_
          refine s_det (D.move rfl) rfl ?_
          refine s_det (D.extract rfl rfl) rfl ?_
          refine s_det (D.extract rfl rfl) rfl ?_
          refine s_det (D.assign rfl) rfl ?_
          refine s_det (D.assign rfl) rfl ?_
          refine s_nil ?_
          refine aseq ?_
          refine areg rfl ?_
          refine s_det (D.load_i rfl rfl) rfl ?_
          refine s_det (D.load_i rfl rfl) rfl ?_
          refine s_det (D.call (evc rfl (evc rfl ev0)) b_ring_Dot (ring_Dot_k oD h69 rfl)) rfl ?_
          refine s_det (D.move rfl) rfl ?_
          refine s_det (D.extract rfl rfl) rfl ?_
          refine s_det (D.extract rfl rfl) rfl ?_
          refine s_det (D.assign rfl) rfl ?_
          refine s_det (D.assign rfl) rfl ?_
          refine s_nil ?_
          refine aseq ?_
          refine aseq ?_
          refine areg rfl ?_
          refine s_det (D.move rfl) rfl ?_
          refine s_det (D.call (evc rfl ev0) b_graduslaw2_num (graduslaw2_num _)) rfl ?_
          refine s_det (D.move rfl) rfl ?_
          refine s_det (D.call (evc rfl ev0) b_graduslaw2_num (graduslaw2_num _)) rfl ?_
          refine s_det (D.add rfl rfl (w64 (by omega) (by omega))) rfl ?_
          refine s_det (D.move rfl) rfl ?_
          refine s_det (D.call (evc rfl ev0) b_graduslaw2_num (graduslaw2_num _)) rfl ?_
          refine s_det (D.add rfl rfl (w64 (by omega) (by omega))) rfl ?_
          refine s_det (D.move rfl) rfl ?_
          refine s_det (D.call (evc rfl ev0) b_graduslaw2_num (graduslaw2_num _)) rfl ?_
          refine s_det (D.add rfl rfl (w64 (by omega) (by omega))) rfl ?_
          refine s_det (D.move rfl) rfl ?_
          refine s_det (D.call (evc rfl ev0) b_graduslaw2_num (graduslaw2_num _)) rfl ?_
          refine s_det (D.add rfl rfl (w64 (by omega) (by omega))) rfl ?_
          refine s_det (D.move rfl) rfl ?_
          refine s_det (D.call (evc rfl ev0) b_graduslaw2_num (graduslaw2_num _)) rfl ?_
          refine s_det (D.add rfl rfl (w64 (by omega) (by omega))) rfl ?_
          refine s_det (D.move rfl) rfl ?_
          refine s_det (D.call (evc rfl ev0) b_graduslaw2_num (graduslaw2_num _)) rfl ?_
          refine s_det (D.add rfl rfl (w64 (by omega) (by omega))) rfl ?_
          refine s_det (D.move rfl) rfl ?_
          refine s_det (D.call (evc rfl ev0) b_graduslaw2_num (graduslaw2_num _)) rfl ?_
          refine s_det (D.add rfl rfl (w64 (by omega) (by omega))) rfl ?_
          refine s_det (D.move rfl) rfl ?_
          refine s_det (D.call (evc rfl ev0) b_graduslaw2_num (graduslaw2_num _)) rfl ?_
          refine s_det (D.add rfl rfl (w64 (by omega) (by omega))) rfl ?_
          refine s_det (D.move rfl) rfl ?_
          refine s_det (D.call (evc rfl ev0) b_graduslaw2_num (graduslaw2_num _)) rfl ?_
          refine s_det (D.add rfl rfl (w64 (by omega) (by omega))) rfl ?_
          refine s_det (D.move rfl) rfl ?_
          refine s_det (D.call (evc rfl ev0) b_graduslaw2_num (graduslaw2_num _)) rfl ?_
          refine s_det (D.add rfl rfl (w64 (by omega) (by omega))) rfl ?_
          refine s_det (D.move rfl) rfl ?_
          refine s_det (D.call (evc rfl ev0) b_graduslaw2_num (graduslaw2_num _)) rfl ?_
          refine s_det (D.add rfl rfl (w64 (by omega) (by omega))) rfl ?_
          refine s_det (D.move rfl) rfl ?_
          refine s_det (D.call (evc rfl ev0) b_graduslaw2_num (graduslaw2_num _)) rfl ?_
          refine s_det (D.add rfl rfl (w64 (by omega) (by omega))) rfl ?_
          refine s_det (D.move rfl) rfl ?_
          refine s_det (D.call (evc rfl ev0) b_graduslaw2_num (graduslaw2_num _)) rfl ?_
          refine s_det (D.add rfl rfl (w64 (by omega) (by omega))) rfl ?_
          refine s_det (D.move rfl) rfl ?_
          refine s_det (D.call (evc rfl ev0) b_graduslaw2_num (graduslaw2_num _)) rfl ?_
          refine s_det (D.add rfl rfl (w64 (by omega) (by omega))) rfl ?_
          refine s_det (D.neq rfl rfl (decide_eq_false (by omega))) rfl ?_
          refine s_nil ?_
          refine acond_f rfl ?_
          refine askip ?_
          refine aseq ?_
          refine areg rfl ?_
          refine s_det (D.load_i rfl rfl) rfl ?_
          refine s_det (D.load_i rfl rfl) rfl ?_
          refine s_det (D.call (evc rfl (evc rfl ev0)) b_gradusref0_EqTensor (eqT_k (zip_ok h69 oB rfl) (zip_ok oB h69 rfl) (add_comm_t rfl))) rfl ?_
          refine s_det (D.not rfl rfl) rfl ?_
          refine s_det (D.move rfl) rfl ?_
          refine s_yes rfl rfl ?_
          refine s_det (D.load_i rfl rfl) rfl ?_
          refine s_yes rfl rfl ?_
          refine s_det (D.load_i rfl rfl) rfl ?_
          refine s_yes rfl rfl ?_
          refine s_det (D.call (evc rfl (evc rfl ev0)) b_gradusref0_EqTensor (eqT_k (zip_ok (zip_ok h69 oB rfl) oD rfl) (zip_ok h69 (zip_ok oB oD rfl) rfl) add_assoc_t)) rfl ?_
          refine s_yes rfl rfl ?_
          refine s_det (D.not rfl rfl) rfl ?_
          refine s_det (D.pick rfl rfl rfl rfl) rfl ?_
          refine s_det (D.move rfl) rfl ?_
          refine s_yes rfl rfl ?_
          refine s_det (D.load_i rfl rfl) rfl ?_
          refine s_yes rfl rfl ?_
          refine s_det (D.load_i rfl rfl) rfl ?_
          refine s_yes rfl rfl ?_
          refine s_det (D.call (evc rfl (evc rfl ev0)) b_gradusref0_EqTensor (eqT_k (zip_ok h69 (zip_ok oB oD rfl) rfl) (zip_ok (zip_ok h69 oB rfl) (zip_ok h69 oD rfl) rfl) (mul_over hla hld))) rfl ?_
          refine s_yes rfl rfl ?_
          refine s_det (D.not rfl rfl) rfl ?_
          refine s_det (D.pick rfl rfl rfl rfl) rfl ?_
          refine s_det (D.move rfl) rfl ?_
          refine s_yes rfl rfl ?_
          refine s_det (D.load_i rfl rfl) rfl ?_
          refine s_yes rfl rfl ?_
          refine s_det (D.load_i rfl rfl) rfl ?_
          refine s_yes rfl rfl ?_
          refine s_det (D.call (evc rfl (evc rfl ev0)) b_gradusref0_EqTensor (eqT_k (zip_ok (zip_ok h69 oB rfl) oB rfl) h69 (back_t hla hra))) rfl ?_
          refine s_yes rfl rfl ?_
          refine s_det (D.not rfl rfl) rfl ?_
          refine s_det (D.pick rfl rfl rfl rfl) rfl ?_
          refine s_det (D.move rfl) rfl ?_
          refine s_yes rfl rfl ?_
          refine s_det (D.load_i rfl rfl) rfl ?_
          refine s_yes rfl rfl ?_
          refine s_det (D.load_i rfl rfl) rfl ?_
          refine s_yes rfl rfl ?_
          refine s_det (D.call (evc rfl (evc rfl ev0)) b_gradusref0_EqTensor (eqT_k ⟨h69.1, by simp [scaleT]; exact h69.2⟩ ⟨h69.1, by simp [scaleT]; exact h69.2⟩ rfl)) rfl ?_
          refine s_yes rfl rfl ?_
          refine s_det (D.not rfl rfl) rfl ?_
          refine s_det (D.pick rfl rfl rfl rfl) rfl ?_
          refine s_det (D.move rfl) rfl ?_
          refine s_yes rfl rfl ?_
          refine s_det (D.move rfl) rfl ?_
          refine s_yes rfl rfl ?_
          refine s_det (D.move rfl) rfl ?_
          refine s_yes rfl rfl ?_
          refine s_det (D.move rfl) rfl ?_
          refine s_yes rfl rfl ?_
          refine s_det (D.add rfl rfl rfl) rfl ?_
          refine s_yes rfl rfl ?_
          refine s_det (D.neq rfl rfl (decide_eq_false (fun h => h (dot_over hla hld)))) rfl ?_
          refine s_det (D.pick rfl rfl rfl rfl) rfl ?_
          refine s_nil ?_
          refine acond_f rfl ?_
          refine askip ?_
          refine areg rfl ?_
          refine s_det (D.move rfl) rfl ?_
          refine s_det (D.add rfl rfl (w64 (by omega) (by omega))) rfl ?_
          refine s_det (D.assign rfl) rfl ?_
          refine s_nil ?_
          exact ⟨i + 1, by omega, by omega, Sub.refl _, (.cons rfl (.cons rfl .nil))⟩
        · replace h69 := of_decide_eq_false h69
          refine s_det (D.not rfl rfl) rfl ?_
          refine s_nil ?_
          refine acond_t rfl ?_
          refine aexit ?_
          refine areg rfl ?_
          refine s_det (D.move rfl) rfl ?_
          refine s_det (D.add rfl rfl (w64 (by omega) (by omega))) rfl ?_
          refine s_det (D.assign rfl) rfl ?_
          refine s_nil ?_
          exact ⟨i + 1, by omega, by omega, (by repeat (first | exact Sub.refl _ | refine Sub.set ?_ (by first | assumption | exact (AH.set_none (by assumption)).1 | exact (AH.set_none (AH.set_none (by assumption)).1).1 | exact (AH.set_none (AH.set_none (AH.set_none (by assumption)).1).1).1) _)), (.cons rfl (.cons rfl .nil))⟩
      · replace h47 := of_decide_eq_false h47
        refine s_det (D.pick rfl rfl rfl rfl) rfl ?_
        refine s_nil ?_
        refine acond_f rfl ?_
        refine aexit ?_
        refine aseq ?_
        refine areg rfl ?_
        refine s_det (D.build rfl rfl rfl) rfl ?_
        refine s_det (D.call (evw rfl wk_nil4 ev0) b_graduslaw1_Heavy heavy1_nil) rfl ?_
        refine s_det (D.not rfl rfl) rfl ?_
        refine s_det (D.move rfl) rfl ?_
        refine s_yes rfl rfl ?_
        refine s_det (D.call ev0 b_graduslaw2_wakes graduslaw2_wakes) rfl ?_
        refine s_det (D.pick rfl rfl rfl rfl) rfl ?_
        refine s_det (D.assign rfl) rfl ?_
        refine s_nil ?_
        refine aret ?_
        exact ⟨[_], ⟨⟨rfl, rfl⟩, trivial⟩, rfl, rfl⟩
    · replace h44 := of_decide_eq_false h44
      refine s_det (D.move rfl) rfl ?_
      refine s_no rfl rfl rfl rfl ?_
      refine s_no rfl rfl rfl rfl ?_
      refine s_det (D.pick rfl rfl rfl rfl) rfl ?_
      refine s_nil ?_
      refine acond_f rfl ?_
      refine aexit ?_
      refine aseq ?_
      refine areg rfl ?_
      refine s_det (D.build rfl rfl rfl) rfl ?_
      refine s_det (D.call (evw rfl wk_nil4 ev0) b_graduslaw1_Heavy heavy1_nil) rfl ?_
      refine s_det (D.not rfl rfl) rfl ?_
      refine s_det (D.move rfl) rfl ?_
      refine s_yes rfl rfl ?_
      refine s_det (D.call ev0 b_graduslaw2_wakes graduslaw2_wakes) rfl ?_
      refine s_det (D.pick rfl rfl rfl rfl) rfl ?_
      refine s_det (D.assign rfl) rfl ?_
      refine s_nil ?_
      refine aret ?_
      exact ⟨[_], ⟨⟨rfl, rfl⟩, trivial⟩, rfl, rfl⟩

theorem GT.inI {t : Tn} (h : GT t) : ∀ x ∈ t.x, Al.inI x := fun x hx => wfI (h.2.2 x hx)
theorem ringLaws_pure (x : Ask2) (hx : G46 x) : Pure Try.prog 9 [enc46 x] (bv true) := graduslaw2_RingLaws x.1 x.2 hx.ok.1 hx.ok.2.1 hx.ok.2.2 fun t ht => (hx.1.2 t ht).inI

end Go.Proofs.Ytpjcidlkdfebhaa.F
