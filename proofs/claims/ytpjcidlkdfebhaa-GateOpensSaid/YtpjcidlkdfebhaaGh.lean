/- Functions of the program and of the references: what they compute, by the layer Al. Made by a program of this session (wip/al/alfill.py) out of wip/al/specs. -/
import Derived.Test.YtpjcidlkdfebhaaGg
import Derived.Test.YtpjcidlkdfebhaaAw
import Derived.Test.YtpjcidlkdfebhaaProg
namespace Go.Proofs.Ytpjcidlkdfebhaa.F
open Go Go.Proofs.Al
set_option linter.unusedVariables false
set_option linter.unusedSimpArgs false
set_option maxRecDepth 10000 in
theorem graduslaw3_num (e : Int) : Pure Try.prog 65 [iv e] (iv e) := by
  intro σ
  refine acalls Try.func65 rfl rfl (by decide) rfl rfl ?_
  refine aseq ?_
  refine areg rfl ?_
  refine s_det (D.assign rfl) rfl ?_
  refine s_nil ?_
  refine aseq ?_
  refine areg rfl ?_
  refine s_det (D.move rfl) rfl ?_
  refine s_det (D.assign rfl) rfl ?_
  refine s_nil ?_
  refine aret ?_
  exact ⟨[_], ⟨⟨rfl, rfl⟩, trivial⟩, rfl, rfl⟩

set_option maxRecDepth 10000 in
theorem graduslaw3_dims (ts : List Tn) (ns : List Int) (ds : List (List Int)) (t : Tn) (hD : ds.length ≤ 1000) (ht : t.sm) : Pure Try.prog 63 [.agg [.agg [.list false 2 (ts.map tv), ints ns], .list false 1 (ds.map ints)], tv t] (.list false 1 ((dimsS ds t).map ints)) := by
  refine pure_of_sub fun σ => ?_
  refine acalls Try.func63 rfl rfl (by decide) rfl rfl ?_
  refine aseq ?_
  refine areg rfl ?_
  refine s_det (D.box_i rfl rfl) rfl ?_
  refine s_det (D.box_i rfl rfl) rfl ?_
  refine s_det (D.assign rfl) rfl ?_
  refine s_nil ?_
  refine aseq ?_
  refine areg rfl ?_
  refine s_det (D.wk (y' := ints [1]) (D.lit sl_int (pc rfl rfl p0) rfl rfl (by decide)) Wk.less) rfl ?_
  refine s_det (D.wk (y' := ints [1, 1]) (D.lit sl_int (pc rfl rfl (pc rfl rfl p0)) rfl rfl (by decide)) Wk.less) rfl ?_
  refine s_det (D.wk (y' := ints []) (D.lit sl_int p0 rfl rfl (by decide)) Wk.less) rfl ?_
  refine s_act rfl (A.lit sl_Lint (pc rfl rfl (pc rfl rfl (pc rfl rfl p0))) rfl rfl (by decide) fun b12 hb12 => ?_)
  refine s_det (D.field_i rfl rfl rfl) rfl ?_
  refine s_det (D.load_i rfl rfl) rfl ?_
  refine s_act rfl (A.append_m (f := fun x => ints x) (l := [[1], [1, 1], []]) (l' := ds) rfl (AH.set_self ..) (.list rfl) sl_Lint rfl (by simp; omega) (by decide) rfl fun b15 hb15 => ?_)
  rw [del_self hb12]
  replace hb15 := (AH.set_none hb15).1
  refine s_det (D.assign rfl) rfl ?_
  refine s_nil ?_
  refine amidz (fun _ : Unit => True) (fun _ => [(3, .iptr (tv t)), (5, .ref b15 1 0 ((dL ds).take 8).length)]) (fun _ => σ.set b15 (.row 1 ((dL ds).map fun x => ints x))) ?_ ?_
  · refine aseq ?_
    refine areg rfl ?_
    refine s_det (D.move rfl) rfl ?_
    refine s_det (D.len_r rfl rfl) rfl ?_
    refine s_cmp (D.gtr rfl rfl rfl) rfl (fun h18 => ?_) (fun h18 => ?_)
    · replace h18 := of_decide_eq_true h18
      have hl3 : ([[1], [1, 1], []] ++ ds).length = ds.length + 3 := by simp
      have hl4 : (dL ds).length = ds.length + 3 := hl3
      refine s_nil ?_
      refine acond_t rfl ?_
      refine areg rfl ?_
      refine s_det (D.move rfl) rfl ?_
      refine s_det (D.cut_rhi (h := 8) rfl rfl (by omega) rfl) rfl ?_
      refine s_det (D.assign rfl) rfl ?_
      refine s_nil ?_
      exact ⟨(), trivial, Sub.refl _, .cons rfl (.cons (congrArg (fun n => some (AV.ref b15 1 0 n)) (by rw [List.length_take]; omega)) .nil)⟩
    · replace h18 := of_decide_eq_false h18
      have hl3 : ([[1], [1, 1], []] ++ ds).length = ds.length + 3 := by simp
      have hl4 : (dL ds).length = ds.length + 3 := hl3
      refine s_nil ?_
      refine acond_f rfl ?_
      refine askip ?_
      exact ⟨(), trivial, Sub.refl _, .cons rfl (.cons (congrArg (fun n => some (AV.ref b15 1 0 n)) (by rw [List.length_take]; omega)) .nil)⟩
  · intro _ _
    refine amidz (fun _ : Unit => True) (fun _ => [(5, .list false 1 ((dimsS ds t).map fun x => ints x))]) (fun _ => σ) ?_ ?_
    · refine aseq ?_
      refine areg rfl ?_
      refine s_det (D.load_i rfl rfl) rfl ?_
      refine s_cmp (D.call (evc rfl ev0) b_gradusref1_Tensor (gradusref1_Tensor _)) rfl (fun h22 => ?_) (fun h22 => ?_)
      · replace h22 := of_decide_eq_true h22
        have h3 := h22.1.2.1
        refine s_nil ?_
        refine acond_t rfl ?_
        refine aseq ?_
        refine adraw [.det 0, .det 1, .det 2, .det 3, .det 4, .det 5, .det 6, .det 7, .det 8, .det 9, .act 10, .det 11] rfl (by kernel_rfl) ?_
        refine d_det rfl (D.move rfl) rfl ?_
        refine d_det rfl (D.field_i rfl rfl rfl) rfl ?_
        refine d_det rfl (D.load_i rfl rfl) rfl ?_
        refine d_det rfl (D.len_m rfl rfl) rfl ?_
        refine d_det rfl (D.rem rfl rfl (by omega) (r := ((t.x.length % 9 : Nat) : Int)) (by rw [tmodw (by omega)]; omega)) rfl ?_
        refine d_det rfl (D.wk (y' := ints [1, ((t.x.length % 9 : Nat) : Int)]) (D.lit sl_int (pc rfl rfl (pc rfl rfl p0)) rfl rfl (by decide)) Wk.less) rfl ?_
        refine d_det rfl (D.field_i rfl rfl rfl) rfl ?_
        refine d_det rfl (D.load_i rfl rfl) rfl ?_
        refine d_det rfl (D.call (evc rfl ev0) b_gradusref0_CopyNumbers (gradusref0_CopyNumbers t.d ht.1)) rfl ?_
        refine d_det rfl (D.lit sl_Lint (pc rfl rfl (pc rfl rfl p0)) rfl rfl (by decide)) rfl ?_
        refine d_act rfl rfl rfl (A.append (es := (dL ds).map fun x => ints x) (xs := [ints [1, ((t.x.length % 9 : Nat) : Int)], ints t.d]) rfl (AH.set_self ..) (by rw [List.length_map, List.length_take]; omega) (.list rfl) sl_Lint rfl (by rw [List.length_take]; simp; omega) (by decide) rfl fun b33 hb33 => ?_)
        rw [del_self hb15, take_map_len]
        replace hb33 := (AH.set_none hb33).1
        refine d_det rfl (D.assign rfl) rfl ?_
        refine d_nil ?_
        refine aseq ?_
        refine areg rfl ?_
        refine s_det (D.assign rfl) rfl ?_
        refine s_nil ?_
        refine ablock ?_
        -- LOOP writes [5, 6] keeps [3]
        refine aloop (ι := Nat × Nat) (fun s => s.1 ≤ t.d.length ∧ σ s.2 = none) (fun s => t.d.length - s.1) (fun s => [(3, .iptr (tv t)), (5, .ref s.2 1 0 (dimL (dimB ds t) t.d s.1).length), (6, iv s.1)]) (fun s => σ.set s.2 (.row 1 ((dimL (dimB ds t) t.d s.1).map fun x => ints x))) (0, b33) ⟨by simp, hb33⟩ ?_ (congrArg (fun x => σ.set b33 (.row 1 x)) (by simp [dimL, dimB])) fun s hs => ?_
        · exact .cons rfl (.cons (congrArg (fun n => some (AV.ref b33 1 0 n)) (by simp [dimL, dimB])) (.cons rfl .nil))
        obtain ⟨i, b⟩ := s
        obtain ⟨hi, hb⟩ := hs
        dsimp only at hi hb
        refine aseq ?_
        refine aseq ?_
        refine areg rfl ?_
        refine s_det (D.move rfl) rfl ?_
        refine s_det (D.field_i rfl rfl rfl) rfl ?_
        refine s_det (D.load_i rfl rfl) rfl ?_
        refine s_det (D.len_m rfl rfl) rfl ?_
        refine s_cmp (D.lss rfl rfl rfl) rfl (fun h38 => ?_) (fun h38 => ?_)
        · replace h38 := of_decide_eq_true h38
          have hlt : i < t.d.length := by dsimp only at h38; omega
          refine s_nil ?_
          refine acond_t rfl ?_
          refine askip ?_
          refine aseq ?_
          refine ablock ?_
          refine aseq ?_
          refine areg rfl ?_
          refine s_det (D.field_i rfl rfl rfl) rfl ?_
          refine s_det (D.load_i rfl rfl) rfl ?_
          refine s_act rfl (A.call (evc rfl ev0) b_gradusref0_CopyNumbers (gradusref0_CopyNumbers_own t.d ht.1 _) fun y σ' hy => ?_)
          obtain ⟨b43, hb43, rfl, rfl⟩ := hy
          refine s_det (D.assign rfl) rfl ?_
          refine s_nil ?_
          refine aseq ?_
          refine areg rfl ?_
          refine s_det (D.move rfl) rfl ?_
          refine s_det (D.move rfl) rfl ?_
          refine s_det (D.idx_r rfl rfl (by dsimp only; exact hlt) rfl) rfl ?_
          refine s_do (A.store_r rfl rfl hlt rfl ?_)
          refine s_nil ?_
          refine aseq ?_
          refine areg rfl ?_
          refine s_det (D.field_i rfl rfl rfl) rfl ?_
          refine s_det (D.load_i rfl rfl) rfl ?_
          refine s_act rfl (A.call (evc rfl ev0) b_gradusref0_CopyNumbers (gradusref0_CopyNumbers_own t.d ht.1 _) fun y σ' hy => ?_)
          obtain ⟨b49, hb49, rfl, rfl⟩ := hy
          have hn := (AH.set_none hb49).2
          have hb49' := (AH.set_none hb49).1
          refine s_det (D.assign rfl) rfl ?_
          refine s_nil ?_
          refine amidz (fun _ : Unit => True) (fun _ => [(3, .iptr (tv t)), (5, .ref b 1 0 (dimL (dimB ds t) t.d i).length), (6, iv i), (7, ints (t.d.set i 1)), (8, ints (dimY t.d i))]) (fun _ => σ.set b (.row 1 ((dimL (dimB ds t) t.d i).map fun x => ints x))) ?_ ?_
          · refine aseq ?_
            refine areg rfl ?_
            refine s_det (D.move rfl) rfl ?_
            refine s_det (D.move rfl) rfl ?_
            refine s_det (D.idx_r rfl rfl hlt rfl) rfl ?_
            refine s_own (AH.set_self ..) (D.load_x rfl (get_lt (i := i) hlt) rfl) rfl ?_
            refine s_cmp (D.eql rfl rfl rfl) rfl (fun h54 => ?_) (fun h54 => ?_)
            · replace h54 := of_decide_eq_true h54
              have hY : dimY t.d i = t.d.set i 3 := by rw [dimY, List.getD_eq_getElem?_getD, get_lt hlt, Option.getD_some, if_pos h54]
              refine s_nil ?_
              refine acond_t rfl ?_
              refine areg rfl ?_
              refine s_det (D.move rfl) rfl ?_
              refine s_det (D.move rfl) rfl ?_
              refine s_det (D.idx_r rfl rfl hlt rfl) rfl ?_
              refine s_do (A.store_r rfl rfl hlt rfl ?_)
              refine s_nil ?_
              exact ⟨(), trivial, ((Sub.refl _).set hb43 _).set hb49' _, .cons rfl (.cons rfl (.cons rfl (.pz rfl (Pz.whole (by rw [AH.set_ne (Ne.symm hn)]; exact AH.set_self ..) hb43 (by simp)) (.refl _) (.pz rfl (Pz.whole (AH.set_self ..) hb49' (by simp)) (by rw [hY]; exact .refl _) .nil))))⟩
            · replace h54 := of_decide_eq_false h54
              have hY : dimY t.d i = t.d := by rw [dimY, List.getD_eq_getElem?_getD, get_lt hlt, Option.getD_some, if_neg h54]
              refine s_nil ?_
              refine acond_f rfl ?_
              refine askip ?_
              exact ⟨(), trivial, ((Sub.refl _).set hb43 _).set hb49' _, .cons rfl (.cons rfl (.cons rfl (.pz rfl (Pz.whole (by rw [AH.set_ne (Ne.symm hn)]; exact AH.set_self ..) hb43 (by simp)) (.refl _) (.pz rfl (Pz.whole (AH.set_self ..) hb49' (by simp)) (by rw [hY]; exact .refl _) .nil))))⟩
          · intro _ _
            refine areg rfl ?_
            refine s_det (D.move rfl) rfl ?_
            refine s_det (D.move rfl) rfl ?_
            refine s_det (D.move rfl) rfl ?_
            refine s_det (D.lit sl_Lint (pc rfl rfl (pc rfl rfl p0)) rfl rfl (by decide)) rfl ?_
            refine s_act rfl (A.append_m (f := fun x => ints x) (l := dimL (dimB ds t) t.d i) (l' := [t.d.set i 1, dimY t.d i]) rfl (AH.set_self ..) (.list rfl) sl_Lint rfl (by rw [dimL_len]; simp [dimB]; omega) (by decide) rfl fun b62 hb62 => ?_)
            rw [del_self hb]
            refine s_det (D.assign rfl) rfl ?_
            refine s_nil ?_
            refine areg rfl ?_
            refine s_det (D.move rfl) rfl ?_
            refine s_det (D.add rfl rfl (w64 (by omega) (by omega))) rfl ?_
            refine s_det (D.assign rfl) rfl ?_
            refine s_nil ?_
            exact ⟨(i + 1, b62), ⟨hlt, (AH.set_none hb62).1⟩, by dsimp only; omega, (.cons rfl (.cons rfl (.cons rfl .nil))), rfl⟩
        · replace h38 := of_decide_eq_false h38
          obtain rfl : i = t.d.length := by dsimp only at h38; omega
          refine s_nil ?_
          refine acond_f rfl ?_
          refine aexit ?_
          exact ⟨(), trivial, (by repeat (first | exact Sub.refl _ | refine Sub.set ?_ (by first | assumption | exact (AH.set_none (by assumption)).1 | exact (AH.set_none (AH.set_none (by assumption)).1).1 | exact (AH.set_none (AH.set_none (AH.set_none (by assumption)).1).1).1 | exact (AH.set_none (AH.set_none (AH.set_none (AH.set_none (by assumption)).1).1).1).1 | exact (AH.set_none (AH.set_none (AH.set_none (AH.set_none (AH.set_none (by assumption)).1).1).1).1).1 | exact (AH.set_none (AH.set_none (AH.set_none (AH.set_none (AH.set_none (AH.set_none (by assumption)).1).1).1).1).1).1) _)), .pz rfl (Pz.whole (AH.set_self ..) hb (by simp)) (by rw [dimsS, if_pos h22]; exact .refl _) .nil⟩
      · replace h22 := of_decide_eq_false h22
        refine s_nil ?_
        refine acond_f rfl ?_
        refine askip ?_
        exact ⟨(), trivial, (by repeat (first | exact Sub.refl _ | refine Sub.set ?_ (by first | assumption | exact (AH.set_none (by assumption)).1 | exact (AH.set_none (AH.set_none (by assumption)).1).1 | exact (AH.set_none (AH.set_none (AH.set_none (by assumption)).1).1).1 | exact (AH.set_none (AH.set_none (AH.set_none (AH.set_none (by assumption)).1).1).1).1 | exact (AH.set_none (AH.set_none (AH.set_none (AH.set_none (AH.set_none (by assumption)).1).1).1).1).1 | exact (AH.set_none (AH.set_none (AH.set_none (AH.set_none (AH.set_none (AH.set_none (by assumption)).1).1).1).1).1).1) _)), .pz rfl (Pz.upto (AH.set_self ..) hb15 (by rw [List.length_map, List.length_take]; omega)) (by rw [dimsS, if_neg h22, take_map_len]; exact .refl _) .nil⟩
    · intro _ _
      refine aseq ?_
      refine areg rfl ?_
      refine s_det (D.move rfl) rfl ?_
      refine s_det (D.assign rfl) rfl ?_
      refine s_nil ?_
      refine aret ?_
      exact ⟨[_], ⟨⟨rfl, rfl⟩, trivial⟩, ⟨rfl, (by repeat (first | exact Sub.refl _ | refine Sub.set ?_ (by first | assumption | exact (AH.set_none (by assumption)).1 | exact (AH.set_none (AH.set_none (by assumption)).1).1 | exact (AH.set_none (AH.set_none (AH.set_none (by assumption)).1).1).1 | exact (AH.set_none (AH.set_none (AH.set_none (AH.set_none (by assumption)).1).1).1).1 | exact (AH.set_none (AH.set_none (AH.set_none (AH.set_none (AH.set_none (by assumption)).1).1).1).1).1 | exact (AH.set_none (AH.set_none (AH.set_none (AH.set_none (AH.set_none (AH.set_none (by assumption)).1).1).1).1).1).1) _))⟩⟩

set_option maxRecDepth 10000 in
theorem graduslaw3_Heavy (ts : List Tn) (ns : List Int) (ds : List (List Int)) (ht : ts.length ≤ 17592186044416) (hn : ns.length ≤ 17592186044416) (hf : ∀ t ∈ ts, t.fit) (hd : ds.length ≤ 17592186044416) (hg : ∀ t ∈ ds, t.length ≤ 17592186044416) :
    Pure Try.prog 62 [.agg [.agg [.list false 2 (ts.map tv), ints ns], .list false 1 (ds.map ints)]] (bv (decide (300 < wtL ds ∨ 500 < wtT ts + ns.length))) := by
  have hwt := wtT_le hf ht
  intro σ
  refine acalls Try.func62 rfl rfl (by decide) rfl rfl ?_
  refine aseq ?_
  refine areg rfl ?_
  refine s_det (D.box_i rfl rfl) rfl ?_
  refine s_det (D.assign rfl) rfl ?_
  refine s_nil ?_
  refine aseq ?_
  refine areg rfl ?_
  refine s_det (D.field_i rfl rfl rfl) rfl ?_
  refine s_det (D.load_i rfl rfl) rfl ?_
  refine s_det (D.call (evc rfl ev0) b_graduslaw0_Lists (graduslaw0_Lists ds false hd hg)) rfl ?_
  refine s_cmp (D.gtr rfl rfl rfl) rfl (fun h6 => ?_) (fun h6 => ?_)
  · replace h6 := of_decide_eq_true h6
    refine s_det (D.move rfl) rfl ?_
    refine s_no rfl rfl rfl rfl ?_
    refine s_no rfl rfl rfl rfl ?_
    refine s_no rfl rfl rfl rfl ?_
    refine s_det (D.pick rfl rfl rfl rfl) rfl ?_
    refine s_det (D.assign rfl) rfl ?_
    refine s_nil ?_
    refine aret ?_
    exact ⟨[_], ⟨⟨rfl, rfl⟩, trivial⟩, bvT (.inl (by omega)), rfl⟩
  · replace h6 := of_decide_eq_false h6
    refine s_det (D.move rfl) rfl ?_
    refine s_yes rfl rfl ?_
    refine s_det (D.field_i rfl rfl rfl) rfl ?_
    refine s_yes rfl rfl ?_
    refine s_det (D.load_i rfl rfl) rfl ?_
    refine s_yes rfl rfl ?_
    refine s_det (D.call (evc rfl ev0) b_graduslaw2_Heavy (graduslaw2_Heavy ts ns (by omega) (by omega) hf hwt)) rfl ?_
    refine s_det (D.pick rfl rfl rfl rfl) rfl ?_
    refine s_det (D.assign rfl) rfl ?_
    refine s_nil ?_
    refine aret ?_
    exact ⟨[_], ⟨⟨rfl, rfl⟩, trivial⟩, bvI (by omega), rfl⟩

set_option maxRecDepth 10000 in
theorem graduslaw3_wakes : Pure Try.prog 67 [] (bv true) := by
  intro σ
  refine acalls Try.func67 rfl rfl (by decide) rfl rfl ?_
  refine aseq ?_
  refine areg rfl ?_
  refine s_det (D.assign rfl) rfl ?_
  refine s_nil ?_
  refine aseq ?_
  refine areg rfl ?_
  refine s_det (D.lit sl_int (pc rfl rfl (pc rfl rfl p0)) rfl rfl (by decide)) rfl ?_
  refine s_det (D.lit sl_int (pc rfl rfl (pc rfl rfl (pc rfl rfl p0))) rfl rfl (by decide)) rfl ?_
  refine s_det (D.build rfl rfl ⟨_, rfl, rfl, rfl, by simp, ⟨_, rfl, rfl, rfl, by simp, rfl⟩⟩) rfl ?_
  refine s_det (D.lit sl_int (pc rfl rfl (pc rfl rfl p0)) rfl rfl (by decide)) rfl ?_
  refine s_det (D.call (evw rfl (wkT (t := ⟨[1, 3], [1, 2, 4]⟩) rfl rfl) (evw rfl Wk.less ev0)) b_turn_Sum (turn_Sum ⟨[1, 3], [1, 2, 4]⟩ [1, 1])) rfl ?_
  refine s_det (D.move rfl) rfl ?_
  refine s_det (D.extract rfl rfl) rfl ?_
  refine s_det (D.extract rfl rfl) rfl ?_
  refine s_act rfl (A.alloc rfl rfl rfl fun b1 hb1 => ?_)
  refine s_do (A.store rfl rfl (AH.set_self ..) rfl rfl (by rfl) rfl rfl ?_)
  refine s_det (D.assign rfl) rfl ?_
  refine s_nil ?_
  rw [AH.set_set]
  refine afix (d := 1) rfl hb1 ?_
  refine aseq ?_
  refine areg rfl ?_
  refine s_det (D.move rfl) rfl ?_
  refine s_det (D.call (evc rfl ev0) b_graduslaw3_num (graduslaw3_num _)) rfl ?_
  refine s_det (D.eql rfl rfl (decide_eq_true (by decide +kernel))) rfl ?_
  refine s_det (D.move rfl) rfl ?_
  refine s_yes rfl rfl ?_
  refine s_det (D.field_i rfl rfl rfl) rfl ?_
  refine s_yes rfl rfl ?_
  refine s_det (D.load_i rfl rfl) rfl ?_
  refine s_yes rfl rfl ?_
  refine s_det (D.lit sl_int (pc rfl rfl p0) rfl rfl (by decide)) rfl ?_
  refine s_yes rfl rfl ?_
  refine s_det (D.call (evc rfl (evw rfl Wk.less ev0)) b_gradusref0_EqNumbers (Pure.toT (gradusref0_EqNumbers (sumS ⟨[1, 3], [1, 2, 4]⟩ [1, 1]).1.x [7] (by decide +kernel) (by decide)) (by decide +kernel))) rfl ?_
  refine s_det (D.pick rfl rfl rfl rfl) rfl ?_
  refine s_det (D.assign rfl) rfl ?_
  refine s_nil ?_
  refine aret ?_
  exact ⟨[_], ⟨⟨rfl, rfl⟩, trivial⟩, rfl, rfl⟩

end Go.Proofs.Ytpjcidlkdfebhaa.F
