/- Functions of the program and of the references: what they compute, by the layer Al. Made by a program of this session (wip/al/alfill.py) out of wip/al/specs. -/
import Derived.Test.YtpjcidlkdfebhaaGm
import Derived.Test.YtpjcidlkdfebhaaAskC
import Derived.Test.YtpjcidlkdfebhaaProg
namespace Go.Proofs.Ytpjcidlkdfebhaa.F
open Go Go.Proofs.Al
set_option linter.unusedVariables false
set_option linter.unusedSimpArgs false
set_option maxRecDepth 10000 in
theorem graduslaw1_ShapePlaces (ds ps : List (List Int)) (ns : List Int) (ts : List Tn) (h1 : ds.length ≤ 17592186044416) (h2 : ∀ t ∈ ds, t.length ≤ 17592186044416) (h3 : ps.length ≤ 17592186044416) (h4 : ∀ t ∈ ps, t.length ≤ 17592186044416)
    (h5 : ns.length ≤ 17592186044416) (hni : ∀ n ∈ ns, inI n) (h6' : ts.length ≤ 17592186044416) (h7 : ∀ t ∈ ts, t.fit) : Pure Try.prog 17 [.agg [.list false 1 (ds.map ints), .list false 1 (ps.map ints), ints ns, .list false 2 (ts.map tv)]] (bv true) := by
  intro σ
  refine acalls Try.func17 rfl rfl (by decide) rfl rfl ?_
  refine aseq ?_
  refine areg rfl ?_
  refine s_det (D.box_i rfl rfl) rfl ?_
  refine s_det (D.assign rfl) rfl ?_
  refine s_nil ?_
  refine aseq ?_
  refine aseq ?_
  refine areg rfl ?_
  refine s_det (D.load_i rfl rfl) rfl ?_
  refine s_cmp (D.call (evc rfl ev0) b_graduslaw1_Heavy (graduslaw1_Heavy ds ps ns ts h1 h2 h3 h4 h5 h6' h7)) rfl (fun h38 => ?_) (fun h38 => ?_)
  · replace h38 := of_decide_eq_true h38
    refine s_nil ?_
    refine acond_t rfl ?_
    refine aseq ?_
    refine areg rfl ?_
    refine s_det (D.assign rfl) rfl ?_
    refine s_nil ?_
    refine aret ?_
    exact ⟨[_], ⟨⟨rfl, rfl⟩, trivial⟩, rfl, rfl⟩
  · replace h38 := of_decide_eq_false h38
    obtain ⟨hts, hsm⟩ := wtT_small (l := ts) (by omega)
    obtain ⟨hdl, hdm⟩ := wtL_small (l := ds) (by omega)
    obtain ⟨hpl, hpm⟩ := wtL_small (l := ps) (by omega)
    refine s_nil ?_
    refine acond_f rfl ?_
    refine askip ?_
    refine aseq ?_
    refine areg rfl ?_
    refine s_det (D.lit sl_int (pc rfl rfl (pc rfl rfl (pc rfl rfl (pc rfl rfl (pc rfl rfl (pc rfl rfl p0)))))) rfl rfl (by decide)) rfl ?_
    refine s_det (D.field_i rfl rfl rfl) rfl ?_
    refine s_det (D.load_i rfl rfl) rfl ?_
    refine s_det (D.append_l rfl rfl sl_int rfl (by simp; omega) (by decide)) rfl ?_
    refine s_det (D.assign rfl) rfl ?_
    refine s_nil ?_
    refine amidz (fun _ : Unit => True) (fun _ => [(1, .iptr (.agg [.list false 1 (ds.map ints), .list false 1 (ps.map ints), ints ns, .list false 2 (ts.map tv)]))]) (fun _ => σ) ?_ ?_
    · refine aseq ?_
      refine areg rfl ?_
      refine s_det (D.assign rfl) rfl ?_
      refine s_nil ?_
      refine ablock ?_
      -- LOOP writes [4] keeps [1, 3]
      refine aloop (ι := Nat) (fun i => i ≤ ds.length) (fun i => ds.length - i) (fun i => [(1, .iptr (.agg [.list false 1 (ds.map ints), .list false 1 (ps.map ints), ints ns, .list false 2 (ts.map tv)])), (3, ints (nsS ns)), (4, iv i)]) (fun i => σ) 0 (by omega) ?_ rfl fun i hi => ?_
      · exact (.cons rfl (.cons rfl (.cons rfl .nil)))
      refine aseq ?_
      refine aseq ?_
      refine areg rfl ?_
      refine s_det (D.move rfl) rfl ?_
      refine s_det (D.field_i rfl rfl rfl) rfl ?_
      refine s_det (D.load_i rfl rfl) rfl ?_
      refine s_det (D.len_m rfl rfl) rfl ?_
      refine s_cmp (D.lss rfl rfl rfl) rfl (fun h47 => ?_) (fun h47 => ?_)
      · replace h47 := of_decide_eq_true h47
        refine s_det (D.move rfl) rfl ?_
        refine s_yes rfl rfl ?_
        refine s_det (D.move rfl) rfl ?_
        refine s_yes rfl rfl ?_
        refine s_cmp (D.lss rfl rfl rfl) rfl (fun h50 => ?_) (fun h50 => ?_)
        · replace h50 := of_decide_eq_true h50
          obtain ⟨d, hvd⟩ : ∃ a, ds[i]? = some a := ⟨_, get_lt (by omega)⟩
          have hdn := hdm d (List.mem_of_getElem? hvd)
          have hsl := stepsS_len d
          refine s_det (D.pick rfl rfl rfl rfl) rfl ?_
          refine s_nil ?_
          refine acond_t rfl ?_
          refine askip ?_
          refine aseq ?_
          refine ablock ?_
          refine aseq ?_
          refine areg rfl ?_
          refine s_det (D.field_i rfl rfl rfl) rfl ?_
          refine s_det (D.load_i rfl rfl) rfl ?_
          refine s_det (D.move rfl) rfl ?_
          refine s_det (D.idx_m rfl rfl (by omega) hvd rfl) rfl ?_
          refine s_det (D.load_i rfl rfl) rfl ?_
          refine s_det (D.call (evc rfl ev0) b_gradusref0_CopyNumbers (gradusref0_CopyNumbers d (by omega))) rfl ?_
          refine s_det (D.assign rfl) rfl ?_
          refine s_nil ?_
          refine aseq ?_
          refine areg rfl ?_
          refine s_det (D.field_i rfl rfl rfl) rfl ?_
          refine s_det (D.load_i rfl rfl) rfl ?_
          refine s_det (D.move rfl) rfl ?_
          refine s_det (D.idx_m rfl rfl (by omega) hvd rfl) rfl ?_
          refine s_det (D.load_i rfl rfl) rfl ?_
          refine s_det (D.call (evc rfl ev0) b_gradusref1_Dims (gradusref1_Dims d)) rfl ?_
          refine s_det (D.assign rfl) rfl ?_
          refine s_nil ?_
          refine aseq ?_
          refine areg rfl ?_
          refine s_det (D.move rfl) rfl ?_
          refine s_det (D.call (evc rfl ev0) b_shape_Cells (shape_Cells d)) rfl ?_
          refine s_det (D.move rfl) rfl ?_
          refine s_det (D.extract rfl rfl) rfl ?_
          refine s_det (D.extract rfl rfl) rfl ?_
          refine s_det (D.assign rfl) rfl ?_
          refine s_det (D.assign rfl) rfl ?_
          refine s_nil ?_
          refine aseq ?_
          refine areg rfl ?_
          refine s_det (D.move rfl) rfl ?_
          refine s_act rfl (A.call (evc rfl ev0) b_shape_Steps (shape_Steps_own d _) fun y σ' hy => ?_)
          obtain ⟨_, rfl, b73, hb73, rfl, rfl⟩ := hy
          refine s_det (D.move rfl) rfl ?_
          refine s_det (D.extract rfl rfl) rfl ?_
          refine s_det (D.extract rfl rfl) rfl ?_
          refine s_det (D.assign rfl) rfl ?_
          refine s_det (D.assign rfl) rfl ?_
          refine s_nil ?_
          refine aseq ?_
          refine areg rfl ?_
          refine s_det (D.assign rfl) rfl ?_
          refine s_det (D.assign rfl) rfl ?_
          refine s_nil ?_
          refine aseq ?_
          refine areg rfl ?_
          refine s_det (D.assign rfl) rfl ?_
          refine s_nil ?_
          refine amidz (fun _ : Unit => True) (fun _ => [(1, .iptr (.agg [.list false 1 (ds.map ints), .list false 1 (ps.map ints), ints ns, .list false 2 (ts.map tv)])), (3, ints (nsS ns)), (4, iv i), (5, ints d), (6, bv (decide (okD d))), (7, iv (cellsS d).1), (8, iv (cellsS d).2), (9, .ref b73 1 0 (stepsS d).1.length), (10, iv (stepsS d).2), (11, iv (if okD d then 0 else 1)), (12, iv (cellsS d).1), (13, ints (stepsS d).1)]) (fun _ => (σ.set b73 (rowI (stepsS d).1))) ?_ ?_
          · refine acase (d := 6) rfl (fun h6 => ?_) (fun h6 => ?_)
            · replace h6 := of_decide_eq_true h6
              have hc : cellsS d = (prod d, 0) := by rw [cellsS, if_pos h6]
              have hst : stepsS d = (strides d, 0) := by rw [stepsS, if_pos h6]
              refine aseq ?_
              refine areg rfl ?_
              refine s_det (D.move rfl) rfl ?_
              refine s_nil ?_
              refine acond_t rfl ?_
              refine adraw [.det 0, .det 1, .det 2, .det 3, .det 4, .det 5, .det 6, .det 7, .det 8, .det 9, .det 10, .det 11, .det 12, .det 13, .det 14] rfl (by kernel_rfl) ?_
              refine d_det rfl (D.field_i rfl rfl rfl) rfl ?_
              refine d_det rfl (D.load_i rfl rfl) rfl ?_
              refine d_det rfl (D.move rfl) rfl ?_
              refine d_det rfl (D.idx_m rfl rfl (by omega) hvd rfl) rfl ?_
              refine d_det rfl (D.load_i rfl rfl) rfl ?_
              refine d_det rfl (D.call (evc rfl ev0) b_gradusref1_Cells (gradusref1_Cells d h6)) rfl ?_
              refine d_det rfl (D.field_i rfl rfl rfl) rfl ?_
              refine d_det rfl (D.load_i rfl rfl) rfl ?_
              refine d_det rfl (D.move rfl) rfl ?_
              refine d_det rfl (D.idx_m rfl rfl (by omega) hvd rfl) rfl ?_
              refine d_det rfl (D.load_i rfl rfl) rfl ?_
              refine d_det rfl (D.call (evc rfl ev0) b_gradusref1_Steps (gradusref1_Steps d h6)) rfl ?_
              refine d_det rfl (D.assign rfl) rfl ?_
              refine d_det rfl (D.assign rfl) rfl ?_
              refine d_det rfl (D.assign rfl) rfl ?_
              refine d_nil ?_
              exact ⟨(), trivial, Sub.refl _, .cons rfl (.cons rfl (.cons rfl (.cons rfl (.cons (congrArg (fun e => some (bv e)) (decide_eq_true h6).symm) (.cons rfl (.cons rfl (.cons rfl (.cons rfl (.cons (congrArg (fun e => some (iv e)) (if_pos h6).symm) (.cons (congrArg (fun e : Int × Int => some (iv e.1)) hc.symm) (.cons (congrArg (fun e : List Int × Int => some (ints e.1)) hst.symm) .nil)))))))))))⟩
            · replace h6 := of_decide_eq_false h6
              have hc : cellsS d = (0, 1) := by rw [cellsS, if_neg h6]
              have hst : stepsS d = ([], 1) := by rw [stepsS, if_neg h6]
              refine aseq ?_
              refine areg rfl ?_
              refine s_det (D.move rfl) rfl ?_
              refine s_nil ?_
              refine acond_f rfl ?_
              refine askip ?_
              exact ⟨(), trivial, Sub.refl _, .cons rfl (.cons rfl (.cons rfl (.cons rfl (.cons (congrArg (fun e => some (bv e)) (decide_eq_false h6).symm) (.cons rfl (.cons rfl (.cons rfl (.cons rfl (.cons (congrArg (fun e => some (iv e)) (if_neg h6).symm) (.cons (congrArg (fun e : Int × Int => some (iv e.1)) hc.symm) (.wk rfl (by rw [hst]; exact ((Wk.nil (k' := 1)).trans Wk.less)) .nil)))))))))))⟩
          · intro _ _
            refine aseq ?_
            refine aseq ?_
            refine areg rfl ?_
            refine s_det (D.move rfl) rfl ?_
            refine s_det (D.call (evc rfl ev0) b_shape_Check (shape_Check d)) rfl ?_
            refine s_det (D.call (evc rfl ev0) b_graduslaw1_num (graduslaw1_num _)) rfl ?_
            refine s_det (D.move rfl) rfl ?_
            refine s_det (D.neq rfl rfl (decide_eq_false (fun h => h rfl))) rfl ?_
            refine s_det (D.move rfl) rfl ?_
            refine s_yes rfl rfl ?_
            refine s_det (D.move rfl) rfl ?_
            refine s_yes rfl rfl ?_
            refine s_det (D.call (evc rfl ev0) b_graduslaw1_num (graduslaw1_num _)) rfl ?_
            refine s_yes rfl rfl ?_
            refine s_det (D.move rfl) rfl ?_
            refine s_yes rfl rfl ?_
            refine s_det (D.neq rfl rfl (decide_eq_false (fun h => h (cellsS_err d)))) rfl ?_
            refine s_det (D.pick rfl rfl rfl rfl) rfl ?_
            refine s_det (D.move rfl) rfl ?_
            refine s_yes rfl rfl ?_
            refine s_det (D.move rfl) rfl ?_
            refine s_yes rfl rfl ?_
            refine s_det (D.call (evc rfl ev0) b_graduslaw1_num (graduslaw1_num _)) rfl ?_
            refine s_yes rfl rfl ?_
            refine s_det (D.move rfl) rfl ?_
            refine s_yes rfl rfl ?_
            refine s_det (D.neq rfl rfl (decide_eq_false (fun h => h (stepsS_err d)))) rfl ?_
            refine s_det (D.pick rfl rfl rfl rfl) rfl ?_
            refine s_det (D.move rfl) rfl ?_
            refine s_yes rfl rfl ?_
            refine s_det (D.move rfl) rfl ?_
            refine s_yes rfl rfl ?_
            refine s_det (D.move rfl) rfl ?_
            refine s_yes rfl rfl ?_
            refine s_det (D.neq rfl rfl (decide_eq_false (fun h => h rfl))) rfl ?_
            refine s_det (D.pick rfl rfl rfl rfl) rfl ?_
            refine s_det (D.move rfl) rfl ?_
            refine s_yes rfl rfl ?_
            refine s_det (D.move rfl) rfl ?_
            refine s_yes rfl rfl ?_
            refine s_det (D.move rfl) rfl ?_
            refine s_yes rfl rfl ?_
            refine s_act rfl (A.call (evc rfl (evc rfl ev0)) b_gradusref0_EqNumbers (Pure.reads (Pure.toT (gradusref0_EqNumbers (stepsS d).1 (stepsS d).1 (by omega) (by omega)) rfl) rfl rfl (pz2 (Pz.whole (AH.set_self ..) rfl (by simp)) (.refl _))) fun y σ' hy => ?_)
            obtain ⟨rfl, rfl⟩ := hy
            refine s_yes rfl rfl ?_
            refine s_det (D.not rfl rfl) rfl ?_
            refine s_det (D.pick rfl rfl rfl rfl) rfl ?_
            refine s_nil ?_
            refine acond_f rfl ?_
            refine askip ?_
            refine amidz (fun _ : Unit => True) (fun _ => [(1, .iptr (.agg [.list false 1 (ds.map ints), .list false 1 (ps.map ints), ints ns, .list false 2 (ts.map tv)])), (3, ints (nsS ns)), (4, iv i), (5, ints d), (6, bv (decide (okD d))), (9, .ref b73 1 0 (stepsS d).1.length), (11, iv (if okD d then 0 else 1)), (12, iv (cellsS d).1)]) (fun _ => (σ.set b73 (rowI (stepsS d).1))) ?_ ?_
            · refine aseq ?_
              refine areg rfl ?_
              refine s_det (D.assign rfl) rfl ?_
              refine s_nil ?_
              refine ablock ?_
              -- LOOP writes [14] keeps [1, 3, 4, 5, 6, 9, 11, 12]
              refine aloop (ι := Nat) (fun k => k ≤ ps.length) (fun k => ps.length - k) (fun k => [(1, .iptr (.agg [.list false 1 (ds.map ints), .list false 1 (ps.map ints), ints ns, .list false 2 (ts.map tv)])), (3, ints (nsS ns)), (4, iv i), (5, ints d), (6, bv (decide (okD d))), (9, .ref b73 1 0 (stepsS d).1.length), (11, iv (if okD d then 0 else 1)), (12, iv (cellsS d).1), (14, iv k)]) (fun k => (σ.set b73 (rowI (stepsS d).1))) 0 (by omega) ?_ rfl fun k hk => ?_
              · exact (.cons rfl (.cons rfl (.cons rfl (.cons rfl (.cons rfl (.cons rfl (.cons rfl (.cons rfl (.cons rfl .nil)))))))))
              refine aseq ?_
              refine aseq ?_
              refine areg rfl ?_
              refine s_det (D.move rfl) rfl ?_
              refine s_det (D.field_i rfl rfl rfl) rfl ?_
              refine s_det (D.load_i rfl rfl) rfl ?_
              refine s_det (D.len_m rfl rfl) rfl ?_
              refine s_cmp (D.lss rfl rfl rfl) rfl (fun h121 => ?_) (fun h121 => ?_)
              · replace h121 := of_decide_eq_true h121
                refine s_det (D.move rfl) rfl ?_
                refine s_yes rfl rfl ?_
                refine s_det (D.move rfl) rfl ?_
                refine s_yes rfl rfl ?_
                refine s_cmp (D.lss rfl rfl rfl) rfl (fun h124 => ?_) (fun h124 => ?_)
                · replace h124 := of_decide_eq_true h124
                  obtain ⟨p, hvp⟩ : ∃ a, ps[k]? = some a := ⟨_, get_lt (by omega)⟩
                  have hpn := hpm p (List.mem_of_getElem? hvp)
                  refine s_det (D.pick rfl rfl rfl rfl) rfl ?_
                  refine s_nil ?_
                  refine acond_t rfl ?_
                  refine askip ?_
                  refine aseq ?_
                  refine ablock ?_
                  refine aseq ?_
                  refine areg rfl ?_
                  refine s_det (D.move rfl) rfl ?_
                  refine s_det (D.field_i rfl rfl rfl) rfl ?_
                  refine s_det (D.load_i rfl rfl) rfl ?_
                  refine s_det (D.move rfl) rfl ?_
                  refine s_det (D.idx_m rfl rfl (by omega) hvp rfl) rfl ?_
                  refine s_det (D.load_i rfl rfl) rfl ?_
                  refine s_det (D.call (evc rfl (evc rfl ev0)) b_shape_At (shape_At d p (by omega))) rfl ?_
                  refine s_det (D.move rfl) rfl ?_
                  refine s_det (D.extract rfl rfl) rfl ?_
                  refine s_det (D.extract rfl rfl) rfl ?_
                  refine s_det (D.assign rfl) rfl ?_
                  refine s_det (D.assign rfl) rfl ?_
                  refine s_nil ?_
                  refine aseq ?_
                  refine areg rfl ?_
                  refine s_det (D.assign rfl) rfl ?_
                  refine s_det (D.assign rfl) rfl ?_
                  refine s_nil ?_
                  refine amidz (fun _ : Unit => True) (fun _ => [(1, .iptr (.agg [.list false 1 (ds.map ints), .list false 1 (ps.map ints), ints ns, .list false 2 (ts.map tv)])), (3, ints (nsS ns)), (4, iv i), (5, ints d), (6, bv (decide (okD d))), (9, .ref b73 1 0 (stepsS d).1.length), (11, iv (if okD d then 0 else 1)), (12, iv (cellsS d).1), (14, iv k), (15, iv (atS d p).1), (16, iv (atS d p).2), (17, iv 1), (18, iv 0), (19, bv (gB d p 0))]) (fun _ => (σ.set b73 (rowI (stepsS d).1))) ?_ ?_
                  · refine acase (d := 6) rfl (fun h6 => ?_) (fun h6 => ?_)
                    · replace h6 := of_decide_eq_true h6
                      refine areg rfl ?_
                      refine s_det (D.move rfl) rfl ?_
                      refine s_det (D.move rfl) rfl ?_
                      refine s_yes rfl rfl ?_
                      refine s_det (D.field_i rfl rfl rfl) rfl ?_
                      refine s_yes rfl rfl ?_
                      refine s_det (D.load_i rfl rfl) rfl ?_
                      refine s_yes rfl rfl ?_
                      refine s_det (D.move rfl) rfl ?_
                      refine s_yes rfl rfl ?_
                      refine s_det (D.idx_m rfl rfl (by omega) hvp rfl) rfl ?_
                      refine s_yes rfl rfl ?_
                      refine s_det (D.load_i rfl rfl) rfl ?_
                      refine s_yes rfl rfl ?_
                      refine s_det (D.len_m rfl rfl) rfl ?_
                      refine s_yes rfl rfl ?_
                      refine s_det (D.move rfl) rfl ?_
                      refine s_yes rfl rfl ?_
                      refine s_det (D.len_m rfl rfl) rfl ?_
                      refine s_yes rfl rfl ?_
                      refine s_det (D.eql rfl rfl rfl) rfl ?_
                      refine s_det (D.pick rfl rfl rfl rfl) rfl ?_
                      refine s_det (D.assign rfl) rfl ?_
                      refine s_nil ?_
                      exact ⟨(), trivial, Sub.refl _, .cons rfl (.cons rfl (.cons rfl (.cons rfl (.cons (congrArg (fun e => some (bv e)) (decide_eq_true h6).symm) (.cons rfl (.cons rfl (.cons rfl (.cons rfl (.cons rfl (.cons rfl (.cons rfl (.cons rfl (.cons (congrArg (fun e => some (bv e)) (decide_eq_decide.2 ⟨fun h => ⟨h6, by omega⟩, fun h => by have := h.2; omega⟩)) .nil)))))))))))))⟩
                    · replace h6 := of_decide_eq_false h6
                      refine areg rfl ?_
                      refine s_det (D.move rfl) rfl ?_
                      refine s_det (D.move rfl) rfl ?_
                      refine s_no rfl rfl rfl rfl ?_
                      refine s_no rfl rfl rfl rfl ?_
                      refine s_no rfl rfl rfl rfl ?_
                      refine s_no rfl rfl rfl rfl ?_
                      refine s_no rfl rfl rfl rfl ?_
                      refine s_no rfl rfl rfl rfl ?_
                      refine s_no rfl rfl rfl rfl ?_
                      refine s_no rfl rfl rfl rfl ?_
                      refine s_no rfl rfl rfl rfl ?_
                      refine s_det (D.pick rfl rfl rfl rfl) rfl ?_
                      refine s_det (D.assign rfl) rfl ?_
                      refine s_nil ?_
                      exact ⟨(), trivial, Sub.refl _, .cons rfl (.cons rfl (.cons rfl (.cons rfl (.cons (congrArg (fun e => some (bv e)) (decide_eq_false h6).symm) (.cons rfl (.cons rfl (.cons rfl (.cons rfl (.cons rfl (.cons rfl (.cons rfl (.cons rfl (.cons (congrArg (fun e => some (bv e)) (decide_eq_false (fun h => h6 h.1)).symm) .nil)))))))))))))⟩
                  · intro _ _
                    refine amidz (fun _ : Unit => True) (fun _ => [(1, .iptr (.agg [.list false 1 (ds.map ints), .list false 1 (ps.map ints), ints ns, .list false 2 (ts.map tv)])), (3, ints (nsS ns)), (4, iv i), (5, ints d), (6, bv (decide (okD d))), (9, .ref b73 1 0 (stepsS d).1.length), (11, iv (if okD d then 0 else 1)), (12, iv (cellsS d).1), (14, iv k), (15, iv (atS d p).1), (16, iv (atS d p).2), (17, iv 1), (18, iv 0), (19, bv (gB d p d.length))]) (fun _ => (σ.set b73 (rowI (stepsS d).1))) ?_ ?_
                    · refine aseq ?_
                      refine areg rfl ?_
                      refine s_det (D.assign rfl) rfl ?_
                      refine s_nil ?_
                      refine ablock ?_
                      -- LOOP writes [19, 20] keeps [1, 3, 4, 5, 6, 9, 11, 12, 14, 15, 16, 17, 18]
                      refine aloop (ι := Nat) (fun j => j ≤ d.length) (fun j => d.length - j) (fun j => [(1, .iptr (.agg [.list false 1 (ds.map ints), .list false 1 (ps.map ints), ints ns, .list false 2 (ts.map tv)])), (3, ints (nsS ns)), (4, iv i), (5, ints d), (6, bv (decide (okD d))), (9, .ref b73 1 0 (stepsS d).1.length), (11, iv (if okD d then 0 else 1)), (12, iv (cellsS d).1), (14, iv k), (15, iv (atS d p).1), (16, iv (atS d p).2), (17, iv 1), (18, iv 0), (19, bv (gB d p j)), (20, iv j)]) (fun j => (σ.set b73 (rowI (stepsS d).1))) 0 (by omega) ?_ rfl fun j hj => ?_
                      · exact (.cons rfl (.cons rfl (.cons rfl (.cons rfl (.cons rfl (.cons rfl (.cons rfl (.cons rfl (.cons rfl (.cons rfl (.cons rfl (.cons rfl (.cons rfl (.cons rfl (.cons rfl .nil)))))))))))))))
                      refine aseq ?_
                      refine aseq ?_
                      refine areg rfl ?_
                      refine s_det (D.move rfl) rfl ?_
                      refine s_det (D.move rfl) rfl ?_
                      refine s_det (D.len_m rfl rfl) rfl ?_
                      refine s_cmp (D.lss rfl rfl rfl) rfl (fun h153 => ?_) (fun h153 => ?_)
                      · replace h153 := of_decide_eq_true h153
                        have hjd : j < d.length := by omega
                        refine s_det (D.move rfl) rfl ?_
                        refine s_yes rfl rfl ?_
                        refine s_det (D.move rfl) rfl ?_
                        refine s_det (D.pick rfl rfl rfl rfl) rfl ?_
                        refine s_nil ?_
                        -- cond t156 unknown
                        refine acond rfl (fun h156 => ?_) (fun h156 => ?_)
                        · refine askip ?_
                          refine aseq ?_
                          refine ablock ?_
                          obtain ⟨hok, hpd⟩ := gB_zero h156
                          have hjp : j < p.length := by omega
                          have hr := hok.2.2.1 _ (List.getElem_mem hjd)
                          have hr1 := hr.1
                          have hr2 := hr.2
                          refine adraw [.det 0, .det 1, .det 2, .det 3, .det 4, .det 5, .det 6, .det 7, .det 8, .det 9, .det 10, .det 11, .det 12, .det 13, .det 14] rfl (by kernel_rfl) ?_
                          refine d_det rfl (D.field_i rfl rfl rfl) rfl ?_
                          refine d_det rfl (D.load_i rfl rfl) rfl ?_
                          refine d_det rfl (D.move rfl) rfl ?_
                          refine d_det rfl (D.idx_m rfl rfl (by omega) hvp rfl) rfl ?_
                          refine d_det rfl (D.load_i rfl rfl) rfl ?_
                          refine d_det rfl (D.move rfl) rfl ?_
                          refine d_det rfl (D.idx_m rfl rfl (by omega) (get_lt (i := j) hjp) rfl) rfl ?_
                          refine d_det rfl (D.load_i rfl rfl) rfl ?_
                          refine d_det rfl (D.move rfl) rfl ?_
                          refine d_det rfl (D.move rfl) rfl ?_
                          refine d_det rfl (D.idx_m rfl rfl (by omega) (get_lt (i := j) hjd) rfl) rfl ?_
                          refine d_det rfl (D.load_i rfl rfl) rfl ?_
                          refine d_det rfl (D.sub rfl rfl (w64 (by omega) (by omega))) rfl ?_
                          refine d_det rfl (D.call (evc rfl (evc rfl ev0)) b_gradusref0_Num (gradusref0_Num p[j] (d[j] - 1))) rfl ?_
                          refine d_det rfl (D.assign rfl) rfl ?_
                          refine d_nil ?_
                          refine areg rfl ?_
                          refine s_det (D.move rfl) rfl ?_
                          refine s_det (D.add rfl rfl (w64 (by omega) (by omega))) rfl ?_
                          refine s_det (D.assign rfl) rfl ?_
                          refine s_nil ?_
                          exact ⟨j + 1, by omega, by omega, .cons rfl (.cons rfl (.cons rfl (.cons rfl (.cons rfl (.cons rfl (.cons rfl (.cons rfl (.cons rfl (.cons rfl (.cons rfl (.cons rfl (.cons rfl (.cons (congrArg (fun e => some (bv e)) (by rw [gB, h156, rdN_get hjp, rdN_get hjd]; rfl)) (.cons rfl .nil)))))))))))))), rfl⟩
                        · refine aexit ?_
                          exact ⟨(), trivial, Sub.refl _, .cons rfl (.cons rfl (.cons rfl (.cons rfl (.cons rfl (.cons rfl (.cons rfl (.cons rfl (.cons rfl (.cons rfl (.cons rfl (.cons rfl (.cons rfl (.cons (congrArg (fun e => some (bv e)) (by have := gB_stop h156 (d.length - j); rw [show j + (d.length - j) = d.length by omega] at this; rw [h156, this])) .nil)))))))))))))⟩
                      · replace h153 := of_decide_eq_false h153
                        have ej : j = d.length := by omega
                        refine s_det (D.move rfl) rfl ?_
                        refine s_no rfl rfl rfl rfl ?_
                        refine s_det (D.pick rfl rfl rfl rfl) rfl ?_
                        refine s_nil ?_
                        refine acond_f rfl ?_
                        refine aexit ?_
                        exact ⟨(), trivial, Sub.refl _, .cons rfl (.cons rfl (.cons rfl (.cons rfl (.cons rfl (.cons rfl (.cons rfl (.cons rfl (.cons rfl (.cons rfl (.cons rfl (.cons rfl (.cons rfl (.cons (congrArg (fun e => some (bv e)) (by rw [ej])) .nil)))))))))))))⟩
                    · intro _ _
                      refine amidz (fun _ : Unit => True) (fun _ => [(1, .iptr (.agg [.list false 1 (ds.map ints), .list false 1 (ps.map ints), ints ns, .list false 2 (ts.map tv)])), (3, ints (nsS ns)), (4, iv i), (5, ints d), (6, bv (decide (okD d))), (9, .ref b73 1 0 (stepsS d).1.length), (11, iv (if okD d then 0 else 1)), (12, iv (cellsS d).1), (14, iv k), (15, iv (atS d p).1), (16, iv (atS d p).2), (17, iv (atS d p).2), (18, iv (atS d p).1)]) (fun _ => (σ.set b73 (rowI (stepsS d).1))) ?_ ?_
                      · refine aseq ?_
                        refine areg rfl ?_
                        refine s_det (D.move rfl) rfl ?_
                        refine s_nil ?_
                        -- cond t173 unknown
                        refine acond rfl (fun h173 => ?_) (fun h173 => ?_)
                        · refine areg rfl ?_
                          refine s_det (D.move rfl) rfl ?_
                          refine s_det (D.field_i rfl rfl rfl) rfl ?_
                          refine s_det (D.load_i rfl rfl) rfl ?_
                          refine s_det (D.move rfl) rfl ?_
                          obtain ⟨hok, hwi⟩ := gB_within.1 h173
                          have ha : atS d p = (place d p, 0) := by rw [atS, if_pos ⟨hok, hwi⟩]
                          refine s_det (D.idx_m rfl rfl (by omega) hvp rfl) rfl ?_
                          refine s_det (D.load_i rfl rfl) rfl ?_
                          refine s_det (D.call (evc rfl (evc rfl ev0)) b_gradusref1_At (gradusref1_At d p hok hwi)) rfl ?_
                          refine s_det (D.assign rfl) rfl ?_
                          refine s_det (D.assign rfl) rfl ?_
                          refine s_nil ?_
                          exact ⟨(), trivial, Sub.refl _, .cons rfl (.cons rfl (.cons rfl (.cons rfl (.cons rfl (.cons rfl (.cons rfl (.cons rfl (.cons rfl (.cons rfl (.cons rfl (.cons (congrArg (fun e : Int × Int => some (iv e.2)) ha.symm) (.cons (congrArg (fun e : Int × Int => some (iv e.1)) ha.symm) .nil))))))))))))⟩
                        · refine askip ?_
                          have ha : atS d p = (0, 1) := by rw [atS, if_neg (fun h => by rw [gB_within.2 h] at h173; cases h173)]
                          exact ⟨(), trivial, Sub.refl _, .cons rfl (.cons rfl (.cons rfl (.cons rfl (.cons rfl (.cons rfl (.cons rfl (.cons rfl (.cons rfl (.cons rfl (.cons rfl (.cons (congrArg (fun e : Int × Int => some (iv e.2)) ha.symm) (.cons (congrArg (fun e : Int × Int => some (iv e.1)) ha.symm) .nil))))))))))))⟩
                      · intro _ _
                        refine aseq ?_
                        refine areg rfl ?_
                        refine s_det (D.move rfl) rfl ?_
                        refine s_det (D.call (evc rfl ev0) b_graduslaw1_num (graduslaw1_num _)) rfl ?_
                        refine s_det (D.move rfl) rfl ?_
                        refine s_det (D.neq rfl rfl (decide_eq_false (fun h => h rfl))) rfl ?_
                        refine s_det (D.move rfl) rfl ?_
                        refine s_yes rfl rfl ?_
                        refine s_det (D.move rfl) rfl ?_
                        refine s_yes rfl rfl ?_
                        refine s_det (D.move rfl) rfl ?_
                        refine s_yes rfl rfl ?_
                        refine s_det (D.neq rfl rfl (decide_eq_false (fun h => h rfl))) rfl ?_
                        refine s_det (D.pick rfl rfl rfl rfl) rfl ?_
                        refine s_nil ?_
                        refine acond_f rfl ?_
                        refine askip ?_
                        refine areg rfl ?_
                        refine s_det (D.move rfl) rfl ?_
                        refine s_det (D.add rfl rfl (w64 (by omega) (by omega))) rfl ?_
                        refine s_det (D.assign rfl) rfl ?_
                        refine s_nil ?_
                        exact ⟨k + 1, by omega, by omega, (.cons rfl (.cons rfl (.cons rfl (.cons rfl (.cons rfl (.cons rfl (.cons rfl (.cons rfl (.cons rfl .nil))))))))), rfl⟩
                · replace h124 := of_decide_eq_false h124
                  refine s_det (D.pick rfl rfl rfl rfl) rfl ?_
                  refine s_nil ?_
                  refine acond_f rfl ?_
                  refine aexit ?_
                  exact ⟨(), trivial, Sub.refl _, (.cons rfl (.cons rfl (.cons rfl (.cons rfl (.cons rfl (.cons rfl (.cons rfl (.cons rfl .nil))))))))⟩
              · replace h121 := of_decide_eq_false h121
                refine s_det (D.move rfl) rfl ?_
                refine s_no rfl rfl rfl rfl ?_
                refine s_no rfl rfl rfl rfl ?_
                refine s_det (D.pick rfl rfl rfl rfl) rfl ?_
                refine s_nil ?_
                refine acond_f rfl ?_
                refine aexit ?_
                exact ⟨(), trivial, Sub.refl _, (.cons rfl (.cons rfl (.cons rfl (.cons rfl (.cons rfl (.cons rfl (.cons rfl (.cons rfl .nil))))))))⟩
            · intro _ _
              refine amidz (fun _ : Unit => True) (fun _ => [(1, .iptr (.agg [.list false 1 (ds.map ints), .list false 1 (ps.map ints), ints ns, .list false 2 (ts.map tv)])), (3, ints (nsS ns)), (4, iv i), (5, ints d), (6, bv (decide (okD d))), (9, .ref b73 1 0 (stepsS d).1.length)]) (fun _ => (σ.set b73 (rowI (stepsS d).1))) ?_ ?_
              · refine aseq ?_
                refine areg rfl ?_
                refine s_det (D.assign rfl) rfl ?_
                refine s_nil ?_
                refine ablock ?_
                -- LOOP writes [21] keeps [1, 3, 4, 5, 6, 9, 11, 12]
                refine aloop (ι := Nat) (fun k => k ≤ (nsS ns).length) (fun k => (nsS ns).length - k) (fun k => [(1, .iptr (.agg [.list false 1 (ds.map ints), .list false 1 (ps.map ints), ints ns, .list false 2 (ts.map tv)])), (3, ints (nsS ns)), (4, iv i), (5, ints d), (6, bv (decide (okD d))), (9, .ref b73 1 0 (stepsS d).1.length), (11, iv (if okD d then 0 else 1)), (12, iv (cellsS d).1), (21, iv k)]) (fun k => (σ.set b73 (rowI (stepsS d).1))) 0 (by omega) ?_ rfl fun k hk => ?_
                · exact (.cons rfl (.cons rfl (.cons rfl (.cons rfl (.cons rfl (.cons rfl (.cons rfl (.cons rfl (.cons rfl .nil)))))))))
                refine aseq ?_
                refine aseq ?_
                refine areg rfl ?_
                refine s_det (D.move rfl) rfl ?_
                refine s_det (D.move rfl) rfl ?_
                refine s_det (D.len_m rfl rfl) rfl ?_
                refine s_cmp (D.lss rfl rfl rfl) rfl (fun h193 => ?_) (fun h193 => ?_)
                · replace h193 := of_decide_eq_true h193
                  refine s_det (D.move rfl) rfl ?_
                  refine s_yes rfl rfl ?_
                  refine s_det (D.move rfl) rfl ?_
                  refine s_yes rfl rfl ?_
                  refine s_cmp (D.lss rfl rfl rfl) rfl (fun h196 => ?_) (fun h196 => ?_)
                  · replace h196 := of_decide_eq_true h196
                    have hnl : (nsS ns).length = ns.length + 6 := by simp
                    obtain ⟨n, hvn⟩ : ∃ n, (nsS ns)[k]? = some n := ⟨_, get_lt (by omega)⟩
                    have hnI : inI n := by
                      have := List.mem_of_getElem? hvn
                      simp only [nsS, List.mem_cons] at this
                      rcases this with rfl | rfl | rfl | rfl | rfl | rfl | h
                      · exact ⟨by decide, by decide⟩
                      · exact ⟨by decide, by decide⟩
                      · exact ⟨by decide, by decide⟩
                      · exact ⟨by decide, by decide⟩
                      · exact ⟨by decide, by decide⟩
                      · exact ⟨by decide, by decide⟩
                      · exact hni n h
                    have hwl := whereS_len d n
                    refine s_det (D.pick rfl rfl rfl rfl) rfl ?_
                    refine s_nil ?_
                    refine acond_t rfl ?_
                    refine askip ?_
                    refine aseq ?_
                    refine ablock ?_
                    refine aseq ?_
                    refine areg rfl ?_
                    refine s_det (D.move rfl) rfl ?_
                    refine s_det (D.move rfl) rfl ?_
                    refine s_det (D.move rfl) rfl ?_
                    refine s_det (D.idx_m rfl rfl (by omega) hvn rfl) rfl ?_
                    refine s_det (D.load_i rfl rfl) rfl ?_
                    refine s_det (D.call (evc rfl (evc rfl ev0)) b_shape_Where (shape_Where d n hnI.2)) rfl ?_
                    refine s_det (D.move rfl) rfl ?_
                    refine s_det (D.extract rfl rfl) rfl ?_
                    refine s_det (D.extract rfl rfl) rfl ?_
                    refine s_det (D.assign rfl) rfl ?_
                    refine s_det (D.assign rfl) rfl ?_
                    refine s_nil ?_
                    refine aseq ?_
                    refine areg rfl ?_
                    refine s_det (D.move rfl) rfl ?_
                    refine s_det (D.move rfl) rfl ?_
                    refine s_det (D.move rfl) rfl ?_
                    refine s_det (D.idx_m rfl rfl (by omega) hvn rfl) rfl ?_
                    refine s_det (D.load_i rfl rfl) rfl ?_
                    refine s_det (D.call (evc rfl (evc rfl ev0)) b_shape_Fill (shape_Fill d n)) rfl ?_
                    refine s_det (D.move rfl) rfl ?_
                    refine s_det (D.extract rfl rfl) rfl ?_
                    refine s_det (D.extract rfl rfl) rfl ?_
                    refine s_act rfl (A.alloc rfl rfl rfl fun b24 hb24 => ?_)
                    refine s_do (A.store rfl rfl (AH.set_self ..) rfl rfl (by rfl) rfl rfl ?_)
                    refine s_det (D.assign rfl) rfl ?_
                    refine s_nil ?_
                    rw [AH.set_set]
                    refine afix (d := 24) rfl hb24 ?_
                    refine aseq ?_
                    refine areg rfl ?_
                    refine s_det (D.assign rfl) rfl ?_
                    refine s_nil ?_
                    refine aseq ?_
                    refine areg rfl ?_
                    refine s_det (D.assign rfl) rfl ?_
                    refine s_nil ?_
                    refine aseq ?_
                    refine areg rfl ?_
                    refine s_act rfl (A.alloc rfl rfl rfl fun b28 hb28 => ?_)
                    refine s_nil ?_
                    refine amidz (fun _ : Unit => True) (fun _ => [(1, .iptr (.agg [.list false 1 (ds.map ints), .list false 1 (ps.map ints), ints ns, .list false 2 (ts.map tv)])), (3, ints (nsS ns)), (4, iv i), (5, ints d), (6, bv (decide (okD d))), (9, .ref b73 1 0 (stepsS d).1.length), (11, iv (if okD d then 0 else 1)), (12, iv (cellsS d).1), (21, iv k), (22, ints (whereS d n).1), (23, iv (whereS d n).2), (24, .iptr (tv (fillS d n).1)), (25, iv (fillS d n).2), (26, iv (whereS d n).2), (27, ints (whereS d n).1), (28, .iptr (tv (fillS d n).1))]) (fun _ => (σ.set b73 (rowI (stepsS d).1))) ?_ ?_
                    · refine acase (d := 6) rfl (fun h6 => ?_) (fun h6 => ?_)
                      · replace h6 := of_decide_eq_true h6
                        have hf : fillS d n = (fillT d n, 0) := by rw [fillS, if_pos h6]
                        have hcv : (cellsS d).1 = prod d := by rw [cellsS, if_pos h6]
                        have hd64 := h6.2.2.2
                        have hdp := prod_pos h6.2.2.1
                        refine aseq ?_
                        refine areg rfl ?_
                        refine s_det (D.move rfl) rfl ?_
                        refine s_nil ?_
                        refine acond_t rfl ?_
                        refine aseq ?_
                        refine areg rfl ?_
                        refine s_det (D.move rfl) rfl ?_
                        refine s_det (D.move rfl) rfl ?_
                        refine s_det (D.move rfl) rfl ?_
                        refine s_det (D.idx_m rfl rfl (by omega) hvn rfl) rfl ?_
                        refine s_det (D.load_i rfl rfl) rfl ?_
                        refine s_det (D.call (evc rfl (evc rfl ev0)) b_gradusref1_Fill (gradusref1_Fill d n h6)) rfl ?_
                        refine s_do (A.store rfl rfl (AH.set_self ..) rfl rfl (by rfl) rfl rfl ?_)
                        refine s_nil ?_
                        refine aseq ?_
                        refine areg rfl ?_
                        refine s_det (D.move rfl) rfl ?_
                        refine s_det (D.move rfl) rfl ?_
                        refine s_det (D.idx_m rfl rfl (by omega) hvn rfl) rfl ?_
                        refine s_det (D.load_i rfl rfl) rfl ?_
                        refine s_det (D.move rfl) rfl ?_
                        refine s_det (D.sub rfl rfl (r := (cellsS d).1 - 1) (w64 (by omega) (by omega))) rfl ?_
                        refine s_cmp (D.call (evc rfl (evc rfl ev0)) b_gradusref0_Num (gradusref0_Num n ((cellsS d).1 - 1))) rfl (fun h231 => ?_) (fun h231 => ?_)
                        · replace h231 := of_decide_eq_true h231
                          have hw : whereS d n = (nums d n, 0) := by rw [whereS, if_pos ⟨h6, h231.1, by omega⟩]
                          refine s_nil ?_
                          refine acond_t rfl ?_
                          refine areg rfl ?_
                          refine s_det (D.move rfl) rfl ?_
                          refine s_det (D.move rfl) rfl ?_
                          refine s_det (D.move rfl) rfl ?_
                          refine s_det (D.idx_m rfl rfl (by omega) hvn rfl) rfl ?_
                          refine s_det (D.load_i rfl rfl) rfl ?_
                          refine s_det (D.call (evc rfl (evc rfl ev0)) b_gradusref1_Where (gradusref1_Where d n h6 h231.1 (by omega))) rfl ?_
                          refine s_det (D.assign rfl) rfl ?_
                          refine s_det (D.assign rfl) rfl ?_
                          refine s_nil ?_
                          exact ⟨(), trivial, (by repeat (first | exact Sub.refl _ | refine Sub.set ?_ (by first | assumption | exact (AH.set_none (by assumption)).1 | exact (AH.set_none (AH.set_none (by assumption)).1).1 | exact (AH.set_none (AH.set_none (AH.set_none (by assumption)).1).1).1 | exact (AH.set_none (AH.set_none (AH.set_none (AH.set_none (by assumption)).1).1).1).1 | exact (AH.set_none (AH.set_none (AH.set_none (AH.set_none (AH.set_none (by assumption)).1).1).1).1).1 | exact (AH.set_none (AH.set_none (AH.set_none (AH.set_none (AH.set_none (AH.set_none (by assumption)).1).1).1).1).1).1) _)), .cons rfl (.cons rfl (.cons rfl (.cons rfl (.cons (congrArg (fun e => some (bv e)) (decide_eq_true h6).symm) (.cons rfl (.cons rfl (.cons rfl (.cons rfl (.cons rfl (.cons rfl (.cons rfl (.cons rfl (.cons (congrArg (fun e : List Int × Int => some (iv e.2)) hw.symm) (.cons (congrArg (fun e : List Int × Int => some (ints e.1)) hw.symm) (.fix rfl (AH.set_self ..) hb28 (by rw [hf]; exact .refl _) .nil)))))))))))))))⟩
                        · replace h231 := of_decide_eq_false h231
                          have hw : whereS d n = ([], 1) := by rw [whereS, if_neg (fun h => h231 ⟨h.2.1, by have := h.2.2; omega⟩)]
                          refine s_nil ?_
                          refine acond_f rfl ?_
                          refine askip ?_
                          exact ⟨(), trivial, (by repeat (first | exact Sub.refl _ | refine Sub.set ?_ (by first | assumption | exact (AH.set_none (by assumption)).1 | exact (AH.set_none (AH.set_none (by assumption)).1).1 | exact (AH.set_none (AH.set_none (AH.set_none (by assumption)).1).1).1 | exact (AH.set_none (AH.set_none (AH.set_none (AH.set_none (by assumption)).1).1).1).1 | exact (AH.set_none (AH.set_none (AH.set_none (AH.set_none (AH.set_none (by assumption)).1).1).1).1).1 | exact (AH.set_none (AH.set_none (AH.set_none (AH.set_none (AH.set_none (AH.set_none (by assumption)).1).1).1).1).1).1) _)), .cons rfl (.cons rfl (.cons rfl (.cons rfl (.cons (congrArg (fun e => some (bv e)) (decide_eq_true h6).symm) (.cons rfl (.cons rfl (.cons rfl (.cons rfl (.cons rfl (.cons rfl (.cons rfl (.cons rfl (.cons (congrArg (fun e : List Int × Int => some (iv e.2)) hw.symm) (.wk rfl (by rw [hw]; exact ((Wk.nil (k' := 1)).trans Wk.less)) (.fix rfl (AH.set_self ..) hb28 (by rw [hf]; exact .refl _) .nil)))))))))))))))⟩
                      · replace h6 := of_decide_eq_false h6
                        have hw : whereS d n = ([], 1) := by rw [whereS, if_neg (fun h => h6 h.1)]
                        have hf : fillS d n = (⟨[], []⟩, 1) := by rw [fillS, if_neg h6]
                        refine aseq ?_
                        refine areg rfl ?_
                        refine s_det (D.move rfl) rfl ?_
                        refine s_nil ?_
                        refine acond_f rfl ?_
                        refine askip ?_
                        exact ⟨(), trivial, (by repeat (first | exact Sub.refl _ | refine Sub.set ?_ (by first | assumption | exact (AH.set_none (by assumption)).1 | exact (AH.set_none (AH.set_none (by assumption)).1).1 | exact (AH.set_none (AH.set_none (AH.set_none (by assumption)).1).1).1 | exact (AH.set_none (AH.set_none (AH.set_none (AH.set_none (by assumption)).1).1).1).1 | exact (AH.set_none (AH.set_none (AH.set_none (AH.set_none (AH.set_none (by assumption)).1).1).1).1).1 | exact (AH.set_none (AH.set_none (AH.set_none (AH.set_none (AH.set_none (AH.set_none (by assumption)).1).1).1).1).1).1) _)), .cons rfl (.cons rfl (.cons rfl (.cons rfl (.cons (congrArg (fun e => some (bv e)) (decide_eq_false h6).symm) (.cons rfl (.cons rfl (.cons rfl (.cons rfl (.cons rfl (.cons rfl (.cons rfl (.cons rfl (.cons (congrArg (fun e : List Int × Int => some (iv e.2)) hw.symm) (.wk rfl (by rw [hw]; exact ((Wk.nil (k' := 1)).trans Wk.less)) (.fix rfl (AH.set_self ..) hb28 (wkI (congrArg Prod.fst hf)) .nil)))))))))))))))⟩
                    · intro _ _
                      refine aseq ?_
                      refine areg rfl ?_
                      refine s_det (D.move rfl) rfl ?_
                      refine s_det (D.call (evc rfl ev0) b_graduslaw1_num (graduslaw1_num _)) rfl ?_
                      refine s_det (D.move rfl) rfl ?_
                      refine s_det (D.neq rfl rfl (decide_eq_false (fun h => h rfl))) rfl ?_
                      refine s_det (D.move rfl) rfl ?_
                      refine s_yes rfl rfl ?_
                      refine s_det (D.move rfl) rfl ?_
                      refine s_yes rfl rfl ?_
                      refine s_det (D.move rfl) rfl ?_
                      refine s_yes rfl rfl ?_
                      refine s_det (D.call (evc rfl (evc rfl ev0)) b_gradusref0_EqNumbers (Pure.toT (gradusref0_EqNumbers (whereS d n).1 (whereS d n).1 (by omega) (by omega)) rfl)) rfl ?_
                      refine s_yes rfl rfl ?_
                      refine s_det (D.not rfl rfl) rfl ?_
                      refine s_det (D.pick rfl rfl rfl rfl) rfl ?_
                      refine s_det (D.move rfl) rfl ?_
                      refine s_yes rfl rfl ?_
                      refine s_det (D.move rfl) rfl ?_
                      refine s_yes rfl rfl ?_
                      refine s_det (D.call (evc rfl ev0) b_graduslaw1_num (graduslaw1_num _)) rfl ?_
                      refine s_yes rfl rfl ?_
                      refine s_det (D.move rfl) rfl ?_
                      refine s_yes rfl rfl ?_
                      refine s_det (D.neq rfl rfl (decide_eq_false (fun h => h (fillS_err d n)))) rfl ?_
                      refine s_det (D.pick rfl rfl rfl rfl) rfl ?_
                      refine s_det (D.move rfl) rfl ?_
                      refine s_yes rfl rfl ?_
                      refine s_det (D.load_i rfl rfl) rfl ?_
                      refine s_yes rfl rfl ?_
                      refine s_det (D.load_i rfl rfl) rfl ?_
                      refine s_yes rfl rfl ?_
                      refine s_det (D.call (evc rfl (evc rfl ev0)) b_gradusref0_EqTensor (Pure.toT (gradusref0_EqTensor _ _ (fillS_sm d n) (fillS_sm d n)) rfl)) rfl ?_
                      refine s_yes rfl rfl ?_
                      refine s_det (D.not rfl rfl) rfl ?_
                      refine s_det (D.pick rfl rfl rfl rfl) rfl ?_
                      refine s_nil ?_
                      refine acond_f rfl ?_
                      refine askip ?_
                      refine areg rfl ?_
                      refine s_det (D.move rfl) rfl ?_
                      refine s_det (D.add rfl rfl (w64 (by omega) (by omega))) rfl ?_
                      refine s_det (D.assign rfl) rfl ?_
                      refine s_nil ?_
                      exact ⟨k + 1, by omega, by omega, (.cons rfl (.cons rfl (.cons rfl (.cons rfl (.cons rfl (.cons rfl (.cons rfl (.cons rfl (.cons rfl .nil))))))))), rfl⟩
                  · replace h196 := of_decide_eq_false h196
                    refine s_det (D.pick rfl rfl rfl rfl) rfl ?_
                    refine s_nil ?_
                    refine acond_f rfl ?_
                    refine aexit ?_
                    exact ⟨(), trivial, Sub.refl _, (.cons rfl (.cons rfl (.cons rfl (.cons rfl (.cons rfl (.cons rfl .nil))))))⟩
                · replace h193 := of_decide_eq_false h193
                  refine s_det (D.move rfl) rfl ?_
                  refine s_no rfl rfl rfl rfl ?_
                  refine s_no rfl rfl rfl rfl ?_
                  refine s_det (D.pick rfl rfl rfl rfl) rfl ?_
                  refine s_nil ?_
                  refine acond_f rfl ?_
                  refine aexit ?_
                  exact ⟨(), trivial, Sub.refl _, (.cons rfl (.cons rfl (.cons rfl (.cons rfl (.cons rfl (.cons rfl .nil))))))⟩
              · intro _ _
                refine amidz (fun _ : Unit => True) (fun _ => [(1, .iptr (.agg [.list false 1 (ds.map ints), .list false 1 (ps.map ints), ints ns, .list false 2 (ts.map tv)])), (3, ints (nsS ns)), (4, iv i), (5, ints d), (9, .ref b73 1 0 (stepsS d).1.length)]) (fun _ => (σ.set b73 (rowI (stepsS d).1))) ?_ ?_
                · refine aseq ?_
                  refine areg rfl ?_
                  refine s_det (D.assign rfl) rfl ?_
                  refine s_nil ?_
                  refine ablock ?_
                  -- LOOP writes [29] keeps [1, 3, 4, 5, 6, 9]
                  refine aloop (ι := Nat) (fun k => k ≤ ds.length) (fun k => ds.length - k) (fun k => [(1, .iptr (.agg [.list false 1 (ds.map ints), .list false 1 (ps.map ints), ints ns, .list false 2 (ts.map tv)])), (3, ints (nsS ns)), (4, iv i), (5, ints d), (6, bv (decide (okD d))), (9, .ref b73 1 0 (stepsS d).1.length), (29, iv k)]) (fun k => (σ.set b73 (rowI (stepsS d).1))) 0 (by omega) ?_ rfl fun k hk => ?_
                  · exact (.cons rfl (.cons rfl (.cons rfl (.cons rfl (.cons rfl (.cons rfl (.cons rfl .nil)))))))
                  refine aseq ?_
                  refine aseq ?_
                  refine areg rfl ?_
                  refine s_det (D.move rfl) rfl ?_
                  refine s_det (D.field_i rfl rfl rfl) rfl ?_
                  refine s_det (D.load_i rfl rfl) rfl ?_
                  refine s_det (D.len_m rfl rfl) rfl ?_
                  refine s_cmp (D.lss rfl rfl rfl) rfl (fun h264 => ?_) (fun h264 => ?_)
                  · replace h264 := of_decide_eq_true h264
                    refine s_det (D.move rfl) rfl ?_
                    refine s_yes rfl rfl ?_
                    refine s_det (D.move rfl) rfl ?_
                    refine s_yes rfl rfl ?_
                    refine s_cmp (D.lss rfl rfl rfl) rfl (fun h267 => ?_) (fun h267 => ?_)
                    · replace h267 := of_decide_eq_true h267
                      obtain ⟨e, hve⟩ : ∃ a, ds[k]? = some a := ⟨_, get_lt (by omega)⟩
                      have hen := hdm e (List.mem_of_getElem? hve)
                      refine s_det (D.pick rfl rfl rfl rfl) rfl ?_
                      refine s_nil ?_
                      refine acond_t rfl ?_
                      refine askip ?_
                      refine aseq ?_
                      refine ablock ?_
                      refine aseq ?_
                      refine areg rfl ?_
                      refine s_det (D.move rfl) rfl ?_
                      refine s_det (D.field_i rfl rfl rfl) rfl ?_
                      refine s_det (D.load_i rfl rfl) rfl ?_
                      refine s_det (D.move rfl) rfl ?_
                      refine s_det (D.idx_m rfl rfl (by omega) hve rfl) rfl ?_
                      refine s_det (D.load_i rfl rfl) rfl ?_
                      refine s_det (D.call (evc rfl (evc rfl ev0)) b_shape_Same (shape_Same d e)) rfl ?_
                      refine s_det (D.move rfl) rfl ?_
                      refine s_det (D.extract rfl rfl) rfl ?_
                      refine s_det (D.extract rfl rfl) rfl ?_
                      refine s_det (D.assign rfl) rfl ?_
                      refine s_det (D.assign rfl) rfl ?_
                      refine s_nil ?_
                      refine aseq ?_
                      refine areg rfl ?_
                      refine s_det (D.move rfl) rfl ?_
                      refine s_det (D.field_i rfl rfl rfl) rfl ?_
                      refine s_det (D.load_i rfl rfl) rfl ?_
                      refine s_det (D.move rfl) rfl ?_
                      refine s_det (D.idx_m rfl rfl (by omega) hve rfl) rfl ?_
                      refine s_det (D.load_i rfl rfl) rfl ?_
                      refine s_det (D.call (evc rfl (evc rfl ev0)) b_shape_Wider (shape_Wider d e)) rfl ?_
                      refine s_det (D.call (evc rfl ev0) b_graduslaw1_num (graduslaw1_num _)) rfl ?_
                      refine s_det (D.assign rfl) rfl ?_
                      refine s_nil ?_
                      refine aseq ?_
                      refine areg rfl ?_
                      refine s_det (D.assign rfl) rfl ?_
                      refine s_det (D.assign rfl) rfl ?_
                      refine s_det (D.assign rfl) rfl ?_
                      refine s_nil ?_
                      refine amidz (fun _ : Unit => True) (fun _ => [(1, .iptr (.agg [.list false 1 (ds.map ints), .list false 1 (ps.map ints), ints ns, .list false 2 (ts.map tv)])), (3, ints (nsS ns)), (4, iv i), (5, ints d), (6, bv (decide (okD d))), (9, .ref b73 1 0 (stepsS d).1.length), (29, iv k), (30, bv (sameS d e).1), (31, iv (sameS d e).2), (32, iv (widerS d e)), (33, iv (sameS d e).2), (34, iv (widerS d e)), (35, bv (sameS d e).1)]) (fun _ => (σ.set b73 (rowI (stepsS d).1))) ?_ ?_
                      · refine acase (d := 6) rfl (fun h6 => ?_) (fun h6 => ?_)
                        · replace h6 := of_decide_eq_true h6
                          refine aseq ?_
                          refine areg rfl ?_
                          refine s_det (D.move rfl) rfl ?_
                          refine s_det (D.move rfl) rfl ?_
                          refine s_yes rfl rfl ?_
                          refine s_det (D.field_i rfl rfl rfl) rfl ?_
                          refine s_yes rfl rfl ?_
                          refine s_det (D.load_i rfl rfl) rfl ?_
                          refine s_yes rfl rfl ?_
                          refine s_det (D.move rfl) rfl ?_
                          refine s_yes rfl rfl ?_
                          refine s_det (D.idx_m rfl rfl (by omega) hve rfl) rfl ?_
                          refine s_yes rfl rfl ?_
                          refine s_det (D.load_i rfl rfl) rfl ?_
                          refine s_yes rfl rfl ?_
                          refine s_cmp (D.call (evc rfl ev0) b_gradusref1_Dims (gradusref1_Dims e)) rfl (fun h296 => ?_) (fun h296 => ?_)
                          · replace h296 := of_decide_eq_true h296
                            have hsm : sameS d e = (decide (d = e), 0) := by rw [sameS, if_pos ⟨h6, h296⟩]
                            refine s_det (D.pick rfl rfl rfl rfl) rfl ?_
                            refine s_nil ?_
                            refine acond_t rfl ?_
                            refine aseq ?_
                            refine areg rfl ?_
                            refine s_det (D.move rfl) rfl ?_
                            refine s_det (D.field_i rfl rfl rfl) rfl ?_
                            refine s_det (D.load_i rfl rfl) rfl ?_
                            refine s_det (D.move rfl) rfl ?_
                            refine s_det (D.idx_m rfl rfl (by omega) hve rfl) rfl ?_
                            refine s_det (D.load_i rfl rfl) rfl ?_
                            refine s_det (D.call (evc rfl (evc rfl ev0)) b_gradusref0_EqNumbers (gradusref0_EqNumbers d e (by omega) (by omega))) rfl ?_
                            refine s_det (D.assign rfl) rfl ?_
                            refine s_det (D.assign rfl) rfl ?_
                            refine s_det (D.assign rfl) rfl ?_
                            refine s_nil ?_
                            refine aseq ?_
                            refine areg rfl ?_
                            refine s_det (D.move rfl) rfl ?_
                            refine s_det (D.field_i rfl rfl rfl) rfl ?_
                            refine s_det (D.load_i rfl rfl) rfl ?_
                            refine s_det (D.move rfl) rfl ?_
                            refine s_det (D.idx_m rfl rfl (by omega) hve rfl) rfl ?_
                            refine s_det (D.load_i rfl rfl) rfl ?_
                            refine s_cmp (D.call (evc rfl (evc rfl ev0)) b_gradusref1_Wider (gradusref1_Wider d e (by omega) (by omega))) rfl (fun h311 => ?_) (fun h311 => ?_)
                            · replace h311 := of_decide_eq_true h311
                              have hwd : widerS d e = 0 := by rw [widerS, if_pos ⟨h6, h296⟩, if_pos h311]
                              refine s_nil ?_
                              refine acond_t rfl ?_
                              refine areg rfl ?_
                              refine s_det (D.assign rfl) rfl ?_
                              refine s_nil ?_
                              exact ⟨(), trivial, Sub.refl _, .cons rfl (.cons rfl (.cons rfl (.cons rfl (.cons (congrArg (fun e => some (bv e)) (decide_eq_true h6).symm) (.cons rfl (.cons rfl (.cons rfl (.cons rfl (.cons rfl (.cons (congrArg (fun e : Bool × Int => some (iv e.2)) hsm.symm) (.cons (congrArg (fun e => some (iv e)) hwd.symm) (.cons (congrArg (fun e : Bool × Int => some (bv e.1)) hsm.symm) .nil))))))))))))⟩
                            · replace h311 := of_decide_eq_false h311
                              have hwd : widerS d e = 4 := by rw [widerS, if_pos ⟨h6, h296⟩, if_neg h311]
                              refine s_nil ?_
                              refine acond_f rfl ?_
                              refine askip ?_
                              exact ⟨(), trivial, Sub.refl _, .cons rfl (.cons rfl (.cons rfl (.cons rfl (.cons (congrArg (fun e => some (bv e)) (decide_eq_true h6).symm) (.cons rfl (.cons rfl (.cons rfl (.cons rfl (.cons rfl (.cons (congrArg (fun e : Bool × Int => some (iv e.2)) hsm.symm) (.cons (congrArg (fun e => some (iv e)) hwd.symm) (.cons (congrArg (fun e : Bool × Int => some (bv e.1)) hsm.symm) .nil))))))))))))⟩
                          · replace h296 := of_decide_eq_false h296
                            have hsm : sameS d e = (false, 1) := by rw [sameS, if_neg (fun h => h296 h.2)]
                            have hwd : widerS d e = 1 := by rw [widerS, if_neg (fun h => h296 h.2)]
                            refine s_det (D.pick rfl rfl rfl rfl) rfl ?_
                            refine s_nil ?_
                            refine acond_f rfl ?_
                            refine askip ?_
                            exact ⟨(), trivial, Sub.refl _, .cons rfl (.cons rfl (.cons rfl (.cons rfl (.cons (congrArg (fun e => some (bv e)) (decide_eq_true h6).symm) (.cons rfl (.cons rfl (.cons rfl (.cons rfl (.cons rfl (.cons (congrArg (fun e : Bool × Int => some (iv e.2)) hsm.symm) (.cons (congrArg (fun e => some (iv e)) hwd.symm) (.cons (congrArg (fun e : Bool × Int => some (bv e.1)) hsm.symm) .nil))))))))))))⟩
                        · replace h6 := of_decide_eq_false h6
                          have hsm : sameS d e = (false, 1) := by rw [sameS, if_neg (fun h => h6 h.1)]
                          have hwd : widerS d e = 1 := by rw [widerS, if_neg (fun h => h6 h.1)]
                          refine aseq ?_
                          refine areg rfl ?_
                          refine s_det (D.move rfl) rfl ?_
                          refine s_det (D.move rfl) rfl ?_
                          refine s_no rfl rfl rfl rfl ?_
                          refine s_no rfl rfl rfl rfl ?_
                          refine s_no rfl rfl rfl rfl ?_
                          refine s_no rfl rfl rfl rfl ?_
                          refine s_no rfl rfl rfl rfl ?_
                          refine s_no rfl rfl rfl rfl ?_
                          refine s_det (D.pick rfl rfl rfl rfl) rfl ?_
                          refine s_nil ?_
                          refine acond_f rfl ?_
                          refine askip ?_
                          exact ⟨(), trivial, Sub.refl _, .cons rfl (.cons rfl (.cons rfl (.cons rfl (.cons (congrArg (fun e => some (bv e)) (decide_eq_false h6).symm) (.cons rfl (.cons rfl (.cons rfl (.cons rfl (.cons rfl (.cons (congrArg (fun e : Bool × Int => some (iv e.2)) hsm.symm) (.cons (congrArg (fun e => some (iv e)) hwd.symm) (.cons (congrArg (fun e : Bool × Int => some (bv e.1)) hsm.symm) .nil))))))))))))⟩
                      · intro _ _
                        refine aseq ?_
                        refine areg rfl ?_
                        refine s_det (D.move rfl) rfl ?_
                        refine s_det (D.call (evc rfl ev0) b_graduslaw1_num (graduslaw1_num _)) rfl ?_
                        refine s_det (D.move rfl) rfl ?_
                        refine s_det (D.neq rfl rfl (decide_eq_false (fun h => h rfl))) rfl ?_
                        refine s_det (D.move rfl) rfl ?_
                        refine s_yes rfl rfl ?_
                        refine s_det (D.move rfl) rfl ?_
                        refine s_yes rfl rfl ?_
                        refine s_det (D.move rfl) rfl ?_
                        refine s_yes rfl rfl ?_
                        refine s_det (D.neqB rfl rfl (bne_self_eq_false _) rfl) rfl ?_
                        refine s_det (D.pick rfl rfl rfl rfl) rfl ?_
                        refine s_det (D.move rfl) rfl ?_
                        refine s_yes rfl rfl ?_
                        refine s_det (D.move rfl) rfl ?_
                        refine s_yes rfl rfl ?_
                        refine s_det (D.move rfl) rfl ?_
                        refine s_yes rfl rfl ?_
                        refine s_det (D.neq rfl rfl (decide_eq_false (fun h => h rfl))) rfl ?_
                        refine s_det (D.pick rfl rfl rfl rfl) rfl ?_
                        refine s_nil ?_
                        refine acond_f rfl ?_
                        refine askip ?_
                        refine areg rfl ?_
                        refine s_det (D.move rfl) rfl ?_
                        refine s_det (D.add rfl rfl (w64 (by omega) (by omega))) rfl ?_
                        refine s_det (D.assign rfl) rfl ?_
                        refine s_nil ?_
                        exact ⟨k + 1, by omega, by omega, (.cons rfl (.cons rfl (.cons rfl (.cons rfl (.cons rfl (.cons rfl (.cons rfl .nil))))))), rfl⟩
                    · replace h267 := of_decide_eq_false h267
                      refine s_det (D.pick rfl rfl rfl rfl) rfl ?_
                      refine s_nil ?_
                      refine acond_f rfl ?_
                      refine aexit ?_
                      exact ⟨(), trivial, Sub.refl _, (.cons rfl (.cons rfl (.cons rfl (.cons rfl (.cons rfl .nil)))))⟩
                  · replace h264 := of_decide_eq_false h264
                    refine s_det (D.move rfl) rfl ?_
                    refine s_no rfl rfl rfl rfl ?_
                    refine s_no rfl rfl rfl rfl ?_
                    refine s_det (D.pick rfl rfl rfl rfl) rfl ?_
                    refine s_nil ?_
                    refine acond_f rfl ?_
                    refine aexit ?_
                    exact ⟨(), trivial, Sub.refl _, (.cons rfl (.cons rfl (.cons rfl (.cons rfl (.cons rfl .nil)))))⟩
                · intro _ _
                  refine aseq ?_
                  refine aseq ?_
                  refine areg rfl ?_
                  refine s_det (D.move rfl) rfl ?_
                  refine s_det (D.field_i rfl rfl rfl) rfl ?_
                  refine s_det (D.load_i rfl rfl) rfl ?_
                  refine s_det (D.move rfl) rfl ?_
                  refine s_det (D.idx_m rfl rfl (by omega) hvd rfl) rfl ?_
                  refine s_det (D.load_i rfl rfl) rfl ?_
                  refine s_det (D.call (evc rfl (evc rfl ev0)) b_gradusref0_EqNumbers (Pure.toT (gradusref0_EqNumbers d d (by omega) (by omega)) rfl)) rfl ?_
                  refine s_det (D.not rfl rfl) rfl ?_
                  refine s_nil ?_
                  refine acond_f rfl ?_
                  refine askip ?_
                  refine aseq ?_
                  refine areg rfl ?_
                  refine s_det (D.move rfl) rfl ?_
                  refine s_act rfl (A.call (evc rfl ev0) b_graduslaw0_Numbers (graduslaw0_Numbers (stepsS d).1 b73 _ (AH.set_self ..) (by omega)) fun y σ' hy => ?_)
                  obtain ⟨rfl, l', rfl⟩ := hy
                  refine s_nil ?_
                  refine afreezew [(1, .iptr (.agg [.list false 1 (ds.map ints), .list false 1 (ps.map ints), ints ns, .list false 2 (ts.map tv)])), (3, ints (nsS ns)), (4, iv i), (5, ints d)] σ (by repeat (first | exact Sub.refl _ | refine Sub.set ?_ (by first | assumption | exact (AH.set_none (by assumption)).1 | exact (AH.set_none (AH.set_none (by assumption)).1).1 | exact (AH.set_none (AH.set_none (AH.set_none (by assumption)).1).1).1 | exact (AH.set_none (AH.set_none (AH.set_none (AH.set_none (by assumption)).1).1).1).1 | exact (AH.set_none (AH.set_none (AH.set_none (AH.set_none (AH.set_none (by assumption)).1).1).1).1).1 | exact (AH.set_none (AH.set_none (AH.set_none (AH.set_none (AH.set_none (AH.set_none (by assumption)).1).1).1).1).1).1) _)) (.cons rfl (.cons rfl (.cons rfl (.cons rfl .nil)))) ?_
                  refine aseq ?_
                  refine areg rfl ?_
                  refine s_det (D.move rfl) rfl ?_
                  refine s_det (D.field_i rfl rfl rfl) rfl ?_
                  refine s_det (D.load_i rfl rfl) rfl ?_
                  refine s_det (D.move rfl) rfl ?_
                  refine s_det (D.idx_m rfl rfl (by omega) hvd rfl) rfl ?_
                  refine s_det (D.load_i rfl rfl) rfl ?_
                  refine s_det (D.call (evc rfl (evc rfl ev0)) b_gradusref0_EqNumbers (Pure.toT (gradusref0_EqNumbers d d (by omega) (by omega)) rfl)) rfl ?_
                  refine s_det (D.not rfl rfl) rfl ?_
                  refine s_nil ?_
                  refine acond_f rfl ?_
                  refine askip ?_
                  refine areg rfl ?_
                  refine s_det (D.move rfl) rfl ?_
                  refine s_det (D.add rfl rfl (w64 (by omega) (by omega))) rfl ?_
                  refine s_det (D.assign rfl) rfl ?_
                  refine s_nil ?_
                  exact ⟨i + 1, by omega, by omega, (.cons rfl (.cons rfl (.cons rfl .nil))), rfl⟩
        · replace h50 := of_decide_eq_false h50
          refine s_det (D.pick rfl rfl rfl rfl) rfl ?_
          refine s_nil ?_
          refine acond_f rfl ?_
          refine aexit ?_
          exact ⟨(), trivial, Sub.refl _, (.cons rfl .nil)⟩
      · replace h47 := of_decide_eq_false h47
        refine s_det (D.move rfl) rfl ?_
        refine s_no rfl rfl rfl rfl ?_
        refine s_no rfl rfl rfl rfl ?_
        refine s_det (D.pick rfl rfl rfl rfl) rfl ?_
        refine s_nil ?_
        refine acond_f rfl ?_
        refine aexit ?_
        exact ⟨(), trivial, Sub.refl _, (.cons rfl .nil)⟩
    · intro _ _
      refine amidz (fun _ : Unit => True) (fun _ => []) (fun _ => σ) ?_ ?_
      · refine aseq ?_
        refine areg rfl ?_
        refine s_det (D.assign rfl) rfl ?_
        refine s_nil ?_
        refine ablock ?_
        -- LOOP writes [36] keeps [1]
        refine aloop (ι := Nat) (fun i => i ≤ ts.length) (fun i => ts.length - i) (fun i => [(1, .iptr (.agg [.list false 1 (ds.map ints), .list false 1 (ps.map ints), ints ns, .list false 2 (ts.map tv)])), (36, iv i)]) (fun i => σ) 0 (by omega) ?_ rfl fun i hi => ?_
        · exact (.cons rfl (.cons rfl .nil))
        refine aseq ?_
        refine aseq ?_
        refine areg rfl ?_
        refine s_det (D.move rfl) rfl ?_
        refine s_det (D.field_i rfl rfl rfl) rfl ?_
        refine s_det (D.load_i rfl rfl) rfl ?_
        refine s_det (D.len_m rfl rfl) rfl ?_
        refine s_cmp (D.lss rfl rfl rfl) rfl (fun h348 => ?_) (fun h348 => ?_)
        · replace h348 := of_decide_eq_true h348
          refine s_det (D.move rfl) rfl ?_
          refine s_yes rfl rfl ?_
          refine s_det (D.move rfl) rfl ?_
          refine s_yes rfl rfl ?_
          refine s_cmp (D.lss rfl rfl rfl) rfl (fun h351 => ?_) (fun h351 => ?_)
          · replace h351 := of_decide_eq_true h351
            obtain ⟨t, hvt⟩ : ∃ a, ts[i]? = some a := ⟨_, get_lt (by omega)⟩
            refine s_det (D.pick rfl rfl rfl rfl) rfl ?_
            refine s_nil ?_
            refine acond_t rfl ?_
            refine askip ?_
            refine aseq ?_
            refine ablock ?_
            refine aseq ?_
            refine adraw [.det 0, .det 1, .det 2, .det 3, .det 4, .det 5, .det 6, .det 7, .det 8, .det 9, .det 10, .det 11, .det 12, .det 13, .det 14] rfl (by kernel_rfl) ?_
            refine d_det rfl (D.field_i rfl rfl rfl) rfl ?_
            refine d_det rfl (D.load_i rfl rfl) rfl ?_
            refine d_det rfl (D.move rfl) rfl ?_
            refine d_det rfl (D.idx_m rfl rfl (by omega) hvt rfl) rfl ?_
            refine d_det rfl (D.load_i rfl rfl) rfl ?_
            refine d_det rfl (D.call (evc rfl ev0) b_shape_Tensor (shape_Tensor t)) rfl ?_
            refine d_det rfl (D.call (evc rfl ev0) b_graduslaw1_num (graduslaw1_num _)) rfl ?_
            refine d_det rfl (D.eql rfl rfl rfl) rfl ?_
            refine d_det rfl (D.field_i rfl rfl rfl) rfl ?_
            refine d_det rfl (D.load_i rfl rfl) rfl ?_
            refine d_det rfl (D.move rfl) rfl ?_
            refine d_det rfl (D.idx_m rfl rfl (by omega) hvt rfl) rfl ?_
            refine d_det rfl (D.load_i rfl rfl) rfl ?_
            refine d_det rfl (D.call (evc rfl ev0) b_gradusref1_Tensor (gradusref1_Tensor t)) rfl ?_
            refine d_det rfl (D.neqB (c := false) rfl rfl (by have h9 : decide ((if okTn t then (0 : Int) else 1) = 0) = decide (okTn t) := decide_eq_decide.2 err0; rw [h9]; first | done | exact bne_self_eq_false _) rfl) rfl ?_
            refine d_nil ?_
            refine acond_f rfl ?_
            refine askip ?_
            refine areg rfl ?_
            refine s_det (D.move rfl) rfl ?_
            refine s_det (D.add rfl rfl (w64 (by omega) (by omega))) rfl ?_
            refine s_det (D.assign rfl) rfl ?_
            refine s_nil ?_
            exact ⟨i + 1, by omega, by omega, (.cons rfl (.cons rfl .nil)), rfl⟩
          · replace h351 := of_decide_eq_false h351
            refine s_det (D.pick rfl rfl rfl rfl) rfl ?_
            refine s_nil ?_
            refine acond_f rfl ?_
            refine aexit ?_
            exact ⟨(), trivial, Sub.refl _, .nil⟩
        · replace h348 := of_decide_eq_false h348
          refine s_det (D.move rfl) rfl ?_
          refine s_no rfl rfl rfl rfl ?_
          refine s_no rfl rfl rfl rfl ?_
          refine s_det (D.pick rfl rfl rfl rfl) rfl ?_
          refine s_nil ?_
          refine acond_f rfl ?_
          refine aexit ?_
          exact ⟨(), trivial, Sub.refl _, .nil⟩
      · intro _ _
        refine aseq ?_
        refine areg rfl ?_
        refine s_det (D.call ev0 b_graduslaw1_wakes graduslaw1_wakes) rfl ?_
        refine s_det (D.assign rfl) rfl ?_
        refine s_nil ?_
        refine aret ?_
        exact ⟨[_], ⟨⟨rfl, rfl⟩, trivial⟩, rfl, rfl⟩

theorem shapePlaces_pure (x : Ask1) (hx : G26 x) : Pure Try.prog 17 [enc26 x] (bv true) :=
  graduslaw1_ShapePlaces x.1 x.2.1 x.2.2.1 x.2.2.2 hx.1.ok.1 hx.1.ok.2 hx.2.1.ok.1 hx.2.1.ok.2 (by have := hx.2.2.1.1; omega) (fun n hn => wfI (hx.2.2.1.2 n hn)) (by have := hx.2.2.2.1; omega) (fun t ht => (hx.2.2.2.2 t ht).fit)

end Go.Proofs.Ytpjcidlkdfebhaa.F
