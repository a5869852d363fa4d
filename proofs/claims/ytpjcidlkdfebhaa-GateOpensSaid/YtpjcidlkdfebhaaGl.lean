/- Functions of the program and of the references: what they compute, by the layer Al. Made by a program of this session (wip/al/alfill.py) out of wip/al/specs. -/
import Derived.Test.YtpjcidlkdfebhaaGk
import Derived.Test.YtpjcidlkdfebhaaProg
namespace Go.Proofs.Ytpjcidlkdfebhaa.F
open Go Go.Proofs.Al
set_option linter.unusedVariables false
set_option linter.unusedSimpArgs false
set_option maxRecDepth 10000 in
theorem gradusref1_Infer (da db : List Int) (n : Nat) (hda : okD da) (hdb : okD db) (h1 : 1 ≤ n) (h8 : n ≤ 8) : Pure Try.prog 83 [iv 17, iv n, .list true 0 [], .list true 1 [ints da, ints db]] (.tup [ints (if lastI da % (n : Int) = 0 then da else []), bv (decide (lastI da % (n : Int) = 0 ∧ lessD da n = db))]) := by
  refine pure_wk fun σ => ?_
  have hl0 := hda.1
  have hl3 := hda.2.1
  have hm3 := hdb.2.1
  have hle := lastI_get (d := da) (by omega)
  have hr := hda.2.2.1 _ (List.getElem_mem (show da.length - 1 < da.length by omega))
  rw [← hle] at hr
  refine acalls Try.func83 rfl rfl (by decide) rfl rfl ?_
  refine aseq ?_
  refine areg rfl ?_
  refine s_det (D.assign rfl) rfl ?_
  refine s_det (D.assign rfl) rfl ?_
  refine s_nil ?_
  refine aseq ?_
  refine aseq ?_
  refine areg rfl ?_
  refine s_det (D.move rfl) rfl ?_
  refine s_nil ?_
  refine ablock ?_
  refine aseq ?_
  refine aseq ?_
  refine areg rfl ?_
  refine s_det (D.eql rfl rfl (decide_eq_false (by omega))) rfl ?_
  refine s_det (D.assign rfl) rfl ?_
  refine s_nil ?_
  refine acond_f rfl ?_
  refine aseq ?_
  refine areg rfl ?_
  refine s_det (D.eql rfl rfl (decide_eq_false (by omega))) rfl ?_
  refine s_det (D.assign rfl) rfl ?_
  refine s_nil ?_
  refine acond_f rfl ?_
  refine areg rfl ?_
  refine s_det (D.eql rfl rfl (decide_eq_false (by omega))) rfl ?_
  refine s_det (D.assign rfl) rfl ?_
  refine s_nil ?_
  refine acond_f rfl ?_
  refine aseq ?_
  refine aseq ?_
  refine areg rfl ?_
  refine s_det (D.eql rfl rfl (decide_eq_false (by omega))) rfl ?_
  refine s_det (D.assign rfl) rfl ?_
  refine s_nil ?_
  refine acond_f rfl ?_
  refine aseq ?_
  refine areg rfl ?_
  refine s_det (D.eql rfl rfl (decide_eq_false (by omega))) rfl ?_
  refine s_det (D.assign rfl) rfl ?_
  refine s_nil ?_
  refine acond_f rfl ?_
  refine aseq ?_
  refine areg rfl ?_
  refine s_det (D.eql rfl rfl (decide_eq_false (by omega))) rfl ?_
  refine s_det (D.assign rfl) rfl ?_
  refine s_nil ?_
  refine acond_f rfl ?_
  refine areg rfl ?_
  refine s_det (D.eql rfl rfl (decide_eq_false (by omega))) rfl ?_
  refine s_det (D.assign rfl) rfl ?_
  refine s_nil ?_
  refine acond_f rfl ?_
  refine aseq ?_
  refine areg rfl ?_
  refine s_det (D.eql rfl rfl (decide_eq_false (by omega))) rfl ?_
  refine s_det (D.assign rfl) rfl ?_
  refine s_nil ?_
  refine acond_f rfl ?_
  refine aseq ?_
  refine areg rfl ?_
  refine s_det (D.eql rfl rfl (decide_eq_false (by omega))) rfl ?_
  refine s_det (D.assign rfl) rfl ?_
  refine s_nil ?_
  refine acond_f rfl ?_
  refine aseq ?_
  refine areg rfl ?_
  refine s_det (D.eql rfl rfl (decide_eq_false (by omega))) rfl ?_
  refine s_det (D.assign rfl) rfl ?_
  refine s_nil ?_
  refine acond_f rfl ?_
  refine aseq ?_
  refine areg rfl ?_
  refine s_det (D.eql rfl rfl (decide_eq_false (by omega))) rfl ?_
  refine s_det (D.assign rfl) rfl ?_
  refine s_nil ?_
  refine acond_f rfl ?_
  refine aseq ?_
  refine areg rfl ?_
  refine s_det (D.eql rfl rfl (decide_eq_false (by omega))) rfl ?_
  refine s_det (D.assign rfl) rfl ?_
  refine s_nil ?_
  refine acond_f rfl ?_
  refine aseq ?_
  refine aseq ?_
  refine areg rfl ?_
  refine s_det (D.eql rfl rfl (decide_eq_false (by omega))) rfl ?_
  refine s_det (D.assign rfl) rfl ?_
  refine s_nil ?_
  refine acond_f rfl ?_
  refine areg rfl ?_
  refine s_det (D.eql rfl rfl (decide_eq_true (by omega))) rfl ?_
  refine s_det (D.assign rfl) rfl ?_
  refine s_nil ?_
  refine acond_t rfl ?_
  refine aseq ?_
  refine aseq ?_
  refine adraw [.det 0, .det 1, .det 2, .det 3, .det 4, .det 5, .det 6, .det 7, .det 8, .det 9, .det 10, .det 11, .det 12] rfl (by kernel_rfl) ?_
  refine d_det rfl (D.move rfl) rfl ?_
  refine d_det rfl (D.idx_m (l := [da, db]) (f := fun x => ints x) rfl rfl (by omega) rfl rfl) rfl ?_
  refine d_det rfl (D.load_i rfl rfl) rfl ?_
  refine d_det rfl (D.move rfl) rfl ?_
  refine d_det rfl (D.idx_m (l := [da, db]) (f := fun x => ints x) rfl rfl (by omega) rfl rfl) rfl ?_
  refine d_det rfl (D.load_i rfl rfl) rfl ?_
  refine d_det rfl (D.len_m rfl rfl) rfl ?_
  refine d_det rfl (D.sub rfl rfl (r := ((da.length - 1 : Nat) : Int)) (by rw [w64 (by omega) (by omega)]; omega)) rfl ?_
  refine d_det rfl (D.idx_m rfl rfl (by omega) (get_lt (i := da.length - 1) (by omega)) rfl) rfl ?_
  refine d_det rfl (D.load_i rfl rfl) rfl ?_
  refine d_det rfl (D.move rfl) rfl ?_
  refine d_det rfl (D.rem rfl rfl (by omega) (r := lastI da % (n : Int)) (by rw [← hle, tmodw (by have := hr.1; omega)])) rfl ?_
  refine d_cmp rfl (D.neq rfl rfl rfl) rfl (fun h134 => ?_) (fun h134 => ?_)
  · replace h134 := of_decide_eq_true h134
    refine d_nil ?_
    refine acond_t rfl ?_
    refine aseq ?_
    refine areg rfl ?_
    refine s_det (D.assign rfl) rfl ?_
    refine s_det (D.assign rfl) rfl ?_
    refine s_nil ?_
    refine aret ?_
    exact ⟨[_, _], ⟨⟨rfl, rfl⟩, ⟨rfl, rfl⟩, trivial⟩, (by rw [if_neg h134, decide_eq_false (fun h => h134 h.1)]; exact Wk.tup2 Wk1.nil), rfl⟩
  · replace h134 := of_decide_eq_false h134
    have hz : lastI da % (n : Int) = 0 := Decidable.byContradiction h134
    refine d_nil ?_
    refine acond_f rfl ?_
    refine askip ?_
    refine aseq ?_
    refine areg rfl ?_
    refine s_det (D.move rfl) rfl ?_
    refine s_det (D.idx_m (l := [da, db]) (f := fun x => ints x) rfl rfl (by omega) rfl rfl) rfl ?_
    refine s_det (D.load_i rfl rfl) rfl ?_
    refine s_det (D.move rfl) rfl ?_
    refine s_det (D.call (evc rfl (evc rfl ev0)) b_gradusref1_less (gradusref1_less da (n : Int) hda (by omega))) rfl ?_
    refine s_det (D.assign rfl) rfl ?_
    refine s_nil ?_
    refine aseq ?_
    refine aseq ?_
    refine areg rfl ?_
    refine s_det (D.move rfl) rfl ?_
    refine s_det (D.eql rfl rfl (decide_eq_false (by omega))) rfl ?_
    refine s_nil ?_
    refine acond_f rfl ?_
    refine askip ?_
    refine aseq ?_
    refine adraw [.det 0, .det 1, .det 2, .det 3, .det 4, .det 5, .det 6, .det 7, .det 8, .det 9, .det 10] rfl (by kernel_rfl) ?_
    refine d_det rfl (D.move rfl) rfl ?_
    refine d_det rfl (D.idx_m (l := [da, db]) (f := fun x => ints x) rfl rfl (by omega) rfl rfl) rfl ?_
    refine d_det rfl (D.load_i rfl rfl) rfl ?_
    refine d_det rfl (D.call (evc rfl ev0) b_gradusref0_CopyNumbers (gradusref0_CopyNumbers da (by omega))) rfl ?_
    refine d_det rfl (D.move rfl) rfl ?_
    refine d_det rfl (D.move rfl) rfl ?_
    refine d_det rfl (D.idx_m (l := [da, db]) (f := fun x => ints x) rfl rfl (by omega) rfl rfl) rfl ?_
    refine d_det rfl (D.load_i rfl rfl) rfl ?_
    refine d_det rfl (D.call (evc rfl (evc rfl ev0)) b_gradusref0_EqNumbers (gradusref0_EqNumbers (lessD da n) db (by rw [lessD, List.length_set]; omega) (by omega))) rfl ?_
    refine d_det rfl (D.assign rfl) rfl ?_
    refine d_det rfl (D.assign rfl) rfl ?_
    refine d_nil ?_
    refine aret ?_
    exact ⟨[_, _], ⟨⟨rfl, rfl⟩, ⟨rfl, rfl⟩, trivial⟩, (by rw [if_pos hz, show decide (lastI da % (n : Int) = 0 ∧ lessD da n = db) = decide (lessD da n = db) from decide_eq_decide.2 ⟨fun h => h.2, fun h => ⟨hz, h⟩⟩]; exact .refl _), rfl⟩

end Go.Proofs.Ytpjcidlkdfebhaa.F
