/- Functions of the program and of the references: what they compute, by the layer Al. Made by a program of this session (wip/al/alfill.py) out of wip/al/specs. -/
import Derived.Test.YtpjcidlkdfebhaaAr
import Derived.Test.YtpjcidlkdfebhaaAlr
import Derived.Test.YtpjcidlkdfebhaaProg
namespace Go.Proofs.Ytpjcidlkdfebhaa.F
open Go Go.Proofs.Al
set_option linter.unusedVariables false
set_option linter.unusedSimpArgs false
theorem sl_Lint : slT Try.prog 22 = some (1, 24, .slice none 0 0) := by kernel_rfl
theorem sl_int : slT Try.prog 23 = some (1, 8, .int .i64 0) := by kernel_rfl
theorem sl_Tensor : slT Try.prog 24 = some (2, 48, .agg #[.slice none 0 0, .slice none 0 0]) := by kernel_rfl
theorem b_graduslaw1_ShapeWider : bodied Try.prog 3 = true := by kernel_rfl
theorem b_graduslaw1_ShapeFills : bodied Try.prog 4 = true := by kernel_rfl
theorem b_graduslaw1_ShapeBack : bodied Try.prog 5 = true := by kernel_rfl
theorem b_graduslaw4_MatMuls : bodied Try.prog 6 = true := by kernel_rfl
theorem b_graduslaw4_MatOnes : bodied Try.prog 7 = true := by kernel_rfl
theorem b_graduslaw2_RingEach : bodied Try.prog 8 = true := by kernel_rfl
theorem b_graduslaw2_RingLaws : bodied Try.prog 9 = true := by kernel_rfl
theorem b_graduslaw2_RingScales : bodied Try.prog 10 = true := by kernel_rfl
theorem b_graduslaw2_RingWraps : bodied Try.prog 11 = true := by kernel_rfl
theorem b_graduslaw3_TurnBack : bodied Try.prog 12 = true := by kernel_rfl
theorem b_graduslaw5_GateTies : bodied Try.prog 13 = true := by kernel_rfl
theorem b_graduslaw3_TurnDims : bodied Try.prog 14 = true := by kernel_rfl
theorem b_graduslaw5_GateOpens : bodied Try.prog 15 = true := by kernel_rfl
theorem b_graduslaw4_MatLaws : bodied Try.prog 16 = true := by kernel_rfl
theorem b_graduslaw1_ShapePlaces : bodied Try.prog 17 = true := by kernel_rfl
theorem b_graduslaw5_GateDots : bodied Try.prog 18 = true := by kernel_rfl
theorem b_graduslaw3_TurnDots : bodied Try.prog 19 = true := by kernel_rfl
theorem b_graduslaw1_num : bodied Try.prog 20 = true := by kernel_rfl
theorem b_shape_Wider : bodied Try.prog 21 = true := by kernel_rfl
theorem b_gradusref1_Wider : bodied Try.prog 22 = true := by kernel_rfl
theorem b_graduslaw1_wakes : bodied Try.prog 23 = true := by kernel_rfl
theorem b_graduslaw1_Heavy : bodied Try.prog 24 = true := by kernel_rfl
theorem b_shape_Fill : bodied Try.prog 25 = true := by kernel_rfl
theorem b_shape_Cells : bodied Try.prog 26 = true := by kernel_rfl
theorem b_shape_Tensor : bodied Try.prog 27 = true := by kernel_rfl
theorem b_gradusref0_EqNumbers : bodied Try.prog 28 = true := by kernel_rfl
theorem b_shape_Steps : bodied Try.prog 29 = true := by kernel_rfl
theorem b_shape_Where : bodied Try.prog 30 = true := by kernel_rfl
theorem b_shape_At : bodied Try.prog 31 = true := by kernel_rfl
theorem b_gradusref0_CopyNumbers : bodied Try.prog 32 = true := by kernel_rfl
theorem b_graduslaw2_Heavy : bodied Try.prog 33 = true := by kernel_rfl
theorem b_gradusref0_CopyTensor : bodied Try.prog 34 = true := by kernel_rfl
theorem b_mat_Mul : bodied Try.prog 35 = true := by kernel_rfl
theorem b_gradusref1_Tensor : bodied Try.prog 36 = true := by kernel_rfl
theorem b_gradusref1_Mat : bodied Try.prog 37 = true := by kernel_rfl
theorem b_graduslaw4_num : bodied Try.prog 38 = true := by kernel_rfl
theorem b_gradusref0_EqTensor : bodied Try.prog 39 = true := by kernel_rfl
theorem b_graduslaw0_Tensor : bodied Try.prog 40 = true := by kernel_rfl
theorem b_mat_One : bodied Try.prog 41 = true := by kernel_rfl
theorem b_gradusref0_Between : bodied Try.prog 42 = true := by kernel_rfl
theorem b_gradusref1_One : bodied Try.prog 43 = true := by kernel_rfl
theorem b_mat_Power : bodied Try.prog 44 = true := by kernel_rfl
theorem b_gradusref0_Num : bodied Try.prog 45 = true := by kernel_rfl
theorem b_gradusref1_Power : bodied Try.prog 46 = true := by kernel_rfl
theorem b_graduslaw4_wakes : bodied Try.prog 47 = true := by kernel_rfl
theorem b_ring_Add : bodied Try.prog 48 = true := by kernel_rfl
theorem b_ring_Sub : bodied Try.prog 49 = true := by kernel_rfl
theorem b_ring_Mul : bodied Try.prog 50 = true := by kernel_rfl
theorem b_ring_Dot : bodied Try.prog 51 = true := by kernel_rfl
theorem b_gradusref1_Each : bodied Try.prog 52 = true := by kernel_rfl
theorem b_gradusref1_Total : bodied Try.prog 53 = true := by kernel_rfl
theorem b_graduslaw2_num : bodied Try.prog 54 = true := by kernel_rfl
theorem b_graduslaw2_wakes : bodied Try.prog 55 = true := by kernel_rfl
theorem b_graduslaw2_like : bodied Try.prog 56 = true := by kernel_rfl
theorem b_ring_Neg : bodied Try.prog 57 = true := by kernel_rfl
theorem b_ring_Scale : bodied Try.prog 58 = true := by kernel_rfl
theorem b_ring_Total : bodied Try.prog 59 = true := by kernel_rfl
theorem b_gradusref1_Scale : bodied Try.prog 60 = true := by kernel_rfl
theorem b_graduslaw2_sum : bodied Try.prog 61 = true := by kernel_rfl
theorem b_graduslaw3_Heavy : bodied Try.prog 62 = true := by kernel_rfl
theorem b_graduslaw3_dims : bodied Try.prog 63 = true := by kernel_rfl
theorem b_turn_Wide : bodied Try.prog 64 = true := by kernel_rfl
theorem b_graduslaw3_num : bodied Try.prog 65 = true := by kernel_rfl
theorem b_turn_Sum : bodied Try.prog 66 = true := by kernel_rfl
theorem b_graduslaw3_wakes : bodied Try.prog 67 = true := by kernel_rfl
theorem b_gate_Max : bodied Try.prog 68 = true := by kernel_rfl
theorem b_gate_Pick : bodied Try.prog 69 = true := by kernel_rfl
theorem b_graduslaw5_num : bodied Try.prog 70 = true := by kernel_rfl
theorem b_graduslaw5_wakes : bodied Try.prog 71 = true := by kernel_rfl
theorem b_turn_Turn : bodied Try.prog 72 = true := by kernel_rfl
theorem b_gradusref1_Turn : bodied Try.prog 73 = true := by kernel_rfl
theorem b_turn_Shape : bodied Try.prog 74 = true := by kernel_rfl
theorem b_gradusref1_Dims : bodied Try.prog 75 = true := by kernel_rfl
theorem b_gradusref1_Cells : bodied Try.prog 76 = true := by kernel_rfl
theorem b_gradusref1_Wide : bodied Try.prog 77 = true := by kernel_rfl
theorem b_gradusref1_Sum : bodied Try.prog 78 = true := by kernel_rfl
theorem b_gate_Relu : bodied Try.prog 79 = true := by kernel_rfl
theorem b_gradusref1_Gate : bodied Try.prog 80 = true := by kernel_rfl
theorem b_gradusref1_Max : bodied Try.prog 81 = true := by kernel_rfl
theorem b_gate_Step : bodied Try.prog 82 = true := by kernel_rfl
theorem b_gradusref1_Infer : bodied Try.prog 83 = true := by kernel_rfl
theorem b_gradusref1_Pick : bodied Try.prog 84 = true := by kernel_rfl
theorem b_graduslaw0_Within : bodied Try.prog 85 = true := by kernel_rfl
theorem b_graduslaw4_square : bodied Try.prog 86 = true := by kernel_rfl
theorem b_gradusref1_Steps : bodied Try.prog 87 = true := by kernel_rfl
theorem b_shape_Check : bodied Try.prog 88 = true := by kernel_rfl
theorem b_gradusref1_At : bodied Try.prog 89 = true := by kernel_rfl
theorem b_gradusref1_Fill : bodied Try.prog 90 = true := by kernel_rfl
theorem b_gradusref1_Where : bodied Try.prog 91 = true := by kernel_rfl
theorem b_shape_Same : bodied Try.prog 92 = true := by kernel_rfl
theorem b_graduslaw0_Numbers : bodied Try.prog 93 = true := by kernel_rfl
theorem b_shape_May : bodied Try.prog 94 = true := by kernel_rfl
theorem b_shape_Grows : bodied Try.prog 95 = true := by kernel_rfl
theorem b_graduslaw0_Lists : bodied Try.prog 96 = true := by kernel_rfl
theorem b_graduslaw0_TensorsWeight : bodied Try.prog 97 = true := by kernel_rfl
theorem b_shape_New : bodied Try.prog 98 = true := by kernel_rfl
theorem b_shape_Product : bodied Try.prog 99 = true := by kernel_rfl
theorem b_shape_Is : bodied Try.prog 100 = true := by kernel_rfl
theorem b_shape_Strides : bodied Try.prog 101 = true := by kernel_rfl
theorem b_shape_Numbers : bodied Try.prog 102 = true := by kernel_rfl
theorem b_shape_Place : bodied Try.prog 103 = true := by kernel_rfl
theorem b_shape_All : bodied Try.prog 104 = true := by kernel_rfl
theorem b_ring_two : bodied Try.prog 105 = true := by kernel_rfl
theorem b_ring_Add_1 : bodied Try.prog 106 = true := by kernel_rfl
theorem b_ring_Sub_1 : bodied Try.prog 107 = true := by kernel_rfl
theorem b_ring_Mul_1 : bodied Try.prog 108 = true := by kernel_rfl
theorem b_ring_sum : bodied Try.prog 109 = true := by kernel_rfl
theorem b_ring_Scale_1 : bodied Try.prog 110 = true := by kernel_rfl
theorem b_turn_low : bodied Try.prog 111 = true := by kernel_rfl
theorem b_gate_asked : bodied Try.prog 112 = true := by kernel_rfl
theorem b_slices_Max : bodied Try.prog 113 = true := by kernel_rfl
theorem b_slices_Equal : bodied Try.prog 114 = true := by kernel_rfl
theorem b_gate_greatest : bodied Try.prog 115 = true := by kernel_rfl
theorem b_slices_Clone : bodied Try.prog 116 = true := by kernel_rfl
theorem b_gradusref1_narrow : bodied Try.prog 117 = true := by kernel_rfl
theorem b_gradusref1_less : bodied Try.prog 118 = true := by kernel_rfl
theorem b_gradusref1_first : bodied Try.prog 119 = true := by kernel_rfl
theorem b_slices_ContainsFunc : bodied Try.prog 120 = true := by kernel_rfl
theorem b_shape_May_1 : bodied Try.prog 121 = true := by kernel_rfl
theorem b_slices_ContainsFunc_122 : bodied Try.prog 122 = true := by kernel_rfl
theorem b_shape_All_1 : bodied Try.prog 123 = true := by kernel_rfl
theorem b_ring_pair : bodied Try.prog 124 = true := by kernel_rfl
theorem b_gate_Less : bodied Try.prog 125 = true := by kernel_rfl
theorem b_slices_Index : bodied Try.prog 126 = true := by kernel_rfl
theorem b_slices_IndexFunc : bodied Try.prog 127 = true := by kernel_rfl
theorem b_slices_IndexFunc_128 : bodied Try.prog 128 = true := by kernel_rfl
theorem eq_false_of_length {α : Type} {a b : List α} (h : a.length ≠ b.length) : a ≠ b := fun e => h (by rw [e])

set_option maxRecDepth 10000 in
theorem gradusref0_EqNumbers (a b : List Int) (ha : a.length ≤ 4611686018427387904) (hb : b.length ≤ 4611686018427387904) : Pure Try.prog 28 [ints a, ints b] (bv (decide (a = b))) := by
  intro σ
  refine acalls Try.func28 rfl rfl (by decide) rfl rfl ?_
  refine aseq ?_
  refine areg rfl ?_
  refine s_det (D.assign rfl) rfl ?_
  refine s_nil ?_
  refine aseq ?_
  refine aseq ?_
  refine areg rfl ?_
  refine s_det (D.move rfl) rfl ?_
  refine s_det (D.len_m rfl rfl) rfl ?_
  refine s_det (D.move rfl) rfl ?_
  refine s_det (D.len_m rfl rfl) rfl ?_
  refine s_cmp (D.neq rfl rfl rfl) rfl (fun h10 => ?_) (fun h10 => ?_)
  · replace h10 := of_decide_eq_true h10
    refine s_nil ?_
    refine acond_t rfl ?_
    refine aseq ?_
    refine areg rfl ?_
    refine s_det (D.assign rfl) rfl ?_
    refine s_nil ?_
    refine aret ?_
    refine ⟨[_], ⟨⟨rfl, rfl⟩, trivial⟩, ?_, rfl⟩
    rw [decide_eq_false (eq_false_of_length (by omega))]; rfl
  · replace h10 := of_decide_eq_false h10
    refine s_nil ?_
    refine acond_f rfl ?_
    refine askip ?_
    refine aseq ?_
    refine aseq ?_
    refine areg rfl ?_
    refine s_det (D.assign rfl) rfl ?_
    refine s_nil ?_
    refine ablock ?_
    -- LOOP writes [5] keeps [0, 1]
    refine aloop (ι := Nat) (fun i => i ≤ a.length ∧ ∀ j, j < i → a[j]? = b[j]?) (fun i => a.length - i) (fun i => [(0, ints a), (1, ints b), (5, iv i)]) (fun _ => σ) 0 ⟨by omega, fun j hj => by omega⟩ ?_ rfl fun i hi => ?_
    · exact .cons rfl (.cons rfl (.cons rfl .nil))
    obtain ⟨hi, heq⟩ := hi
    refine aseq ?_
    refine aseq ?_
    refine areg rfl ?_
    refine s_det (D.move rfl) rfl ?_
    refine s_det (D.move rfl) rfl ?_
    refine s_det (D.len_m rfl rfl) rfl ?_
    refine s_cmp (D.lss rfl rfl rfl) rfl (fun h14 => ?_) (fun h14 => ?_)
    · replace h14 := of_decide_eq_true h14
      have hia : i < a.length := by omega
      have hib : i < b.length := by omega
      have hva := get_lt hia
      have hvb := get_lt hib
      refine s_nil ?_
      refine acond_t rfl ?_
      refine askip ?_
      refine aseq ?_
      refine ablock ?_
      refine aseq ?_
      refine adraw [.det 0, .det 1, .det 2, .det 3, .det 4, .det 5, .det 6, .det 7, .det 8] rfl (by kernel_rfl) ?_
      refine d_det rfl (D.move rfl) rfl ?_
      refine d_det rfl (D.move rfl) rfl ?_
      refine d_det rfl (D.idx_m rfl rfl (by omega) hva rfl) rfl ?_
      refine d_det rfl (D.load_i rfl rfl) rfl ?_
      refine d_det rfl (D.move rfl) rfl ?_
      refine d_det rfl (D.move rfl) rfl ?_
      refine d_det rfl (D.idx_m rfl rfl (by omega) hvb rfl) rfl ?_
      refine d_det rfl (D.load_i rfl rfl) rfl ?_
      refine d_cmp rfl (D.neq rfl rfl rfl) rfl (fun h25 => ?_) (fun h25 => ?_)
      · replace h25 := of_decide_eq_true h25
        refine d_nil ?_
        refine acond_t rfl ?_
        refine aseq ?_
        refine areg rfl ?_
        refine s_det (D.assign rfl) rfl ?_
        refine s_nil ?_
        refine aret ?_
        refine ⟨[_], ⟨⟨rfl, rfl⟩, trivial⟩, ?_, rfl⟩
        rw [decide_eq_false (fun e => h25 (by subst e; rfl))]; rfl
      · replace h25 := of_decide_eq_false h25
        refine d_nil ?_
        refine acond_f rfl ?_
        refine askip ?_
        refine areg rfl ?_
        refine s_det (D.move rfl) rfl ?_
        refine s_det (D.add rfl rfl (w64 (by omega) (by omega))) rfl ?_
        refine s_det (D.assign rfl) rfl ?_
        refine s_nil ?_
        refine ⟨i + 1, ⟨by omega, fun j hj => ?_⟩, by omega, .cons rfl (.cons rfl (.cons rfl .nil)), rfl⟩
        by_cases hji : j = i
        · subst hji; rw [hva, hvb]; simpa using h25
        · exact heq j (by omega)
    · replace h14 := of_decide_eq_false h14
      refine s_nil ?_
      refine acond_f rfl ?_
      refine aexit ?_
      refine aseq ?_
      refine areg rfl ?_
      refine s_det (D.assign rfl) rfl ?_
      refine s_nil ?_
      refine aret ?_
      refine ⟨[_], ⟨⟨rfl, rfl⟩, trivial⟩, ?_, rfl⟩
      rw [decide_eq_true]; · rfl
      apply List.ext_getElem?
      intro j
      by_cases hj : j < a.length
      · exact heq j (by omega)
      · rw [List.getElem?_eq_none (by omega), List.getElem?_eq_none (by omega)]

set_option maxRecDepth 10000 in
theorem gradusref0_CopyNumbers_own (l : List Int) (hl : l.length ≤ 4398046511104) (σ : AH) : ACalls Try.prog 32 [ints l] σ (OwnS iv 1 l σ) := by
  skip
  refine acalls Try.func32 rfl rfl (by decide) rfl rfl ?_
  refine aseq ?_
  refine areg rfl ?_
  refine s_det (D.assign rfl) rfl ?_
  refine s_nil ?_
  refine aseq ?_
  refine areg rfl ?_
  refine s_det (D.assign rfl) rfl ?_
  refine s_nil ?_
  refine aseq ?_
  refine aseq ?_
  refine areg rfl ?_
  refine s_det (D.assign rfl) rfl ?_
  refine s_nil ?_
  refine aown (d := 3) (k := 1) rfl fun b hb => ?_
  refine ablock ?_
  -- LOOP writes [3, 4] keeps [0]
  refine aloop (ι := Nat × Nat × List Int) (fun s => s.1 ≤ l.length ∧ s.2.2 = l.take s.1 ∧ σ s.2.1 = none) (fun s => l.length - s.1) (fun s => [(0, ints l), (3, .ref s.2.1 1 0 s.2.2.length), (4, iv s.1)]) (fun s => σ.set s.2.1 (rowI s.2.2)) (0, b, []) ⟨by omega, rfl, hb⟩ ?_ rfl fun s hs => ?_
  · exact .cons rfl (.cons rfl (.cons rfl .nil))
  obtain ⟨i, b, acc⟩ := s
  obtain ⟨hi, hacc, hb⟩ := hs
  dsimp only at hi hacc hb
  refine aseq ?_
  refine aseq ?_
  refine areg rfl ?_
  refine s_det (D.move rfl) rfl ?_
  refine s_det (D.move rfl) rfl ?_
  refine s_det (D.len_m rfl rfl) rfl ?_
  refine s_cmp (D.lss rfl rfl rfl) rfl (fun h8 => ?_) (fun h8 => ?_)
  · replace h8 := of_decide_eq_true h8
    have hil : i < l.length := by omega
    have hv := get_lt hil
    have hal : acc.length = i := by rw [hacc]; simp; omega
    refine s_nil ?_
    refine acond_t rfl ?_
    refine askip ?_
    refine aseq ?_
    refine ablock ?_
    refine areg rfl ?_
    refine s_det (D.move rfl) rfl ?_
    refine s_det (D.move rfl) rfl ?_
    refine s_det (D.move rfl) rfl ?_
    refine s_det (D.idx_m rfl rfl (by omega) hv rfl) rfl ?_
    refine s_det (D.load_i rfl rfl) rfl ?_
    refine s_det (D.lit sl_int (pc rfl rfl p0) rfl rfl (by decide)) rfl ?_
    refine s_act rfl (A.append1 rfl (AH.set_self ..) rfl sl_int rfl (by dsimp only; omega) (by decide) rfl fun b17 hb17 => ?_)
    refine s_det (D.assign rfl) rfl ?_
    refine s_nil ?_
    refine areg rfl ?_
    refine s_det (D.move rfl) rfl ?_
    refine s_det (D.add rfl rfl (w64 (by omega) (by omega))) rfl ?_
    refine s_det (D.assign rfl) rfl ?_
    refine s_nil ?_
    exact ⟨(i + 1, b17, acc ++ [l[i]]), ⟨by simp only; omega, by rw [hacc, take_snoc hil], (AH.set_none hb17).1⟩, by simp only; omega, .cons rfl (.cons rfl (.cons rfl .nil)), by simp only; rw [AH.del_set_self hb]⟩
  · replace h8 := of_decide_eq_false h8
    refine s_nil ?_
    refine acond_f rfl ?_
    refine aexit ?_
    refine aseq ?_
    refine areg rfl ?_
    refine s_det (D.move rfl) rfl ?_
    refine s_det (D.assign rfl) rfl ?_
    refine s_nil ?_
    refine aret ?_
    have hacc' : acc = l := by rw [hacc]; exact List.take_of_length_le (by omega)
    subst hacc'
    exact ⟨[_], ⟨⟨rfl, rfl⟩, trivial⟩, b, hb, rfl, rfl⟩

theorem gradusref0_CopyNumbers (l : List Int) (hl : l.length ≤ 4398046511104) : Pure Try.prog 32 [ints l] (ints l) := pure_of_own fun σ => gradusref0_CopyNumbers_own l hl σ

set_option maxRecDepth 10000 in
theorem gradusref0_Num (n m : Int) : Pure Try.prog 45 [iv n, iv m] (bv (decide (0 ≤ n ∧ n ≤ m))) := by
  intro σ
  refine acalls Try.func45 rfl rfl (by decide) rfl rfl ?_
  refine aseq ?_
  refine areg rfl ?_
  refine s_det (D.assign rfl) rfl ?_
  refine s_nil ?_
  refine aseq ?_
  refine areg rfl ?_
  refine s_det (D.move rfl) rfl ?_
  refine s_cmp (D.geq rfl rfl rfl) rfl (fun h6 => ?_) (fun h6 => ?_)
  · replace h6 := of_decide_eq_true h6
    refine s_det (D.move rfl) rfl ?_
    refine s_yes rfl rfl ?_
    refine s_det (D.move rfl) rfl ?_
    refine s_yes rfl rfl ?_
    refine s_det (D.move rfl) rfl ?_
    refine s_yes rfl rfl ?_
    refine s_det (D.leq rfl rfl rfl) rfl ?_
    refine s_det (D.pick rfl rfl rfl rfl) rfl ?_
    refine s_det (D.assign rfl) rfl ?_
    refine s_nil ?_
    refine aret ?_
    refine ⟨[_], ⟨⟨rfl, rfl⟩, trivial⟩, ?_, rfl⟩
    show bv (decide (n ≤ m)) = bv _
    have e : n ≤ m ↔ (0 ≤ n ∧ n ≤ m) := ⟨fun h => ⟨h6, h⟩, fun h => h.2⟩
    rw [decide_eq_decide.2 e]
  · replace h6 := of_decide_eq_false h6
    refine s_det (D.move rfl) rfl ?_
    refine s_no rfl rfl rfl rfl ?_
    refine s_no rfl rfl rfl rfl ?_
    refine s_no rfl rfl rfl rfl ?_
    refine s_det (D.pick rfl rfl rfl rfl) rfl ?_
    refine s_det (D.assign rfl) rfl ?_
    refine s_nil ?_
    refine aret ?_
    refine ⟨[_], ⟨⟨rfl, rfl⟩, trivial⟩, ?_, rfl⟩
    rw [decide_eq_false (by omega)]; rfl

set_option maxRecDepth 10000 in
theorem gradusref0_Between (n lo hi : Int) : Pure Try.prog 42 [iv n, iv lo, iv hi] (bv (decide (lo ≤ n ∧ n ≤ hi))) := by
  intro σ
  refine acalls Try.func42 rfl rfl (by decide) rfl rfl ?_
  refine aseq ?_
  refine areg rfl ?_
  refine s_det (D.assign rfl) rfl ?_
  refine s_nil ?_
  refine aseq ?_
  refine areg rfl ?_
  refine s_det (D.move rfl) rfl ?_
  refine s_det (D.move rfl) rfl ?_
  refine s_cmp (D.geq rfl rfl rfl) rfl (fun h9 => ?_) (fun h9 => ?_)
  · replace h9 := of_decide_eq_true h9
    refine s_det (D.move rfl) rfl ?_
    refine s_yes rfl rfl ?_
    refine s_det (D.move rfl) rfl ?_
    refine s_yes rfl rfl ?_
    refine s_det (D.move rfl) rfl ?_
    refine s_yes rfl rfl ?_
    refine s_det (D.leq rfl rfl rfl) rfl ?_
    refine s_det (D.pick rfl rfl rfl rfl) rfl ?_
    refine s_det (D.assign rfl) rfl ?_
    refine s_nil ?_
    refine aret ?_
    refine ⟨[_], ⟨⟨rfl, rfl⟩, trivial⟩, ?_, rfl⟩
    show bv (decide (n ≤ hi)) = bv _
    have e : n ≤ hi ↔ (lo ≤ n ∧ n ≤ hi) := ⟨fun h => ⟨h9, h⟩, fun h => h.2⟩
    rw [decide_eq_decide.2 e]
  · replace h9 := of_decide_eq_false h9
    refine s_det (D.move rfl) rfl ?_
    refine s_no rfl rfl rfl rfl ?_
    refine s_no rfl rfl rfl rfl ?_
    refine s_no rfl rfl rfl rfl ?_
    refine s_det (D.pick rfl rfl rfl rfl) rfl ?_
    refine s_det (D.assign rfl) rfl ?_
    refine s_nil ?_
    refine aret ?_
    refine ⟨[_], ⟨⟨rfl, rfl⟩, trivial⟩, ?_, rfl⟩
    rw [decide_eq_false (by omega)]; rfl

set_option maxRecDepth 10000 in
theorem gradusref0_EqTensor (a b : Tn) (ha : a.sm) (hb : b.sm) : Pure Try.prog 39 [tv a, tv b] (bv (decide (a = b))) := by
  intro σ
  obtain ⟨ha1, ha2⟩ := ha
  obtain ⟨hb1, hb2⟩ := hb
  refine acalls Try.func39 rfl rfl (by decide) rfl rfl ?_
  refine aseq ?_
  refine areg rfl ?_
  refine s_det (D.box_i rfl rfl) rfl ?_
  refine s_det (D.box_i rfl rfl) rfl ?_
  refine s_det (D.assign rfl) rfl ?_
  refine s_nil ?_
  refine aseq ?_
  refine areg rfl ?_
  refine s_det (D.field_i rfl rfl rfl) rfl ?_
  refine s_det (D.load_i rfl rfl) rfl ?_
  refine s_det (D.field_i rfl rfl rfl) rfl ?_
  refine s_det (D.load_i rfl rfl) rfl ?_
  refine s_cmp (D.call (evc rfl (evc rfl ev0)) b_gradusref0_EqNumbers (gradusref0_EqNumbers _ _ (by omega) (by omega))) rfl (fun h9 => ?_) (fun h9 => ?_)
  · replace h9 := of_decide_eq_true h9
    refine s_det (D.move rfl) rfl ?_
    refine s_yes rfl rfl ?_
    refine s_det (D.field_i rfl rfl rfl) rfl ?_
    refine s_yes rfl rfl ?_
    refine s_det (D.load_i rfl rfl) rfl ?_
    refine s_yes rfl rfl ?_
    refine s_det (D.field_i rfl rfl rfl) rfl ?_
    refine s_yes rfl rfl ?_
    refine s_det (D.load_i rfl rfl) rfl ?_
    refine s_yes rfl rfl ?_
    refine s_det (D.call (evc rfl (evc rfl ev0)) b_gradusref0_EqNumbers (gradusref0_EqNumbers _ _ (by omega) (by omega))) rfl ?_
    refine s_det (D.pick rfl rfl rfl rfl) rfl ?_
    refine s_det (D.assign rfl) rfl ?_
    refine s_nil ?_
    refine aret ?_
    exact ⟨[_], ⟨⟨rfl, rfl⟩, trivial⟩, bvI (by rw [Tn.ext']; exact ⟨fun h => ⟨h9, h⟩, fun h => h.2⟩), rfl⟩
  · replace h9 := of_decide_eq_false h9
    refine s_det (D.move rfl) rfl ?_
    refine s_no rfl rfl rfl rfl ?_
    refine s_no rfl rfl rfl rfl ?_
    refine s_no rfl rfl rfl rfl ?_
    refine s_no rfl rfl rfl rfl ?_
    refine s_no rfl rfl rfl rfl ?_
    refine s_det (D.pick rfl rfl rfl rfl) rfl ?_
    refine s_det (D.assign rfl) rfl ?_
    refine s_nil ?_
    refine aret ?_
    exact ⟨[_], ⟨⟨rfl, rfl⟩, trivial⟩, bvF (by rw [Tn.ext']; exact fun h => h9 h.1), rfl⟩

set_option maxRecDepth 10000 in
theorem gradusref0_CopyTensor_s (a : Tn) (ha : a.sm) (σ : AH) : ACalls Try.prog 34 [tv a] σ (OwnTs a σ) := by
  skip
  refine acalls Try.func34 rfl rfl (by decide) rfl rfl ?_
  refine aseq ?_
  refine areg rfl ?_
  refine s_det (D.box_i rfl rfl) rfl ?_
  refine s_act rfl (A.alloc rfl rfl rfl fun b2 hb2 => ?_)
  refine s_nil ?_
  refine aseq ?_
  refine areg rfl ?_
  refine s_det (D.load_i rfl rfl) rfl ?_
  refine s_act rfl (A.alloc rfl rfl rfl fun b3 hb3 => ?_)
  obtain ⟨hb3', n32⟩ := AH.set_none hb3
  refine s_do (A.store rfl rfl (AH.set_self ..) rfl rfl (by rfl) rfl rfl ?_)
  refine s_nil ?_
  refine aseq ?_
  refine areg rfl ?_
  refine s_det (D.field_i rfl rfl rfl) rfl ?_
  refine s_det (D.load_i rfl rfl) rfl ?_
  refine s_act rfl (A.call (evc rfl ev0) b_gradusref0_CopyNumbers (gradusref0_CopyNumbers_own _ ha.1 _) fun y σ' hy => ?_)
  obtain ⟨b1, hb1, rfl, rfl⟩ := hy
  obtain ⟨hb1', n13⟩ := AH.set_none hb1
  obtain ⟨hb1', _⟩ := AH.set_none hb1'
  obtain ⟨hb1', n12⟩ := AH.set_none hb1'
  refine s_det (D.field_p rfl rfl) rfl ?_
  refine s_do (A.store rfl rfl (by rw [AH.set_ne (Ne.symm n13), AH.set_self]) rfl rfl (by rfl) rfl rfl ?_)
  refine s_nil ?_
  refine aseq ?_
  refine areg rfl ?_
  refine s_det (D.field_i rfl rfl rfl) rfl ?_
  refine s_det (D.load_i rfl rfl) rfl ?_
  refine s_act rfl (A.call (evc rfl ev0) b_gradusref0_CopyNumbers (gradusref0_CopyNumbers_own _ ha.2 _) fun y σ' hy => ?_)
  obtain ⟨b4, hb4, rfl, rfl⟩ := hy
  obtain ⟨hb4', n43⟩ := AH.set_none hb4
  obtain ⟨hb4', n41⟩ := AH.set_none hb4'
  obtain ⟨hb4', _⟩ := AH.set_none hb4'
  obtain ⟨hb4', _⟩ := AH.set_none hb4'
  obtain ⟨hb4', n42⟩ := AH.set_none hb4'
  refine s_det (D.field_p rfl rfl) rfl ?_
  refine s_do (A.store rfl rfl (by rw [AH.set_ne (Ne.symm n43), AH.set_self]) rfl rfl (by rfl) rfl rfl ?_)
  refine s_nil ?_
  refine aseq ?_
  refine areg rfl ?_
  refine s_own (AH.set_self ..) (D.load_p rfl rfl rfl rfl) rfl ?_
  refine s_do (A.store rfl rfl (by rw [AH.set_ne (Ne.symm n32), AH.set_ne (Ne.symm n42), AH.set_ne (Ne.symm n32), AH.set_ne (Ne.symm n12), AH.set_ne (Ne.symm n32), AH.set_ne (Ne.symm n32), AH.set_self]) rfl rfl (by rfl) rfl rfl ?_)
  refine s_nil ?_
  refine aret ?_
  refine ⟨[_], ⟨⟨.inr ⟨_, _, _, _, _, _, _, rfl, AH.set_self .., rfl, rfl⟩, rfl⟩, trivial⟩, b1, b4, hb1', hb4', n41, rfl, ?_, ?_, ?_⟩
  · rw [AH.set_ne n12, AH.set_ne n13, AH.set_ne (Ne.symm n41), AH.set_ne n13, AH.set_self]
  · rw [AH.set_ne n42, AH.set_ne n43, AH.set_self]
  · exact (((((((Sub.refl σ).set hb2 _).set hb3' _).set hb3' _).set hb1' _).set hb3' _).set hb4' _).set hb3' _ |>.set hb2 _

theorem gradusref0_CopyTensor_own (a : Tn) (ha : a.sm) (σ : AH) : ACalls Try.prog 34 [tv a] σ (OwnT a σ) := (gradusref0_CopyTensor_s a ha σ).ownT
theorem gradusref0_CopyTensor (a : Tn) (ha : a.sm) : Pure Try.prog 34 [tv a] (tv a) := pure_of_ownT fun σ => gradusref0_CopyTensor_own a ha σ

set_option maxRecDepth 10000 in
theorem shape_ProductR (d : List Int) (h : allR d) (hl : d.length ≤ 3) : Pure Try.prog 99 [ints d] (iv (prod d)) := by
  intro σ
  refine acalls Try.func99 rfl rfl (by decide) rfl rfl ?_
  refine aseq ?_
  refine areg rfl ?_
  refine s_det (D.assign rfl) rfl ?_
  refine s_nil ?_
  refine aseq ?_
  refine areg rfl ?_
  refine s_det (D.assign rfl) rfl ?_
  refine s_nil ?_
  refine aseq ?_
  refine aseq ?_
  refine areg rfl ?_
  refine s_det (D.move rfl) rfl ?_
  refine s_det (D.len_m rfl rfl) rfl ?_
  refine s_det (D.move rfl) rfl ?_
  refine s_nil ?_
  refine ablock ?_
  -- LOOP writes [3, 8] keeps [6, 7]
  refine aloop (ι := Nat × Int) (fun s => s.1 ≤ d.length ∧ s.2 = (d.take s.1).foldl (fun a x => IntKind.i64.wrap (a * x)) 1) (fun s => d.length - s.1) (fun s => [(3, iv s.2), (6, ints d), (7, iv d.length), (8, iv s.1)]) (fun _ => σ) (0, 1) ⟨by simp, by simp⟩ ?_ rfl fun s hi => ?_
  · exact (.cons rfl (.cons rfl (.cons rfl (.cons rfl .nil))))
  obtain ⟨i, acc⟩ := s
  obtain ⟨hi, ha⟩ := hi
  dsimp only at hi ha
  refine aseq ?_
  refine areg rfl ?_
  refine s_cmp (D.lss rfl rfl rfl) rfl (fun h9 => ?_) (fun h9 => ?_)
  · replace h9 := of_decide_eq_true h9
    have hlt : i < d.length := by omega
    refine s_nil ?_
    refine aseq ?_
    refine acond_t rfl ?_
    refine askip ?_
    refine aseq ?_
    refine ablock ?_
    refine aseq ?_
    refine areg rfl ?_
    refine s_det (D.idx_m rfl rfl (by omega) (get_lt (i := i) hlt) rfl) rfl ?_
    refine s_det (D.load_i rfl rfl) rfl ?_
    refine s_det (D.assign rfl) rfl ?_
    refine s_nil ?_
    refine areg rfl ?_
    refine s_det (D.move rfl) rfl ?_
    refine s_det (D.move rfl) rfl ?_
    refine s_det (D.mul rfl rfl rfl) rfl ?_
    refine s_det (D.assign rfl) rfl ?_
    refine s_nil ?_
    refine areg rfl ?_
    refine s_det (D.add rfl rfl (w64 (by omega) (by omega))) rfl ?_
    refine s_det (D.move rfl) rfl ?_
    refine s_nil ?_
    exact ⟨(i + 1, IntKind.i64.wrap (acc * d[i])), ⟨hlt, by rw [foldl_take hlt, ha]⟩, by simp only; omega, (.cons rfl (.cons rfl (.cons rfl (.cons rfl .nil)))), rfl⟩
  · replace h9 := of_decide_eq_false h9
    refine s_nil ?_
    refine aseq ?_
    refine acond_f rfl ?_
    refine aexit ?_
    refine aseq ?_
    refine areg rfl ?_
    refine s_det (D.move rfl) rfl ?_
    refine s_det (D.assign rfl) rfl ?_
    refine s_nil ?_
    refine aret ?_
    exact ⟨[_], ⟨⟨rfl, rfl⟩, trivial⟩, (by
      have e : i = d.length := by omega
      subst e
      rw [List.take_length, prodW1 h hl] at ha
      subst ha; rfl), rfl⟩

theorem shape_Product (d : List Int) (h : okD d) : Pure Try.prog 99 [ints d] (iv (prod d)) := shape_ProductR d h.2.2.1 h.2.1

set_option maxRecDepth 10000 in
theorem shape_May_1 (n : Int) : Pure Try.prog 121 [iv n] (bv (decide (¬ inR n))) := by
  intro σ
  refine acalls Try.func121 rfl rfl (by decide) rfl rfl ?_
  refine aseq ?_
  refine areg rfl ?_
  refine s_det (D.assign rfl) rfl ?_
  refine s_nil ?_
  refine aseq ?_
  refine areg rfl ?_
  refine s_det (D.move rfl) rfl ?_
  refine s_cmp (D.lss rfl rfl rfl) rfl (fun h4 => ?_) (fun h4 => ?_)
  · replace h4 := of_decide_eq_true h4
    refine s_det (D.move rfl) rfl ?_
    refine s_no rfl rfl rfl rfl ?_
    refine s_no rfl rfl rfl rfl ?_
    refine s_det (D.pick rfl rfl rfl rfl) rfl ?_
    refine s_det (D.assign rfl) rfl ?_
    refine s_nil ?_
    refine aret ?_
    exact ⟨[_], ⟨⟨rfl, rfl⟩, trivial⟩, bvT (by unfold inR; omega), rfl⟩
  · replace h4 := of_decide_eq_false h4
    refine s_det (D.move rfl) rfl ?_
    refine s_yes rfl rfl ?_
    refine s_det (D.move rfl) rfl ?_
    refine s_yes rfl rfl ?_
    refine s_det (D.gtr rfl rfl rfl) rfl ?_
    refine s_det (D.pick rfl rfl rfl rfl) rfl ?_
    refine s_det (D.assign rfl) rfl ?_
    refine s_nil ?_
    refine aret ?_
    exact ⟨[_], ⟨⟨rfl, rfl⟩, trivial⟩, bvI (by unfold inR; omega), rfl⟩

set_option maxRecDepth 10000 in
theorem slices_IndexFunc (l : List Int) (hl : l.length ≤ 4611686018427387904) (f : FuncId) (cap : List AV) (hb : bodied Try.prog f = true) (hcap : cap.all (fun a => match a with | .agg _ => false | .tup _ => false | _ => true) = true) (p : Int → Bool)
    (hp : ∀ x ∈ l, Pure Try.prog f (iv x :: cap) (bv (p x))) : Pure Try.prog 127 [ints l, .fn (.func f) cap] (iv (fidx p l)) := by
  intro σ
  refine acalls Try.func127 rfl rfl (by decide) rfl rfl ?_
  refine aseq ?_
  refine areg rfl ?_
  refine s_det (D.assign rfl) rfl ?_
  refine s_nil ?_
  refine aseq ?_
  refine aseq ?_
  refine areg rfl ?_
  refine s_det (D.move rfl) rfl ?_
  refine s_det (D.len_m rfl rfl) rfl ?_
  refine s_det (D.move rfl) rfl ?_
  refine s_nil ?_
  refine ablock ?_
  -- LOOP writes [8] keeps [0, 1, 7]
  refine aloop (ι := Nat) (fun i => i ≤ l.length ∧ (l.take i).any p = false) (fun i => l.length - i) (fun i => [(0, ints l), (1, .fn (.func f) cap), (7, iv l.length), (8, iv i)]) (fun _ => σ) 0 ⟨by omega, by simp⟩ ?_ rfl fun i hi => ?_
  · exact (.cons rfl (.cons rfl (.cons rfl (.cons rfl .nil))))
  obtain ⟨hi, ha⟩ := hi
  refine aseq ?_
  refine areg rfl ?_
  refine s_cmp (D.lss rfl rfl rfl) rfl (fun h9 => ?_) (fun h9 => ?_)
  · replace h9 := of_decide_eq_true h9
    have hlt : i < l.length := by omega
    refine s_nil ?_
    refine aseq ?_
    refine acond_t rfl ?_
    refine askip ?_
    refine aseq ?_
    refine ablock ?_
    refine aseq ?_
    refine areg rfl ?_
    refine s_det (D.move rfl) rfl ?_
    refine s_det (D.assign rfl) rfl ?_
    refine s_nil ?_
    refine aseq ?_
    refine areg rfl ?_
    refine s_det (D.move rfl) rfl ?_
    refine s_det (D.move rfl) rfl ?_
    refine s_det (D.move rfl) rfl ?_
    refine s_det (D.idx_m rfl rfl (by omega) (get_lt (i := i) hlt) rfl) rfl ?_
    refine s_det (D.load_i rfl rfl) rfl ?_
    refine s_det (D.callV rfl (evc rfl ev0) hb hcap (hp _ (List.getElem_mem hlt))) rfl ?_
    refine s_nil ?_
    -- cond t16 unknown
    refine acond rfl (fun h16 => ?_) (fun h16 => ?_)
    · refine aseq ?_
      refine areg rfl ?_
      refine s_det (D.move rfl) rfl ?_
      refine s_det (D.assign rfl) rfl ?_
      refine s_nil ?_
      refine aret ?_
      exact ⟨[_], ⟨⟨rfl, rfl⟩, trivial⟩, (by rw [fidx_hit ha (get_lt hlt) h16]; rfl), rfl⟩
    · refine askip ?_
      refine areg rfl ?_
      refine s_det (D.add rfl rfl (w64 (by omega) (by omega))) rfl ?_
      refine s_det (D.move rfl) rfl ?_
      refine s_nil ?_
      exact ⟨i + 1, ⟨hlt, take_any ha (get_lt hlt) h16⟩, by omega, (.cons rfl (.cons rfl (.cons rfl (.cons rfl .nil)))), rfl⟩
  · replace h9 := of_decide_eq_false h9
    refine s_nil ?_
    refine aseq ?_
    refine acond_f rfl ?_
    refine aexit ?_
    refine aseq ?_
    refine areg rfl ?_
    refine s_det (D.assign rfl) rfl ?_
    refine s_nil ?_
    refine aret ?_
    exact ⟨[_], ⟨⟨rfl, rfl⟩, trivial⟩, (by rw [fidx_miss (by rw [show i = l.length by omega, List.take_length] at ha; exact ha)]; rfl), rfl⟩

set_option maxRecDepth 10000 in
theorem slices_ContainsFunc (l : List Int) (hl : l.length ≤ 4611686018427387904) (f : FuncId) (cap : List AV) (hb : bodied Try.prog f = true) (hcap : cap.all (fun a => match a with | .agg _ => false | .tup _ => false | _ => true) = true) (p : Int → Bool)
    (hp : ∀ x ∈ l, Pure Try.prog f (iv x :: cap) (bv (p x))) (c : Bool) (hc : l.any p = c) : Pure Try.prog 120 [ints l, .fn (.func f) cap] (bv c) := by
  intro σ
  refine acalls Try.func120 rfl rfl (by decide) rfl rfl ?_
  refine aseq ?_
  refine areg rfl ?_
  refine s_det (D.assign rfl) rfl ?_
  refine s_nil ?_
  refine aseq ?_
  refine areg rfl ?_
  refine s_det (D.move rfl) rfl ?_
  refine s_det (D.move rfl) rfl ?_
  refine s_det (D.call (evc rfl (evc rfl ev0)) b_slices_IndexFunc (slices_IndexFunc l hl f cap hb hcap p hp)) rfl ?_
  refine s_det (D.geq rfl rfl rfl) rfl ?_
  refine s_det (D.assign rfl) rfl ?_
  refine s_nil ?_
  refine aret ?_
  exact ⟨[_], ⟨⟨rfl, rfl⟩, trivial⟩, (by rw [← hc, ← fidx_any]; rfl), rfl⟩

set_option maxRecDepth 10000 in
theorem shape_May (d : List Int) : Pure Try.prog 94 [ints d] (bv (decide (okD d))) := by
  intro σ
  refine acalls Try.func94 rfl rfl (by decide) rfl rfl ?_
  refine aseq ?_
  refine areg rfl ?_
  refine s_det (D.assign rfl) rfl ?_
  refine s_nil ?_
  refine aseq ?_
  refine aseq ?_
  refine areg rfl ?_
  refine s_det (D.move rfl) rfl ?_
  refine s_det (D.len_m rfl rfl) rfl ?_
  refine s_cmp (D.lss rfl rfl rfl) rfl (fun h5 => ?_) (fun h5 => ?_)
  · replace h5 := of_decide_eq_true h5
    refine s_det (D.move rfl) rfl ?_
    refine s_no rfl rfl rfl rfl ?_
    refine s_no rfl rfl rfl rfl ?_
    refine s_no rfl rfl rfl rfl ?_
    refine s_det (D.pick rfl rfl rfl rfl) rfl ?_
    refine s_det (D.move rfl) rfl ?_
    refine s_no rfl rfl rfl rfl ?_
    refine s_no rfl rfl rfl rfl ?_
    refine s_det (D.pick rfl rfl rfl rfl) rfl ?_
    refine s_nil ?_
    refine acond_t rfl ?_
    refine aseq ?_
    refine areg rfl ?_
    refine s_det (D.assign rfl) rfl ?_
    refine s_nil ?_
    refine aret ?_
    exact ⟨[_], ⟨⟨rfl, rfl⟩, trivial⟩, bvF (by unfold okD; omega), rfl⟩
  · replace h5 := of_decide_eq_false h5
    refine s_det (D.move rfl) rfl ?_
    refine s_yes rfl rfl ?_
    refine s_det (D.move rfl) rfl ?_
    refine s_yes rfl rfl ?_
    refine s_det (D.len_m rfl rfl) rfl ?_
    refine s_yes rfl rfl ?_
    refine s_cmp (D.gtr rfl rfl rfl) rfl (fun h9 => ?_) (fun h9 => ?_)
    · replace h9 := of_decide_eq_true h9
      refine s_det (D.pick rfl rfl rfl rfl) rfl ?_
      refine s_det (D.move rfl) rfl ?_
      refine s_no rfl rfl rfl rfl ?_
      refine s_no rfl rfl rfl rfl ?_
      refine s_det (D.pick rfl rfl rfl rfl) rfl ?_
      refine s_nil ?_
      refine acond_t rfl ?_
      refine aseq ?_
      refine areg rfl ?_
      refine s_det (D.assign rfl) rfl ?_
      refine s_nil ?_
      refine aret ?_
      exact ⟨[_], ⟨⟨rfl, rfl⟩, trivial⟩, bvF (by unfold okD; omega), rfl⟩
    · replace h9 := of_decide_eq_false h9
      refine s_det (D.pick rfl rfl rfl rfl) rfl ?_
      refine s_det (D.move rfl) rfl ?_
      refine s_yes rfl rfl ?_
      refine s_det (D.move rfl) rfl ?_
      refine s_yes rfl rfl ?_
      refine s_cmp (D.call (evc rfl (evc rfl ev0)) b_slices_ContainsFunc (slices_ContainsFunc d (by omega) 121 [] b_shape_May_1 rfl _ (fun x _ => shape_May_1 x) _ (anyR d))) rfl (fun h13 => ?_) (fun h13 => ?_)
      · replace h13 := of_decide_eq_true h13
        refine s_det (D.pick rfl rfl rfl rfl) rfl ?_
        refine s_nil ?_
        refine acond_t rfl ?_
        refine aseq ?_
        refine areg rfl ?_
        refine s_det (D.assign rfl) rfl ?_
        refine s_nil ?_
        refine aret ?_
        exact ⟨[_], ⟨⟨rfl, rfl⟩, trivial⟩, bvF (fun h => h13 h.2.2.1), rfl⟩
      · replace h13 := of_decide_eq_false h13
        have hr : allR d := Decidable.byContradiction h13
        refine s_det (D.pick rfl rfl rfl rfl) rfl ?_
        refine s_nil ?_
        refine acond_f rfl ?_
        refine askip ?_
        refine aseq ?_
        refine areg rfl ?_
        refine s_det (D.move rfl) rfl ?_
        refine s_det (D.call (evc rfl ev0) b_shape_Product (shape_ProductR d hr (by omega))) rfl ?_
        refine s_det (D.leq rfl rfl rfl) rfl ?_
        refine s_det (D.assign rfl) rfl ?_
        refine s_nil ?_
        refine aret ?_
        exact ⟨[_], ⟨⟨rfl, rfl⟩, trivial⟩, bvI (by exact ⟨fun h => ⟨by omega, by omega, hr, h⟩, fun h => h.2.2.2⟩), rfl⟩

set_option maxRecDepth 10000 in
theorem slices_Clone_s (l : List Int) (hl : l.length ≤ 4398046511104) (σ : AH) : ACalls Try.prog 116 [ints l] σ (fun y σ' => (l = [] ∧ (∃ k, y = .list true k []) ∧ σ' = σ) ∨ OwnS iv 1 l σ y σ') := by
  skip
  refine acalls Try.func116 rfl rfl (by decide) rfl rfl ?_
  refine aseq ?_
  refine areg rfl ?_
  refine s_det (D.assign rfl) rfl ?_
  refine s_nil ?_
  refine aseq ?_
  refine aseq ?_
  refine areg rfl ?_
  refine s_det (D.move rfl) rfl ?_
  refine s_act rfl (A.eqlNil rfl rfl fun c4 h4 => ?_)
  by_cases hc : c4 = true
  · subst hc
    refine s_nil ?_
    refine acond_t rfl ?_
    refine aseq ?_
    refine areg rfl ?_
    refine s_det (D.assign rfl) rfl ?_
    refine s_nil ?_
    refine aret ?_
    exact ⟨[_], ⟨⟨rfl, rfl⟩, trivial⟩, .inl ⟨List.map_eq_nil_iff.1 (h4 rfl), ⟨_, rfl⟩, rfl⟩⟩
  · obtain rfl : c4 = false := by simpa using hc
    refine s_nil ?_
    refine acond_f rfl ?_
    refine askip ?_
    refine aseq ?_
    refine areg rfl ?_
    refine s_det (D.lit sl_int p0 rfl rfl (by decide)) rfl ?_
    refine s_det (D.move rfl) rfl ?_
    by_cases hl0 : l = []
    · subst hl0
      refine s_act rfl (A.append_e rfl (.list rfl) sl_int rfl (by simp) (by decide) rfl (fun _ => ?_) (fun h => absurd rfl h))
      refine s_det (D.assign rfl) rfl ?_
      refine s_nil ?_
      refine aret ?_
      exact ⟨[_], ⟨⟨rfl, rfl⟩, trivial⟩, .inl ⟨rfl, ⟨_, rfl⟩, rfl⟩⟩
    refine s_act rfl (A.append_e rfl (.list rfl) sl_int rfl (by simp; omega) (by decide) rfl (fun h => absurd (List.map_eq_nil_iff.1 h) hl0) (fun _ b7 hb7 => ?_))
    refine s_det (D.assign rfl) rfl ?_
    refine s_nil ?_
    refine aret ?_
    exact ⟨[_], ⟨⟨rfl, rfl⟩, trivial⟩, .inr ⟨b7, hb7, by simp [tupOf], rfl⟩⟩

theorem slices_Clone_own (l : List Int) (hl : l.length ≤ 4398046511104) (σ : AH) : ACalls Try.prog 116 [ints l] σ (OwnS iv 1 l σ) := by
  refine (slices_Clone_s l hl σ).own0 fun y σ' hy => ?_
  rcases hy with ⟨rfl, ⟨k, rfl⟩, rfl⟩ | hy
  · exact .inr ⟨k, 1, rfl, fun b hb => ⟨b, hb, rfl, rfl⟩⟩
  · exact .inl hy
theorem slices_Clone (l : List Int) (hl : l.length ≤ 4398046511104) : Pure Try.prog 116 [ints l] (ints l) := pure_of_own fun σ => slices_Clone_own l hl σ

set_option maxRecDepth 10000 in
theorem shape_New_s (d : List Int) (h : okD d) (σ : AH) : ACalls Try.prog 98 [ints d] σ (OwnTs (zerosT d) σ) := by
  obtain ⟨m, hm, hm1⟩ := prod_nat h.2.2.1
  refine acalls Try.func98 rfl rfl (by decide) rfl rfl ?_
  refine aseq ?_
  refine areg rfl ?_
  refine s_act rfl (A.alloc rfl rfl rfl fun b2 hb2 => ?_)
  refine s_nil ?_
  refine aseq ?_
  refine areg rfl ?_
  refine s_det (D.move rfl) rfl ?_
  refine s_act rfl (A.call (evc rfl ev0) b_slices_Clone (slices_Clone_own d (by have := h.2.1; omega) _) fun y σ' hy => ?_)
  obtain ⟨b4, hb4, rfl, rfl⟩ := hy
  refine s_det (D.move rfl) rfl ?_
  refine s_det (D.call (evc rfl ev0) b_shape_Product (Pure.to (shape_Product d h) (congrArg iv hm))) rfl ?_
  refine s_act rfl (A.make_x rfl sl_int (by have := h.2.2.2; omega) fun b7 hb7 => ?_)
  refine s_det (D.build rfl rfl ⟨_, rfl, rfl, rfl, by simp, ⟨_, rfl, rfl, rfl, by simp, rfl⟩⟩) rfl ?_
  refine s_do (A.store rfl rfl (AH.get_set hb7 (AH.get_set hb4 (AH.set_self ..))) rfl rfl (by rfl) rfl rfl ?_)
  refine s_nil ?_
  refine aret ?_
  refine ⟨[_], ⟨⟨.inr ⟨_, _, _, _, _, _, _, rfl, AH.set_self .., rfl, rfl⟩, rfl⟩, trivial⟩, b4, b7, (AH.set_none hb4).1, (AH.set_none (AH.set_none hb7).1).1, (AH.set_none hb7).2, ?_, ?_, ?_, ?_⟩
  · simp [zerosT, hm, tupOf]; rfl
  · rw [AH.set_ne (AH.set_none hb4).2, AH.set_ne (Ne.symm (AH.set_none hb7).2), AH.set_self]; rfl
  · rw [AH.set_ne (AH.set_none (AH.set_none hb7).1).2, AH.set_self]; simp [zerosT, hm]
  · exact ((((Sub.refl σ).set hb2 _).set (AH.set_none hb4).1 _).set (AH.set_none (AH.set_none hb7).1).1 _).set hb2 _

theorem shape_New_own (d : List Int) (h : okD d) (σ : AH) : ACalls Try.prog 98 [ints d] σ (OwnT (zerosT d) σ) := (shape_New_s d h σ).ownT

set_option maxRecDepth 10000 in
theorem shape_Is (t : Tn) : Pure Try.prog 100 [tv t] (bv (decide (okTn t))) := by
  intro σ
  refine acalls Try.func100 rfl rfl (by decide) rfl rfl ?_
  refine aseq ?_
  refine areg rfl ?_
  refine s_det (D.box_i rfl rfl) rfl ?_
  refine s_det (D.assign rfl) rfl ?_
  refine s_nil ?_
  refine aseq ?_
  refine adraw [.det 0, .det 1, .det 2, .det 3, .det 4, .det 5, .det 6, .det 7, .det 8, .det 9, .det 10, .det 11, .det 12] rfl (by kernel_rfl) ?_
  refine d_det rfl (D.field_i rfl rfl rfl) rfl ?_
  refine d_det rfl (D.load_i rfl rfl) rfl ?_
  refine d_cmp rfl (D.call (evc rfl ev0) b_shape_May (shape_May _)) rfl (fun h5 => ?_) (fun h5 => ?_)
  · replace h5 := of_decide_eq_true h5
    refine d_det rfl (D.move rfl) rfl ?_
    refine d_yes rfl rfl rfl (D.field_i rfl rfl rfl) rfl ?_
    refine d_yes rfl rfl rfl (D.load_i rfl rfl) rfl ?_
    refine d_yes rfl rfl rfl (D.len_m rfl rfl) rfl ?_
    refine d_yes rfl rfl rfl (D.field_i rfl rfl rfl) rfl ?_
    refine d_yes rfl rfl rfl (D.load_i rfl rfl) rfl ?_
    refine d_yes rfl rfl rfl (D.call (evc rfl ev0) b_shape_Product (shape_Product _ (by first | assumption | omega))) rfl ?_
    refine d_yes rfl rfl rfl (D.eql rfl rfl rfl) rfl ?_
    refine d_det rfl (D.pick rfl rfl rfl rfl) rfl ?_
    refine d_det rfl (D.assign rfl) rfl ?_
    refine d_nil ?_
    refine aret ?_
    exact ⟨[_], ⟨⟨rfl, rfl⟩, trivial⟩, bvI ⟨fun h => And.intro h5 h, fun h => h.2⟩, rfl⟩
  · replace h5 := of_decide_eq_false h5
    refine d_det rfl (D.move rfl) rfl ?_
    refine d_no rfl rfl rfl rfl rfl ?_
    refine d_no rfl rfl rfl rfl rfl ?_
    refine d_no rfl rfl rfl rfl rfl ?_
    refine d_no rfl rfl rfl rfl rfl ?_
    refine d_no rfl rfl rfl rfl rfl ?_
    refine d_no rfl rfl rfl rfl rfl ?_
    refine d_no rfl rfl rfl rfl rfl ?_
    refine d_det rfl (D.pick rfl rfl rfl rfl) rfl ?_
    refine d_det rfl (D.assign rfl) rfl ?_
    refine d_nil ?_
    refine aret ?_
    exact ⟨[_], ⟨⟨rfl, rfl⟩, trivial⟩, bvF fun h => h5 h.1, rfl⟩

set_option maxRecDepth 10000 in
theorem shape_All_1 (t : Tn) : Pure Try.prog 123 [tv t] (bv (decide (¬ okTn t))) := by
  intro σ
  refine acalls Try.func123 rfl rfl (by decide) rfl rfl ?_
  refine aseq ?_
  refine areg rfl ?_
  refine s_det (D.box_i rfl rfl) rfl ?_
  refine s_det (D.assign rfl) rfl ?_
  refine s_nil ?_
  refine aseq ?_
  refine areg rfl ?_
  refine s_det (D.load_i rfl rfl) rfl ?_
  refine s_det (D.call (evc rfl ev0) b_shape_Is (shape_Is _)) rfl ?_
  refine s_det (D.not rfl rfl) rfl ?_
  refine s_det (D.assign rfl) rfl ?_
  refine s_nil ?_
  refine aret ?_
  exact ⟨[_], ⟨⟨rfl, rfl⟩, trivial⟩, (by rw [decide_not]; rfl), rfl⟩

set_option maxRecDepth 10000 in
theorem slices_IndexFunc_T (c : Bool) (l : List Tn) (hl : l.length ≤ 4611686018427387904) (f : FuncId) (cap : List AV) (hb : bodied Try.prog f = true) (hcap : cap.all (fun a => match a with | .agg _ => false | .tup _ => false | _ => true) = true) (p : Tn → Bool)
    (hp : ∀ x ∈ l, Pure Try.prog f (tv x :: cap) (bv (p x))) : Pure Try.prog 128 [.list c 2 (l.map tv), .fn (.func f) cap] (iv (fidx p l)) := by
  intro σ
  refine acalls Try.func128 rfl rfl (by decide) rfl rfl ?_
  refine aseq ?_
  refine areg rfl ?_
  refine s_det (D.assign rfl) rfl ?_
  refine s_nil ?_
  refine aseq ?_
  refine aseq ?_
  refine areg rfl ?_
  refine s_det (D.move rfl) rfl ?_
  refine s_det (D.len_m rfl rfl) rfl ?_
  refine s_det (D.move rfl) rfl ?_
  refine s_nil ?_
  refine ablock ?_
  -- LOOP writes [8] keeps [0, 1, 7]
  refine aloop (ι := Nat) (fun i => i ≤ l.length ∧ (l.take i).any p = false) (fun i => l.length - i) (fun i => [(0, .list c 2 (l.map tv)), (1, .fn (.func f) cap), (7, iv l.length), (8, iv i)]) (fun i => σ) 0 ⟨by omega, by simp⟩ ?_ rfl fun i hi => ?_
  · exact (.cons rfl (.cons rfl (.cons rfl (.cons rfl .nil))))
  obtain ⟨hi, ha⟩ := hi
  refine aseq ?_
  refine areg rfl ?_
  refine s_cmp (D.lss rfl rfl rfl) rfl (fun h9 => ?_) (fun h9 => ?_)
  · replace h9 := of_decide_eq_true h9
    have hlt : i < l.length := by omega
    refine s_nil ?_
    refine aseq ?_
    refine acond_t rfl ?_
    refine askip ?_
    refine aseq ?_
    refine ablock ?_
    refine aseq ?_
    refine areg rfl ?_
    refine s_det (D.move rfl) rfl ?_
    refine s_det (D.assign rfl) rfl ?_
    refine s_nil ?_
    refine aseq ?_
    refine areg rfl ?_
    refine s_det (D.move rfl) rfl ?_
    refine s_det (D.move rfl) rfl ?_
    refine s_det (D.move rfl) rfl ?_
    refine s_det (D.idx_m rfl rfl (by omega) (get_lt (i := i) hlt) rfl) rfl ?_
    refine s_det (D.load_i rfl rfl) rfl ?_
    refine s_det (D.callV rfl (evc rfl ev0) hb hcap (hp _ (List.getElem_mem hlt))) rfl ?_
    refine s_nil ?_
    -- cond t16 unknown
    refine acond rfl (fun h16 => ?_) (fun h16 => ?_)
    · refine aseq ?_
      refine areg rfl ?_
      refine s_det (D.move rfl) rfl ?_
      refine s_det (D.assign rfl) rfl ?_
      refine s_nil ?_
      refine aret ?_
      exact ⟨[_], ⟨⟨rfl, rfl⟩, trivial⟩, (by rw [fidx_hit ha (get_lt hlt) h16]; rfl), rfl⟩
    · refine askip ?_
      refine areg rfl ?_
      refine s_det (D.add rfl rfl (w64 (by omega) (by omega))) rfl ?_
      refine s_det (D.move rfl) rfl ?_
      refine s_nil ?_
      exact ⟨i + 1, ⟨hlt, take_any ha (get_lt hlt) h16⟩, by omega, (.cons rfl (.cons rfl (.cons rfl (.cons rfl .nil)))), rfl⟩
  · replace h9 := of_decide_eq_false h9
    refine s_nil ?_
    refine aseq ?_
    refine acond_f rfl ?_
    refine aexit ?_
    refine aseq ?_
    refine areg rfl ?_
    refine s_det (D.assign rfl) rfl ?_
    refine s_nil ?_
    refine aret ?_
    exact ⟨[_], ⟨⟨rfl, rfl⟩, trivial⟩, (by rw [fidx_miss (by rw [show i = l.length by omega, List.take_length] at ha; exact ha)]; rfl), rfl⟩

set_option maxRecDepth 10000 in
theorem slices_ContainsFunc_T (c : Bool) (l : List Tn) (hl : l.length ≤ 4611686018427387904) (f : FuncId) (cap : List AV) (hb : bodied Try.prog f = true) (hcap : cap.all (fun a => match a with | .agg _ => false | .tup _ => false | _ => true) = true) (p : Tn → Bool)
    (hp : ∀ x ∈ l, Pure Try.prog f (tv x :: cap) (bv (p x))) (r : Bool) (hr : l.any p = r) : Pure Try.prog 122 [.list c 2 (l.map tv), .fn (.func f) cap] (bv r) := by
  intro σ
  refine acalls Try.func122 rfl rfl (by decide) rfl rfl ?_
  refine aseq ?_
  refine areg rfl ?_
  refine s_det (D.assign rfl) rfl ?_
  refine s_nil ?_
  refine aseq ?_
  refine areg rfl ?_
  refine s_det (D.move rfl) rfl ?_
  refine s_det (D.move rfl) rfl ?_
  refine s_det (D.call (evc rfl (evc rfl ev0)) b_slices_IndexFunc_128 (slices_IndexFunc_T c l hl f cap hb hcap p hp)) rfl ?_
  refine s_det (D.geq rfl rfl rfl) rfl ?_
  refine s_det (D.assign rfl) rfl ?_
  refine s_nil ?_
  refine aret ?_
  exact ⟨[_], ⟨⟨rfl, rfl⟩, trivial⟩, (by rw [← hr, ← fidx_any]; rfl), rfl⟩

set_option maxRecDepth 10000 in
theorem shape_All (a b : Tn) : Pure Try.prog 104 [.list true 2 [tv a, tv b]] (bv (decide (okTn a ∧ okTn b))) := by
  intro σ
  refine acalls Try.func104 rfl rfl (by decide) rfl rfl ?_
  refine aseq ?_
  refine areg rfl ?_
  refine s_det (D.assign rfl) rfl ?_
  refine s_nil ?_
  refine aseq ?_
  refine areg rfl ?_
  refine s_det (D.move rfl) rfl ?_
  refine s_det (D.call (evc rfl (evc rfl ev0)) b_slices_ContainsFunc_122 (slices_ContainsFunc_T true [a, b] (by simp) 123 [] b_shape_All_1 rfl _ (fun x _ => shape_All_1 x) _ rfl)) rfl ?_
  refine s_det (D.not rfl rfl) rfl ?_
  refine s_det (D.assign rfl) rfl ?_
  refine s_nil ?_
  refine aret ?_
  exact ⟨[_], ⟨⟨rfl, rfl⟩, trivial⟩, (by
    by_cases h1 : okTn a <;> by_cases h2 : okTn b <;> simp [h1, h2, tupOf]), rfl⟩

set_option maxRecDepth 10000 in
theorem slices_Equal (a b : List Int) (ha : a.length ≤ 4611686018427387904) (hb : b.length ≤ 4611686018427387904) : Pure Try.prog 114 [ints a, ints b] (bv (decide (a = b))) := by
  intro σ
  refine acalls Try.func114 rfl rfl (by decide) rfl rfl ?_
  refine aseq ?_
  refine areg rfl ?_
  refine s_det (D.assign rfl) rfl ?_
  refine s_nil ?_
  refine aseq ?_
  refine aseq ?_
  refine areg rfl ?_
  refine s_det (D.move rfl) rfl ?_
  refine s_det (D.len_m rfl rfl) rfl ?_
  refine s_det (D.move rfl) rfl ?_
  refine s_det (D.len_m rfl rfl) rfl ?_
  refine s_cmp (D.neq rfl rfl rfl) rfl (fun h10 => ?_) (fun h10 => ?_)
  · replace h10 := of_decide_eq_true h10
    refine s_nil ?_
    refine acond_t rfl ?_
    refine aseq ?_
    refine areg rfl ?_
    refine s_det (D.assign rfl) rfl ?_
    refine s_nil ?_
    refine aret ?_
    exact ⟨[_], ⟨⟨rfl, rfl⟩, trivial⟩, bvF (eq_false_of_length (by omega)), rfl⟩
  · replace h10 := of_decide_eq_false h10
    refine s_nil ?_
    refine acond_f rfl ?_
    refine askip ?_
    refine aseq ?_
    refine aseq ?_
    refine areg rfl ?_
    refine s_det (D.move rfl) rfl ?_
    refine s_det (D.len_m rfl rfl) rfl ?_
    refine s_det (D.move rfl) rfl ?_
    refine s_nil ?_
    refine ablock ?_
    -- LOOP writes [13] keeps [0, 1, 12]
    refine aloop (ι := Nat) (fun i => i ≤ a.length ∧ ∀ j, j < i → a[j]? = b[j]?) (fun i => a.length - i) (fun i => [(0, ints a), (1, ints b), (12, iv a.length), (13, iv i)]) (fun i => σ) 0 ⟨by omega, fun j hj => by omega⟩ ?_ rfl fun i hi => ?_
    · exact (.cons rfl (.cons rfl (.cons rfl (.cons rfl .nil))))
    obtain ⟨hi, heq⟩ := hi
    refine aseq ?_
    refine areg rfl ?_
    refine s_cmp (D.lss rfl rfl rfl) rfl (fun h14 => ?_) (fun h14 => ?_)
    · replace h14 := of_decide_eq_true h14
      have hia : i < a.length := by omega
      have hib : i < b.length := by omega
      have hva := get_lt hia
      have hvb := get_lt hib
      refine s_nil ?_
      refine aseq ?_
      refine acond_t rfl ?_
      refine askip ?_
      refine aseq ?_
      refine ablock ?_
      refine aseq ?_
      refine areg rfl ?_
      refine s_det (D.move rfl) rfl ?_
      refine s_det (D.assign rfl) rfl ?_
      refine s_nil ?_
      refine aseq ?_
      refine adraw [.det 0, .det 1, .det 2, .det 3, .det 4, .det 5, .det 6, .det 7, .det 8] rfl (by kernel_rfl) ?_
      refine d_det rfl (D.move rfl) rfl ?_
      refine d_det rfl (D.move rfl) rfl ?_
      refine d_det rfl (D.idx_m rfl rfl (by omega) hva rfl) rfl ?_
      refine d_det rfl (D.load_i rfl rfl) rfl ?_
      refine d_det rfl (D.move rfl) rfl ?_
      refine d_det rfl (D.move rfl) rfl ?_
      refine d_det rfl (D.idx_m rfl rfl (by omega) hvb rfl) rfl ?_
      refine d_det rfl (D.load_i rfl rfl) rfl ?_
      refine d_cmp rfl (D.neq rfl rfl rfl) rfl (fun h24 => ?_) (fun h24 => ?_)
      · replace h24 := of_decide_eq_true h24
        refine d_nil ?_
        refine acond_t rfl ?_
        refine aseq ?_
        refine areg rfl ?_
        refine s_det (D.assign rfl) rfl ?_
        refine s_nil ?_
        refine aret ?_
        exact ⟨[_], ⟨⟨rfl, rfl⟩, trivial⟩, bvF (fun e => h24 (by subst e; rfl)), rfl⟩
      · replace h24 := of_decide_eq_false h24
        refine d_nil ?_
        refine acond_f rfl ?_
        refine askip ?_
        refine areg rfl ?_
        refine s_det (D.add rfl rfl (w64 (by omega) (by omega))) rfl ?_
        refine s_det (D.move rfl) rfl ?_
        refine s_nil ?_
        refine ⟨i + 1, ⟨by omega, fun j hj => ?_⟩, by omega, (.cons rfl (.cons rfl (.cons rfl (.cons rfl .nil)))), rfl⟩
        by_cases hji : j = i
        · subst hji; rw [hva, hvb]; simpa using h24
        · exact heq j (by omega)
    · replace h14 := of_decide_eq_false h14
      refine s_nil ?_
      refine aseq ?_
      refine acond_f rfl ?_
      refine aexit ?_
      refine aseq ?_
      refine areg rfl ?_
      refine s_det (D.assign rfl) rfl ?_
      refine s_nil ?_
      refine aret ?_
      exact ⟨[_], ⟨⟨rfl, rfl⟩, trivial⟩, bvT (by
        apply List.ext_getElem?
        intro j
        by_cases hj : j < a.length
        · exact heq j (by omega)
        · rw [List.getElem?_eq_none (by omega), List.getElem?_eq_none (by omega)]), rfl⟩

set_option maxRecDepth 10000 in
theorem shape_Check (d : List Int) : Pure Try.prog 88 [ints d] (iv (if okD d then 0 else 1)) := by
  intro σ
  refine acalls Try.func88 rfl rfl (by decide) rfl rfl ?_
  refine aseq ?_
  refine areg rfl ?_
  refine s_det (D.assign rfl) rfl ?_
  refine s_nil ?_
  refine aseq ?_
  refine aseq ?_
  refine areg rfl ?_
  refine s_det (D.move rfl) rfl ?_
  refine s_cmp (D.call (evc rfl ev0) b_shape_May (shape_May _)) rfl (fun h4 => ?_) (fun h4 => ?_)
  · replace h4 := of_decide_eq_true h4
    refine s_det (D.not rfl rfl) rfl ?_
    refine s_nil ?_
    refine acond_f rfl ?_
    refine askip ?_
    refine aseq ?_
    refine areg rfl ?_
    refine s_det (D.assign rfl) rfl ?_
    refine s_nil ?_
    refine aret ?_
    exact ⟨[_], ⟨⟨rfl, rfl⟩, trivial⟩, (by rw [if_pos h4]; rfl), rfl⟩
  · replace h4 := of_decide_eq_false h4
    refine s_det (D.not rfl rfl) rfl ?_
    refine s_nil ?_
    refine acond_t rfl ?_
    refine aseq ?_
    refine areg rfl ?_
    refine s_det (D.assign rfl) rfl ?_
    refine s_nil ?_
    refine aret ?_
    exact ⟨[_], ⟨⟨rfl, rfl⟩, trivial⟩, (by rw [if_neg h4]; rfl), rfl⟩

set_option maxRecDepth 10000 in
theorem shape_Tensor (t : Tn) : Pure Try.prog 27 [tv t] (iv (if okTn t then 0 else 1)) := by
  intro σ
  refine acalls Try.func27 rfl rfl (by decide) rfl rfl ?_
  refine aseq ?_
  refine areg rfl ?_
  refine s_det (D.box_i rfl rfl) rfl ?_
  refine s_det (D.assign rfl) rfl ?_
  refine s_nil ?_
  refine aseq ?_
  refine aseq ?_
  refine areg rfl ?_
  refine s_det (D.load_i rfl rfl) rfl ?_
  refine s_cmp (D.call (evc rfl ev0) b_shape_Is (shape_Is _)) rfl (fun h4 => ?_) (fun h4 => ?_)
  · replace h4 := of_decide_eq_true h4
    refine s_det (D.not rfl rfl) rfl ?_
    refine s_nil ?_
    refine acond_f rfl ?_
    refine askip ?_
    refine aseq ?_
    refine areg rfl ?_
    refine s_det (D.assign rfl) rfl ?_
    refine s_nil ?_
    refine aret ?_
    exact ⟨[_], ⟨⟨rfl, rfl⟩, trivial⟩, (by rw [if_pos h4]; rfl), rfl⟩
  · replace h4 := of_decide_eq_false h4
    refine s_det (D.not rfl rfl) rfl ?_
    refine s_nil ?_
    refine acond_t rfl ?_
    refine aseq ?_
    refine areg rfl ?_
    refine s_det (D.assign rfl) rfl ?_
    refine s_nil ?_
    refine aret ?_
    exact ⟨[_], ⟨⟨rfl, rfl⟩, trivial⟩, (by rw [if_neg h4]; rfl), rfl⟩

set_option maxRecDepth 10000 in
theorem shape_Cells (d : List Int) : Pure Try.prog 26 [ints d] (.tup [iv (cellsS d).1, iv (cellsS d).2]) := by
  intro σ
  refine acalls Try.func26 rfl rfl (by decide) rfl rfl ?_
  refine aseq ?_
  refine areg rfl ?_
  refine s_det (D.assign rfl) rfl ?_
  refine s_det (D.assign rfl) rfl ?_
  refine s_nil ?_
  refine aseq ?_
  refine aseq ?_
  refine areg rfl ?_
  refine s_det (D.move rfl) rfl ?_
  refine s_cmp (D.call (evc rfl ev0) b_shape_May (shape_May _)) rfl (fun h5 => ?_) (fun h5 => ?_)
  · replace h5 := of_decide_eq_true h5
    refine s_det (D.not rfl rfl) rfl ?_
    refine s_nil ?_
    refine acond_f rfl ?_
    refine askip ?_
    refine aseq ?_
    refine areg rfl ?_
    refine s_det (D.move rfl) rfl ?_
    refine s_det (D.call (evc rfl ev0) b_shape_Product (shape_Product _ (by first | assumption | omega))) rfl ?_
    refine s_det (D.assign rfl) rfl ?_
    refine s_det (D.assign rfl) rfl ?_
    refine s_nil ?_
    refine aret ?_
    exact ⟨[_, _], ⟨⟨rfl, rfl⟩, ⟨rfl, rfl⟩, trivial⟩, (by rw [cellsS, if_pos h5]; rfl), rfl⟩
  · replace h5 := of_decide_eq_false h5
    refine s_det (D.not rfl rfl) rfl ?_
    refine s_nil ?_
    refine acond_t rfl ?_
    refine aseq ?_
    refine areg rfl ?_
    refine s_det (D.assign rfl) rfl ?_
    refine s_det (D.assign rfl) rfl ?_
    refine s_nil ?_
    refine aret ?_
    exact ⟨[_, _], ⟨⟨rfl, rfl⟩, ⟨rfl, rfl⟩, trivial⟩, (by rw [cellsS, if_neg h5]; rfl), rfl⟩

set_option maxRecDepth 10000 in
theorem shape_Strides_s (d : List Int) (h : allR d) (hl : d.length ≤ 3) (σ : AH) : ACalls Try.prog 101 [ints d] σ (OwnS iv 1 (strides d) σ) := by
  have hs := strides_length d
  refine acalls Try.func101 rfl rfl (by decide) rfl rfl ?_
  refine aseq ?_
  refine areg rfl ?_
  refine s_det (D.assign rfl) rfl ?_
  refine s_nil ?_
  refine aseq ?_
  refine areg rfl ?_
  refine s_det (D.move rfl) rfl ?_
  refine s_det (D.len_m rfl rfl) rfl ?_
  refine s_act rfl (A.make_x rfl sl_int (by omega) fun b7 hb7 => ?_)
  refine s_det (D.assign rfl) rfl ?_
  refine s_nil ?_
  refine aseq ?_
  refine aseq ?_
  refine areg rfl ?_
  refine s_det (D.move rfl) rfl ?_
  refine s_det (D.len_m rfl rfl) rfl ?_
  refine s_det (D.move rfl) rfl ?_
  refine s_nil ?_
  refine ablock ?_
  -- LOOP writes [10] keeps [0, 3, 9]
  refine aloop (ι := Nat) (fun i => i ≤ d.length) (fun i => d.length - i) (fun i => [(0, ints d), (3, .ref b7 1 0 d.length), (9, iv d.length), (10, iv i)]) (fun i => σ.set b7 (rowI ((strides d).take i ++ List.replicate (d.length - i) 0))) 0 (by omega) ?_ (by simp) fun i hi => ?_
  · exact (.cons rfl (.cons rfl (.cons rfl (.cons rfl .nil))))
  refine aseq ?_
  refine areg rfl ?_
  refine s_cmp (D.lss rfl rfl rfl) rfl (fun h11 => ?_) (fun h11 => ?_)
  · replace h11 := of_decide_eq_true h11
    have hlt : i < d.length := by omega
    refine s_nil ?_
    refine aseq ?_
    refine acond_t rfl ?_
    refine askip ?_
    refine aseq ?_
    refine ablock ?_
    refine aseq ?_
    refine areg rfl ?_
    refine s_det (D.move rfl) rfl ?_
    refine s_det (D.assign rfl) rfl ?_
    refine s_nil ?_
    refine areg rfl ?_
    refine s_det (D.move rfl) rfl ?_
    refine s_det (D.move rfl) rfl ?_
    refine s_det (D.move rfl) rfl ?_
    refine s_det (D.move rfl) rfl ?_
    refine s_det (D.add rfl rfl (w64 (by omega) (by omega))) rfl ?_
    refine s_det (D.cut_lo (n := i + 1) rfl rfl (by omega) rfl) rfl ?_
    refine s_det (D.call (evc rfl ev0) b_shape_Product (shape_ProductR (d.drop (i + 1)) (allR_drop h _) (by simp; omega))) rfl ?_
    refine s_det (D.idx_r rfl rfl (by omega) rfl) rfl ?_
    refine s_do (A.store_r rfl rfl (by simp; omega) rfl ?_)
    refine s_nil ?_
    refine areg rfl ?_
    refine s_det (D.add rfl rfl (w64 (by omega) (by omega))) rfl ?_
    refine s_det (D.move rfl) rfl ?_
    refine s_nil ?_
    refine ⟨i + 1, by omega, by omega, (.cons rfl (.cons rfl (.cons rfl (.cons rfl .nil)))), ?_⟩
    rw [fill_set hs (by omega) (strides_get d i hlt)]
  · replace h11 := of_decide_eq_false h11
    refine s_nil ?_
    refine aseq ?_
    refine acond_f rfl ?_
    refine aexit ?_
    refine aseq ?_
    refine areg rfl ?_
    refine s_det (D.move rfl) rfl ?_
    refine s_det (D.assign rfl) rfl ?_
    refine s_nil ?_
    refine aret ?_
    exact ⟨[_], ⟨⟨rfl, rfl⟩, trivial⟩, ⟨b7, hb7, by simp [hs, tupOf], by rw [fill_all hs (by omega)]⟩⟩

theorem shape_Strides_own (d : List Int) (h : okD d) (σ : AH) : ACalls Try.prog 101 [ints d] σ (OwnS iv 1 (strides d) σ) := shape_Strides_s d h.2.2.1 h.2.1 σ
theorem shape_Strides (d : List Int) (h : okD d) : Pure Try.prog 101 [ints d] (ints (strides d)) := pure_of_own fun σ => shape_Strides_own d h σ

set_option maxRecDepth 10000 in
theorem shape_Steps_s (d : List Int) (σ : AH) : ACalls Try.prog 29 [ints d] σ (OwnSEs (stepsS d).1 (iv (stepsS d).2) σ) := by
  skip
  refine acalls Try.func29 rfl rfl (by decide) rfl rfl ?_
  refine aseq ?_
  refine areg rfl ?_
  refine s_det (D.assign rfl) rfl ?_
  refine s_det (D.assign rfl) rfl ?_
  refine s_nil ?_
  refine aseq ?_
  refine aseq ?_
  refine areg rfl ?_
  refine s_det (D.move rfl) rfl ?_
  refine s_cmp (D.call (evc rfl ev0) b_shape_May (shape_May _)) rfl (fun h5 => ?_) (fun h5 => ?_)
  · replace h5 := of_decide_eq_true h5
    refine s_det (D.not rfl rfl) rfl ?_
    refine s_nil ?_
    refine acond_f rfl ?_
    refine askip ?_
    refine aseq ?_
    refine areg rfl ?_
    refine s_det (D.move rfl) rfl ?_
    refine s_act rfl (A.call (evc rfl ev0) b_shape_Strides (shape_Strides_own _ (by first | assumption | omega) _) fun y σ' hy => ?_)
    obtain ⟨b8, hb8, rfl, rfl⟩ := hy
    refine s_det (D.assign rfl) rfl ?_
    refine s_det (D.assign rfl) rfl ?_
    refine s_nil ?_
    refine aret ?_
    exact ⟨[_, _], ⟨⟨rfl, rfl⟩, ⟨rfl, rfl⟩, trivial⟩, by rw [stepsS, if_pos h5]; exact .inr ⟨_, rfl, b8, hb8, rfl, AH.set_self .., (Sub.refl σ).set hb8 _⟩⟩
  · replace h5 := of_decide_eq_false h5
    refine s_det (D.not rfl rfl) rfl ?_
    refine s_nil ?_
    refine acond_t rfl ?_
    refine aseq ?_
    refine areg rfl ?_
    refine s_det (D.assign rfl) rfl ?_
    refine s_det (D.assign rfl) rfl ?_
    refine s_nil ?_
    refine aret ?_
    exact ⟨[_, _], ⟨⟨rfl, rfl⟩, ⟨rfl, rfl⟩, trivial⟩, by rw [stepsS, if_neg h5]; exact .inl ⟨rfl, rfl, Sub.refl σ⟩⟩

theorem shape_Steps_own (d : List Int) (σ : AH) : ACalls Try.prog 29 [ints d] σ (OwnSE (stepsS d).1 (iv (stepsS d).2) σ) := (shape_Steps_s d σ).ownSE
theorem shape_Steps (d : List Int) : Pure Try.prog 29 [ints d] (.tup [ints (stepsS d).1, iv (stepsS d).2]) := pure_of_ownSE fun σ => shape_Steps_own d σ

end Go.Proofs.Ytpjcidlkdfebhaa.F
