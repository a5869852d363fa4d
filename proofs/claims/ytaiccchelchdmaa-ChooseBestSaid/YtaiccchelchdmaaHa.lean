/- Functions of the program and of the references: what they compute, by the layer Al. Made by a program of this session (wip/al/alfill.py) out of wip/al/specs. -/
import Derived.Test.YtaiccchelchdmaaBb
import Derived.Test.YtaiccchelchdmaaAlt
import Derived.Test.YtaiccchelchdmaaAs
import Derived.Test.YtaiccchelchdmaaProg
namespace Go.Proofs.Ytaiccchelchdmaa.F
open Go Go.Proofs.Al
set_option linter.unusedVariables false
set_option linter.unusedSimpArgs false
theorem sl_Item : slT Try.prog 22 = some (3, 24, .agg #[.int .i64 0, .int .i64 0, .int .i64 0]) := by kernel_rfl
theorem sl_int : slT Try.prog 23 = some (1, 8, .int .i64 0) := by kernel_rfl
theorem b_graduslaw15_ChooseTies : bodied Try.prog 3 = true := by kernel_rfl
theorem b_graduslaw15_ChooseBest : bodied Try.prog 4 = true := by kernel_rfl
theorem b_graduslaw15_ChooseLess : bodied Try.prog 5 = true := by kernel_rfl
theorem b_graduslaw15_ChooseFew : bodied Try.prog 6 = true := by kernel_rfl
theorem b_choose_Best : bodied Try.prog 7 = true := by kernel_rfl
theorem b_graduslaw15_num : bodied Try.prog 8 = true := by kernel_rfl
theorem b_graduslaw15_wakes : bodied Try.prog 9 = true := by kernel_rfl
theorem b_graduslaw15_Heavy : bodied Try.prog 10 = true := by kernel_rfl
theorem b_gradusref0_CopyItems : bodied Try.prog 11 = true := by kernel_rfl
theorem b_gradusref14_Items : bodied Try.prog 12 = true := by kernel_rfl
theorem b_gradusref14_Choices : bodied Try.prog 13 = true := by kernel_rfl
theorem b_choose_Cost : bodied Try.prog 14 = true := by kernel_rfl
theorem b_gradusref14_Cost : bodied Try.prog 15 = true := by kernel_rfl
theorem b_gradusref0_EqItems : bodied Try.prog 16 = true := by kernel_rfl
theorem b_choose_Least : bodied Try.prog 17 = true := by kernel_rfl
theorem b_choose_Fits : bodied Try.prog 18 = true := by kernel_rfl
theorem b_gradusref0_Num : bodied Try.prog 19 = true := by kernel_rfl
theorem b_gradusref14_Best : bodied Try.prog 20 = true := by kernel_rfl
theorem b_gradusref0_EqNumbers : bodied Try.prog 21 = true := by kernel_rfl
theorem b_graduslaw0_Within : bodied Try.prog 22 = true := by kernel_rfl
theorem b_choose_asked : bodied Try.prog 23 = true := by kernel_rfl
theorem b_choose_found : bodied Try.prog 24 = true := by kernel_rfl
theorem b_choose_chosen : bodied Try.prog 25 = true := by kernel_rfl
theorem b_choose_of : bodied Try.prog 26 = true := by kernel_rfl
theorem b_gradusref0_CopyNumbers : bodied Try.prog 27 = true := by kernel_rfl
theorem b_choose_may : bodied Try.prog 28 = true := by kernel_rfl
theorem b_choose_within : bodied Try.prog 29 = true := by kernel_rfl
theorem b_choose_search_from : bodied Try.prog 30 = true := by kernel_rfl
theorem b_slices_ContainsFunc : bodied Try.prog 31 = true := by kernel_rfl
theorem b_choose_chosen_1 : bodied Try.prog 32 = true := by kernel_rfl
theorem b_choose_sums_plus : bodied Try.prog 33 = true := by kernel_rfl
theorem b_choose_may_1 : bodied Try.prog 34 = true := by kernel_rfl
theorem b_slices_ContainsFunc_35 : bodied Try.prog 35 = true := by kernel_rfl
theorem b_slices_Clone : bodied Try.prog 36 = true := by kernel_rfl
theorem b_slices_IndexFunc : bodied Try.prog 37 = true := by kernel_rfl
theorem b_slices_IndexFunc_38 : bodied Try.prog 38 = true := by kernel_rfl
theorem eq_false_of_length {α : Type} {a b : List α} (h : a.length ≠ b.length) : a ≠ b := fun e => h (by rw [e])

set_option maxRecDepth 10000 in
theorem gradusref0_EqNumbers (a b : List Int) (ha : a.length ≤ 4611686018427387904) (hb : b.length ≤ 4611686018427387904) : Pure Try.prog 21 [ints a, ints b] (bv (decide (a = b))) := by
  intro σ
  refine acalls Try.func21 rfl rfl (by decide) rfl rfl ?_
  refine aseq ?_
  refine areg rfl ?_
  refine s_det (D.assign rfl) rfl ?_
  refine s_nil ?_
  refine aseq ?_
  refine aseq ?_
  refine areg rfl ?_
  refine s_det (D.move rfl) rfl ?_
  refine s_det (D.len_m rfl rfl) rfl ?_
  refine s_det (D.move rfl) rfl ?_
  refine s_det (D.len_m rfl rfl) rfl ?_
  refine s_cmp (D.neq rfl rfl rfl) rfl (fun h10 => ?_) (fun h10 => ?_)
  · replace h10 := of_decide_eq_true h10
    refine s_nil ?_
    refine acond_t rfl ?_
    refine aseq ?_
    refine areg rfl ?_
    refine s_det (D.assign rfl) rfl ?_
    refine s_nil ?_
    refine aret ?_
    refine ⟨[_], ⟨⟨rfl, rfl⟩, trivial⟩, ?_, rfl⟩
    rw [decide_eq_false (eq_false_of_length (by omega))]; rfl
  · replace h10 := of_decide_eq_false h10
    refine s_nil ?_
    refine acond_f rfl ?_
    refine askip ?_
    refine aseq ?_
    refine aseq ?_
    refine areg rfl ?_
    refine s_det (D.assign rfl) rfl ?_
    refine s_nil ?_
    refine ablock ?_
    -- LOOP writes [5] keeps [0, 1]
    refine aloop (ι := Nat) (fun i => i ≤ a.length ∧ ∀ j, j < i → a[j]? = b[j]?) (fun i => a.length - i) (fun i => [(0, ints a), (1, ints b), (5, iv i)]) (fun _ => σ) 0 ⟨by omega, fun j hj => by omega⟩ ?_ rfl fun i hi => ?_
    · exact .cons rfl (.cons rfl (.cons rfl .nil))
    obtain ⟨hi, heq⟩ := hi
    refine aseq ?_
    refine aseq ?_
    refine areg rfl ?_
    refine s_det (D.move rfl) rfl ?_
    refine s_det (D.move rfl) rfl ?_
    refine s_det (D.len_m rfl rfl) rfl ?_
    refine s_cmp (D.lss rfl rfl rfl) rfl (fun h14 => ?_) (fun h14 => ?_)
    · replace h14 := of_decide_eq_true h14
      have hia : i < a.length := by omega
      have hib : i < b.length := by omega
      have hva := get_lt hia
      have hvb := get_lt hib
      refine s_nil ?_
      refine acond_t rfl ?_
      refine askip ?_
      refine aseq ?_
      refine ablock ?_
      refine aseq ?_
      refine adraw [.det 0, .det 1, .det 2, .det 3, .det 4, .det 5, .det 6, .det 7, .det 8] rfl (by kernel_rfl) ?_
      refine d_det rfl (D.move rfl) rfl ?_
      refine d_det rfl (D.move rfl) rfl ?_
      refine d_det rfl (D.idx_m rfl rfl (by omega) hva rfl) rfl ?_
      refine d_det rfl (D.load_i rfl rfl) rfl ?_
      refine d_det rfl (D.move rfl) rfl ?_
      refine d_det rfl (D.move rfl) rfl ?_
      refine d_det rfl (D.idx_m rfl rfl (by omega) hvb rfl) rfl ?_
      refine d_det rfl (D.load_i rfl rfl) rfl ?_
      refine d_cmp rfl (D.neq rfl rfl rfl) rfl (fun h25 => ?_) (fun h25 => ?_)
      · replace h25 := of_decide_eq_true h25
        refine d_nil ?_
        refine acond_t rfl ?_
        refine aseq ?_
        refine areg rfl ?_
        refine s_det (D.assign rfl) rfl ?_
        refine s_nil ?_
        refine aret ?_
        refine ⟨[_], ⟨⟨rfl, rfl⟩, trivial⟩, ?_, rfl⟩
        rw [decide_eq_false (fun e => h25 (by subst e; rfl))]; rfl
      · replace h25 := of_decide_eq_false h25
        refine d_nil ?_
        refine acond_f rfl ?_
        refine askip ?_
        refine areg rfl ?_
        refine s_det (D.move rfl) rfl ?_
        refine s_det (D.add rfl rfl (w64 (by omega) (by omega))) rfl ?_
        refine s_det (D.assign rfl) rfl ?_
        refine s_nil ?_
        refine ⟨i + 1, ⟨by omega, fun j hj => ?_⟩, by omega, .cons rfl (.cons rfl (.cons rfl .nil)), rfl⟩
        by_cases hji : j = i
        · subst hji; rw [hva, hvb]; simpa using h25
        · exact heq j (by omega)
    · replace h14 := of_decide_eq_false h14
      refine s_nil ?_
      refine acond_f rfl ?_
      refine aexit ?_
      refine aseq ?_
      refine areg rfl ?_
      refine s_det (D.assign rfl) rfl ?_
      refine s_nil ?_
      refine aret ?_
      refine ⟨[_], ⟨⟨rfl, rfl⟩, trivial⟩, ?_, rfl⟩
      rw [decide_eq_true]; · rfl
      apply List.ext_getElem?
      intro j
      by_cases hj : j < a.length
      · exact heq j (by omega)
      · rw [List.getElem?_eq_none (by omega), List.getElem?_eq_none (by omega)]

set_option maxRecDepth 10000 in
theorem gradusref0_CopyNumbers_own (l : List Int) (hl : l.length ≤ 4398046511104) (σ : AH) : ACalls Try.prog 27 [ints l] σ (OwnS iv 1 l σ) := by
  skip
  refine acalls Try.func27 rfl rfl (by decide) rfl rfl ?_
  refine aseq ?_
  refine areg rfl ?_
  refine s_det (D.assign rfl) rfl ?_
  refine s_nil ?_
  refine aseq ?_
  refine areg rfl ?_
  refine s_det (D.assign rfl) rfl ?_
  refine s_nil ?_
  refine aseq ?_
  refine aseq ?_
  refine areg rfl ?_
  refine s_det (D.assign rfl) rfl ?_
  refine s_nil ?_
  refine aown (d := 3) (k := 1) rfl fun b hb => ?_
  refine ablock ?_
  -- LOOP writes [3, 4] keeps [0]
  refine aloop (ι := Nat × Nat × List Int) (fun s => s.1 ≤ l.length ∧ s.2.2 = l.take s.1 ∧ σ s.2.1 = none) (fun s => l.length - s.1) (fun s => [(0, ints l), (3, .ref s.2.1 1 0 s.2.2.length), (4, iv s.1)]) (fun s => σ.set s.2.1 (rowI s.2.2)) (0, b, []) ⟨by omega, rfl, hb⟩ ?_ rfl fun s hs => ?_
  · exact .cons rfl (.cons rfl (.cons rfl .nil))
  obtain ⟨i, b, acc⟩ := s
  obtain ⟨hi, hacc, hb⟩ := hs
  dsimp only at hi hacc hb
  refine aseq ?_
  refine aseq ?_
  refine areg rfl ?_
  refine s_det (D.move rfl) rfl ?_
  refine s_det (D.move rfl) rfl ?_
  refine s_det (D.len_m rfl rfl) rfl ?_
  refine s_cmp (D.lss rfl rfl rfl) rfl (fun h8 => ?_) (fun h8 => ?_)
  · replace h8 := of_decide_eq_true h8
    have hil : i < l.length := by omega
    have hv := get_lt hil
    have hal : acc.length = i := by rw [hacc]; simp; omega
    refine s_nil ?_
    refine acond_t rfl ?_
    refine askip ?_
    refine aseq ?_
    refine ablock ?_
    refine areg rfl ?_
    refine s_det (D.move rfl) rfl ?_
    refine s_det (D.move rfl) rfl ?_
    refine s_det (D.move rfl) rfl ?_
    refine s_det (D.idx_m rfl rfl (by omega) hv rfl) rfl ?_
    refine s_det (D.load_i rfl rfl) rfl ?_
    refine s_det (D.lit sl_int (pc rfl rfl p0) rfl rfl (by decide)) rfl ?_
    refine s_act rfl (A.append1 rfl (AH.set_self ..) rfl sl_int rfl (by dsimp only; omega) (by decide) rfl fun b17 hb17 => ?_)
    refine s_det (D.assign rfl) rfl ?_
    refine s_nil ?_
    refine areg rfl ?_
    refine s_det (D.move rfl) rfl ?_
    refine s_det (D.add rfl rfl (w64 (by omega) (by omega))) rfl ?_
    refine s_det (D.assign rfl) rfl ?_
    refine s_nil ?_
    exact ⟨(i + 1, b17, acc ++ [l[i]]), ⟨by simp only; omega, by rw [hacc, take_snoc hil], (AH.set_none hb17).1⟩, by simp only; omega, .cons rfl (.cons rfl (.cons rfl .nil)), by simp only; rw [AH.del_set_self hb]⟩
  · replace h8 := of_decide_eq_false h8
    refine s_nil ?_
    refine acond_f rfl ?_
    refine aexit ?_
    refine aseq ?_
    refine areg rfl ?_
    refine s_det (D.move rfl) rfl ?_
    refine s_det (D.assign rfl) rfl ?_
    refine s_nil ?_
    refine aret ?_
    have hacc' : acc = l := by rw [hacc]; exact List.take_of_length_le (by omega)
    subst hacc'
    exact ⟨[_], ⟨⟨rfl, rfl⟩, trivial⟩, b, hb, rfl, rfl⟩

theorem gradusref0_CopyNumbers (l : List Int) (hl : l.length ≤ 4398046511104) : Pure Try.prog 27 [ints l] (ints l) := pure_of_own fun σ => gradusref0_CopyNumbers_own l hl σ

set_option maxRecDepth 10000 in
theorem gradusref0_Num (n m : Int) : Pure Try.prog 19 [iv n, iv m] (bv (decide (0 ≤ n ∧ n ≤ m))) := by
  intro σ
  refine acalls Try.func19 rfl rfl (by decide) rfl rfl ?_
  refine aseq ?_
  refine areg rfl ?_
  refine s_det (D.assign rfl) rfl ?_
  refine s_nil ?_
  refine aseq ?_
  refine areg rfl ?_
  refine s_det (D.move rfl) rfl ?_
  refine s_cmp (D.geq rfl rfl rfl) rfl (fun h6 => ?_) (fun h6 => ?_)
  · replace h6 := of_decide_eq_true h6
    refine s_det (D.move rfl) rfl ?_
    refine s_yes rfl rfl ?_
    refine s_det (D.move rfl) rfl ?_
    refine s_yes rfl rfl ?_
    refine s_det (D.move rfl) rfl ?_
    refine s_yes rfl rfl ?_
    refine s_det (D.leq rfl rfl rfl) rfl ?_
    refine s_det (D.pick rfl rfl rfl rfl) rfl ?_
    refine s_det (D.assign rfl) rfl ?_
    refine s_nil ?_
    refine aret ?_
    refine ⟨[_], ⟨⟨rfl, rfl⟩, trivial⟩, ?_, rfl⟩
    show bv (decide (n ≤ m)) = bv _
    have e : n ≤ m ↔ (0 ≤ n ∧ n ≤ m) := ⟨fun h => ⟨h6, h⟩, fun h => h.2⟩
    rw [decide_eq_decide.2 e]
  · replace h6 := of_decide_eq_false h6
    refine s_det (D.move rfl) rfl ?_
    refine s_no rfl rfl rfl rfl ?_
    refine s_no rfl rfl rfl rfl ?_
    refine s_no rfl rfl rfl rfl ?_
    refine s_det (D.pick rfl rfl rfl rfl) rfl ?_
    refine s_det (D.assign rfl) rfl ?_
    refine s_nil ?_
    refine aret ?_
    refine ⟨[_], ⟨⟨rfl, rfl⟩, trivial⟩, ?_, rfl⟩
    rw [decide_eq_false (by omega)]; rfl

-- gradusref0.Between is not in this seat

set_option maxRecDepth 10000 in
theorem choose_within (n m : Int) : Pure Try.prog 29 [iv n, iv m] (bv (decide (0 ≤ n ∧ n ≤ m))) := by
  intro σ
  refine acalls Try.func29 rfl rfl (by decide) rfl rfl ?_
  refine aseq ?_
  refine areg rfl ?_
  refine s_det (D.assign rfl) rfl ?_
  refine s_nil ?_
  refine aseq ?_
  refine areg rfl ?_
  refine s_det (D.move rfl) rfl ?_
  refine s_cmp (D.geq rfl rfl rfl) rfl (fun h6 => ?_) (fun h6 => ?_)
  · replace h6 := of_decide_eq_true h6
    refine s_det (D.move rfl) rfl ?_
    refine s_yes rfl rfl ?_
    refine s_det (D.move rfl) rfl ?_
    refine s_yes rfl rfl ?_
    refine s_det (D.move rfl) rfl ?_
    refine s_yes rfl rfl ?_
    refine s_det (D.leq rfl rfl rfl) rfl ?_
    refine s_det (D.pick rfl rfl rfl rfl) rfl ?_
    refine s_det (D.assign rfl) rfl ?_
    refine s_nil ?_
    refine aret ?_
    exact ⟨[_], ⟨⟨rfl, rfl⟩, trivial⟩, bvI (by omega), rfl⟩
  · replace h6 := of_decide_eq_false h6
    refine s_det (D.move rfl) rfl ?_
    refine s_no rfl rfl rfl rfl ?_
    refine s_no rfl rfl rfl rfl ?_
    refine s_no rfl rfl rfl rfl ?_
    refine s_det (D.pick rfl rfl rfl rfl) rfl ?_
    refine s_det (D.assign rfl) rfl ?_
    refine s_nil ?_
    refine aret ?_
    exact ⟨[_], ⟨⟨rfl, rfl⟩, trivial⟩, bvF (by omega), rfl⟩

set_option maxRecDepth 10000 in
theorem slices_IndexFunc (l : List Int) (hl : l.length ≤ 4611686018427387904) (f : FuncId) (cap : List AV) (hb : bodied Try.prog f = true) (hcap : cap.all (fun a => match a with | .agg _ => false | .tup _ => false | _ => true) = true) (p : Int → Bool)
    (hp : ∀ x ∈ l, Pure Try.prog f (iv x :: cap) (bv (p x))) : Pure Try.prog 37 [ints l, .fn (.func f) cap] (iv (fidx p l)) := by
  intro σ
  refine acalls Try.func37 rfl rfl (by decide) rfl rfl ?_
  refine aseq ?_
  refine areg rfl ?_
  refine s_det (D.assign rfl) rfl ?_
  refine s_nil ?_
  refine aseq ?_
  refine aseq ?_
  refine areg rfl ?_
  refine s_det (D.move rfl) rfl ?_
  refine s_det (D.len_m rfl rfl) rfl ?_
  refine s_det (D.move rfl) rfl ?_
  refine s_nil ?_
  refine ablock ?_
  -- LOOP writes [8] keeps [0, 1, 7]
  refine aloop (ι := Nat) (fun i => i ≤ l.length ∧ (l.take i).any p = false) (fun i => l.length - i) (fun i => [(0, ints l), (1, .fn (.func f) cap), (7, iv l.length), (8, iv i)]) (fun _ => σ) 0 ⟨by omega, by simp⟩ ?_ rfl fun i hi => ?_
  · exact (.cons rfl (.cons rfl (.cons rfl (.cons rfl .nil))))
  obtain ⟨hi, ha⟩ := hi
  refine aseq ?_
  refine areg rfl ?_
  refine s_cmp (D.lss rfl rfl rfl) rfl (fun h9 => ?_) (fun h9 => ?_)
  · replace h9 := of_decide_eq_true h9
    have hlt : i < l.length := by omega
    refine s_nil ?_
    refine aseq ?_
    refine acond_t rfl ?_
    refine askip ?_
    refine aseq ?_
    refine ablock ?_
    refine aseq ?_
    refine areg rfl ?_
    refine s_det (D.move rfl) rfl ?_
    refine s_det (D.assign rfl) rfl ?_
    refine s_nil ?_
    refine aseq ?_
    refine areg rfl ?_
    refine s_det (D.move rfl) rfl ?_
    refine s_det (D.move rfl) rfl ?_
    refine s_det (D.move rfl) rfl ?_
    refine s_det (D.idx_m rfl rfl (by omega) (get_lt (i := i) hlt) rfl) rfl ?_
    refine s_det (D.load_i rfl rfl) rfl ?_
    refine s_det (D.callV rfl (evc rfl ev0) hb hcap (hp _ (List.getElem_mem hlt))) rfl ?_
    refine s_nil ?_
    -- cond t16 unknown
    refine acond rfl (fun h16 => ?_) (fun h16 => ?_)
    · refine aseq ?_
      refine areg rfl ?_
      refine s_det (D.move rfl) rfl ?_
      refine s_det (D.assign rfl) rfl ?_
      refine s_nil ?_
      refine aret ?_
      exact ⟨[_], ⟨⟨rfl, rfl⟩, trivial⟩, (by rw [fidx_hit ha (get_lt hlt) h16]; rfl), rfl⟩
    · refine askip ?_
      refine areg rfl ?_
      refine s_det (D.add rfl rfl (w64 (by omega) (by omega))) rfl ?_
      refine s_det (D.move rfl) rfl ?_
      refine s_nil ?_
      exact ⟨i + 1, ⟨hlt, take_any ha (get_lt hlt) h16⟩, by omega, (.cons rfl (.cons rfl (.cons rfl (.cons rfl .nil)))), rfl⟩
  · replace h9 := of_decide_eq_false h9
    refine s_nil ?_
    refine aseq ?_
    refine acond_f rfl ?_
    refine aexit ?_
    refine aseq ?_
    refine areg rfl ?_
    refine s_det (D.assign rfl) rfl ?_
    refine s_nil ?_
    refine aret ?_
    exact ⟨[_], ⟨⟨rfl, rfl⟩, trivial⟩, (by rw [fidx_miss (by rw [show i = l.length by omega, List.take_length] at ha; exact ha)]; rfl), rfl⟩

set_option maxRecDepth 10000 in
theorem slices_ContainsFunc (l : List Int) (hl : l.length ≤ 4611686018427387904) (f : FuncId) (cap : List AV) (hb : bodied Try.prog f = true) (hcap : cap.all (fun a => match a with | .agg _ => false | .tup _ => false | _ => true) = true) (p : Int → Bool)
    (hp : ∀ x ∈ l, Pure Try.prog f (iv x :: cap) (bv (p x))) (c : Bool) (hc : l.any p = c) : Pure Try.prog 31 [ints l, .fn (.func f) cap] (bv c) := by
  intro σ
  refine acalls Try.func31 rfl rfl (by decide) rfl rfl ?_
  refine aseq ?_
  refine areg rfl ?_
  refine s_det (D.assign rfl) rfl ?_
  refine s_nil ?_
  refine aseq ?_
  refine areg rfl ?_
  refine s_det (D.move rfl) rfl ?_
  refine s_det (D.move rfl) rfl ?_
  refine s_det (D.call (evc rfl (evc rfl ev0)) b_slices_IndexFunc (slices_IndexFunc l hl f cap hb hcap p hp)) rfl ?_
  refine s_det (D.geq rfl rfl rfl) rfl ?_
  refine s_det (D.assign rfl) rfl ?_
  refine s_nil ?_
  refine aret ?_
  exact ⟨[_], ⟨⟨rfl, rfl⟩, trivial⟩, (by rw [← hc, ← fidx_any]; rfl), rfl⟩

set_option maxRecDepth 10000 in
theorem slices_IndexFuncI (l : List It) (hl : l.length ≤ 4611686018427387904) (f : FuncId) (cap : List AV) (hb : bodied Try.prog f = true) (hcap : cap.all (fun a => match a with | .agg _ => false | .tup _ => false | _ => true) = true) (p : It → Bool)
    (hp : ∀ x ∈ l, Pure Try.prog f (itv x :: cap) (bv (p x))) : Pure Try.prog 38 [items l, .fn (.func f) cap] (iv (fidx p l)) := by
  intro σ
  refine acalls Try.func38 rfl rfl (by decide) rfl rfl ?_
  refine aseq ?_
  refine areg rfl ?_
  refine s_det (D.assign rfl) rfl ?_
  refine s_nil ?_
  refine aseq ?_
  refine aseq ?_
  refine areg rfl ?_
  refine s_det (D.move rfl) rfl ?_
  refine s_det (D.len_m rfl rfl) rfl ?_
  refine s_det (D.move rfl) rfl ?_
  refine s_nil ?_
  refine ablock ?_
  -- LOOP writes [8] keeps [0, 1, 7]
  refine aloop (ι := Nat) (fun i => i ≤ l.length ∧ (l.take i).any p = false) (fun i => l.length - i) (fun i => [(0, items l), (1, .fn (.func f) cap), (7, iv l.length), (8, iv i)]) (fun _ => σ) 0 ⟨by omega, by simp⟩ ?_ rfl fun i hi => ?_
  · exact (.cons rfl (.cons rfl (.cons rfl (.cons rfl .nil))))
  obtain ⟨hi, ha⟩ := hi
  refine aseq ?_
  refine areg rfl ?_
  refine s_cmp (D.lss rfl rfl rfl) rfl (fun h9 => ?_) (fun h9 => ?_)
  · replace h9 := of_decide_eq_true h9
    have hlt : i < l.length := by omega
    refine s_nil ?_
    refine aseq ?_
    refine acond_t rfl ?_
    refine askip ?_
    refine aseq ?_
    refine ablock ?_
    refine aseq ?_
    refine areg rfl ?_
    refine s_det (D.move rfl) rfl ?_
    refine s_det (D.assign rfl) rfl ?_
    refine s_nil ?_
    refine aseq ?_
    refine areg rfl ?_
    refine s_det (D.move rfl) rfl ?_
    refine s_det (D.move rfl) rfl ?_
    refine s_det (D.move rfl) rfl ?_
    refine s_det (D.idx_m rfl rfl (by omega) (get_lt (i := i) hlt) rfl) rfl ?_
    refine s_det (D.load_i rfl rfl) rfl ?_
    refine s_det (D.callV rfl (evc rfl ev0) hb hcap (hp _ (List.getElem_mem hlt))) rfl ?_
    refine s_nil ?_
    -- cond t16 unknown
    refine acond rfl (fun h16 => ?_) (fun h16 => ?_)
    · refine aseq ?_
      refine areg rfl ?_
      refine s_det (D.move rfl) rfl ?_
      refine s_det (D.assign rfl) rfl ?_
      refine s_nil ?_
      refine aret ?_
      exact ⟨[_], ⟨⟨rfl, rfl⟩, trivial⟩, (by rw [fidx_hit ha (get_lt hlt) h16]; rfl), rfl⟩
    · refine askip ?_
      refine areg rfl ?_
      refine s_det (D.add rfl rfl (w64 (by omega) (by omega))) rfl ?_
      refine s_det (D.move rfl) rfl ?_
      refine s_nil ?_
      exact ⟨i + 1, ⟨hlt, take_any ha (get_lt hlt) h16⟩, by omega, (.cons rfl (.cons rfl (.cons rfl (.cons rfl .nil)))), rfl⟩
  · replace h9 := of_decide_eq_false h9
    refine s_nil ?_
    refine aseq ?_
    refine acond_f rfl ?_
    refine aexit ?_
    refine aseq ?_
    refine areg rfl ?_
    refine s_det (D.assign rfl) rfl ?_
    refine s_nil ?_
    refine aret ?_
    exact ⟨[_], ⟨⟨rfl, rfl⟩, trivial⟩, (by rw [fidx_miss (by rw [show i = l.length by omega, List.take_length] at ha; exact ha)]; rfl), rfl⟩

set_option maxRecDepth 10000 in
theorem slices_ContainsFuncI (l : List It) (hl : l.length ≤ 4611686018427387904) (f : FuncId) (cap : List AV) (hb : bodied Try.prog f = true) (hcap : cap.all (fun a => match a with | .agg _ => false | .tup _ => false | _ => true) = true) (p : It → Bool)
    (hp : ∀ x ∈ l, Pure Try.prog f (itv x :: cap) (bv (p x))) (c : Bool) (hc : l.any p = c) : Pure Try.prog 35 [items l, .fn (.func f) cap] (bv c) := by
  intro σ
  refine acalls Try.func35 rfl rfl (by decide) rfl rfl ?_
  refine aseq ?_
  refine areg rfl ?_
  refine s_det (D.assign rfl) rfl ?_
  refine s_nil ?_
  refine aseq ?_
  refine areg rfl ?_
  refine s_det (D.move rfl) rfl ?_
  refine s_det (D.move rfl) rfl ?_
  refine s_det (D.call (evc rfl (evc rfl ev0)) b_slices_IndexFunc_38 (slices_IndexFuncI l hl f cap hb hcap p hp)) rfl ?_
  refine s_det (D.geq rfl rfl rfl) rfl ?_
  refine s_det (D.assign rfl) rfl ?_
  refine s_nil ?_
  refine aret ?_
  exact ⟨[_], ⟨⟨rfl, rfl⟩, trivial⟩, (by rw [← hc, ← fidx_any]; rfl), rfl⟩

set_option maxRecDepth 10000 in
theorem choose_may_1 (x : It) : Pure Try.prog 34 [itv x] (bv (decide (¬ okIt x))) := by
  intro σ
  refine acalls Try.func34 rfl rfl (by decide) rfl rfl ?_
  refine aseq ?_
  refine areg rfl ?_
  refine s_det (D.box_i rfl rfl) rfl ?_
  refine s_det (D.assign rfl) rfl ?_
  refine s_nil ?_
  refine aseq ?_
  refine areg rfl ?_
  refine s_det (D.field_i rfl rfl rfl) rfl ?_
  refine s_det (D.load_i rfl rfl) rfl ?_
  refine s_cmp (D.call (evc rfl (evc rfl ev0)) b_choose_within (choose_within _ _)) rfl (fun h5 => ?_) (fun h5 => ?_)
  · replace h5 := of_decide_eq_true h5
    refine s_det (D.not rfl rfl) rfl ?_
    refine s_det (D.move rfl) rfl ?_
    refine s_yes rfl rfl ?_
    refine s_det (D.field_i rfl rfl rfl) rfl ?_
    refine s_yes rfl rfl ?_
    refine s_det (D.load_i rfl rfl) rfl ?_
    refine s_yes rfl rfl ?_
    refine s_cmp (D.call (evc rfl (evc rfl ev0)) b_choose_within (choose_within _ _)) rfl (fun h10 => ?_) (fun h10 => ?_)
    · replace h10 := of_decide_eq_true h10
      refine s_yes rfl rfl ?_
      refine s_det (D.not rfl rfl) rfl ?_
      refine s_det (D.pick rfl rfl rfl rfl) rfl ?_
      refine s_det (D.move rfl) rfl ?_
      refine s_yes rfl rfl ?_
      refine s_det (D.field_i rfl rfl rfl) rfl ?_
      refine s_yes rfl rfl ?_
      refine s_det (D.load_i rfl rfl) rfl ?_
      refine s_yes rfl rfl ?_
      refine s_det (D.call (evc rfl (evc rfl ev0)) b_choose_within (choose_within _ _)) rfl ?_
      refine s_yes rfl rfl ?_
      refine s_det (D.not rfl rfl) rfl ?_
      refine s_det (D.pick rfl rfl rfl rfl) rfl ?_
      refine s_det (D.assign rfl) rfl ?_
      refine s_nil ?_
      refine aret ?_
      exact ⟨[_], ⟨⟨rfl, rfl⟩, trivial⟩, (by
        have e : (¬ (0 ≤ x.m ∧ x.m ≤ 1048576)) ↔ ¬ okIt x := by unfold okIt; omega
        rw [show decide (¬ okIt x) = decide (¬ (0 ≤ x.m ∧ x.m ≤ 1048576)) from decide_eq_decide.2 e.symm, decide_not]; rfl), rfl⟩
    · replace h10 := of_decide_eq_false h10
      refine s_yes rfl rfl ?_
      refine s_det (D.not rfl rfl) rfl ?_
      refine s_det (D.pick rfl rfl rfl rfl) rfl ?_
      refine s_det (D.move rfl) rfl ?_
      refine s_no rfl rfl rfl rfl ?_
      refine s_no rfl rfl rfl rfl ?_
      refine s_no rfl rfl rfl rfl ?_
      refine s_no rfl rfl rfl rfl ?_
      refine s_det (D.pick rfl rfl rfl rfl) rfl ?_
      refine s_det (D.assign rfl) rfl ?_
      refine s_nil ?_
      refine aret ?_
      exact ⟨[_], ⟨⟨rfl, rfl⟩, trivial⟩, bvT (by unfold okIt; omega), rfl⟩
  · replace h5 := of_decide_eq_false h5
    refine s_det (D.not rfl rfl) rfl ?_
    refine s_det (D.move rfl) rfl ?_
    refine s_no rfl rfl rfl rfl ?_
    refine s_no rfl rfl rfl rfl ?_
    refine s_no rfl rfl rfl rfl ?_
    refine s_no rfl rfl rfl rfl ?_
    refine s_det (D.pick rfl rfl rfl rfl) rfl ?_
    refine s_det (D.move rfl) rfl ?_
    refine s_no rfl rfl rfl rfl ?_
    refine s_no rfl rfl rfl rfl ?_
    refine s_no rfl rfl rfl rfl ?_
    refine s_no rfl rfl rfl rfl ?_
    refine s_det (D.pick rfl rfl rfl rfl) rfl ?_
    refine s_det (D.assign rfl) rfl ?_
    refine s_nil ?_
    refine aret ?_
    exact ⟨[_], ⟨⟨rfl, rfl⟩, trivial⟩, bvT (by unfold okIt; omega), rfl⟩

theorem anyIt (L : List It) : (L.any fun x => decide (¬ okIt x)) = decide (¬ ∀ x ∈ L, okIt x) := by
  apply Bool.eq_iff_iff.2
  simp
theorem anyC (c : List Int) : (c.any fun k => decide (¬ inC k)) = decide (¬ ∀ k ∈ c, inC k) := by
  apply Bool.eq_iff_iff.2
  simp

set_option maxRecDepth 10000 in
theorem choose_may (L : List It) (hl : L.length ≤ 4398046511104) : Pure Try.prog 28 [items L] (bv (decide (okL L))) := by
  intro σ
  refine acalls Try.func28 rfl rfl (by decide) rfl rfl ?_
  refine aseq ?_
  refine areg rfl ?_
  refine s_det (D.assign rfl) rfl ?_
  refine s_nil ?_
  refine aseq ?_
  refine areg rfl ?_
  refine s_det (D.assign rfl) rfl ?_
  refine s_nil ?_
  refine aseq ?_
  refine areg rfl ?_
  refine s_det (D.move rfl) rfl ?_
  refine s_det (D.len_m rfl rfl) rfl ?_
  refine s_cmp (D.leq rfl rfl rfl) rfl (fun h6 => ?_) (fun h6 => ?_)
  · replace h6 := of_decide_eq_true h6
    refine s_det (D.move rfl) rfl ?_
    refine s_yes rfl rfl ?_
    refine s_det (D.move rfl) rfl ?_
    refine s_yes rfl rfl ?_
    refine s_det (D.move rfl) rfl ?_
    refine s_yes rfl rfl ?_
    refine s_det (D.call (evc rfl (evc rfl ev0)) b_slices_ContainsFunc_35 (slices_ContainsFuncI L (by omega) 34 [] b_choose_may_1 rfl _ (fun x _ => choose_may_1 x) _ (anyIt L))) rfl ?_
    refine s_yes rfl rfl ?_
    refine s_det (D.not rfl rfl) rfl ?_
    refine s_det (D.pick rfl rfl rfl rfl) rfl ?_
    refine s_det (D.assign rfl) rfl ?_
    refine s_nil ?_
    refine aret ?_
    exact ⟨[_], ⟨⟨rfl, rfl⟩, trivial⟩, (by
      have e : (¬ ¬ ∀ x ∈ L, okIt x) ↔ okL L := by unfold okL; exact ⟨fun h => ⟨by omega, Decidable.not_not.1 h⟩, fun h => Decidable.not_not.2 h.2⟩
      rw [← decide_eq_decide.2 e, decide_not (p := ¬ ∀ x ∈ L, okIt x)]; rfl), rfl⟩
  · replace h6 := of_decide_eq_false h6
    refine s_det (D.move rfl) rfl ?_
    refine s_no rfl rfl rfl rfl ?_
    refine s_no rfl rfl rfl rfl ?_
    refine s_no rfl rfl rfl rfl ?_
    refine s_no rfl rfl rfl rfl ?_
    refine s_det (D.pick rfl rfl rfl rfl) rfl ?_
    refine s_det (D.assign rfl) rfl ?_
    refine s_nil ?_
    refine aret ?_
    exact ⟨[_], ⟨⟨rfl, rfl⟩, trivial⟩, bvF (fun h => h6 (by have := h.1; omega)), rfl⟩

set_option maxRecDepth 10000 in
theorem choose_chosen_1 (k : Int) : Pure Try.prog 32 [iv k] (bv (decide (¬ inC k))) := by
  intro σ
  refine acalls Try.func32 rfl rfl (by decide) rfl rfl ?_
  refine aseq ?_
  refine areg rfl ?_
  refine s_det (D.assign rfl) rfl ?_
  refine s_nil ?_
  refine aseq ?_
  refine areg rfl ?_
  refine s_det (D.move rfl) rfl ?_
  refine s_det (D.call (evc rfl (evc rfl ev0)) b_choose_within (choose_within _ _)) rfl ?_
  refine s_det (D.not rfl rfl) rfl ?_
  refine s_det (D.assign rfl) rfl ?_
  refine s_nil ?_
  refine aret ?_
  exact ⟨[_], ⟨⟨rfl, rfl⟩, trivial⟩, (by unfold inC; rw [decide_not]; rfl), rfl⟩

set_option maxRecDepth 10000 in
theorem choose_chosen (L : List It) (c : List Int) (hl : L.length ≤ 4398046511104) (hc : c.length ≤ 4398046511104) : Pure Try.prog 25 [items L, ints c] (bv (decide (okL L ∧ okC L c))) := by
  intro σ
  refine acalls Try.func25 rfl rfl (by decide) rfl rfl ?_
  refine aseq ?_
  refine areg rfl ?_
  refine s_det (D.assign rfl) rfl ?_
  refine s_nil ?_
  refine aseq ?_
  refine areg rfl ?_
  refine s_det (D.move rfl) rfl ?_
  refine s_cmp (D.call (evc rfl ev0) b_choose_may (choose_may L hl)) rfl (fun h6 => ?_) (fun h6 => ?_)
  · replace h6 := of_decide_eq_true h6
    refine s_det (D.move rfl) rfl ?_
    refine s_yes rfl rfl ?_
    refine s_det (D.move rfl) rfl ?_
    refine s_yes rfl rfl ?_
    refine s_det (D.len_m rfl rfl) rfl ?_
    refine s_yes rfl rfl ?_
    refine s_det (D.move rfl) rfl ?_
    refine s_yes rfl rfl ?_
    refine s_det (D.len_m rfl rfl) rfl ?_
    refine s_yes rfl rfl ?_
    refine s_cmp (D.eql rfl rfl rfl) rfl (fun h12 => ?_) (fun h12 => ?_)
    · replace h12 := of_decide_eq_true h12
      refine s_det (D.pick rfl rfl rfl rfl) rfl ?_
      refine s_det (D.move rfl) rfl ?_
      refine s_yes rfl rfl ?_
      refine s_det (D.move rfl) rfl ?_
      refine s_yes rfl rfl ?_
      refine s_det (D.call (evc rfl (evc rfl ev0)) b_slices_ContainsFunc (slices_ContainsFunc c (by omega) 32 [] b_choose_chosen_1 rfl _ (fun x _ => choose_chosen_1 x) _ (anyC c))) rfl ?_
      refine s_yes rfl rfl ?_
      refine s_det (D.not rfl rfl) rfl ?_
      refine s_det (D.pick rfl rfl rfl rfl) rfl ?_
      refine s_det (D.assign rfl) rfl ?_
      refine s_nil ?_
      refine aret ?_
      exact ⟨[_], ⟨⟨rfl, rfl⟩, trivial⟩, (by
        have e : (¬ ¬ ∀ k ∈ c, inC k) ↔ okL L ∧ okC L c := by unfold okC; exact ⟨fun h => ⟨h6, by omega, Decidable.not_not.1 h⟩, fun h => Decidable.not_not.2 h.2.2⟩
        rw [← decide_eq_decide.2 e, decide_not (p := ¬ ∀ k ∈ c, inC k)]; rfl), rfl⟩
    · replace h12 := of_decide_eq_false h12
      refine s_det (D.pick rfl rfl rfl rfl) rfl ?_
      refine s_det (D.move rfl) rfl ?_
      refine s_no rfl rfl rfl rfl ?_
      refine s_no rfl rfl rfl rfl ?_
      refine s_no rfl rfl rfl rfl ?_
      refine s_det (D.pick rfl rfl rfl rfl) rfl ?_
      refine s_det (D.assign rfl) rfl ?_
      refine s_nil ?_
      refine aret ?_
      exact ⟨[_], ⟨⟨rfl, rfl⟩, trivial⟩, bvF (fun h => h12 (by have := h.2.1; omega)), rfl⟩
  · replace h6 := of_decide_eq_false h6
    refine s_det (D.move rfl) rfl ?_
    refine s_no rfl rfl rfl rfl ?_
    refine s_no rfl rfl rfl rfl ?_
    refine s_no rfl rfl rfl rfl ?_
    refine s_no rfl rfl rfl rfl ?_
    refine s_no rfl rfl rfl rfl ?_
    refine s_det (D.pick rfl rfl rfl rfl) rfl ?_
    refine s_det (D.move rfl) rfl ?_
    refine s_no rfl rfl rfl rfl ?_
    refine s_no rfl rfl rfl rfl ?_
    refine s_no rfl rfl rfl rfl ?_
    refine s_det (D.pick rfl rfl rfl rfl) rfl ?_
    refine s_det (D.assign rfl) rfl ?_
    refine s_nil ?_
    refine aret ?_
    exact ⟨[_], ⟨⟨rfl, rfl⟩, trivial⟩, bvF (fun h => h6 h.1), rfl⟩

set_option maxRecDepth 10000 in
theorem choose_sums_plus (s : Sm) (x : It) (k : Int) (i : Nat) (hi : i ≤ 100) (hs : smOk i s) (hx : okIt x) (hk : inC k) : Pure Try.prog 33 [smv s, itv x, iv k] (smv (plusS s x k)) := by
  obtain ⟨⟨s1, s2⟩, ⟨s3, s4⟩, s5, s6⟩ := hs
  obtain ⟨⟨x1, x2⟩, ⟨x3, x4⟩, x5, x6⟩ := hx
  obtain ⟨k1, k2⟩ := hk
  refine pure_of_sub fun σ => ?_
  refine acalls Try.func33 rfl rfl (by decide) rfl rfl ?_
  refine aseq ?_
  refine areg rfl ?_
  refine s_act rfl (A.box_o rfl rfl fun b3 hb3 => ?_)
  refine s_det (D.box_i rfl rfl) rfl ?_
  refine s_act rfl (A.alloc rfl rfl rfl fun b6 hb6 => ?_)
  obtain ⟨hb6', n63⟩ := AH.set_none hb6
  refine s_nil ?_
  refine aseq ?_
  refine aseq ?_
  refine areg rfl ?_
  refine s_det (D.move rfl) rfl ?_
  refine s_nil ?_
  refine ablock ?_
  refine aseq ?_
  refine areg rfl ?_
  refine s_cmp (D.eql rfl rfl rfl) rfl (fun h9 => ?_) (fun h9 => ?_)
  · replace h9 := of_decide_eq_true h9
    refine s_det (D.assign rfl) rfl ?_
    refine s_nil ?_
    refine acond_t rfl ?_
    refine areg rfl ?_
    refine s_det (D.field_p rfl rfl) rfl ?_
    refine s_own (by rw [AH.set_ne (Ne.symm n63), AH.set_self]) (D.load_p rfl rfl rfl rfl) rfl ?_
    refine s_det (D.field_i rfl rfl rfl) rfl ?_
    refine s_det (D.load_i rfl rfl) rfl ?_
    refine s_det (D.add rfl rfl (w64 (by omega) (by omega))) rfl ?_
    refine s_det (D.field_p rfl rfl) rfl ?_
    refine s_do (A.store rfl rfl (by rw [AH.set_ne (Ne.symm n63), AH.set_self]) rfl rfl (by rfl) rfl rfl ?_)
    refine s_nil ?_
    refine aseq ?_
    refine areg rfl ?_
    refine s_own (AH.set_self ..) (D.load_p rfl rfl rfl rfl) rfl ?_
    refine s_do (A.store rfl rfl (by rw [AH.set_ne n63, AH.set_self]) rfl rfl (by rfl) rfl rfl ?_)
    refine s_nil ?_
    refine aret ?_
    exact ⟨[_], ⟨⟨.inr ⟨_, _, _, _, _, _, _, rfl, AH.set_self .., rfl, rfl⟩, rfl⟩, trivial⟩, (by rw [plusS, if_pos h9]; rfl), (by repeat (first | exact Sub.refl _ | refine Sub.set ?_ (by first | assumption | exact (AH.set_none (by assumption)).1 | exact (AH.set_none (AH.set_none (by assumption)).1).1 | exact (AH.set_none (AH.set_none (AH.set_none (by assumption)).1).1).1 | exact (AH.set_none (AH.set_none (AH.set_none (AH.set_none (by assumption)).1).1).1).1 | exact (AH.set_none (AH.set_none (AH.set_none (AH.set_none (AH.set_none (by assumption)).1).1).1).1).1 | exact (AH.set_none (AH.set_none (AH.set_none (AH.set_none (AH.set_none (AH.set_none (by assumption)).1).1).1).1).1).1) _))⟩
  · replace h9 := of_decide_eq_false h9
    refine s_det (D.assign rfl) rfl ?_
    refine s_nil ?_
    refine acond_f rfl ?_
    refine aseq ?_
    refine areg rfl ?_
    refine s_cmp (D.eql rfl rfl rfl) rfl (fun h17 => ?_) (fun h17 => ?_)
    · replace h17 := of_decide_eq_true h17
      refine s_det (D.assign rfl) rfl ?_
      refine s_nil ?_
      refine acond_t rfl ?_
      refine areg rfl ?_
      refine s_det (D.field_p rfl rfl) rfl ?_
      refine s_own (by rw [AH.set_ne (Ne.symm n63), AH.set_self]) (D.load_p rfl rfl rfl rfl) rfl ?_
      refine s_det (D.field_i rfl rfl rfl) rfl ?_
      refine s_det (D.load_i rfl rfl) rfl ?_
      refine s_det (D.add rfl rfl (w64 (by omega) (by omega))) rfl ?_
      refine s_det (D.field_p rfl rfl) rfl ?_
      refine s_do (A.store rfl rfl (by rw [AH.set_ne (Ne.symm n63), AH.set_self]) rfl rfl (by rfl) rfl rfl ?_)
      refine s_nil ?_
      refine aseq ?_
      refine areg rfl ?_
      refine s_own (AH.set_self ..) (D.load_p rfl rfl rfl rfl) rfl ?_
      refine s_do (A.store rfl rfl (by rw [AH.set_ne n63, AH.set_self]) rfl rfl (by rfl) rfl rfl ?_)
      refine s_nil ?_
      refine aret ?_
      exact ⟨[_], ⟨⟨.inr ⟨_, _, _, _, _, _, _, rfl, AH.set_self .., rfl, rfl⟩, rfl⟩, trivial⟩, (by rw [plusS, if_neg h9, if_pos h17]; rfl), (by repeat (first | exact Sub.refl _ | refine Sub.set ?_ (by first | assumption | exact (AH.set_none (by assumption)).1 | exact (AH.set_none (AH.set_none (by assumption)).1).1 | exact (AH.set_none (AH.set_none (AH.set_none (by assumption)).1).1).1 | exact (AH.set_none (AH.set_none (AH.set_none (AH.set_none (by assumption)).1).1).1).1 | exact (AH.set_none (AH.set_none (AH.set_none (AH.set_none (AH.set_none (by assumption)).1).1).1).1).1 | exact (AH.set_none (AH.set_none (AH.set_none (AH.set_none (AH.set_none (AH.set_none (by assumption)).1).1).1).1).1).1) _))⟩
    · replace h17 := of_decide_eq_false h17
      refine s_det (D.assign rfl) rfl ?_
      refine s_nil ?_
      refine acond_f rfl ?_
      refine aseq ?_
      refine areg rfl ?_
      refine s_cmp (D.eql rfl rfl rfl) rfl (fun h25 => ?_) (fun h25 => ?_)
      · replace h25 := of_decide_eq_true h25
        refine s_det (D.assign rfl) rfl ?_
        refine s_nil ?_
        refine acond_t rfl ?_
        refine aseq ?_
        refine areg rfl ?_
        refine s_det (D.field_p rfl rfl) rfl ?_
        refine s_own (by rw [AH.set_ne (Ne.symm n63), AH.set_self]) (D.load_p rfl rfl rfl rfl) rfl ?_
        refine s_det (D.field_i rfl rfl rfl) rfl ?_
        refine s_det (D.load_i rfl rfl) rfl ?_
        refine s_det (D.add rfl rfl (w64 (by omega) (by omega))) rfl ?_
        refine s_det (D.field_p rfl rfl) rfl ?_
        refine s_do (A.store rfl rfl (by rw [AH.set_ne (Ne.symm n63), AH.set_self]) rfl rfl (by rfl) rfl rfl ?_)
        refine s_nil ?_
        refine areg rfl ?_
        refine s_det (D.field_p rfl rfl) rfl ?_
        refine s_own (AH.set_self ..) (D.load_p rfl rfl rfl rfl) rfl ?_
        refine s_det (D.field_i rfl rfl rfl) rfl ?_
        refine s_det (D.load_i rfl rfl) rfl ?_
        refine s_det (D.add rfl rfl (w64 (by omega) (by omega))) rfl ?_
        refine s_det (D.field_p rfl rfl) rfl ?_
        refine s_do (A.store rfl rfl (AH.set_self ..) rfl rfl (by rfl) rfl rfl ?_)
        refine s_nil ?_
        refine aseq ?_
        refine areg rfl ?_
        refine s_own (AH.set_self ..) (D.load_p rfl rfl rfl rfl) rfl ?_
        refine s_do (A.store rfl rfl (by rw [AH.set_ne n63, AH.set_ne n63, AH.set_self]) rfl rfl (by rfl) rfl rfl ?_)
        refine s_nil ?_
        refine aret ?_
        exact ⟨[_], ⟨⟨.inr ⟨_, _, _, _, _, _, _, rfl, AH.set_self .., rfl, rfl⟩, rfl⟩, trivial⟩, (by rw [plusS, if_neg h9, if_neg h17]; rfl), (by repeat (first | exact Sub.refl _ | refine Sub.set ?_ (by first | assumption | exact (AH.set_none (by assumption)).1 | exact (AH.set_none (AH.set_none (by assumption)).1).1 | exact (AH.set_none (AH.set_none (AH.set_none (by assumption)).1).1).1 | exact (AH.set_none (AH.set_none (AH.set_none (AH.set_none (by assumption)).1).1).1).1 | exact (AH.set_none (AH.set_none (AH.set_none (AH.set_none (AH.set_none (by assumption)).1).1).1).1).1 | exact (AH.set_none (AH.set_none (AH.set_none (AH.set_none (AH.set_none (AH.set_none (by assumption)).1).1).1).1).1).1) _))⟩
      · replace h25 := of_decide_eq_false h25
        exact absurd (show k = 2 by omega) h25

set_option maxRecDepth 10000 in
theorem choose_of (L : List It) (c : List Int) (hL : okL L) (hc : okC L c) : Pure Try.prog 26 [items L, ints c] (smv (sum0 L c)) := by
  obtain ⟨hl, hL⟩ := hL
  obtain ⟨hcl, hC⟩ := hc
  refine pure_of_sub fun σ => ?_
  refine acalls Try.func26 rfl rfl (by decide) rfl rfl ?_
  refine aseq ?_
  refine areg rfl ?_
  refine s_act rfl (A.alloc rfl rfl rfl fun b4 hb4 => ?_)
  refine s_nil ?_
  refine aseq ?_
  refine aseq ?_
  refine areg rfl ?_
  refine s_det (D.move rfl) rfl ?_
  refine s_det (D.len_m rfl rfl) rfl ?_
  refine s_det (D.move rfl) rfl ?_
  refine s_nil ?_
  refine ablock ?_
  -- LOOP writes [9] keeps [1, 4, 7, 8]
  refine aloop (ι := Nat) (fun i => i ≤ L.length) (fun i => L.length - i) (fun i => [(1, ints c), (4, .ptr b4 0 [] 0), (7, items L), (8, iv L.length), (9, iv i)]) (fun i => σ.set b4 (.row 3 [smv (sum0 (L.take i) (c.take i))])) 0 (by omega) ?_ rfl fun i hi => ?_
  · exact (.cons rfl (.cons rfl (.cons rfl (.cons rfl (.cons rfl .nil)))))
  refine aseq ?_
  refine areg rfl ?_
  have hlt : i ≤ L.length := hi
  refine s_cmp (D.lss rfl rfl rfl) rfl (fun h10 => ?_) (fun h10 => ?_)
  · replace h10 := of_decide_eq_true h10
    refine s_nil ?_
    have hlt : i < L.length := by omega
    have hct : i < c.length := by omega
    have hok := sum0_ok (L := L.take i) (fun x hx => hL x (List.mem_of_mem_take hx)) (c.take i)
    rw [List.length_take, Nat.min_eq_left (Nat.le_of_lt hlt)] at hok
    refine aseq ?_
    refine acond_t rfl ?_
    refine askip ?_
    refine aseq ?_
    refine ablock ?_
    refine aseq ?_
    refine areg rfl ?_
    refine s_det (D.move rfl) rfl ?_
    refine s_det (D.idx_m rfl rfl (by omega) (get_lt (i := i) hlt) rfl) rfl ?_
    refine s_det (D.load_i rfl rfl) rfl ?_
    refine s_act rfl (A.alloc rfl rfl rfl fun b6 hb6 => ?_)
    refine s_det (D.assign rfl) rfl ?_
    refine s_do (A.store rfl rfl (AH.set_self ..) rfl rfl (by rfl) rfl rfl ?_)
    refine s_nil ?_
    rw [AH.set_set]
    refine afix (d := 6) rfl hb6 ?_
    refine adraw [.det 0, .det 1, .det 2, .det 3, .det 4, .det 5, .det 6, .act 7] rfl (by kernel_rfl) ?_
    refine d_own (AH.set_self ..) rfl (D.load_p rfl rfl rfl rfl) rfl ?_
    refine d_det rfl (D.load_i rfl rfl) rfl ?_
    refine d_det rfl (D.move rfl) rfl ?_
    refine d_det rfl (D.move rfl) rfl ?_
    refine d_det rfl (D.idx_m rfl rfl (by omega) (get_lt (i := i) hct) rfl) rfl ?_
    refine d_det rfl (D.load_i rfl rfl) rfl ?_
    refine d_det rfl (D.call (evc rfl (evc rfl (evc rfl ev0))) b_choose_sums_plus (choose_sums_plus (sum0 (L.take i) (c.take i)) L[i] c[i] i (by omega) hok (hL _ (List.getElem_mem hlt)) (hC _ (List.getElem_mem hct)))) rfl ?_
    refine d_do rfl (by kernel_rfl) (A.store rfl rfl (AH.set_self ..) rfl rfl (by rfl) rfl rfl ?_)
    refine d_nil ?_
    refine areg rfl ?_
    refine s_det (D.add rfl rfl (w64 (by omega) (by omega))) rfl ?_
    refine s_det (D.move rfl) rfl ?_
    refine s_nil ?_
    exact ⟨i + 1, by omega, by omega, (.cons rfl (.cons rfl (.cons rfl (.cons rfl (.cons rfl .nil))))), by rw [AH.set_set, show sum0 (L.take (i + 1)) (c.take (i + 1)) = _ from sums_take hlt hct]; rfl⟩
  · replace h10 := of_decide_eq_false h10
    refine s_nil ?_
    have hee : i = L.length := by omega
    refine aseq ?_
    refine acond_f rfl ?_
    refine aexit ?_
    refine aseq ?_
    refine areg rfl ?_
    refine s_own (AH.set_self ..) (D.load_p rfl rfl rfl rfl) rfl ?_
    refine s_do (A.store rfl rfl (AH.set_self ..) rfl rfl (by rfl) rfl rfl ?_)
    refine s_nil ?_
    refine aret ?_
    exact ⟨[_], ⟨⟨.inr ⟨_, _, _, _, _, _, _, rfl, AH.set_self .., rfl, rfl⟩, rfl⟩, trivial⟩, (by rw [hee, List.take_length, ← hcl, List.take_length]; rfl), (by repeat (first | exact Sub.refl _ | refine Sub.set ?_ (by first | assumption | exact (AH.set_none (by assumption)).1 | exact (AH.set_none (AH.set_none (by assumption)).1).1 | exact (AH.set_none (AH.set_none (AH.set_none (by assumption)).1).1).1 | exact (AH.set_none (AH.set_none (AH.set_none (AH.set_none (by assumption)).1).1).1).1 | exact (AH.set_none (AH.set_none (AH.set_none (AH.set_none (AH.set_none (by assumption)).1).1).1).1).1 | exact (AH.set_none (AH.set_none (AH.set_none (AH.set_none (AH.set_none (AH.set_none (by assumption)).1).1).1).1).1).1) _))⟩

set_option maxRecDepth 10000 in
theorem choose_Cost (L : List It) (c : List Int) (hl : L.length ≤ 4398046511104) (hc : c.length ≤ 4398046511104) : Pure Try.prog 14 [items L, ints c] (costV (costS L c)) := by
  intro σ
  refine acalls Try.func14 rfl rfl (by decide) rfl rfl ?_
  refine aseq ?_
  refine areg rfl ?_
  refine s_det (D.assign rfl) rfl ?_
  refine s_det (D.assign rfl) rfl ?_
  refine s_det (D.assign rfl) rfl ?_
  refine s_det (D.assign rfl) rfl ?_
  refine s_nil ?_
  refine aseq ?_
  refine aseq ?_
  refine areg rfl ?_
  refine s_det (D.move rfl) rfl ?_
  refine s_det (D.move rfl) rfl ?_
  refine s_cmp (D.call (evc rfl (evc rfl ev0)) b_choose_chosen (choose_chosen L c hl hc)) rfl (fun h11 => ?_) (fun h11 => ?_)
  · replace h11 := of_decide_eq_true h11
    refine s_det (D.not rfl rfl) rfl ?_
    refine s_nil ?_
    refine acond_f rfl ?_
    refine askip ?_
    refine aseq ?_
    refine areg rfl ?_
    refine s_det (D.move rfl) rfl ?_
    refine s_det (D.move rfl) rfl ?_
    refine s_det (D.call (evc rfl (evc rfl ev0)) b_choose_of (choose_of L c h11.1 h11.2)) rfl ?_
    refine s_act rfl (A.alloc rfl rfl rfl fun b8 hb8 => ?_)
    refine s_do (A.store rfl rfl (AH.set_self ..) rfl rfl (by rfl) rfl rfl ?_)
    refine s_nil ?_
    rw [AH.set_set]
    refine afix (d := 8) rfl hb8 ?_
    refine aseq ?_
    refine adraw [.det 0, .det 1, .det 2, .det 3, .det 4, .det 5, .det 6, .det 7, .det 8, .det 9] rfl (by kernel_rfl) ?_
    refine d_det rfl (D.field_i rfl rfl rfl) rfl ?_
    refine d_det rfl (D.load_i rfl rfl) rfl ?_
    refine d_det rfl (D.field_i rfl rfl rfl) rfl ?_
    refine d_det rfl (D.load_i rfl rfl) rfl ?_
    refine d_det rfl (D.field_i rfl rfl rfl) rfl ?_
    refine d_det rfl (D.load_i rfl rfl) rfl ?_
    refine d_det rfl (D.assign rfl) rfl ?_
    refine d_det rfl (D.assign rfl) rfl ?_
    refine d_det rfl (D.assign rfl) rfl ?_
    refine d_det rfl (D.assign rfl) rfl ?_
    refine d_nil ?_
    refine aret ?_
    exact ⟨[_, _, _, _], ⟨⟨rfl, rfl⟩, ⟨rfl, rfl⟩, ⟨rfl, rfl⟩, ⟨rfl, rfl⟩, trivial⟩, (by rw [costS, if_pos h11]; rfl), rfl⟩
  · replace h11 := of_decide_eq_false h11
    refine s_det (D.not rfl rfl) rfl ?_
    refine s_nil ?_
    refine acond_t rfl ?_
    refine aseq ?_
    refine areg rfl ?_
    refine s_det (D.assign rfl) rfl ?_
    refine s_det (D.assign rfl) rfl ?_
    refine s_det (D.assign rfl) rfl ?_
    refine s_det (D.assign rfl) rfl ?_
    refine s_nil ?_
    refine aret ?_
    exact ⟨[_, _, _, _], ⟨⟨rfl, rfl⟩, ⟨rfl, rfl⟩, ⟨rfl, rfl⟩, ⟨rfl, rfl⟩, trivial⟩, (by rw [costS, if_neg h11]; rfl), rfl⟩

set_option maxRecDepth 10000 in
theorem choose_asked (L : List It) (room host : Int) (hl : L.length ≤ 4398046511104) : Pure Try.prog 23 [items L, iv room, iv host] (bv (decide (askC L room host))) := by
  intro σ
  refine acalls Try.func23 rfl rfl (by decide) rfl rfl ?_
  refine aseq ?_
  refine areg rfl ?_
  refine s_det (D.assign rfl) rfl ?_
  refine s_nil ?_
  refine aseq ?_
  refine areg rfl ?_
  refine s_det (D.move rfl) rfl ?_
  refine s_cmp (D.call (evc rfl ev0) b_choose_may (choose_may L hl)) rfl (fun h8 => ?_) (fun h8 => ?_)
  · replace h8 := of_decide_eq_true h8
    refine s_det (D.move rfl) rfl ?_
    refine s_yes rfl rfl ?_
    refine s_det (D.move rfl) rfl ?_
    refine s_yes rfl rfl ?_
    refine s_cmp (D.call (evc rfl (evc rfl ev0)) b_choose_within (choose_within _ _)) rfl (fun h11 => ?_) (fun h11 => ?_)
    · replace h11 := of_decide_eq_true h11
      refine s_det (D.pick rfl rfl rfl rfl) rfl ?_
      refine s_det (D.move rfl) rfl ?_
      refine s_yes rfl rfl ?_
      refine s_det (D.move rfl) rfl ?_
      refine s_yes rfl rfl ?_
      refine s_det (D.call (evc rfl (evc rfl ev0)) b_choose_within (choose_within _ _)) rfl ?_
      refine s_det (D.pick rfl rfl rfl rfl) rfl ?_
      refine s_det (D.assign rfl) rfl ?_
      refine s_nil ?_
      refine aret ?_
      exact ⟨[_], ⟨⟨rfl, rfl⟩, trivial⟩, bvI (by unfold askC; exact ⟨fun h => ⟨h8, h11, h⟩, fun h => h.2.2⟩), rfl⟩
    · replace h11 := of_decide_eq_false h11
      refine s_det (D.pick rfl rfl rfl rfl) rfl ?_
      refine s_det (D.move rfl) rfl ?_
      refine s_no rfl rfl rfl rfl ?_
      refine s_no rfl rfl rfl rfl ?_
      refine s_det (D.pick rfl rfl rfl rfl) rfl ?_
      refine s_det (D.assign rfl) rfl ?_
      refine s_nil ?_
      refine aret ?_
      exact ⟨[_], ⟨⟨rfl, rfl⟩, trivial⟩, bvF (fun h => h11 h.2.1), rfl⟩
  · replace h8 := of_decide_eq_false h8
    refine s_det (D.move rfl) rfl ?_
    refine s_no rfl rfl rfl rfl ?_
    refine s_no rfl rfl rfl rfl ?_
    refine s_det (D.pick rfl rfl rfl rfl) rfl ?_
    refine s_det (D.move rfl) rfl ?_
    refine s_no rfl rfl rfl rfl ?_
    refine s_no rfl rfl rfl rfl ?_
    refine s_det (D.pick rfl rfl rfl rfl) rfl ?_
    refine s_det (D.assign rfl) rfl ?_
    refine s_nil ?_
    refine aret ?_
    exact ⟨[_], ⟨⟨rfl, rfl⟩, trivial⟩, bvF (fun h => h8 h.1), rfl⟩

set_option maxRecDepth 10000 in
theorem choose_Fits (L : List It) (c : List Int) (room host : Int) (hl : L.length ≤ 4398046511104) (hc : c.length ≤ 4398046511104) : Pure Try.prog 18 [items L, ints c, iv room, iv host] (.tup [bv (fitS L c room host).1, iv (fitS L c room host).2]) := by
  intro σ
  refine acalls Try.func18 rfl rfl (by decide) rfl rfl ?_
  refine aseq ?_
  refine areg rfl ?_
  refine s_det (D.assign rfl) rfl ?_
  refine s_det (D.assign rfl) rfl ?_
  refine s_nil ?_
  refine aseq ?_
  refine aseq ?_
  refine areg rfl ?_
  refine s_det (D.move rfl) rfl ?_
  refine s_det (D.move rfl) rfl ?_
  refine s_det (D.move rfl) rfl ?_
  refine s_cmp (D.call (evc rfl (evc rfl (evc rfl ev0))) b_choose_asked (choose_asked L room host hl)) rfl (fun h14 => ?_) (fun h14 => ?_)
  · replace h14 := of_decide_eq_true h14
    refine s_det (D.not rfl rfl) rfl ?_
    refine s_det (D.move rfl) rfl ?_
    refine s_yes rfl rfl ?_
    refine s_det (D.move rfl) rfl ?_
    refine s_yes rfl rfl ?_
    refine s_det (D.move rfl) rfl ?_
    refine s_yes rfl rfl ?_
    refine s_cmp (D.call (evc rfl (evc rfl ev0)) b_choose_chosen (choose_chosen L c hl hc)) rfl (fun h19 => ?_) (fun h19 => ?_)
    · replace h19 := of_decide_eq_true h19
      refine s_yes rfl rfl ?_
      refine s_det (D.not rfl rfl) rfl ?_
      refine s_det (D.pick rfl rfl rfl rfl) rfl ?_
      refine s_nil ?_
      refine acond_f rfl ?_
      refine askip ?_
      refine aseq ?_
      refine areg rfl ?_
      refine s_det (D.move rfl) rfl ?_
      refine s_det (D.move rfl) rfl ?_
      refine s_det (D.call (evc rfl (evc rfl ev0)) b_choose_of (choose_of L c h19.1 h19.2)) rfl ?_
      refine s_act rfl (A.alloc rfl rfl rfl fun b10 hb10 => ?_)
      refine s_do (A.store rfl rfl (AH.set_self ..) rfl rfl (by rfl) rfl rfl ?_)
      refine s_nil ?_
      rw [AH.set_set]
      refine afix (d := 10) rfl hb10 ?_
      refine aseq ?_
      refine areg rfl ?_
      refine s_det (D.field_i rfl rfl rfl) rfl ?_
      refine s_det (D.load_i rfl rfl) rfl ?_
      refine s_det (D.move rfl) rfl ?_
      refine s_cmp (D.leq rfl rfl rfl) rfl (fun h28 => ?_) (fun h28 => ?_)
      · replace h28 := of_decide_eq_true h28
        refine s_det (D.move rfl) rfl ?_
        refine s_yes rfl rfl ?_
        refine s_det (D.field_i rfl rfl rfl) rfl ?_
        refine s_yes rfl rfl ?_
        refine s_det (D.load_i rfl rfl) rfl ?_
        refine s_yes rfl rfl ?_
        refine s_det (D.move rfl) rfl ?_
        refine s_yes rfl rfl ?_
        refine s_det (D.leq rfl rfl rfl) rfl ?_
        refine s_det (D.pick rfl rfl rfl rfl) rfl ?_
        refine s_det (D.assign rfl) rfl ?_
        refine s_det (D.assign rfl) rfl ?_
        refine s_nil ?_
        refine aret ?_
        exact ⟨[_, _], ⟨⟨rfl, rfl⟩, ⟨rfl, rfl⟩, trivial⟩, (by rw [fitS_k h14 h19.2, decide_eq_decide.2 (show (sum0 L c).m ≤ host ↔ fits room host (sum0 L c) from ⟨fun h => ⟨h28, h⟩, fun h => h.2⟩)]; rfl), rfl⟩
      · replace h28 := of_decide_eq_false h28
        refine s_det (D.move rfl) rfl ?_
        refine s_no rfl rfl rfl rfl ?_
        refine s_no rfl rfl rfl rfl ?_
        refine s_no rfl rfl rfl rfl ?_
        refine s_no rfl rfl rfl rfl ?_
        refine s_det (D.pick rfl rfl rfl rfl) rfl ?_
        refine s_det (D.assign rfl) rfl ?_
        refine s_det (D.assign rfl) rfl ?_
        refine s_nil ?_
        refine aret ?_
        exact ⟨[_, _], ⟨⟨rfl, rfl⟩, ⟨rfl, rfl⟩, trivial⟩, (by rw [fitS_k h14 h19.2, decide_eq_false (show ¬ fits room host (sum0 L c) from fun h => h28 h.1)]; rfl), rfl⟩
    · replace h19 := of_decide_eq_false h19
      refine s_yes rfl rfl ?_
      refine s_det (D.not rfl rfl) rfl ?_
      refine s_det (D.pick rfl rfl rfl rfl) rfl ?_
      refine s_nil ?_
      refine acond_t rfl ?_
      refine aseq ?_
      refine areg rfl ?_
      refine s_det (D.assign rfl) rfl ?_
      refine s_det (D.assign rfl) rfl ?_
      refine s_nil ?_
      refine aret ?_
      exact ⟨[_, _], ⟨⟨rfl, rfl⟩, ⟨rfl, rfl⟩, trivial⟩, (by rw [fitS_f (fun h => h19 ⟨h.1.1, h.2⟩)]; rfl), rfl⟩
  · replace h14 := of_decide_eq_false h14
    refine s_det (D.not rfl rfl) rfl ?_
    refine s_det (D.move rfl) rfl ?_
    refine s_no rfl rfl rfl rfl ?_
    refine s_no rfl rfl rfl rfl ?_
    refine s_no rfl rfl rfl rfl ?_
    refine s_no rfl rfl rfl rfl ?_
    refine s_det (D.pick rfl rfl rfl rfl) rfl ?_
    refine s_nil ?_
    refine acond_t rfl ?_
    refine aseq ?_
    refine areg rfl ?_
    refine s_det (D.assign rfl) rfl ?_
    refine s_det (D.assign rfl) rfl ?_
    refine s_nil ?_
    refine aret ?_
    exact ⟨[_, _], ⟨⟨rfl, rfl⟩, ⟨rfl, rfl⟩, trivial⟩, (by rw [fitS_f (fun h => h14 h.1)]; rfl), rfl⟩

end Go.Proofs.Ytaiccchelchdmaa.F
