/- Functions of the program and of the references: what they compute, by the layer Al. Made by a program of this session (wip/al/alfill.py) out of wip/al/specs. -/
import Derived.Test.YtaiccchelchdmaaHe
import Derived.Test.YtaiccchelchdmaaBf
import Derived.Test.YtaiccchelchdmaaProg
namespace Go.Proofs.Ytaiccchelchdmaa.F
open Go Go.Proofs.Al
set_option linter.unusedVariables false
set_option linter.unusedSimpArgs false
set_option maxRecDepth 10000 in
theorem gradusref0_CopyNumbers_rs (l : List Int) (n : Nat) (hn : n = l.length) (hl : l.length ≤ 4398046511104) (b0 : Nat) (σ : AH) (hσ : σ b0 = some (rowI l)) : ACalls Try.prog 27 [.ref b0 1 0 n] σ (OwnS iv 1 l σ) := by
  subst hn
  refine acalls Try.func27 rfl rfl (by decide) rfl rfl ?_
  refine aseq ?_
  refine areg rfl ?_
  refine s_det (D.assign rfl) rfl ?_
  refine s_nil ?_
  refine aseq ?_
  refine areg rfl ?_
  refine s_det (D.assign rfl) rfl ?_
  refine s_nil ?_
  refine aseq ?_
  refine aseq ?_
  refine areg rfl ?_
  refine s_det (D.assign rfl) rfl ?_
  refine s_nil ?_
  refine aown (d := 3) (k := 1) rfl fun b hb => ?_
  refine ablock ?_
  -- LOOP writes [3, 4] keeps [0]
  refine aloop (ι := Nat × Nat × List Int) (fun s => s.1 ≤ l.length ∧ s.2.2 = l.take s.1 ∧ σ s.2.1 = none) (fun s => l.length - s.1) (fun s => [(0, .ref b0 1 0 l.length), (3, .ref s.2.1 1 0 s.2.2.length), (4, iv s.1)]) (fun s => σ.set s.2.1 (rowI s.2.2)) (0, b, []) ⟨by omega, rfl, hb⟩ ?_ rfl fun s hs => ?_
  · exact .cons rfl (.cons rfl (.cons rfl .nil))
  obtain ⟨i, b, acc⟩ := s
  obtain ⟨hi, hacc, hb⟩ := hs
  dsimp only at hi hacc hb
  refine aseq ?_
  refine aseq ?_
  refine areg rfl ?_
  refine s_det (D.move rfl) rfl ?_
  refine s_det (D.move rfl) rfl ?_
  refine s_det (D.len_r rfl rfl) rfl ?_
  refine s_cmp (D.lss rfl rfl rfl) rfl (fun h8 => ?_) (fun h8 => ?_)
  · replace h8 := of_decide_eq_true h8
    have hil : i < l.length := by omega
    have hv := get_lt hil
    have hal : acc.length = i := by rw [hacc]; simp; omega
    refine s_nil ?_
    refine acond_t rfl ?_
    refine askip ?_
    refine aseq ?_
    refine ablock ?_
    refine areg rfl ?_
    refine s_det (D.move rfl) rfl ?_
    refine s_det (D.move rfl) rfl ?_
    refine s_det (D.move rfl) rfl ?_
    refine s_det (D.idx_r rfl rfl (by omega) rfl) rfl ?_
    refine s_own (AH.get_set hb hσ) (D.load_x rfl hv rfl) rfl ?_
    refine s_det (D.lit sl_int (pc rfl rfl p0) rfl rfl (by decide)) rfl ?_
    refine s_act rfl (A.append1 rfl (AH.set_self ..) rfl sl_int rfl (by dsimp only; omega) (by decide) rfl fun b17 hb17 => ?_)
    refine s_det (D.assign rfl) rfl ?_
    refine s_nil ?_
    refine areg rfl ?_
    refine s_det (D.move rfl) rfl ?_
    refine s_det (D.add rfl rfl (w64 (by omega) (by omega))) rfl ?_
    refine s_det (D.assign rfl) rfl ?_
    refine s_nil ?_
    exact ⟨(i + 1, b17, acc ++ [l[i]]), ⟨by simp only; omega, by rw [hacc, take_snoc hil], (AH.set_none hb17).1⟩, by simp only; omega, .cons rfl (.cons rfl (.cons rfl .nil)), by simp only; rw [AH.del_set_self hb]⟩
  · replace h8 := of_decide_eq_false h8
    refine s_nil ?_
    refine acond_f rfl ?_
    refine aexit ?_
    refine aseq ?_
    refine areg rfl ?_
    refine s_det (D.move rfl) rfl ?_
    refine s_det (D.assign rfl) rfl ?_
    refine s_nil ?_
    refine aret ?_
    have hacc' : acc = l := by rw [hacc]; exact List.take_of_length_le (by omega)
    subst hacc'
    exact ⟨[_], ⟨⟨rfl, rfl⟩, trivial⟩, b, hb, rfl, rfl⟩

theorem gradusref0_CopyNumbers_r (l : List Int) (n : Nat) (hn : n = l.length) (hl : l.length ≤ 4398046511104) (b0 : Nat) (σ : AH) (hσ : σ b0 = some (rowI l)) : ACalls Try.prog 27 [.ref b0 1 0 n] σ (fun y σ' => y = ints l ∧ σ' = σ) :=
  (gradusref0_CopyNumbers_rs l n hn hl b0 σ hσ).freeze fun y σ' ⟨b, hb, hy, hs⟩ => ⟨_, σ, by subst hs; exact Sub.set (Sub.refl σ) hb _, by subst hs; subst hy; exact Pz.whole (AH.set_self ..) hb (by simp), rfl, rfl⟩

set_option maxRecDepth 10000 in
theorem gradusref0_CopyItems_own (l : List It) (hl : l.length ≤ 17592186044) (σ : AH) : ACalls Try.prog 11 [items l] σ (OwnS itv 3 l σ) := by
  skip
  refine acalls Try.func11 rfl rfl (by decide) rfl rfl ?_
  refine aseq ?_
  refine areg rfl ?_
  refine s_det (D.assign rfl) rfl ?_
  refine s_nil ?_
  refine aseq ?_
  refine areg rfl ?_
  refine s_det (D.assign rfl) rfl ?_
  refine s_nil ?_
  refine aseq ?_
  refine aseq ?_
  refine areg rfl ?_
  refine s_det (D.assign rfl) rfl ?_
  refine s_nil ?_
  refine aown (d := 3) (k := 3) rfl fun b hb => ?_
  refine ablock ?_
  -- LOOP writes [3, 4] keeps [0]
  refine aloop (ι := Nat × Nat × List It) (fun s => s.1 ≤ l.length ∧ s.2.2 = l.take s.1 ∧ σ s.2.1 = none) (fun s => l.length - s.1) (fun s => [(0, items l), (3, .ref s.2.1 3 0 s.2.2.length), (4, iv s.1)]) (fun s => σ.set s.2.1 (.row 3 (s.2.2.map itv))) (0, b, []) ⟨by omega, rfl, hb⟩ ?_ rfl fun s hs => ?_
  · exact .cons rfl (.cons rfl (.cons rfl .nil))
  obtain ⟨i, b, acc⟩ := s
  obtain ⟨hi, hacc, hb⟩ := hs
  dsimp only at hi hacc hb
  refine aseq ?_
  refine aseq ?_
  refine areg rfl ?_
  refine s_det (D.move rfl) rfl ?_
  refine s_det (D.move rfl) rfl ?_
  refine s_det (D.len_m rfl rfl) rfl ?_
  refine s_cmp (D.lss rfl rfl rfl) rfl (fun h8 => ?_) (fun h8 => ?_)
  · replace h8 := of_decide_eq_true h8
    have hil : i < l.length := by omega
    have hv := get_lt hil
    have hal : acc.length = i := by rw [hacc]; simp; omega
    refine s_nil ?_
    refine acond_t rfl ?_
    refine askip ?_
    refine aseq ?_
    refine ablock ?_
    refine areg rfl ?_
    refine s_det (D.move rfl) rfl ?_
    refine s_det (D.move rfl) rfl ?_
    refine s_det (D.move rfl) rfl ?_
    refine s_det (D.idx_m rfl rfl (by omega) hv rfl) rfl ?_
    refine s_det (D.load_i rfl rfl) rfl ?_
    refine s_det (D.lit sl_Item (pc rfl rfl p0) rfl rfl (by decide)) rfl ?_
    refine s_act rfl (A.append1 (f := itv) (v := l[i]) rfl (AH.set_self ..) rfl sl_Item rfl (by dsimp only; omega) (by decide) rfl fun b17 hb17 => ?_)
    refine s_det (D.assign rfl) rfl ?_
    refine s_nil ?_
    refine areg rfl ?_
    refine s_det (D.move rfl) rfl ?_
    refine s_det (D.add rfl rfl (w64 (by omega) (by omega))) rfl ?_
    refine s_det (D.assign rfl) rfl ?_
    refine s_nil ?_
    exact ⟨(i + 1, b17, acc ++ [l[i]]), ⟨by simp only; omega, by rw [hacc, take_snoc hil], (AH.set_none hb17).1⟩, by simp only; omega, .cons rfl (.cons rfl (.cons rfl .nil)), by simp only; rw [AH.del_set_self hb]⟩
  · replace h8 := of_decide_eq_false h8
    refine s_nil ?_
    refine acond_f rfl ?_
    refine aexit ?_
    refine aseq ?_
    refine areg rfl ?_
    refine s_det (D.move rfl) rfl ?_
    refine s_det (D.assign rfl) rfl ?_
    refine s_nil ?_
    refine aret ?_
    have hacc' : acc = l := by rw [hacc]; exact List.take_of_length_le (by omega)
    subst hacc'
    exact ⟨[_], ⟨⟨rfl, rfl⟩, trivial⟩, b, hb, rfl, rfl⟩

theorem gradusref0_CopyItems (l : List It) (hl : l.length ≤ 17592186044) : Pure Try.prog 11 [items l] (items l) := pure_of_own fun σ => gradusref0_CopyItems_own l hl σ
theorem It.ext' {a b : It} : a = b ↔ [a.s, a.a, a.m] = [b.s, b.a, b.m] := by cases a; cases b; simp

set_option maxRecDepth 10000 in
theorem gradusref0_EqItems (a b : List It) (ha : a.length ≤ 4611686018427387904) (hb : b.length ≤ 4611686018427387904) : Pure Try.prog 16 [items a, items b] (bv (decide (a = b))) := by
  intro σ
  refine acalls Try.func16 rfl rfl (by decide) rfl rfl ?_
  refine aseq ?_
  refine areg rfl ?_
  refine s_det (D.assign rfl) rfl ?_
  refine s_nil ?_
  refine aseq ?_
  refine aseq ?_
  refine areg rfl ?_
  refine s_det (D.move rfl) rfl ?_
  refine s_det (D.len_m rfl rfl) rfl ?_
  refine s_det (D.move rfl) rfl ?_
  refine s_det (D.len_m rfl rfl) rfl ?_
  refine s_cmp (D.neq rfl rfl rfl) rfl (fun h10 => ?_) (fun h10 => ?_)
  · replace h10 := of_decide_eq_true h10
    refine s_nil ?_
    refine acond_t rfl ?_
    refine aseq ?_
    refine areg rfl ?_
    refine s_det (D.assign rfl) rfl ?_
    refine s_nil ?_
    refine aret ?_
    refine ⟨[_], ⟨⟨rfl, rfl⟩, trivial⟩, ?_, rfl⟩
    rw [decide_eq_false (fun e => h10 (by rw [e]))]; rfl
  · replace h10 := of_decide_eq_false h10
    refine s_nil ?_
    refine acond_f rfl ?_
    refine askip ?_
    refine aseq ?_
    refine aseq ?_
    refine areg rfl ?_
    refine s_det (D.assign rfl) rfl ?_
    refine s_nil ?_
    refine ablock ?_
    -- LOOP writes [5] keeps [0, 1]
    refine aloop (ι := Nat) (fun i => i ≤ a.length ∧ ∀ j, j < i → a[j]? = b[j]?) (fun i => a.length - i) (fun i => [(0, items a), (1, items b), (5, iv i)]) (fun _ => σ) 0 ⟨by omega, fun j hj => by omega⟩ ?_ rfl fun i hi => ?_
    · exact .cons rfl (.cons rfl (.cons rfl .nil))
    obtain ⟨hi, heq⟩ := hi
    refine aseq ?_
    refine aseq ?_
    refine areg rfl ?_
    refine s_det (D.move rfl) rfl ?_
    refine s_det (D.move rfl) rfl ?_
    refine s_det (D.len_m rfl rfl) rfl ?_
    refine s_cmp (D.lss rfl rfl rfl) rfl (fun h14 => ?_) (fun h14 => ?_)
    · replace h14 := of_decide_eq_true h14
      have hia : i < a.length := by omega
      have hib : i < b.length := by omega
      have hva := get_lt hia
      have hvb := get_lt hib
      refine s_nil ?_
      refine acond_t rfl ?_
      refine askip ?_
      refine aseq ?_
      refine ablock ?_
      refine aseq ?_
      refine adraw [.det 0, .det 1, .det 2, .det 3, .det 4, .det 5, .det 6, .det 7, .det 8] rfl (by kernel_rfl) ?_
      refine d_det rfl (D.move rfl) rfl ?_
      refine d_det rfl (D.move rfl) rfl ?_
      refine d_det rfl (D.idx_m rfl rfl (by omega) hva rfl) rfl ?_
      refine d_det rfl (D.load_i rfl rfl) rfl ?_
      refine d_det rfl (D.move rfl) rfl ?_
      refine d_det rfl (D.move rfl) rfl ?_
      refine d_det rfl (D.idx_m rfl rfl (by omega) hvb rfl) rfl ?_
      refine d_det rfl (D.load_i rfl rfl) rfl ?_
      refine d_cmp rfl (D.neqI (a := [a[i].s, a[i].a, a[i].m]) (b := [b[i].s, b[i].a, b[i].m]) rfl rfl (by kernel_rfl) rfl rfl) rfl (fun h25 => ?_) (fun h25 => ?_)
      · replace h25 := of_decide_eq_true h25
        refine d_nil ?_
        refine acond_t rfl ?_
        refine aseq ?_
        refine areg rfl ?_
        refine s_det (D.assign rfl) rfl ?_
        refine s_nil ?_
        refine aret ?_
        refine ⟨[_], ⟨⟨rfl, rfl⟩, trivial⟩, ?_, rfl⟩
        rw [decide_eq_false (fun e => h25 (by subst e; rfl))]; rfl
      · replace h25 := of_decide_eq_false h25
        refine d_nil ?_
        refine acond_f rfl ?_
        refine askip ?_
        refine areg rfl ?_
        refine s_det (D.move rfl) rfl ?_
        refine s_det (D.add rfl rfl (w64 (by omega) (by omega))) rfl ?_
        refine s_det (D.assign rfl) rfl ?_
        refine s_nil ?_
        refine ⟨i + 1, ⟨by omega, fun j hj => ?_⟩, by omega, .cons rfl (.cons rfl (.cons rfl .nil)), rfl⟩
        by_cases hji : j = i
        · subst hji; rw [hva, hvb, It.ext'.2 (Decidable.byContradiction h25)]
        · exact heq j (by omega)
    · replace h14 := of_decide_eq_false h14
      refine s_nil ?_
      refine acond_f rfl ?_
      refine aexit ?_
      refine aseq ?_
      refine areg rfl ?_
      refine s_det (D.assign rfl) rfl ?_
      refine s_nil ?_
      refine aret ?_
      refine ⟨[_], ⟨⟨rfl, rfl⟩, trivial⟩, ?_, rfl⟩
      rw [decide_eq_true]; · rfl
      apply List.ext_getElem?
      intro j
      by_cases hj : j < a.length
      · exact heq j (by omega)
      · rw [List.getElem?_eq_none (by omega), List.getElem?_eq_none (by omega)]

set_option maxRecDepth 10000 in
theorem gradusref14_Choices (L : List It) (c : List Int) (hl : L.length ≤ 4398046511104) (hc : c.length ≤ 4398046511104) : Pure Try.prog 13 [items L, ints c] (bv (decide (okC L c))) := by
  intro σ
  refine acalls Try.func13 rfl rfl (by decide) rfl rfl ?_
  refine aseq ?_
  refine areg rfl ?_
  refine s_det (D.assign rfl) rfl ?_
  refine s_nil ?_
  refine aseq ?_
  refine aseq ?_
  refine areg rfl ?_
  refine s_det (D.assign rfl) rfl ?_
  refine s_nil ?_
  refine ablock ?_
  -- LOOP writes [5] keeps [0, 1]
  refine aloop (ι := Nat) (fun i => i ≤ c.length ∧ ∀ x ∈ c.take i, inC x) (fun i => c.length - i) (fun i => [(0, items L), (1, ints c), (5, iv i)]) (fun i => σ) 0 ⟨by omega, by simp⟩ ?_ rfl fun i hi => ?_
  · exact (.cons rfl (.cons rfl (.cons rfl .nil)))
  obtain ⟨hi, hok⟩ := hi
  refine aseq ?_
  refine aseq ?_
  refine areg rfl ?_
  refine s_det (D.move rfl) rfl ?_
  refine s_det (D.move rfl) rfl ?_
  refine s_det (D.len_m rfl rfl) rfl ?_
  refine s_cmp (D.lss rfl rfl rfl) rfl (fun h9 => ?_) (fun h9 => ?_)
  · replace h9 := of_decide_eq_true h9
    have hlt : i < c.length := by omega
    refine s_nil ?_
    refine acond_t rfl ?_
    refine askip ?_
    refine aseq ?_
    refine ablock ?_
    refine aseq ?_
    refine areg rfl ?_
    refine s_det (D.move rfl) rfl ?_
    refine s_det (D.move rfl) rfl ?_
    refine s_det (D.idx_m rfl rfl (by omega) (get_lt (i := i) hlt) rfl) rfl ?_
    refine s_det (D.load_i rfl rfl) rfl ?_
    refine s_cmp (D.call (evc rfl (evc rfl ev0)) b_gradusref0_Num (gradusref0_Num _ _)) rfl (fun h16 => ?_) (fun h16 => ?_)
    · replace h16 := of_decide_eq_true h16
      refine s_det (D.not rfl rfl) rfl ?_
      refine s_nil ?_
      refine acond_f rfl ?_
      refine askip ?_
      refine areg rfl ?_
      refine s_det (D.move rfl) rfl ?_
      refine s_det (D.add rfl rfl (w64 (by omega) (by omega))) rfl ?_
      refine s_det (D.assign rfl) rfl ?_
      refine s_nil ?_
      exact ⟨i + 1, ⟨by omega, take_okC hlt hok h16⟩, by omega, (.cons rfl (.cons rfl (.cons rfl .nil))), rfl⟩
    · replace h16 := of_decide_eq_false h16
      refine s_det (D.not rfl rfl) rfl ?_
      refine s_nil ?_
      refine acond_t rfl ?_
      refine aseq ?_
      refine areg rfl ?_
      refine s_det (D.assign rfl) rfl ?_
      refine s_nil ?_
      refine aret ?_
      exact ⟨[_], ⟨⟨rfl, rfl⟩, trivial⟩, bvF (fun h => h16 (h.2 _ (List.getElem_mem hlt))), rfl⟩
  · replace h9 := of_decide_eq_false h9
    rw [List.take_of_length_le (by omega)] at hok
    refine s_nil ?_
    refine acond_f rfl ?_
    refine aexit ?_
    refine aseq ?_
    refine areg rfl ?_
    refine s_det (D.move rfl) rfl ?_
    refine s_det (D.len_m rfl rfl) rfl ?_
    refine s_det (D.move rfl) rfl ?_
    refine s_det (D.len_m rfl rfl) rfl ?_
    refine s_det (D.eql rfl rfl rfl) rfl ?_
    refine s_det (D.assign rfl) rfl ?_
    refine s_nil ?_
    refine aret ?_
    exact ⟨[_], ⟨⟨rfl, rfl⟩, trivial⟩, bvI (by unfold okC; exact ⟨fun h => ⟨by omega, hok⟩, fun h => by have := h.1; omega⟩), rfl⟩

set_option maxRecDepth 10000 in
theorem gradusref14_Cost (L : List It) (c : List Int) (hL : okL L) (hc : okC L c) : Pure Try.prog 15 [items L, ints c] (.tup [iv (sum0 L c).c, iv (sum0 L c).k, iv (sum0 L c).m]) := by
  obtain ⟨hl, hL⟩ := hL
  obtain ⟨hcl, hC⟩ := hc
  intro σ
  refine acalls Try.func15 rfl rfl (by decide) rfl rfl ?_
  refine aseq ?_
  refine areg rfl ?_
  refine s_det (D.assign rfl) rfl ?_
  refine s_det (D.assign rfl) rfl ?_
  refine s_det (D.assign rfl) rfl ?_
  refine s_nil ?_
  refine aseq ?_
  refine areg rfl ?_
  refine s_det (D.assign rfl) rfl ?_
  refine s_det (D.assign rfl) rfl ?_
  refine s_det (D.assign rfl) rfl ?_
  refine s_nil ?_
  refine aseq ?_
  refine aseq ?_
  refine areg rfl ?_
  refine s_det (D.assign rfl) rfl ?_
  refine s_nil ?_
  refine ablock ?_
  -- LOOP writes [7, 8, 9, 10] keeps [0, 1]
  refine aloop (ι := Nat) (fun i => i ≤ L.length) (fun i => L.length - i) (fun i => [(0, items L), (1, ints c), (7, iv (sum0 (L.take i) (c.take i)).c), (8, iv (sum0 (L.take i) (c.take i)).k), (9, iv (sum0 (L.take i) (c.take i)).m), (10, iv i)]) (fun i => σ) 0 (by omega) ?_ rfl fun i hi => ?_
  · exact (.cons rfl (.cons rfl (.cons rfl (.cons rfl (.cons rfl (.cons rfl .nil))))))
  refine aseq ?_
  refine aseq ?_
  refine areg rfl ?_
  refine s_det (D.move rfl) rfl ?_
  refine s_det (D.move rfl) rfl ?_
  refine s_det (D.len_m rfl rfl) rfl ?_
  refine s_cmp (D.lss rfl rfl rfl) rfl (fun h14 => ?_) (fun h14 => ?_)
  · replace h14 := of_decide_eq_true h14
    have hlt : i < L.length := by omega
    have hct : i < c.length := by omega
    obtain ⟨⟨o1, o2⟩, ⟨o3, o4⟩, o5, o6⟩ := sum0_ok (L := L.take i) (fun x hx => hL x (List.mem_of_mem_take hx)) (c.take i)
    rw [List.length_take, Nat.min_eq_left (Nat.le_of_lt hlt)] at o2 o4 o6
    obtain ⟨⟨x1, x2⟩, ⟨x3, x4⟩, x5, x6⟩ := hL _ (List.getElem_mem hlt)
    have e : sum0 (L.take (i + 1)) (c.take (i + 1)) = plusS (sum0 (L.take i) (c.take i)) L[i] c[i] := sums_take hlt hct
    refine s_nil ?_
    refine acond_t rfl ?_
    refine askip ?_
    refine aseq ?_
    refine ablock ?_
    refine aseq ?_
    refine areg rfl ?_
    refine s_det (D.move rfl) rfl ?_
    refine s_det (D.move rfl) rfl ?_
    refine s_det (D.idx_m rfl rfl (by omega) (get_lt (i := i) hct) rfl) rfl ?_
    refine s_det (D.load_i rfl rfl) rfl ?_
    refine s_nil ?_
    refine ablock ?_
    refine aseq ?_
    refine areg rfl ?_
    refine s_cmp (D.eql rfl rfl rfl) rfl (fun h36 => ?_) (fun h36 => ?_)
    · replace h36 := of_decide_eq_true h36
      rw [plusS, if_pos h36] at e
      refine s_det (D.assign rfl) rfl ?_
      refine s_nil ?_
      refine acond_t rfl ?_
      refine areg rfl ?_
      refine s_det (D.move rfl) rfl ?_
      refine s_det (D.move rfl) rfl ?_
      refine s_det (D.move rfl) rfl ?_
      refine s_det (D.idx_m rfl rfl (by omega) (get_lt (i := i) hlt) rfl) rfl ?_
      refine s_det (D.field_i rfl rfl rfl) rfl ?_
      refine s_det (D.load_i rfl rfl) rfl ?_
      refine s_det (D.add rfl rfl (w64 (by omega) (by omega))) rfl ?_
      refine s_det (D.assign rfl) rfl ?_
      refine s_nil ?_
      refine areg rfl ?_
      refine s_det (D.move rfl) rfl ?_
      refine s_det (D.add rfl rfl (w64 (by omega) (by omega))) rfl ?_
      refine s_det (D.assign rfl) rfl ?_
      refine s_nil ?_
      exact ⟨i + 1, by omega, by omega, .cons rfl (.cons rfl (.cons (by rw [e]; rfl) (.cons (by rw [e]; rfl) (.cons (by rw [e]; rfl) (.cons rfl .nil))))), rfl⟩
    · replace h36 := of_decide_eq_false h36
      refine s_det (D.assign rfl) rfl ?_
      refine s_nil ?_
      refine acond_f rfl ?_
      refine aseq ?_
      refine areg rfl ?_
      refine s_cmp (D.eql rfl rfl rfl) rfl (fun h45 => ?_) (fun h45 => ?_)
      · replace h45 := of_decide_eq_true h45
        rw [plusS, if_neg h36, if_pos h45] at e
        refine s_det (D.assign rfl) rfl ?_
        refine s_nil ?_
        refine acond_t rfl ?_
        refine areg rfl ?_
        refine s_det (D.move rfl) rfl ?_
        refine s_det (D.move rfl) rfl ?_
        refine s_det (D.move rfl) rfl ?_
        refine s_det (D.idx_m rfl rfl (by omega) (get_lt (i := i) hlt) rfl) rfl ?_
        refine s_det (D.field_i rfl rfl rfl) rfl ?_
        refine s_det (D.load_i rfl rfl) rfl ?_
        refine s_det (D.add rfl rfl (w64 (by omega) (by omega))) rfl ?_
        refine s_det (D.assign rfl) rfl ?_
        refine s_nil ?_
        refine areg rfl ?_
        refine s_det (D.move rfl) rfl ?_
        refine s_det (D.add rfl rfl (w64 (by omega) (by omega))) rfl ?_
        refine s_det (D.assign rfl) rfl ?_
        refine s_nil ?_
        exact ⟨i + 1, by omega, by omega, .cons rfl (.cons rfl (.cons (by rw [e]; rfl) (.cons (by rw [e]; rfl) (.cons (by rw [e]; rfl) (.cons rfl .nil))))), rfl⟩
      · replace h45 := of_decide_eq_false h45
        rw [plusS, if_neg h36, if_neg h45] at e
        refine s_det (D.assign rfl) rfl ?_
        refine s_nil ?_
        refine acond_f rfl ?_
        refine adraw [.det 0, .det 1, .det 2, .det 3, .det 4, .det 5, .det 6, .det 7, .det 8, .det 9, .det 10, .det 11, .det 12, .det 13, .det 14, .det 15] rfl (by kernel_rfl) ?_
        refine d_det rfl (D.move rfl) rfl ?_
        refine d_det rfl (D.move rfl) rfl ?_
        refine d_det rfl (D.move rfl) rfl ?_
        refine d_det rfl (D.idx_m rfl rfl (by omega) (get_lt (i := i) hlt) rfl) rfl ?_
        refine d_det rfl (D.field_i rfl rfl rfl) rfl ?_
        refine d_det rfl (D.load_i rfl rfl) rfl ?_
        refine d_det rfl (D.add rfl rfl (w64 (by omega) (by omega))) rfl ?_
        refine d_det rfl (D.move rfl) rfl ?_
        refine d_det rfl (D.move rfl) rfl ?_
        refine d_det rfl (D.move rfl) rfl ?_
        refine d_det rfl (D.idx_m rfl rfl (by omega) (get_lt (i := i) hlt) rfl) rfl ?_
        refine d_det rfl (D.field_i rfl rfl rfl) rfl ?_
        refine d_det rfl (D.load_i rfl rfl) rfl ?_
        refine d_det rfl (D.add rfl rfl (w64 (by omega) (by omega))) rfl ?_
        refine d_det rfl (D.assign rfl) rfl ?_
        refine d_det rfl (D.assign rfl) rfl ?_
        refine d_nil ?_
        refine areg rfl ?_
        refine s_det (D.move rfl) rfl ?_
        refine s_det (D.add rfl rfl (w64 (by omega) (by omega))) rfl ?_
        refine s_det (D.assign rfl) rfl ?_
        refine s_nil ?_
        exact ⟨i + 1, by omega, by omega, .cons rfl (.cons rfl (.cons (by rw [e]; rfl) (.cons (by rw [e]; rfl) (.cons (by rw [e]; rfl) (.cons rfl .nil))))), rfl⟩
  · replace h14 := of_decide_eq_false h14
    have hee : i = L.length := by omega
    refine s_nil ?_
    refine acond_f rfl ?_
    refine aexit ?_
    refine aseq ?_
    refine areg rfl ?_
    refine s_det (D.move rfl) rfl ?_
    refine s_det (D.move rfl) rfl ?_
    refine s_det (D.move rfl) rfl ?_
    refine s_det (D.assign rfl) rfl ?_
    refine s_det (D.assign rfl) rfl ?_
    refine s_det (D.assign rfl) rfl ?_
    refine s_nil ?_
    refine aret ?_
    exact ⟨[_, _, _], ⟨⟨rfl, rfl⟩, ⟨rfl, rfl⟩, ⟨rfl, rfl⟩, trivial⟩, (by rw [hee, List.take_length, ← hcl, List.take_length]; rfl), rfl⟩

end Go.Proofs.Ytaiccchelchdmaa.F
