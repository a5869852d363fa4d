/- What the reference's small functions compute: dims and tensors that may be, copies, equality of tensors, what is too much. About lists and numbers alone. No memory and no program here: the printed functions alone. -/
import Derived.Test.YtpjcidlkdfebhaaPTx7
import Derived.Test.YtpjcidlkdfebhaaPTx5
import Derived.Test.YtpjcidlkdfebhaaPTx11
import Derived.Test.YtpjcidlkdfebhaaPTx2
import Derived.Test.YtpjcidlkdfebhaaShA
import Derived.Test.YtpjcidlkdfebhaaShD
set_option linter.unusedVariables false
set_option linter.unusedSimpArgs false
namespace Go.Proofs.Ytpjcidlkdfebhaa.ShEv
open Go.RowKit Go.Proofs.EvW Go.Proofs.Ytpjcidlkdfebhaa.PT Go.Proofs.YtpjcidlkdfebhaaW.PrintWords Go.Proofs.YtpjcidlkdfebhaaW.PrintLast Go.Proofs.YtpjcidlkdfebhaaW.PrintMore
theorem between_eq (a b c : Int) : gradusref0_Between.f a b c = some (decide (b ≤ a ∧ a ≤ c)) := by
  unfold gradusref0_Between.f
  by_cases h : a ≥ b
  · rw [if_pos h]
    exact congrArg some (decide_eq_decide.2 ⟨fun g => ⟨h, g⟩, fun g => g.2⟩)
  · rw [if_neg h, decide_eq_false (fun g => h g.1)]
theorem rdims_loop (d : List Int) (hl : d.length ≤ 3) (m : Nat) : ∀ (i : Nat) (x : Int), i + m = d.length → 1 ≤ x → x * 8 ^ m ≤ 4096 →
    Ev (fun k => gradusref1_Dims.l0 k d x (i : Int)) (decide (allR (d.drop i) ∧ x * prod (d.drop i) ≤ 64)) := by
  induction m with
  | zero =>
    intro i x hi hx h8
    rw [List.drop_of_length_le (by omega)]
    have : decide (allR [] ∧ x * prod [] ≤ 64) = decide (x ≤ 64) := decide_eq_decide.2 (by simp [allR, prod])
    rw [this]
    refine Ev.step (f := fun _ => some (decide (x ≤ 64))) (fun k => ?_) (Ev.now _)
    simp only [gradusref1_Dims.l0]
    rw [if_neg (by omega)]
  | succ m ih =>
    intro i x hi hx h8
    have hlt : i < d.length := by omega
    have p1 := p8 m
    have e8 : x * 8 ^ (m + 1) = x * 8 * 8 ^ m := by rw [Int.pow_succ, Int.mul_comm (8 ^ m) 8, Int.mul_assoc]
    have hx8 : x * 8 * 1 ≤ x * 8 * 8 ^ m := Int.mul_le_mul_of_nonneg_left p1 (by omega)
    rw [show d.drop i = d[i] :: d.drop (i + 1) from List.drop_eq_getElem_cons hlt]
    by_cases c : inR d[i]
    · have b1 : x * d[i] ≤ x * 8 := Int.mul_le_mul_of_nonneg_left c.2 (by omega)
      have b2 : 1 * 1 ≤ x * d[i] := Int.mul_le_mul hx c.1 (by omega) (by omega)
      have b3 : x * d[i] * 8 ^ m ≤ x * 8 * 8 ^ m := Int.mul_le_mul_of_nonneg_right b1 (by omega)
      have key := ih (i + 1) (x * d[i]) (by omega) (by omega) (by omega)
      have : decide (allR (d[i] :: d.drop (i + 1)) ∧ x * prod (d[i] :: d.drop (i + 1)) ≤ 64) = decide (allR (d.drop (i + 1)) ∧ x * d[i] * prod (d.drop (i + 1)) ≤ 64) :=
        decide_eq_decide.2 (by rw [allR_cons, prod, Int.mul_assoc]; exact ⟨fun g => ⟨g.1.2, g.2⟩, fun g => ⟨⟨c, g.1⟩, g.2⟩⟩)
      rw [this]
      refine Ev.step (fun k => ?_) key
      simp only [gradusref1_Dims.l0]
      rw [if_pos (by omega), if_pos (by omega), between_eq, rdI hlt, decide_eq_true (show 1 ≤ d[i] ∧ d[i] ≤ 8 from c), Option.bind_some, if_pos rfl, w64 (i := x * d[i]) (by omega) (by omega), w64s (by omega)]
    · rw [decide_eq_false (fun g => c (allR_cons.1 g.1).1)]
      refine Ev.step (f := fun _ => some false) (fun k => ?_) (Ev.now _)
      simp only [gradusref1_Dims.l0]
      rw [if_pos (by omega), if_pos (by omega), between_eq, rdI hlt, decide_eq_false (show ¬ (1 ≤ d[i] ∧ d[i] ≤ 8) from c), Option.bind_some, if_neg (by simp)]
theorem rdims_ev (d : List Int) : Ev (fun k => gradusref1_Dims.f k d) (decide (okD d)) := by
  unfold gradusref1_Dims.f
  refine call (between_eq _ _ _) ?_
  by_cases h : 1 ≤ d.length ∧ d.length ≤ 3
  · refine pos (by simp; omega) ?_
    have h8 : (1 : Int) * 8 ^ d.length ≤ 4096 := by
      rcases d with _ | ⟨a, _ | ⟨b, _ | ⟨c, _ | ⟨e, d⟩⟩⟩⟩ <;> simp at h ⊢ <;> omega
    have key := rdims_loop d h.2 d.length 0 1 (by omega) (by decide) h8
    have : decide (okD d) = decide (allR (d.drop 0) ∧ 1 * prod (d.drop 0) ≤ 64) := decide_eq_decide.2 (by
      rw [List.drop_zero, Int.one_mul]
      exact ⟨fun g => ⟨g.2.2.1, g.2.2.2⟩, fun g => ⟨h.1, h.2, g.1, g.2⟩⟩)
    rw [this]
    exact key
  · rw [decide_eq_false (p := okD d) (fun g => h ⟨g.1, g.2.1⟩)]
    exact neg (by simp; omega) (Ev.now _)
theorem rcells_loop (l : List Int) (hl : l.length ≤ 9223372036854775807) (m : Nat) : ∀ (i : Nat) (x : Int), i + m = l.length →
    Ev (fun k => gradusref1_Cells.l0 k l x (i : Int)) ((l.drop i).foldl (fun a x => wrap64 (a * x)) x) := by
  induction m with
  | zero =>
    intro i x hi
    refine Ev.step (f := fun _ => some x) (fun k => ?_) ?_
    · simp only [gradusref1_Cells.l0]
      rw [if_neg (by omega)]
    · rw [List.drop_of_length_le (by omega)]
      exact Ev.now _
  | succ m ih =>
    intro i x hi
    have hlt : i < l.length := by omega
    refine Ev.step (f := fun k => gradusref1_Cells.l0 k l (wrap64 (x * l[i])) ((i + 1 : Nat) : Int)) (fun k => ?_) ?_
    · simp only [gradusref1_Cells.l0]
      rw [if_pos (by omega), if_pos (by omega), rdI hlt, w64s (by omega)]
    · rw [List.drop_eq_getElem_cons hlt]
      exact ih (i + 1) _ (by omega)
theorem rcells_ev {d : List Int} (h : allR d) (hl : d.length ≤ 3) : Ev (fun k => gradusref1_Cells.f k d) (prod d) := by
  have := rcells_loop d (by omega) d.length 0 1 (by omega)
  rwa [List.drop_zero, prodW1 h hl] at this
theorem rtensor_ev (d l : List Int) : Ev (fun k => gradusref1_Tensor.f k d l) (decide (okT d l)) := by
  unfold gradusref1_Tensor.f
  refine Ev.bind (rdims_ev d) ?_
  by_cases h : okD d
  · refine pos (by simpa using h) (Ev.bind (rcells_ev h.2.2.1 h.2.1) ?_)
    have : decide (okT d l) = ((l.length : Int) == prod d) := by
      rw [Bool.eq_iff_iff]
      simp [okT, h]
    rw [this]
    exact Ev.now _
  · rw [decide_eq_false (fun x : okT d l => h x.1)]
    exact neg (by simpa using h) (Ev.now _)
theorem copyT_ev (d l : List Int) (hd : d.length ≤ 17592186044416) (hl : l.length ≤ 17592186044416) : Ev (fun k => gradusref0_CopyTensor.f k d l) (d, l) := by
  unfold gradusref0_CopyTensor.f
  exact Ev.bind (copy_ev d hd) (Ev.bind (copy_ev l hl) (Ev.now _))
theorem eqT_ev (d l d' l' : List Int) (hd : d.length ≤ 9223372036854775807) (hl : l.length ≤ 9223372036854775807) : Ev (fun k => gradusref0_EqTensor.f k d l d' l') (decide (d = d' ∧ l = l')) := by
  unfold gradusref0_EqTensor.f
  refine Ev.bind (eq_ev d d' hd) ?_
  by_cases h : d = d'
  · refine pos (by simpa using h) (Ev.bind (eq_ev l l' hl) ?_)
    have : decide (d = d' ∧ l = l') = decide (l = l') := decide_eq_decide.2 (by simp [h])
    rw [this]
    exact Ev.now _
  · rw [decide_eq_false (p := d = d' ∧ l = l') (fun g => h g.1)]
    exact neg (by simpa using h) (Ev.now _)
theorem tweight_loop (l : List S34) (hl : l.length ≤ 9223372036854775807) (m : Nat) : ∀ (i : Nat) (x : Int), i + m = l.length → ∃ r, Ev (fun k => graduslaw0_TensorsWeight.l0 k l x (i : Int)) r := by
  induction m with
  | zero =>
    intro i x hi
    refine ⟨x, Ev.step (f := fun _ => some x) (fun k => ?_) (Ev.now _)⟩
    simp only [graduslaw0_TensorsWeight.l0]
    rw [if_neg (by omega)]
  | succ m ih =>
    intro i x hi
    by_cases c : x < 1048576
    · obtain ⟨r, hr⟩ := ih (i + 1) (wrap64 ((wrap64 (x + (((rd_T34 l (i : Int)).f0).length : Int))) + (wrap64 ((((rd_T34 l (i : Int)).f1).length : Int) / 8)))) (by omega)
      refine ⟨r, Ev.step (fun k => ?_) hr⟩
      simp only [graduslaw0_TensorsWeight.l0]
      rw [if_pos (by omega), if_pos c, if_pos (by omega), w64s (by omega)]
    · refine ⟨x, Ev.step (f := fun _ => some x) (fun k => ?_) (Ev.now _)⟩
      simp only [graduslaw0_TensorsWeight.l0]
      rw [if_pos (by omega), if_neg c]
theorem tweight_ends (t : List S34) (ht : t.length ≤ 9223372036854775807) : ∃ r, Ev (fun k => graduslaw0_TensorsWeight.f k t) r :=
  tweight_loop t ht t.length 0 (t.length : Int) (by omega)
end Go.Proofs.Ytpjcidlkdfebhaa.ShEv
