/- What the functions of package shape compute: dims, and tensors of one number. About lists and numbers alone. No memory and no program here: the printed functions alone. -/
import Derived.Test.YtpjcidlkdfebhaaPTx1
import Derived.Test.YtpjcidlkdfebhaaPTx3
import Derived.Test.YtpjcidlkdfebhaaEvW
import Derived.KernelRfl
set_option linter.unusedVariables false
set_option linter.unusedSimpArgs false
namespace Go.Proofs.Ytpjcidlkdfebhaa.ShEv
open Go.RowKit Go.Proofs.EvW Go.Proofs.Ytpjcidlkdfebhaa.PT Go.Proofs.YtpjcidlkdfebhaaW.PrintWords Go.Proofs.YtpjcidlkdfebhaaW.PrintLast Go.Proofs.YtpjcidlkdfebhaaW.PrintMore

theorem p8 : ∀ n : Nat, (1 : Int) ≤ 8 ^ n
  | 0 => by decide
  | n + 1 => by rw [Int.pow_succ]; have := p8 n; omega
/-! ### products -/
def prod : List Int → Int
  | [] => 1
  | a :: l => a * prod l
def inR (x : Int) : Prop := 1 ≤ x ∧ x ≤ 8
instance (x : Int) : Decidable (inR x) := inferInstanceAs (Decidable (_ ∧ _))
def allR (l : List Int) : Prop := ∀ x ∈ l, inR x
instance (l : List Int) : Decidable (allR l) := inferInstanceAs (Decidable (∀ x ∈ l, inR x))
theorem allR_cons {a : Int} {l : List Int} : allR (a :: l) ↔ inR a ∧ allR l := by simp [allR]
theorem allR_drop {l : List Int} (h : allR l) (i : Nat) : allR (l.drop i) := fun x hx => h x (List.mem_of_mem_drop hx)
theorem prod_pos : ∀ {l : List Int}, allR l → 1 ≤ prod l
  | [], _ => by decide
  | a :: l, h => by
    have h1 := (allR_cons.1 h).1
    have h2 := prod_pos (allR_cons.1 h).2
    have := Int.mul_le_mul h1.1 h2 (by omega) (by have := h1.1; omega)
    simpa [prod] using this
theorem prodW (l : List Int) : ∀ (acc : Int), allR l → 1 ≤ acc → acc * 8 ^ l.length ≤ 1152921504606846976 → l.foldl (fun a x => wrap64 (a * x)) acc = acc * prod l := by
  induction l with
  | nil => intro acc _ _ _; simp [prod]
  | cons a l ih =>
    intro acc h ha hb
    have h1 := (allR_cons.1 h).1
    have e1 : acc * 8 ^ (a :: l).length = acc * 8 * 8 ^ l.length := by rw [List.length_cons, Int.pow_succ, Int.mul_comm (8 ^ _) 8, Int.mul_assoc]
    have p8 := p8 l.length
    have b1 : acc * a ≤ acc * 8 := Int.mul_le_mul_of_nonneg_left h1.2 (by omega)
    have b2 : acc * a * 8 ^ l.length ≤ acc * 8 * 8 ^ l.length := Int.mul_le_mul_of_nonneg_right b1 (by omega)
    have b3 : acc * a * 1 ≤ acc * a * 8 ^ l.length := Int.mul_le_mul_of_nonneg_left p8 (Int.mul_nonneg (by omega) (by have := h1.1; omega))
    have b4 : 1 * 1 ≤ acc * a := Int.mul_le_mul ha h1.1 (by omega) (by omega)
    rw [List.foldl_cons, w64 (by omega) (by omega), ih _ (allR_cons.1 h).2 (by omega) (by omega), prod, Int.mul_assoc]
theorem prodW1 {l : List Int} (h : allR l) (hl : l.length ≤ 3) : l.foldl (fun a x => wrap64 (a * x)) 1 = prod l := by
  rw [prodW l 1 h (by decide) (by
    have : (8 : Int) ^ l.length ≤ 8 ^ 3 := by
      rcases l with _ | ⟨a, _ | ⟨b, _ | ⟨c, _ | ⟨e, l⟩⟩⟩⟩ <;> simp at hl ⊢ <;> omega
    omega), Int.one_mul]
theorem product_loop (l : List Int) (hl : l.length ≤ 9223372036854775807) (d : Nat) : ∀ (i : Nat) (x : Int), i + d = l.length →
    Ev (fun k => shape_Product.l0 k x l (l.length : Int) (i : Int)) ((l.drop i).foldl (fun a x => wrap64 (a * x)) x) := by
  induction d with
  | zero =>
    intro i x hi
    refine Ev.step (f := fun _ => some x) (fun k => ?_) ?_
    · simp only [shape_Product.l0]
      rw [if_neg (by omega)]
    · rw [List.drop_of_length_le (by omega)]
      exact Ev.now _
  | succ d ih =>
    intro i x hi
    have hlt : i < l.length := by omega
    refine Ev.step (f := fun k => shape_Product.l0 k (wrap64 (x * l[i])) l (l.length : Int) ((i + 1 : Nat) : Int)) (fun k => ?_) ?_
    · simp only [shape_Product.l0]
      rw [if_pos (by omega), if_pos (by omega), if_pos (by omega), rdI hlt, w64s (by omega)]
    · rw [List.drop_eq_getElem_cons hlt]
      exact ih (i + 1) _ (by omega)
theorem product_ev0 (l : List Int) (hl : l.length ≤ 9223372036854775807) : Ev (fun k => shape_Product.f k l) (l.foldl (fun a x => wrap64 (a * x)) 1) := product_loop l hl l.length 0 1 (by omega)
theorem product_ev {l : List Int} (h : allR l) (hl : l.length ≤ 3) : Ev (fun k => shape_Product.f k l) (prod l) := by
  have := product_ev0 l (by omega)
  rwa [prodW1 h hl] at this

/-! ### dims that may be -/
def okD (d : List Int) : Prop := 1 ≤ d.length ∧ d.length ≤ 3 ∧ allR d ∧ prod d ≤ 64
instance (d : List Int) : Decidable (okD d) := inferInstanceAs (Decidable (_ ∧ _ ∧ _ ∧ _))
theorem index_loop (l : List Int) (hl : l.length ≤ 9223372036854775807) (d : Nat) : ∀ (i : Nat), i + d = l.length →
    ∃ r : Int, Ev (fun k => slices_IndexFunc_shape_May_1.l0 k l (l.length : Int) (i : Int)) r ∧ (0 ≤ r ↔ ¬ allR (l.drop i)) := by
  induction d with
  | zero =>
    intro i hi
    refine ⟨-1, Ev.step (f := fun _ => some (-1)) (fun k => ?_) (Ev.now _), ?_⟩
    · simp only [slices_IndexFunc_shape_May_1.l0]
      rw [if_neg (by omega)]
    · rw [List.drop_of_length_le (by omega)]
      simp [allR]
  | succ d ih =>
    intro i hi
    have hlt : i < l.length := by omega
    by_cases hb : inR l[i]
    · obtain ⟨r, h1, h2⟩ := ih (i + 1) (by omega)
      refine ⟨r, Ev.step (f := fun k => slices_IndexFunc_shape_May_1.l0 k l (l.length : Int) ((i + 1 : Nat) : Int)) (fun k => ?_) h1, ?_⟩
      · simp only [slices_IndexFunc_shape_May_1.l0, shape_May_1.f]
        rw [if_pos (by omega), if_pos (by omega), if_pos (by omega), rdI hlt, w64s (by omega), if_neg (by have := hb.1; omega), Option.bind_some, if_neg (by have := hb.2; simp; omega)]
      · rw [List.drop_eq_getElem_cons hlt, allR_cons, h2]
        exact ⟨fun h x => h x.2, fun h x => h ⟨hb, x⟩⟩
    · refine ⟨(i : Int), Ev.step (f := fun _ => some (i : Int)) (fun k => ?_) (Ev.now _), ?_⟩
      · simp only [slices_IndexFunc_shape_May_1.l0, shape_May_1.f]
        rw [if_pos (by omega), if_pos (by omega), if_pos (by omega), rdI hlt]
        by_cases h1 : l[i] < 1
        · rw [if_pos h1, Option.bind_some, if_pos rfl]
        · rw [if_neg h1, Option.bind_some, if_pos (by simp; unfold inR at hb; omega)]
      · rw [List.drop_eq_getElem_cons hlt, allR_cons]
        exact ⟨fun _ h => hb h.1, fun _ => by omega⟩
theorem contains_ev (l : List Int) (hl : l.length ≤ 9223372036854775807) : Ev (fun k => slices_ContainsFunc_shape_May_1.f k l) (decide (¬ allR l)) := by
  obtain ⟨r, h1, h2⟩ := index_loop l hl l.length 0 (by omega)
  refine Ev.bind (f := fun _ t => some (decide (t ≥ 0))) h1 ?_
  have : decide (r ≥ 0) = decide (¬ allR l) := by
    rw [List.drop_zero] at h2
    exact decide_eq_decide.2 h2
  simp only [this]
  exact Ev.now _
theorem may_ev (d : List Int) : Ev (fun k => shape_May.f k d) (decide (okD d)) := by
  unfold shape_May.f
  by_cases h1 : (d.length : Int) < 1
  · rw [decide_eq_false (by unfold okD; omega)]
    exact pos h1 (Ev.now _)
  refine neg h1 ?_
  by_cases h2 : (d.length : Int) > 3
  · rw [decide_eq_false (by unfold okD; omega)]
    exact pos h2 (Ev.now _)
  refine neg h2 (Ev.bind (contains_ev d (by omega)) ?_)
  by_cases h3 : allR d
  · refine neg (by simpa using h3) (Ev.bind (product_ev h3 (by omega)) ?_)
    have : decide (okD d) = decide (prod d ≤ 64) := decide_eq_decide.2 ⟨fun h => h.2.2.2, fun h => ⟨by omega, by omega, h3, h⟩⟩
    rw [this]
    exact Ev.now _
  · rw [decide_eq_false (p := okD d) (fun h => h3 h.2.2.1)]
    exact pos (by simpa using h3) (Ev.now _)

/-! ### rows that are filled from the left -/
theorem set_fill (A : List Int) (m : Nat) (v : Int) : (A ++ List.replicate (m + 1) (0 : Int)).set A.length v = (A ++ [v]) ++ List.replicate m 0 := by
  rw [List.set_append_right _ _ (Nat.le_refl _), Nat.sub_self, List.replicate_succ, List.set_cons_zero, List.append_assoc]
  rfl

theorem iteB {b : Bool} {α : Type} {x y : Nat → Option α} {r : α} (h1 : b = true → Ev x r) (h0 : b = false → Ev y r) : Ev (fun k => if b = true then x k else y k) r := by
  cases b
  · exact neg (by simp) (h0 rfl)
  · exact pos rfl (h1 rfl)
/-! ### equality -/
theorem eq_loop (a b : List Int) (hl : a.length = b.length) (hm : a.length ≤ 9223372036854775807) (m : Nat) : ∀ (i : Nat), i + m = a.length → a.take i = b.take i → Ev (fun k => gradusref0_EqNumbers.l0 k a b (i : Int)) (decide (a = b)) := by
  induction m with
  | zero =>
    intro i hi he
    rw [List.take_of_length_le (by omega), List.take_of_length_le (by omega)] at he
    rw [decide_eq_true he]
    refine Ev.step (f := fun _ => some true) (fun k => ?_) (Ev.now _)
    simp only [gradusref0_EqNumbers.l0]
    rw [if_neg (by omega)]
  | succ m ih =>
    intro i hi he
    have hlt : i < a.length := by omega
    have hlt2 : i < b.length := by omega
    by_cases c : a[i] = b[i]
    · refine Ev.step (fun k => ?_) (ih (i + 1) (by omega) ?_)
      · simp only [gradusref0_EqNumbers.l0]
        rw [if_pos (by omega), if_pos (by omega), if_pos (by omega), rdI hlt, rdI hlt2, if_pos c, w64s (by omega)]
      · rw [← List.take_append_getElem hlt, ← List.take_append_getElem hlt2, he, c]
    · rw [decide_eq_false (fun e => c (by subst e; rfl))]
      refine Ev.step (f := fun _ => some false) (fun k => ?_) (Ev.now _)
      simp only [gradusref0_EqNumbers.l0]
      rw [if_pos (by omega), if_pos (by omega), if_pos (by omega), rdI hlt, rdI hlt2, if_neg c]
theorem eq_ev (a b : List Int) (hm : a.length ≤ 9223372036854775807) : Ev (fun k => gradusref0_EqNumbers.f k a b) (decide (a = b)) := by
  unfold gradusref0_EqNumbers.f
  by_cases h : a.length = b.length
  · exact pos (by omega) (eq_loop a b h hm a.length 0 (by omega) rfl)
  · rw [decide_eq_false (fun e => h (by rw [e]))]
    exact neg (by omega) (Ev.now _)

/-! ### tensors -/
theorem clone_eq {d : List Int} (h : d.length < 17592186044416) : slices_Clone_int_int.f d = some d := by
  unfold slices_Clone_int_int.f
  rw [Option.bind_some, if_pos (by simpa using h), List.nil_append]
theorem new_ev {d : List Int} (h : okD d) : Ev (fun k => shape_New.f k d) (d, List.replicate (prod d).toNat 0) := by
  have h1 := prod_pos h.2.2.1
  have h2 := h.2.2.2
  unfold shape_New.f
  refine call (clone_eq (by have := h.2.1; omega)) (Ev.bind (product_ev h.2.2.1 h.2.1) ?_)
  exact pos (by omega) (pos (by omega) (Ev.now _))
def okT (d l : List Int) : Prop := okD d ∧ (l.length : Int) = prod d
instance (d l : List Int) : Decidable (okT d l) := inferInstanceAs (Decidable (_ ∧ _))
theorem is_ev (d l : List Int) : Ev (fun k => shape_Is.f k d l) (decide (okT d l)) := by
  unfold shape_Is.f
  refine Ev.bind (may_ev d) ?_
  by_cases h : okD d
  · refine pos (by simpa using h) (Ev.bind (product_ev h.2.2.1 h.2.1) ?_)
    have : decide (okT d l) = ((l.length : Int) == prod d) := by
      rw [Bool.eq_iff_iff]
      simp [okT, h]
    rw [this]
    exact Ev.now _
  · rw [decide_eq_false (fun x : okT d l => h x.1)]
    exact neg (by simpa using h) (Ev.now _)
end Go.Proofs.Ytpjcidlkdfebhaa.ShEv
