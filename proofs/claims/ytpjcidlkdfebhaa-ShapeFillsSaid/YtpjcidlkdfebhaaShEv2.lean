/- What the functions of package shape compute, continued: places, copies, tensors. About lists and numbers alone. -/
import Derived.Test.YtpjcidlkdfebhaaShEv
set_option linter.unusedVariables false
set_option linter.unusedSimpArgs false
namespace Go.Proofs.Ytpjcidlkdfebhaa.ShEv
open Go.RowKit Go.Proofs.EvW Go.Proofs.Ytpjcidlkdfebhaa.PT Go.Proofs.YtpjcidlkdfebhaaW.PrintWords Go.Proofs.YtpjcidlkdfebhaaW.PrintLast Go.Proofs.YtpjcidlkdfebhaaW.PrintMore

theorem iteB {b : Bool} {α : Type} {x y : Nat → Option α} {r : α} (h1 : b = true → Ev x r) (h0 : b = false → Ev y r) : Ev (fun k => if b = true then x k else y k) r := by
  cases b
  · exact neg (by simp) (h0 rfl)
  · exact pos rfl (h1 rfl)
/-! ### places -/
/-- The sum as the loop has it, from place i on. -/
def dot : List Int → List Int → Int
  | s :: S, x :: p => s * x + dot S p
  | _, _ => 0
theorem dot_strides : ∀ d p : List Int, dot (strides d) p = place d p
  | [], p => by cases p <;> rfl
  | _ :: _, [] => rfl
  | _ :: d, _ :: p => congrArg (_ + ·) (dot_strides d p)
theorem place_loop (S p : List Int) (hl : S.length ≤ 3) (hp : S.length ≤ p.length) : ∀ (st q : List Int) (i : Nat) (acc : Int), i + st.length = S.length → S.drop i = st → p.drop i = q →
    (∀ s ∈ st, 0 ≤ s ∧ s ≤ 64) → (∀ x ∈ q, 0 ≤ x ∧ x ≤ 8) → 0 ≤ acc → acc + 512 * st.length ≤ 4096 →
    Ev (fun k => shape_Place.l0 k p acc S (S.length : Int) (i : Int)) (acc + dot st q)
  | [], q, i, acc, hi, hd, hq, _, _, h0, h1 => by
    refine Ev.step (f := fun _ => some (acc + dot [] q)) (fun k => ?_) (Ev.now _)
    simp only [shape_Place.l0]
    simp at hi
    rw [if_neg (by omega)]
    simp [dot]
  | s :: st, q, i, acc, hi, hd, hq, hs, hx, h0, h1 => by
    simp only [List.length_cons] at hi h1
    have hlt : i < S.length := by omega
    have hlt2 : i < p.length := by omega
    rw [List.drop_eq_getElem_cons hlt] at hd
    rw [List.drop_eq_getElem_cons hlt2] at hq
    subst hq
    have e1 : S[i] = s := (List.cons.inj hd).1
    have b1 := hs s (List.mem_cons_self ..)
    have b2 := hx p[i] (List.mem_cons_self ..)
    have b3 : 0 ≤ s * p[i] := Int.mul_nonneg b1.1 b2.1
    have b4 : s * p[i] ≤ 64 * 8 := Int.mul_le_mul b1.2 b2.2 b2.1 (by decide)
    have key := place_loop S p hl hp st (p.drop (i + 1)) (i + 1) (acc + s * p[i]) (by omega) (List.cons.inj hd).2 rfl (fun x hx => hs x (List.mem_cons_of_mem _ hx)) (fun x h => hx x (List.mem_cons_of_mem _ h)) (by omega) (by omega)
    rw [show dot (s :: st) (p[i] :: p.drop (i + 1)) = s * p[i] + dot st (p.drop (i + 1)) from rfl, ← Int.add_assoc]
    refine Ev.step (fun k => ?_) key
    simp only [shape_Place.l0]
    rw [if_pos (by omega), if_pos (by omega), if_pos (by omega), if_pos (by omega), rdI hlt, rdI hlt2, e1, w64s (by omega), w64 (i := s * p[i]) (by omega) (by omega), w64 (by omega) (by omega)]
theorem within_le : ∀ {d p : List Int}, allR d → within d p → ∀ x ∈ p, 0 ≤ x ∧ x ≤ 8
  | [], [], _, _, x, hx => by simp at hx
  | a :: d, y :: p, h, hw, x, hx => by
    rcases List.mem_cons.1 hx with rfl | hx
    · have := ((allR_cons.1 h).1).2
      have := hw.2.1
      exact ⟨hw.1, by omega⟩
    · exact within_le (allR_cons.1 h).2 hw.2.2 x hx
theorem strides_le : ∀ {d : List Int} (m : Int), allR d → prod d ≤ m → ∀ s ∈ strides d, 0 ≤ s ∧ s ≤ m
  | [], _, _, _, s, hs => by simp [strides] at hs
  | a :: l, m, h, hm, s, hs => by
    have h1 := (allR_cons.1 h).1
    have h2 := prod_pos (allR_cons.1 h).2
    have h3 : 1 * prod l ≤ a * prod l := Int.mul_le_mul_of_nonneg_right h1.1 (by omega)
    simp only [prod] at hm
    rcases List.mem_cons.1 hs with rfl | hs
    · omega
    · exact strides_le m (allR_cons.1 h).2 (by omega) s hs
theorem place_ev {d p : List Int} (h : okD d) (hw : within d p) : Ev (fun k => shape_Place.f k d p) (place d p) := by
  unfold shape_Place.f
  refine Ev.bind (strides_ev h.2.2.1 h.2.1) ?_
  have hl := within_length hw
  have := place_loop (strides d) p (by rw [strides_length]; exact h.2.1) (by rw [strides_length]; omega) (strides d) p 0 0 (by omega) rfl rfl (strides_le 64 h.2.2.1 h.2.2.2) (within_le h.2.2.1 hw) (by omega) (by rw [strides_length]; have := h.2.1; omega)
  rw [dot_strides, Int.zero_add] at this
  exact this
theorem within_drop : ∀ (d p : List Int), p.length = d.length → (within d p ↔ ∀ i, (h : i < p.length) → (h' : i < d.length) → 0 ≤ p[i] ∧ p[i] < d[i])
  | [], [], _ => by simp [within]
  | [], _ :: _, h => by simp at h
  | _ :: _, [], h => by simp at h
  | a :: d, x :: p, h => by
    have ih := within_drop d p (by simpa using h)
    simp only [within, ih]
    constructor
    · rintro ⟨h1, h2, h3⟩ i hi hi'
      cases i with
      | zero => exact ⟨h1, h2⟩
      | succ i => exact h3 i (by simpa using hi) (by simpa using hi')
    · intro g
      have g0 := g 0 (by simp) (by simp)
      exact ⟨g0.1, g0.2, fun i hi hi' => g (i + 1) (by simpa using hi) (by simpa using hi')⟩
theorem at_loop {d p : List Int} (h : okD d) (hl : p.length = d.length) (m : Nat) : ∀ (i : Nat), i + m = p.length → (∀ j, (h : j < p.length) → (h' : j < d.length) → j < i → 0 ≤ p[j] ∧ p[j] < d[j]) →
    Ev (fun k => shape_At.l0 k d p p (p.length : Int) (i : Int)) (if within d p then (place d p, 0) else (0, 1)) := by
  have h3 := h.2.1
  induction m with
  | zero =>
    intro i hi hb
    have hw : within d p := (within_drop d p hl).2 fun j h1 h2 => hb j h1 h2 (by omega)
    rw [if_pos hw]
    refine Ev.step (f := fun k => (shape_Place.f k d p).bind fun t => some (t, 0)) (fun k => ?_) (Ev.bind (place_ev h hw) (Ev.now _))
    simp only [shape_At.l0]
    rw [if_neg (by omega)]
  | succ m ih =>
    intro i hi hb
    have hlt : i < p.length := by omega
    have hlt2 : i < d.length := by omega
    by_cases c1 : 0 ≤ p[i] ∧ p[i] < d[i]
    · refine Ev.step (fun k => ?_) (ih (i + 1) (by omega) fun j h1 h2 hj => ?_)
      · simp only [shape_At.l0]
        rw [if_pos (by omega), if_pos (by omega), if_pos (by omega), rdI hlt, if_neg (by omega), if_pos (by omega), rdI hlt2, if_neg (by omega), w64s (by omega)]
      · by_cases e : j = i
        · subst e; exact c1
        · exact hb j h1 h2 (by omega)
    · rw [if_neg (fun hw => c1 ((within_drop d p hl).1 hw i hlt hlt2))]
      refine Ev.step (f := fun _ => some (0, 1)) (fun k => ?_) (Ev.now _)
      simp only [shape_At.l0]
      rw [if_pos (by omega), if_pos (by omega), if_pos (by omega), rdI hlt]
      by_cases c2 : p[i] < 0
      · rw [if_pos c2]
      · rw [if_neg c2, if_pos (by omega), rdI hlt2, if_pos (by omega)]
theorem at_ev (d p : List Int) : Ev (fun k => shape_At.f k d p) (if okD d ∧ within d p then (place d p, 0) else (0, 1)) := by
  unfold shape_At.f
  refine Ev.bind (may_ev d) ?_
  by_cases h : okD d
  · refine pos (by simpa using h) ?_
    by_cases hl : p.length = d.length
    · have e : ((p.length : Int) != (d.length : Int)) = false := by rw [hl]; simp
      rw [e]
      refine Ev.step (f := fun k => shape_At.l0 k d p p (p.length : Int) 0) (fun k => ?_) ?_
      · simp [shape_At.j0]
      · have := at_loop h hl p.length 0 (by omega) (fun j _ _ hj => by omega)
        by_cases hw : within d p
        · rw [if_pos hw] at this; rw [if_pos ⟨h, hw⟩]; exact this
        · rw [if_neg hw] at this; rw [if_neg (fun x => hw x.2)]; exact this
    · have e : ((p.length : Int) != (d.length : Int)) = true := by simp; omega
      rw [e, if_neg (fun x => hl (within_length x.2))]
      exact Ev.step (f := fun _ => some (0, 1)) (fun k => by simp [shape_At.j0]) (Ev.now _)
  · rw [if_neg (fun x => h x.1)]
    exact neg (by simpa using h) (Ev.step (f := fun _ => some (0, 1)) (fun k => by simp [shape_At.j0]) (Ev.now _))

/-! ### copies, equality -/
theorem copy_loop (l : List Int) (hl : l.length ≤ 17592186044416) (m : Nat) : ∀ (i : Nat), i + m = l.length → Ev (fun k => gradusref0_CopyNumbers.l0 k l (l.take i) (i : Int)) l := by
  induction m with
  | zero =>
    intro i hi
    refine Ev.step (f := fun _ => some l) (fun k => ?_) (Ev.now _)
    simp only [gradusref0_CopyNumbers.l0]
    rw [if_neg (by omega), List.take_of_length_le (by omega)]
  | succ m ih =>
    intro i hi
    have hlt : i < l.length := by omega
    refine Ev.step (fun k => ?_) (ih (i + 1) (by omega))
    simp only [gradusref0_CopyNumbers.l0]
    rw [if_pos (by omega), if_pos (by omega), if_pos (by rw [List.length_take]; omega), rdI hlt, List.take_append_getElem hlt, w64s (by omega)]
theorem copy_ev (l : List Int) (hl : l.length ≤ 17592186044416) : Ev (fun k => gradusref0_CopyNumbers.f k l) l := copy_loop l hl l.length 0 (by omega)
theorem eq_loop (a b : List Int) (hl : a.length = b.length) (hm : a.length ≤ 9223372036854775807) (m : Nat) : ∀ (i : Nat), i + m = a.length → a.take i = b.take i → Ev (fun k => gradusref0_EqNumbers.l0 k a b (i : Int)) (decide (a = b)) := by
  induction m with
  | zero =>
    intro i hi he
    rw [List.take_of_length_le (by omega), List.take_of_length_le (by omega)] at he
    rw [decide_eq_true he]
    refine Ev.step (f := fun _ => some true) (fun k => ?_) (Ev.now _)
    simp only [gradusref0_EqNumbers.l0]
    rw [if_neg (by omega)]
  | succ m ih =>
    intro i hi he
    have hlt : i < a.length := by omega
    have hlt2 : i < b.length := by omega
    by_cases c : a[i] = b[i]
    · refine Ev.step (fun k => ?_) (ih (i + 1) (by omega) ?_)
      · simp only [gradusref0_EqNumbers.l0]
        rw [if_pos (by omega), if_pos (by omega), if_pos (by omega), rdI hlt, rdI hlt2, if_pos c, w64s (by omega)]
      · rw [← List.take_append_getElem hlt, ← List.take_append_getElem hlt2, he, c]
    · rw [decide_eq_false (fun e => c (by subst e; rfl))]
      refine Ev.step (f := fun _ => some false) (fun k => ?_) (Ev.now _)
      simp only [gradusref0_EqNumbers.l0]
      rw [if_pos (by omega), if_pos (by omega), if_pos (by omega), rdI hlt, rdI hlt2, if_neg c]
theorem eq_ev (a b : List Int) (hm : a.length ≤ 9223372036854775807) : Ev (fun k => gradusref0_EqNumbers.f k a b) (decide (a = b)) := by
  unfold gradusref0_EqNumbers.f
  by_cases h : a.length = b.length
  · exact pos (by omega) (eq_loop a b h hm a.length 0 (by omega) rfl)
  · rw [decide_eq_false (fun e => h (by rw [e]))]
    exact neg (by omega) (Ev.now _)

/-! ### tensors -/
theorem clone_eq {d : List Int} (h : d.length < 17592186044416) : slices_Clone_int_int.f d = some d := by
  unfold slices_Clone_int_int.f
  rw [Option.bind_some, if_pos (by simpa using h), List.nil_append]
theorem new_ev {d : List Int} (h : okD d) : Ev (fun k => shape_New.f k d) (d, List.replicate (prod d).toNat 0) := by
  have h1 := prod_pos h.2.2.1
  have h2 := h.2.2.2
  unfold shape_New.f
  refine call (clone_eq (by have := h.2.1; omega)) (Ev.bind (product_ev h.2.2.1 h.2.1) ?_)
  exact pos (by omega) (pos (by omega) (Ev.now _))
theorem fill_loop (d : List Int) (v : Int) (n : Nat) (hn : n ≤ 9223372036854775807) (m : Nat) : ∀ (i : Nat), i + m = n → Ev (fun k => shape_Fill.l0 k v (n : Int) (i : Int) d (List.replicate i v ++ List.replicate m 0)) (d, List.replicate n v, 0) := by
  induction m with
  | zero =>
    intro i hi
    refine Ev.step (f := fun _ => some (d, List.replicate n v, 0)) (fun k => ?_) (Ev.now _)
    simp only [shape_Fill.l0]
    rw [if_neg (by omega), show i = n by omega]
    simp
  | succ m ih =>
    intro i hi
    refine Ev.step (fun k => ?_) (ih (i + 1) (by omega))
    simp only [shape_Fill.l0]
    have e := set_fill (List.replicate i v) m v
    rw [List.length_replicate] at e
    rw [if_pos (by omega), if_pos (by omega), if_pos (by simp; omega), w64s (by omega), show ((i : Int)).toNat = i by omega, e, List.replicate_succ' (n := i)]
theorem fill_ev (d : List Int) (v : Int) : Ev (fun k => shape_Fill.f k d v) (if okD d then (d, List.replicate (prod d).toNat v, 0) else ([], [], 1)) := by
  unfold shape_Fill.f
  refine Ev.bind (may_ev d) ?_
  by_cases h : okD d
  · rw [if_pos h]
    have h1 := prod_pos h.2.2.1
    have h2 := h.2.2.2
    refine pos (by simpa using h) (Ev.bind (new_ev h) ?_)
    have := fill_loop d v (prod d).toNat (by omega) (prod d).toNat 0 (by omega)
    simpa using this
  · rw [if_neg h]
    exact neg (by simpa using h) (Ev.now _)
def okT (d l : List Int) : Prop := okD d ∧ (l.length : Int) = prod d
instance (d l : List Int) : Decidable (okT d l) := inferInstanceAs (Decidable (_ ∧ _))
theorem is_ev (d l : List Int) : Ev (fun k => shape_Is.f k d l) (decide (okT d l)) := by
  unfold shape_Is.f
  refine Ev.bind (may_ev d) ?_
  by_cases h : okD d
  · refine pos (by simpa using h) (Ev.bind (product_ev h.2.2.1 h.2.1) ?_)
    have : decide (okT d l) = ((l.length : Int) == prod d) := by
      rw [Bool.eq_iff_iff]
      simp [okT, h]
    rw [this]
    exact Ev.now _
  · rw [decide_eq_false (fun x : okT d l => h x.1)]
    exact neg (by simpa using h) (Ev.now _)
theorem tensor_ev (d l : List Int) : Ev (fun k => shape_Tensor.f k d l) (if okT d l then 0 else 1) := by
  unfold shape_Tensor.f
  refine Ev.bind (is_ev d l) ?_
  by_cases h : okT d l
  · rw [if_pos h]
    exact pos (by simpa using h) (Ev.now _)
  · rw [if_neg h]
    exact neg (by simpa using h) (Ev.now _)

/-! ### what is too much: it ends, whatever it tells -/
theorem lists_loop (l : List (List Int)) (hl : l.length ≤ 9223372036854775807) (m : Nat) : ∀ (i : Nat) (x : Int), i + m = l.length → ∃ r, Ev (fun k => graduslaw0_Lists.l0 k l x (i : Int)) r := by
  induction m with
  | zero =>
    intro i x hi
    refine ⟨x, Ev.step (f := fun _ => some x) (fun k => ?_) (Ev.now _)⟩
    simp only [graduslaw0_Lists.l0]
    rw [if_neg (by omega)]
  | succ m ih =>
    intro i x hi
    by_cases c : x < 1048576
    · obtain ⟨r, hr⟩ := ih (i + 1) (wrap64 (x + ((rd_L1 l (i : Int)).length : Int))) (by omega)
      refine ⟨r, Ev.step (fun k => ?_) hr⟩
      simp only [graduslaw0_Lists.l0]
      rw [if_pos (by omega), if_pos c, if_pos (by omega), w64s (by omega)]
    · refine ⟨x, Ev.step (f := fun _ => some x) (fun k => ?_) (Ev.now _)⟩
      simp only [graduslaw0_Lists.l0]
      rw [if_pos (by omega), if_neg c]
theorem weight_loop (l : List S34) (hl : l.length ≤ 9223372036854775807) (m : Nat) : ∀ (i : Nat) (x : Int), i + m = l.length → ∃ r, Ev (fun k => graduslaw0_TensorsWeight.l0 k l x (i : Int)) r := by
  induction m with
  | zero =>
    intro i x hi
    refine ⟨x, Ev.step (f := fun _ => some x) (fun k => ?_) (Ev.now _)⟩
    simp only [graduslaw0_TensorsWeight.l0]
    rw [if_neg (by omega)]
  | succ m ih =>
    intro i x hi
    by_cases c : x < 1048576
    · obtain ⟨r, hr⟩ := ih (i + 1) (wrap64 ((wrap64 (x + (((rd_T34 l (i : Int)).f0).length : Int))) + (wrap64 ((((rd_T34 l (i : Int)).f1).length : Int) / 8)))) (by omega)
      refine ⟨r, Ev.step (fun k => ?_) hr⟩
      simp only [graduslaw0_TensorsWeight.l0]
      rw [if_pos (by omega), if_pos c, if_pos (by omega), w64s (by omega)]
    · refine ⟨x, Ev.step (f := fun _ => some x) (fun k => ?_) (Ev.now _)⟩
      simp only [graduslaw0_TensorsWeight.l0]
      rw [if_pos (by omega), if_neg c]
theorem heavy1_ends (a b : List (List Int)) (c : List Int) (t : List S34) (ha : a.length ≤ 9223372036854775807) (hb : b.length ≤ 9223372036854775807) (ht : t.length ≤ 9223372036854775807) : ∃ r, Ev (fun k => graduslaw1_Heavy.f k a b c t) r := by
  obtain ⟨r1, h1⟩ := lists_loop a ha a.length 0 (a.length : Int) (by omega)
  obtain ⟨r2, h2⟩ := lists_loop b hb b.length 0 (b.length : Int) (by omega)
  obtain ⟨r3, h3⟩ := weight_loop t ht t.length 0 (t.length : Int) (by omega)
  refine ⟨decide ((wrap64 ((wrap64 ((wrap64 (r1 + r2)) + (c.length : Int))) + r3)) > 900), ?_⟩
  unfold graduslaw1_Heavy.f
  exact Ev.bind h1 (Ev.bind h2 (Ev.bind h3 (Ev.now _)))
theorem wakes1_ev : Ev (fun k => graduslaw1_wakes.f k) true := Ev.of (fun k => graduslaw1_wakes.mono k) (k := 60) (by kernel_rfl)
end Go.Proofs.Ytpjcidlkdfebhaa.ShEv
