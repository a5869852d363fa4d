/- What the functions of package shape compute: about lists and numbers alone. No memory and no program here: the printed functions alone. -/
import Derived.Test.YtpjcidlkdfebhaaPTx2
import Derived.Test.YtpjcidlkdfebhaaPTx4
import Derived.Test.YtpjcidlkdfebhaaPTx6
import Derived.Test.YtpjcidlkdfebhaaEvW
import Derived.KernelRfl
set_option linter.unusedVariables false
set_option linter.unusedSimpArgs false
namespace Go.Proofs.Ytpjcidlkdfebhaa.ShEv
open Go.RowKit Go.Proofs.EvW Go.Proofs.Ytpjcidlkdfebhaa.PT Go.Proofs.YtpjcidlkdfebhaaW.PrintWords Go.Proofs.YtpjcidlkdfebhaaW.PrintLast Go.Proofs.YtpjcidlkdfebhaaW.PrintMore

theorem p8 : ∀ n : Nat, (1 : Int) ≤ 8 ^ n
  | 0 => by decide
  | n + 1 => by rw [Int.pow_succ]; have := p8 n; omega
/-! ### products -/
def prod : List Int → Int
  | [] => 1
  | a :: l => a * prod l
def inR (x : Int) : Prop := 1 ≤ x ∧ x ≤ 8
instance (x : Int) : Decidable (inR x) := inferInstanceAs (Decidable (_ ∧ _))
def allR (l : List Int) : Prop := ∀ x ∈ l, inR x
instance (l : List Int) : Decidable (allR l) := inferInstanceAs (Decidable (∀ x ∈ l, inR x))
theorem allR_cons {a : Int} {l : List Int} : allR (a :: l) ↔ inR a ∧ allR l := by simp [allR]
theorem allR_drop {l : List Int} (h : allR l) (i : Nat) : allR (l.drop i) := fun x hx => h x (List.mem_of_mem_drop hx)
theorem prod_pos : ∀ {l : List Int}, allR l → 1 ≤ prod l
  | [], _ => by decide
  | a :: l, h => by
    have h1 := (allR_cons.1 h).1
    have h2 := prod_pos (allR_cons.1 h).2
    have := Int.mul_le_mul h1.1 h2 (by omega) (by have := h1.1; omega)
    simpa [prod] using this
theorem prodW (l : List Int) : ∀ (acc : Int), allR l → 1 ≤ acc → acc * 8 ^ l.length ≤ 1152921504606846976 → l.foldl (fun a x => wrap64 (a * x)) acc = acc * prod l := by
  induction l with
  | nil => intro acc _ _ _; simp [prod]
  | cons a l ih =>
    intro acc h ha hb
    have h1 := (allR_cons.1 h).1
    have e1 : acc * 8 ^ (a :: l).length = acc * 8 * 8 ^ l.length := by rw [List.length_cons, Int.pow_succ, Int.mul_comm (8 ^ _) 8, Int.mul_assoc]
    have p8 := p8 l.length
    have b1 : acc * a ≤ acc * 8 := Int.mul_le_mul_of_nonneg_left h1.2 (by omega)
    have b2 : acc * a * 8 ^ l.length ≤ acc * 8 * 8 ^ l.length := Int.mul_le_mul_of_nonneg_right b1 (by omega)
    have b3 : acc * a * 1 ≤ acc * a * 8 ^ l.length := Int.mul_le_mul_of_nonneg_left p8 (Int.mul_nonneg (by omega) (by have := h1.1; omega))
    have b4 : 1 * 1 ≤ acc * a := Int.mul_le_mul ha h1.1 (by omega) (by omega)
    rw [List.foldl_cons, w64 (by omega) (by omega), ih _ (allR_cons.1 h).2 (by omega) (by omega), prod, Int.mul_assoc]
theorem prodW1 {l : List Int} (h : allR l) (hl : l.length ≤ 3) : l.foldl (fun a x => wrap64 (a * x)) 1 = prod l := by
  rw [prodW l 1 h (by decide) (by
    have : (8 : Int) ^ l.length ≤ 8 ^ 3 := by
      rcases l with _ | ⟨a, _ | ⟨b, _ | ⟨c, _ | ⟨e, l⟩⟩⟩⟩ <;> simp at hl ⊢ <;> omega
    omega), Int.one_mul]
theorem product_loop (l : List Int) (hl : l.length ≤ 9223372036854775807) (d : Nat) : ∀ (i : Nat) (x : Int), i + d = l.length →
    Ev (fun k => shape_Product.l0 k x l (l.length : Int) (i : Int)) ((l.drop i).foldl (fun a x => wrap64 (a * x)) x) := by
  induction d with
  | zero =>
    intro i x hi
    refine Ev.step (f := fun _ => some x) (fun k => ?_) ?_
    · simp only [shape_Product.l0]
      rw [if_neg (by omega)]
    · rw [List.drop_of_length_le (by omega)]
      exact Ev.now _
  | succ d ih =>
    intro i x hi
    have hlt : i < l.length := by omega
    refine Ev.step (f := fun k => shape_Product.l0 k (wrap64 (x * l[i])) l (l.length : Int) ((i + 1 : Nat) : Int)) (fun k => ?_) ?_
    · simp only [shape_Product.l0]
      rw [if_pos (by omega), if_pos (by omega), if_pos (by omega), rdI hlt, w64s (by omega)]
    · rw [List.drop_eq_getElem_cons hlt]
      exact ih (i + 1) _ (by omega)
theorem product_ev0 (l : List Int) (hl : l.length ≤ 9223372036854775807) : Ev (fun k => shape_Product.f k l) (l.foldl (fun a x => wrap64 (a * x)) 1) := product_loop l hl l.length 0 1 (by omega)
theorem product_ev {l : List Int} (h : allR l) (hl : l.length ≤ 3) : Ev (fun k => shape_Product.f k l) (prod l) := by
  have := product_ev0 l (by omega)
  rwa [prodW1 h hl] at this

/-! ### dims that may be -/
def okD (d : List Int) : Prop := 1 ≤ d.length ∧ d.length ≤ 3 ∧ allR d ∧ prod d ≤ 64
instance (d : List Int) : Decidable (okD d) := inferInstanceAs (Decidable (_ ∧ _ ∧ _ ∧ _))
theorem index_loop (l : List Int) (hl : l.length ≤ 9223372036854775807) (d : Nat) : ∀ (i : Nat), i + d = l.length →
    ∃ r : Int, Ev (fun k => slices_IndexFunc_shape_May_1.l0 k l (l.length : Int) (i : Int)) r ∧ (0 ≤ r ↔ ¬ allR (l.drop i)) := by
  induction d with
  | zero =>
    intro i hi
    refine ⟨-1, Ev.step (f := fun _ => some (-1)) (fun k => ?_) (Ev.now _), ?_⟩
    · simp only [slices_IndexFunc_shape_May_1.l0]
      rw [if_neg (by omega)]
    · rw [List.drop_of_length_le (by omega)]
      simp [allR]
  | succ d ih =>
    intro i hi
    have hlt : i < l.length := by omega
    by_cases hb : inR l[i]
    · obtain ⟨r, h1, h2⟩ := ih (i + 1) (by omega)
      refine ⟨r, Ev.step (f := fun k => slices_IndexFunc_shape_May_1.l0 k l (l.length : Int) ((i + 1 : Nat) : Int)) (fun k => ?_) h1, ?_⟩
      · simp only [slices_IndexFunc_shape_May_1.l0, shape_May_1.f]
        rw [if_pos (by omega), if_pos (by omega), if_pos (by omega), rdI hlt, w64s (by omega), if_neg (by have := hb.1; omega), Option.bind_some, if_neg (by have := hb.2; simp; omega)]
      · rw [List.drop_eq_getElem_cons hlt, allR_cons, h2]
        exact ⟨fun h x => h x.2, fun h x => h ⟨hb, x⟩⟩
    · refine ⟨(i : Int), Ev.step (f := fun _ => some (i : Int)) (fun k => ?_) (Ev.now _), ?_⟩
      · simp only [slices_IndexFunc_shape_May_1.l0, shape_May_1.f]
        rw [if_pos (by omega), if_pos (by omega), if_pos (by omega), rdI hlt]
        by_cases h1 : l[i] < 1
        · rw [if_pos h1, Option.bind_some, if_pos rfl]
        · rw [if_neg h1, Option.bind_some, if_pos (by simp; unfold inR at hb; omega)]
      · rw [List.drop_eq_getElem_cons hlt, allR_cons]
        exact ⟨fun _ h => hb h.1, fun _ => by omega⟩
theorem contains_ev (l : List Int) (hl : l.length ≤ 9223372036854775807) : Ev (fun k => slices_ContainsFunc_shape_May_1.f k l) (decide (¬ allR l)) := by
  obtain ⟨r, h1, h2⟩ := index_loop l hl l.length 0 (by omega)
  refine Ev.bind (f := fun _ t => some (decide (t ≥ 0))) h1 ?_
  have : decide (r ≥ 0) = decide (¬ allR l) := by
    rw [List.drop_zero] at h2
    exact decide_eq_decide.2 h2
  simp only [this]
  exact Ev.now _
theorem may_ev (d : List Int) : Ev (fun k => shape_May.f k d) (decide (okD d)) := by
  unfold shape_May.f
  by_cases h1 : (d.length : Int) < 1
  · rw [decide_eq_false (by unfold okD; omega)]
    exact pos h1 (Ev.now _)
  refine neg h1 ?_
  by_cases h2 : (d.length : Int) > 3
  · rw [decide_eq_false (by unfold okD; omega)]
    exact pos h2 (Ev.now _)
  refine neg h2 (Ev.bind (contains_ev d (by omega)) ?_)
  by_cases h3 : allR d
  · refine neg (by simpa using h3) (Ev.bind (product_ev h3 (by omega)) ?_)
    have : decide (okD d) = decide (prod d ≤ 64) := decide_eq_decide.2 ⟨fun h => h.2.2.2, fun h => ⟨by omega, by omega, h3, h⟩⟩
    rw [this]
    exact Ev.now _
  · rw [decide_eq_false (p := okD d) (fun h => h3 h.2.2.1)]
    exact pos (by simpa using h3) (Ev.now _)
theorem cells_ev (d : List Int) : Ev (fun k => shape_Cells.f k d) (if okD d then (prod d, 0) else (0, 1)) := by
  unfold shape_Cells.f
  refine Ev.bind (may_ev d) ?_
  by_cases h : okD d
  · rw [if_pos h]
    exact pos (by simpa using h) (Ev.bind (product_ev h.2.2.1 h.2.1) (Ev.now _))
  · rw [if_neg h]
    exact neg (by simpa using h) (Ev.now _)

/-! ### rows that are filled from the left -/
theorem set_fill (A : List Int) (m : Nat) (v : Int) : (A ++ List.replicate (m + 1) (0 : Int)).set A.length v = (A ++ [v]) ++ List.replicate m 0 := by
  rw [List.set_append_right _ _ (Nat.le_refl _), Nat.sub_self, List.replicate_succ, List.set_cons_zero, List.append_assoc]
  rfl
def strides : List Int → List Int
  | [] => []
  | _ :: l => prod l :: strides l
theorem strides_length : ∀ l, (strides l).length = l.length
  | [] => rfl
  | _ :: l => congrArg (· + 1) (strides_length l)
theorem strides_get : ∀ (l : List Int) (i : Nat) (h : i < l.length), (strides l)[i]'(by rw [strides_length]; exact h) = prod (l.drop (i + 1))
  | _ :: l, 0, _ => rfl
  | _ :: l, i + 1, h => by
    simp only [strides, List.getElem_cons_succ, List.drop_succ_cons]
    exact strides_get l i (by simpa using h)
theorem strides_loop {d : List Int} (h : allR d) (hl : d.length ≤ 3) (m : Nat) : ∀ (i : Nat), i + m = d.length →
    Ev (fun k => shape_Strides.l0 k d ((strides d).take i ++ List.replicate m 0) (d.length : Int) (i : Int)) (strides d) := by
  induction m with
  | zero =>
    intro i hi
    refine Ev.step (f := fun _ => some (strides d)) (fun k => ?_) (Ev.now _)
    simp only [shape_Strides.l0]
    rw [if_neg (by omega), List.take_of_length_le (by rw [strides_length]; omega)]
    simp
  | succ m ih =>
    intro i hi
    have hlt : i < d.length := by omega
    have hlen : ((strides d).take i).length = i := by rw [List.length_take, strides_length]; omega
    refine Ev.step (f := fun k => (shape_Product.f k (d.drop (i + 1))).bind fun t => shape_Strides.l0 k d (((strides d).take i ++ List.replicate (m + 1) 0).set i t) (d.length : Int) ((i + 1 : Nat) : Int)) (fun k => ?_)
      (Ev.bind (product_ev (allR_drop h (i + 1)) (by rw [List.length_drop]; omega)) ?_)
    · simp only [shape_Strides.l0]
      rw [if_pos (by omega), w64s (by omega), if_pos (by omega), if_pos (by omega)]
      refine congrArg _ (funext fun t => ?_)
      rw [if_pos (by omega), if_pos (by simp only [List.length_append, List.length_replicate, hlen]; omega)]
      rfl
    · have := set_fill ((strides d).take i) m (prod (d.drop (i + 1)))
      rw [hlen] at this
      rw [this, ← strides_get d i hlt, List.take_append_getElem (by rw [strides_length]; exact hlt)]
      exact ih (i + 1) (by omega)
theorem strides_ev {d : List Int} (h : allR d) (hl : d.length ≤ 3) : Ev (fun k => shape_Strides.f k d) (strides d) := by
  unfold shape_Strides.f
  refine pos (by omega) (pos (by omega) ?_)
  exact strides_loop h hl d.length 0 (by omega)
theorem steps_ev (d : List Int) : Ev (fun k => shape_Steps.f k d) (if okD d then (strides d, 0) else ([], 1)) := by
  unfold shape_Steps.f
  refine Ev.bind (may_ev d) ?_
  by_cases h : okD d
  · rw [if_pos h]
    exact pos (by simpa using h) (Ev.bind (strides_ev h.2.2.1 h.2.1) (Ev.now _))
  · rw [if_neg h]
    exact neg (by simpa using h) (Ev.now _)

/-! ### places -/
def numsS : List Int → Int → List Int
  | [], _ => []
  | s :: l, n => n / s :: numsS l (n % s)
theorem numsS_length : ∀ l n, (numsS l n).length = l.length
  | [], _ => rfl
  | _ :: l, n => congrArg (· + 1) (numsS_length l _)
theorem numbers_loop (S : List Int) (hS : ∀ s ∈ S, 1 ≤ s) (hl : S.length ≤ 3) : ∀ (st : List Int) (A : List Int) (n : Int), 0 ≤ n → n ≤ 9223372036854775807 → A.length + st.length = S.length → S.drop A.length = st →
    Ev (fun k => shape_Numbers.l0 k n (A ++ List.replicate st.length 0) S (S.length : Int) (A.length : Int)) (A ++ numsS st n)
  | [], A, n, h0, hn, hlen, hd => by
    refine Ev.step (f := fun _ => some (A ++ numsS [] n)) (fun k => ?_) (Ev.now _)
    simp only [shape_Numbers.l0]
    rw [if_neg (by simp at hlen; omega)]
    rfl
  | s :: st, A, n, h0, hn, hlen, hd => by
    have hlt : A.length < S.length := by simp at hlen; omega
    have hs : S[A.length] = s := by
      rw [List.drop_eq_getElem_cons hlt] at hd
      exact (List.cons.inj hd).1
    have hd2 : S.drop (A.length + 1) = st := by
      rw [List.drop_eq_getElem_cons hlt] at hd
      exact (List.cons.inj hd).2
    have hs1 : 1 ≤ s := hS s (hs ▸ List.getElem_mem hlt)
    have q0 : 0 ≤ n / s := Int.ediv_nonneg h0 (by omega)
    have q1 : n / s ≤ n := Int.ediv_le_self s h0
    have m0 : 0 ≤ n % s := Int.emod_nonneg n (by omega)
    have m1 : n % s ≤ n := by have e := Int.mul_ediv_add_emod n s; have := Int.mul_nonneg (show 0 ≤ s by omega) q0; omega
    have key := numbers_loop S hS hl st (A ++ [n / s]) (n % s) m0 (by omega) (by simp at hlen ⊢; omega) (by rw [List.length_append, List.length_singleton]; exact hd2)
    rw [show A ++ numsS (s :: st) n = (A ++ [n / s]) ++ numsS st (n % s) by simp [numsS]]
    refine Ev.step (fun k => ?_) key
    simp only [shape_Numbers.l0]
    rw [if_pos (by omega), if_pos (by omega), if_pos (by omega), rdI hlt, hs, if_neg (by omega), if_pos (by simp; omega), w64s (by omega), Int.tmod_eq_emod_of_nonneg h0, Int.tdiv_eq_ediv_of_nonneg h0, w64 (by omega) (by omega)]
    have := set_fill A st.length (n / s)
    rw [show (s :: st).length = st.length + 1 from rfl, show ((A.length : Int)).toNat = A.length from by omega, this, List.length_append]
    rfl
theorem strides_pos : ∀ {d : List Int}, allR d → ∀ s ∈ strides d, 1 ≤ s
  | [], _, s, hs => by simp [strides] at hs
  | a :: l, h, s, hs => by
    rcases List.mem_cons.1 hs with rfl | hs
    · exact prod_pos (allR_cons.1 h).2
    · exact strides_pos (allR_cons.1 h).2 s hs
/-- The numbers of a place. -/
def nums (d : List Int) (n : Int) : List Int := numsS (strides d) n
theorem nums_length (d : List Int) (n : Int) : (nums d n).length = d.length := by rw [nums, numsS_length, strides_length]
theorem numbers_ev {d : List Int} (h : allR d) (hl : d.length ≤ 3) {n : Int} (h0 : 0 ≤ n) (hn : n ≤ 9223372036854775807) : Ev (fun k => shape_Numbers.f k d n) (nums d n) := by
  unfold shape_Numbers.f
  refine pos (by omega) (pos (by omega) (Ev.bind (strides_ev h hl) ?_))
  have := numbers_loop (strides d) (strides_pos h) (by rw [strides_length]; exact hl) (strides d) [] n h0 hn (by simp) rfl
  rw [show ((d.length : Int)).toNat = (strides d).length by rw [strides_length]; omega]
  exact this
theorem where_ev (d : List Int) {n : Int} (hn : n ≤ 9223372036854775807) : Ev (fun k => shape_Where.f k d n) (if okD d ∧ 0 ≤ n ∧ n < prod d then (nums d n, 0) else ([], 1)) := by
  unfold shape_Where.f
  refine Ev.bind (may_ev d) ?_
  by_cases h : okD d
  · refine pos (by simpa using h) ?_
    by_cases h0 : n < 0
    · rw [if_neg (by omega)]
      exact pos h0 (Ev.now _)
    refine neg h0 (Ev.bind (product_ev h.2.2.1 h.2.1) ?_)
    by_cases h1 : n ≥ prod d
    · rw [if_neg (by omega)]
      exact pos h1 (Ev.now _)
    · rw [if_pos ⟨h, by omega, by omega⟩]
      exact neg h1 (Ev.bind (numbers_ev h.2.2.1 h.2.1 (by omega) hn) (Ev.now _))
  · rw [if_neg (fun x => h x.1)]
    exact neg (by simpa using h) (Ev.now _)
/-- The place of numbers. -/
def place : List Int → List Int → Int
  | _ :: d, x :: p => prod d * x + place d p
  | _, _ => 0
def within : List Int → List Int → Prop
  | a :: d, x :: p => 0 ≤ x ∧ x < a ∧ within d p
  | [], [] => True
  | _, _ => False
instance within_dec : ∀ d p, Decidable (within d p)
  | a :: d, x :: p => @instDecidableAnd _ _ _ (@instDecidableAnd _ _ _ (within_dec d p))
  | [], [] => isTrue trivial
  | [], _ :: _ => isFalse (fun h => h)
  | _ :: _, [] => isFalse (fun h => h)
theorem within_length : ∀ {d p : List Int}, within d p → p.length = d.length
  | _ :: _, _ :: _, h => congrArg (· + 1) (within_length h.2.2)
  | [], [], _ => rfl
theorem place_range : ∀ {d p : List Int}, allR d → within d p → 0 ≤ place d p ∧ place d p < prod d
  | a :: d, x :: p, h, hw => by
    have h1 := (allR_cons.1 h).1
    have h2 := prod_pos (allR_cons.1 h).2
    have h3 := place_range (allR_cons.1 h).2 hw.2.2
    have a1 : 0 ≤ prod d * x := Int.mul_nonneg (by omega) hw.1
    have a2 : prod d * x ≤ prod d * (a - 1) := Int.mul_le_mul_of_nonneg_left (by have := hw.2.1; omega) (by omega)
    have a3 : prod d * (a - 1) = a * prod d - prod d := by rw [Int.mul_sub, Int.mul_one, Int.mul_comm]
    simp only [place, prod]
    omega
  | [], [], _, _ => by simp [place, prod]
theorem nums_cons (a : Int) (d : List Int) (n : Int) : nums (a :: d) n = n / prod d :: nums d (n % prod d) := rfl
theorem nums_within : ∀ {d : List Int} {n : Int}, allR d → 0 ≤ n → n < prod d → within d (nums d n)
  | [], n, _, _, _ => trivial
  | a :: d, n, h, h0, hn => by
    have h2 := prod_pos (allR_cons.1 h).2
    rw [nums_cons]
    refine ⟨Int.ediv_nonneg h0 (by omega), Int.ediv_lt_of_lt_mul (by omega) hn, nums_within (allR_cons.1 h).2 (Int.emod_nonneg _ (by omega)) (Int.emod_lt_of_pos _ (by omega))⟩
theorem place_nums : ∀ {d : List Int} {n : Int}, allR d → 0 ≤ n → n < prod d → place d (nums d n) = n
  | [], n, _, h0, hn => by simp [prod] at hn; simp [nums, strides, numsS, place]; omega
  | a :: d, n, h, h0, hn => by
    have h2 := prod_pos (allR_cons.1 h).2
    rw [nums_cons, place, place_nums (allR_cons.1 h).2 (Int.emod_nonneg _ (by omega)) (Int.emod_lt_of_pos _ (by omega)), Int.mul_ediv_add_emod]
end Go.Proofs.Ytpjcidlkdfebhaa.ShEv
