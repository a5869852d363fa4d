/- What the functions of package shape compute: steps and places. About lists and numbers alone. No memory and no program here: the printed functions alone. -/
import Derived.Test.YtpjcidlkdfebhaaPTx14
import Derived.Test.YtpjcidlkdfebhaaPTx6
import Derived.Test.YtpjcidlkdfebhaaShA
import Derived.KernelRfl
set_option linter.unusedVariables false
set_option linter.unusedSimpArgs false
namespace Go.Proofs.Ytpjcidlkdfebhaa.ShEv
open Go.RowKit Go.Proofs.EvW Go.Proofs.Ytpjcidlkdfebhaa.PT Go.Proofs.YtpjcidlkdfebhaaW.PrintWords Go.Proofs.YtpjcidlkdfebhaaW.PrintLast Go.Proofs.YtpjcidlkdfebhaaW.PrintMore
/-! ### rows that are filled from the left -/
def strides : List Int → List Int
  | [] => []
  | _ :: l => prod l :: strides l
theorem strides_length : ∀ l, (strides l).length = l.length
  | [] => rfl
  | _ :: l => congrArg (· + 1) (strides_length l)
theorem strides_get : ∀ (l : List Int) (i : Nat) (h : i < l.length), (strides l)[i]'(by rw [strides_length]; exact h) = prod (l.drop (i + 1))
  | _ :: l, 0, _ => rfl
  | _ :: l, i + 1, h => by
    simp only [strides, List.getElem_cons_succ, List.drop_succ_cons]
    exact strides_get l i (by simpa using h)
theorem strides_loop {d : List Int} (h : allR d) (hl : d.length ≤ 3) (m : Nat) : ∀ (i : Nat), i + m = d.length →
    Ev (fun k => shape_Strides.l0 k d ((strides d).take i ++ List.replicate m 0) (d.length : Int) (i : Int)) (strides d) := by
  induction m with
  | zero =>
    intro i hi
    refine Ev.step (f := fun _ => some (strides d)) (fun k => ?_) (Ev.now _)
    simp only [shape_Strides.l0]
    rw [if_neg (by omega), List.take_of_length_le (by rw [strides_length]; omega)]
    simp
  | succ m ih =>
    intro i hi
    have hlt : i < d.length := by omega
    have hlen : ((strides d).take i).length = i := by rw [List.length_take, strides_length]; omega
    refine Ev.step (f := fun k => (shape_Product.f k (d.drop (i + 1))).bind fun t => shape_Strides.l0 k d (((strides d).take i ++ List.replicate (m + 1) 0).set i t) (d.length : Int) ((i + 1 : Nat) : Int)) (fun k => ?_)
      (Ev.bind (product_ev (allR_drop h (i + 1)) (by rw [List.length_drop]; omega)) ?_)
    · simp only [shape_Strides.l0]
      rw [if_pos (by omega), w64s (by omega), if_pos (by omega), if_pos (by omega)]
      refine congrArg _ (funext fun t => ?_)
      rw [if_pos (by omega), if_pos (by simp only [List.length_append, List.length_replicate, hlen]; omega)]
      rfl
    · have := set_fill ((strides d).take i) m (prod (d.drop (i + 1)))
      rw [hlen] at this
      rw [this, ← strides_get d i hlt, List.take_append_getElem (by rw [strides_length]; exact hlt)]
      exact ih (i + 1) (by omega)
theorem strides_ev {d : List Int} (h : allR d) (hl : d.length ≤ 3) : Ev (fun k => shape_Strides.f k d) (strides d) := by
  unfold shape_Strides.f
  refine pos (by omega) (pos (by omega) ?_)
  exact strides_loop h hl d.length 0 (by omega)

/-! ### places -/
def numsS : List Int → Int → List Int
  | [], _ => []
  | s :: l, n => n / s :: numsS l (n % s)
theorem numsS_length : ∀ l n, (numsS l n).length = l.length
  | [], _ => rfl
  | _ :: l, n => congrArg (· + 1) (numsS_length l _)
theorem numbers_loop (S : List Int) (hS : ∀ s ∈ S, 1 ≤ s) (hl : S.length ≤ 3) : ∀ (st : List Int) (A : List Int) (n : Int), 0 ≤ n → n ≤ 9223372036854775807 → A.length + st.length = S.length → S.drop A.length = st →
    Ev (fun k => shape_Numbers.l0 k n (A ++ List.replicate st.length 0) S (S.length : Int) (A.length : Int)) (A ++ numsS st n)
  | [], A, n, h0, hn, hlen, hd => by
    refine Ev.step (f := fun _ => some (A ++ numsS [] n)) (fun k => ?_) (Ev.now _)
    simp only [shape_Numbers.l0]
    rw [if_neg (by simp at hlen; omega)]
    rfl
  | s :: st, A, n, h0, hn, hlen, hd => by
    have hlt : A.length < S.length := by simp at hlen; omega
    have hs : S[A.length] = s := by
      rw [List.drop_eq_getElem_cons hlt] at hd
      exact (List.cons.inj hd).1
    have hd2 : S.drop (A.length + 1) = st := by
      rw [List.drop_eq_getElem_cons hlt] at hd
      exact (List.cons.inj hd).2
    have hs1 : 1 ≤ s := hS s (hs ▸ List.getElem_mem hlt)
    have q0 : 0 ≤ n / s := Int.ediv_nonneg h0 (by omega)
    have q1 : n / s ≤ n := Int.ediv_le_self s h0
    have m0 : 0 ≤ n % s := Int.emod_nonneg n (by omega)
    have m1 : n % s ≤ n := by have e := Int.mul_ediv_add_emod n s; have := Int.mul_nonneg (show 0 ≤ s by omega) q0; omega
    have key := numbers_loop S hS hl st (A ++ [n / s]) (n % s) m0 (by omega) (by simp at hlen ⊢; omega) (by rw [List.length_append, List.length_singleton]; exact hd2)
    rw [show A ++ numsS (s :: st) n = (A ++ [n / s]) ++ numsS st (n % s) by simp [numsS]]
    refine Ev.step (fun k => ?_) key
    simp only [shape_Numbers.l0]
    rw [if_pos (by omega), if_pos (by omega), if_pos (by omega), rdI hlt, hs, if_neg (by omega), if_pos (by simp; omega), w64s (by omega), Int.tmod_eq_emod_of_nonneg h0, Int.tdiv_eq_ediv_of_nonneg h0, w64 (by omega) (by omega)]
    have := set_fill A st.length (n / s)
    rw [show (s :: st).length = st.length + 1 from rfl, show ((A.length : Int)).toNat = A.length from by omega, this, List.length_append]
    rfl
theorem strides_pos : ∀ {d : List Int}, allR d → ∀ s ∈ strides d, 1 ≤ s
  | [], _, s, hs => by simp [strides] at hs
  | a :: l, h, s, hs => by
    rcases List.mem_cons.1 hs with rfl | hs
    · exact prod_pos (allR_cons.1 h).2
    · exact strides_pos (allR_cons.1 h).2 s hs
/-- The numbers of a place. -/
def nums (d : List Int) (n : Int) : List Int := numsS (strides d) n
theorem nums_length (d : List Int) (n : Int) : (nums d n).length = d.length := by rw [nums, numsS_length, strides_length]
theorem numbers_ev {d : List Int} (h : allR d) (hl : d.length ≤ 3) {n : Int} (h0 : 0 ≤ n) (hn : n ≤ 9223372036854775807) : Ev (fun k => shape_Numbers.f k d n) (nums d n) := by
  unfold shape_Numbers.f
  refine pos (by omega) (pos (by omega) (Ev.bind (strides_ev h hl) ?_))
  have := numbers_loop (strides d) (strides_pos h) (by rw [strides_length]; exact hl) (strides d) [] n h0 hn (by simp) rfl
  rw [show ((d.length : Int)).toNat = (strides d).length by rw [strides_length]; omega]
  exact this
/-- The place of numbers. -/
def place : List Int → List Int → Int
  | _ :: d, x :: p => prod d * x + place d p
  | _, _ => 0
def within : List Int → List Int → Prop
  | a :: d, x :: p => 0 ≤ x ∧ x < a ∧ within d p
  | [], [] => True
  | _, _ => False
instance within_dec : ∀ d p, Decidable (within d p)
  | a :: d, x :: p => @instDecidableAnd _ _ _ (@instDecidableAnd _ _ _ (within_dec d p))
  | [], [] => isTrue trivial
  | [], _ :: _ => isFalse (fun h => h)
  | _ :: _, [] => isFalse (fun h => h)
theorem within_length : ∀ {d p : List Int}, within d p → p.length = d.length
  | _ :: _, _ :: _, h => congrArg (· + 1) (within_length h.2.2)
  | [], [], _ => rfl
theorem place_range : ∀ {d p : List Int}, allR d → within d p → 0 ≤ place d p ∧ place d p < prod d
  | a :: d, x :: p, h, hw => by
    have h1 := (allR_cons.1 h).1
    have h2 := prod_pos (allR_cons.1 h).2
    have h3 := place_range (allR_cons.1 h).2 hw.2.2
    have a1 : 0 ≤ prod d * x := Int.mul_nonneg (by omega) hw.1
    have a2 : prod d * x ≤ prod d * (a - 1) := Int.mul_le_mul_of_nonneg_left (by have := hw.2.1; omega) (by omega)
    have a3 : prod d * (a - 1) = a * prod d - prod d := by rw [Int.mul_sub, Int.mul_one, Int.mul_comm]
    simp only [place, prod]
    omega
  | [], [], _, _ => by simp [place, prod]
theorem nums_cons (a : Int) (d : List Int) (n : Int) : nums (a :: d) n = n / prod d :: nums d (n % prod d) := rfl
theorem nums_within : ∀ {d : List Int} {n : Int}, allR d → 0 ≤ n → n < prod d → within d (nums d n)
  | [], n, _, _, _ => trivial
  | a :: d, n, h, h0, hn => by
    have h2 := prod_pos (allR_cons.1 h).2
    rw [nums_cons]
    refine ⟨Int.ediv_nonneg h0 (by omega), Int.ediv_lt_of_lt_mul (by omega) hn, nums_within (allR_cons.1 h).2 (Int.emod_nonneg _ (by omega)) (Int.emod_lt_of_pos _ (by omega))⟩
theorem place_nums : ∀ {d : List Int} {n : Int}, allR d → 0 ≤ n → n < prod d → place d (nums d n) = n
  | [], n, _, h0, hn => by simp [prod] at hn; simp [nums, strides, numsS, place]; omega
  | a :: d, n, h, h0, hn => by
    have h2 := prod_pos (allR_cons.1 h).2
    rw [nums_cons, place, place_nums (allR_cons.1 h).2 (Int.emod_nonneg _ (by omega)) (Int.emod_lt_of_pos _ (by omega)), Int.mul_ediv_add_emod]
/-! ### places -/
/-- The sum as the loop has it, from place i on. -/
def dot : List Int → List Int → Int
  | s :: S, x :: p => s * x + dot S p
  | _, _ => 0
theorem dot_strides : ∀ d p : List Int, dot (strides d) p = place d p
  | [], p => by cases p <;> rfl
  | _ :: _, [] => rfl
  | _ :: d, _ :: p => congrArg (_ + ·) (dot_strides d p)
theorem place_loop (S p : List Int) (hl : S.length ≤ 3) (hp : S.length ≤ p.length) : ∀ (st q : List Int) (i : Nat) (acc : Int), i + st.length = S.length → S.drop i = st → p.drop i = q →
    (∀ s ∈ st, 0 ≤ s ∧ s ≤ 64) → (∀ x ∈ q, 0 ≤ x ∧ x ≤ 8) → 0 ≤ acc → acc + 512 * st.length ≤ 4096 →
    Ev (fun k => shape_Place.l0 k p acc S (S.length : Int) (i : Int)) (acc + dot st q)
  | [], q, i, acc, hi, hd, hq, _, _, h0, h1 => by
    refine Ev.step (f := fun _ => some (acc + dot [] q)) (fun k => ?_) (Ev.now _)
    simp only [shape_Place.l0]
    simp at hi
    rw [if_neg (by omega)]
    simp [dot]
  | s :: st, q, i, acc, hi, hd, hq, hs, hx, h0, h1 => by
    simp only [List.length_cons] at hi h1
    have hlt : i < S.length := by omega
    have hlt2 : i < p.length := by omega
    rw [List.drop_eq_getElem_cons hlt] at hd
    rw [List.drop_eq_getElem_cons hlt2] at hq
    subst hq
    have e1 : S[i] = s := (List.cons.inj hd).1
    have b1 := hs s (List.mem_cons_self ..)
    have b2 := hx p[i] (List.mem_cons_self ..)
    have b3 : 0 ≤ s * p[i] := Int.mul_nonneg b1.1 b2.1
    have b4 : s * p[i] ≤ 64 * 8 := Int.mul_le_mul b1.2 b2.2 b2.1 (by decide)
    have key := place_loop S p hl hp st (p.drop (i + 1)) (i + 1) (acc + s * p[i]) (by omega) (List.cons.inj hd).2 rfl (fun x hx => hs x (List.mem_cons_of_mem _ hx)) (fun x h => hx x (List.mem_cons_of_mem _ h)) (by omega) (by omega)
    rw [show dot (s :: st) (p[i] :: p.drop (i + 1)) = s * p[i] + dot st (p.drop (i + 1)) from rfl, ← Int.add_assoc]
    refine Ev.step (fun k => ?_) key
    simp only [shape_Place.l0]
    rw [if_pos (by omega), if_pos (by omega), if_pos (by omega), if_pos (by omega), rdI hlt, rdI hlt2, e1, w64s (by omega), w64 (i := s * p[i]) (by omega) (by omega), w64 (by omega) (by omega)]
theorem within_le : ∀ {d p : List Int}, allR d → within d p → ∀ x ∈ p, 0 ≤ x ∧ x ≤ 8
  | [], [], _, _, x, hx => by simp at hx
  | a :: d, y :: p, h, hw, x, hx => by
    rcases List.mem_cons.1 hx with rfl | hx
    · have := ((allR_cons.1 h).1).2
      have := hw.2.1
      exact ⟨hw.1, by omega⟩
    · exact within_le (allR_cons.1 h).2 hw.2.2 x hx
theorem strides_le : ∀ {d : List Int} (m : Int), allR d → prod d ≤ m → ∀ s ∈ strides d, 0 ≤ s ∧ s ≤ m
  | [], _, _, _, s, hs => by simp [strides] at hs
  | a :: l, m, h, hm, s, hs => by
    have h1 := (allR_cons.1 h).1
    have h2 := prod_pos (allR_cons.1 h).2
    have h3 : 1 * prod l ≤ a * prod l := Int.mul_le_mul_of_nonneg_right h1.1 (by omega)
    simp only [prod] at hm
    rcases List.mem_cons.1 hs with rfl | hs
    · omega
    · exact strides_le m (allR_cons.1 h).2 (by omega) s hs
theorem place_ev {d p : List Int} (h : okD d) (hw : within d p) : Ev (fun k => shape_Place.f k d p) (place d p) := by
  unfold shape_Place.f
  refine Ev.bind (strides_ev h.2.2.1 h.2.1) ?_
  have hl := within_length hw
  have := place_loop (strides d) p (by rw [strides_length]; exact h.2.1) (by rw [strides_length]; omega) (strides d) p 0 0 (by omega) rfl rfl (strides_le 64 h.2.2.1 h.2.2.2) (within_le h.2.2.1 hw) (by omega) (by rw [strides_length]; have := h.2.1; omega)
  rw [dot_strides, Int.zero_add] at this
  exact this
theorem within_drop : ∀ (d p : List Int), p.length = d.length → (within d p ↔ ∀ i, (h : i < p.length) → (h' : i < d.length) → 0 ≤ p[i] ∧ p[i] < d[i])
  | [], [], _ => by simp [within]
  | [], _ :: _, h => by simp at h
  | _ :: _, [], h => by simp at h
  | a :: d, x :: p, h => by
    have ih := within_drop d p (by simpa using h)
    simp only [within, ih]
    constructor
    · rintro ⟨h1, h2, h3⟩ i hi hi'
      cases i with
      | zero => exact ⟨h1, h2⟩
      | succ i => exact h3 i (by simpa using hi) (by simpa using hi')
    · intro g
      have g0 := g 0 (by simp) (by simp)
      exact ⟨g0.1, g0.2, fun i hi hi' => g (i + 1) (by simpa using hi) (by simpa using hi')⟩

end Go.Proofs.Ytpjcidlkdfebhaa.ShEv
