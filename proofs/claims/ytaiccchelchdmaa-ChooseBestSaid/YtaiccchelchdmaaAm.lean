/- Dims, places and tensors: plain lists and numbers, no program in sight. -/
import Derived.Test.YtaiccchelchdmaaAlk
set_option linter.unusedVariables false
set_option linter.unusedSimpArgs false
namespace Go.Proofs.Al
open Go
/-- The i-th number. -/
def rd (l : List Int) (i : Int) : Int := l.getD i.toNat 0
theorem rdI {l : List Int} {i : Nat} (h : i < l.length) : rd l (i : Int) = l[i] := by
  simp [rd, h]
theorem bvT {p : Prop} [Decidable p] (h : p) : bv true = bv (decide p) := by rw [decide_eq_true h]
theorem bvF {p : Prop} [Decidable p] (h : ¬ p) : bv false = bv (decide p) := by rw [decide_eq_false h]
theorem bvI {p q : Prop} [Decidable p] [Decidable q] (h : p ↔ q) : bv (decide p) = bv (decide q) := by rw [decide_eq_decide.2 h]
def mx (a b : Int) : Int := if b > a then b else a
theorem p8 : ∀ n : Nat, (1 : Int) ≤ 8 ^ n
  | 0 => by decide
  | n + 1 => by rw [Int.pow_succ]; have := p8 n; omega
/-! ### products -/
def prod : List Int → Int
  | [] => 1
  | a :: l => a * prod l
def inR (x : Int) : Prop := 1 ≤ x ∧ x ≤ 8
instance (x : Int) : Decidable (inR x) := inferInstanceAs (Decidable (_ ∧ _))
def allR (l : List Int) : Prop := ∀ x ∈ l, inR x
instance (l : List Int) : Decidable (allR l) := inferInstanceAs (Decidable (∀ x ∈ l, inR x))
theorem allR_cons {a : Int} {l : List Int} : allR (a :: l) ↔ inR a ∧ allR l := by simp [allR]
theorem allR_drop {l : List Int} (h : allR l) (i : Nat) : allR (l.drop i) := fun x hx => h x (List.mem_of_mem_drop hx)
theorem prod_pos : ∀ {l : List Int}, allR l → 1 ≤ prod l
  | [], _ => by decide
  | a :: l, h => by
    have h1 := (allR_cons.1 h).1
    have h2 := prod_pos (allR_cons.1 h).2
    have := Int.mul_le_mul h1.1 h2 (by omega) (by have := h1.1; omega)
    simpa [prod] using this
theorem prodW (l : List Int) : ∀ (acc : Int), allR l → 1 ≤ acc → acc * 8 ^ l.length ≤ 1152921504606846976 → l.foldl (fun a x => IntKind.i64.wrap (a * x)) acc = acc * prod l := by
  induction l with
  | nil => intro acc _ _ _; simp [prod]
  | cons a l ih =>
    intro acc h ha hb
    have h1 := (allR_cons.1 h).1
    have e1 : acc * 8 ^ (a :: l).length = acc * 8 * 8 ^ l.length := by rw [List.length_cons, Int.pow_succ, Int.mul_comm (8 ^ _) 8, Int.mul_assoc]
    have p8 := p8 l.length
    have b1 : acc * a ≤ acc * 8 := Int.mul_le_mul_of_nonneg_left h1.2 (by omega)
    have b2 : acc * a * 8 ^ l.length ≤ acc * 8 * 8 ^ l.length := Int.mul_le_mul_of_nonneg_right b1 (by omega)
    have b3 : acc * a * 1 ≤ acc * a * 8 ^ l.length := Int.mul_le_mul_of_nonneg_left p8 (Int.mul_nonneg (by omega) (by have := h1.1; omega))
    have b4 : 1 * 1 ≤ acc * a := Int.mul_le_mul ha h1.1 (by omega) (by omega)
    rw [List.foldl_cons, w64 (by omega) (by omega), ih _ (allR_cons.1 h).2 (by omega) (by omega), prod, Int.mul_assoc]
theorem prodW1 {l : List Int} (h : allR l) (hl : l.length ≤ 3) : l.foldl (fun a x => IntKind.i64.wrap (a * x)) 1 = prod l := by
  rw [prodW l 1 h (by decide) (by
    have : (8 : Int) ^ l.length ≤ 8 ^ 3 := by
      rcases l with _ | ⟨a, _ | ⟨b, _ | ⟨c, _ | ⟨e, l⟩⟩⟩⟩ <;> simp at hl ⊢ <;> omega
    omega), Int.one_mul]
/-! ### dims that may be -/
def okD (d : List Int) : Prop := 1 ≤ d.length ∧ d.length ≤ 3 ∧ allR d ∧ prod d ≤ 64
instance (d : List Int) : Decidable (okD d) := inferInstanceAs (Decidable (_ ∧ _ ∧ _ ∧ _))
/-! ### rows that are filled from the left -/
theorem set_fill (A : List Int) (m : Nat) (v : Int) : (A ++ List.replicate (m + 1) (0 : Int)).set A.length v = (A ++ [v]) ++ List.replicate m 0 := by
  rw [List.set_append_right _ _ (Nat.le_refl _), Nat.sub_self, List.replicate_succ, List.set_cons_zero, List.append_assoc]
  rfl
/-! ### equality -/
/-! ### tensors -/
def okT (d l : List Int) : Prop := okD d ∧ (l.length : Int) = prod d
instance (d l : List Int) : Decidable (okT d l) := inferInstanceAs (Decidable (_ ∧ _))
/-! ### rows that are filled from the left -/
def strides : List Int → List Int
  | [] => []
  | _ :: l => prod l :: strides l
theorem strides_length : ∀ l, (strides l).length = l.length
  | [] => rfl
  | _ :: l => congrArg (· + 1) (strides_length l)
theorem strides_get : ∀ (l : List Int) (i : Nat) (h : i < l.length), (strides l)[i]'(by rw [strides_length]; exact h) = prod (l.drop (i + 1))
  | _ :: l, 0, _ => rfl
  | _ :: l, i + 1, h => by
    simp only [strides, List.getElem_cons_succ, List.drop_succ_cons]
    exact strides_get l i (by simpa using h)
/-! ### places -/
def numsS : List Int → Int → List Int
  | [], _ => []
  | s :: l, n => n / s :: numsS l (n % s)
theorem numsS_length : ∀ l n, (numsS l n).length = l.length
  | [], _ => rfl
  | _ :: l, n => congrArg (· + 1) (numsS_length l _)
theorem strides_pos : ∀ {d : List Int}, allR d → ∀ s ∈ strides d, 1 ≤ s
  | [], _, s, hs => by simp [strides] at hs
  | a :: l, h, s, hs => by
    rcases List.mem_cons.1 hs with rfl | hs
    · exact prod_pos (allR_cons.1 h).2
    · exact strides_pos (allR_cons.1 h).2 s hs
/-- The numbers of a place. -/
def nums (d : List Int) (n : Int) : List Int := numsS (strides d) n
theorem nums_length (d : List Int) (n : Int) : (nums d n).length = d.length := by rw [nums, numsS_length, strides_length]
def place : List Int → List Int → Int
  | _ :: d, x :: p => prod d * x + place d p
  | _, _ => 0
def within : List Int → List Int → Prop
  | a :: d, x :: p => 0 ≤ x ∧ x < a ∧ within d p
  | [], [] => True
  | _, _ => False
instance within_dec : ∀ d p, Decidable (within d p)
  | a :: d, x :: p => @instDecidableAnd _ _ _ (@instDecidableAnd _ _ _ (within_dec d p))
  | [], [] => isTrue trivial
  | [], _ :: _ => isFalse (fun h => h)
  | _ :: _, [] => isFalse (fun h => h)
theorem within_length : ∀ {d p : List Int}, within d p → p.length = d.length
  | _ :: _, _ :: _, h => congrArg (· + 1) (within_length h.2.2)
  | [], [], _ => rfl
theorem place_range : ∀ {d p : List Int}, allR d → within d p → 0 ≤ place d p ∧ place d p < prod d
  | a :: d, x :: p, h, hw => by
    have h1 := (allR_cons.1 h).1
    have h2 := prod_pos (allR_cons.1 h).2
    have h3 := place_range (allR_cons.1 h).2 hw.2.2
    have a1 : 0 ≤ prod d * x := Int.mul_nonneg (by omega) hw.1
    have a2 : prod d * x ≤ prod d * (a - 1) := Int.mul_le_mul_of_nonneg_left (by have := hw.2.1; omega) (by omega)
    have a3 : prod d * (a - 1) = a * prod d - prod d := by rw [Int.mul_sub, Int.mul_one, Int.mul_comm]
    simp only [place, prod]
    omega
  | [], [], _, _ => by simp [place, prod]
theorem nums_cons (a : Int) (d : List Int) (n : Int) : nums (a :: d) n = n / prod d :: nums d (n % prod d) := rfl
theorem nums_within : ∀ {d : List Int} {n : Int}, allR d → 0 ≤ n → n < prod d → within d (nums d n)
  | [], n, _, _, _ => trivial
  | a :: d, n, h, h0, hn => by
    have h2 := prod_pos (allR_cons.1 h).2
    rw [nums_cons]
    refine ⟨Int.ediv_nonneg h0 (by omega), Int.ediv_lt_of_lt_mul (by omega) hn, nums_within (allR_cons.1 h).2 (Int.emod_nonneg _ (by omega)) (Int.emod_lt_of_pos _ (by omega))⟩
theorem place_nums : ∀ {d : List Int} {n : Int}, allR d → 0 ≤ n → n < prod d → place d (nums d n) = n
  | [], n, _, h0, hn => by simp [prod] at hn; simp [nums, strides, numsS, place]; omega
  | a :: d, n, h, h0, hn => by
    have h2 := prod_pos (allR_cons.1 h).2
    rw [nums_cons, place, place_nums (allR_cons.1 h).2 (Int.emod_nonneg _ (by omega)) (Int.emod_lt_of_pos _ (by omega)), Int.mul_ediv_add_emod]
/-! ### places -/
/-- The sum as the loop has it, from place i on. -/
def dot : List Int → List Int → Int
  | s :: S, x :: p => s * x + dot S p
  | _, _ => 0
theorem dot_strides : ∀ d p : List Int, dot (strides d) p = place d p
  | [], p => by cases p <;> rfl
  | _ :: _, [] => rfl
  | _ :: d, _ :: p => congrArg (_ + ·) (dot_strides d p)
theorem within_le : ∀ {d p : List Int}, allR d → within d p → ∀ x ∈ p, 0 ≤ x ∧ x ≤ 8
  | [], [], _, _, x, hx => by simp at hx
  | a :: d, y :: p, h, hw, x, hx => by
    rcases List.mem_cons.1 hx with rfl | hx
    · have := ((allR_cons.1 h).1).2
      have := hw.2.1
      exact ⟨hw.1, by omega⟩
    · exact within_le (allR_cons.1 h).2 hw.2.2 x hx
theorem strides_le : ∀ {d : List Int} (m : Int), allR d → prod d ≤ m → ∀ s ∈ strides d, 0 ≤ s ∧ s ≤ m
  | [], _, _, _, s, hs => by simp [strides] at hs
  | a :: l, m, h, hm, s, hs => by
    have h1 := (allR_cons.1 h).1
    have h2 := prod_pos (allR_cons.1 h).2
    have h3 : 1 * prod l ≤ a * prod l := Int.mul_le_mul_of_nonneg_right h1.1 (by omega)
    simp only [prod] at hm
    rcases List.mem_cons.1 hs with rfl | hs
    · omega
    · exact strides_le m (allR_cons.1 h).2 (by omega) s hs
theorem within_drop : ∀ (d p : List Int), p.length = d.length → (within d p ↔ ∀ i, (h : i < p.length) → (h' : i < d.length) → 0 ≤ p[i] ∧ p[i] < d[i])
  | [], [], _ => by simp [within]
  | [], _ :: _, h => by simp at h
  | _ :: _, [], h => by simp at h
  | a :: d, x :: p, h => by
    have ih := within_drop d p (by simpa using h)
    simp only [within, ih]
    constructor
    · rintro ⟨h1, h2, h3⟩ i hi hi'
      cases i with
      | zero => exact ⟨h1, h2⟩
      | succ i => exact h3 i (by simpa using hi) (by simpa using hi')
    · intro g
      have g0 := g 0 (by simp) (by simp)
      exact ⟨g0.1, g0.2, fun i hi hi' => g (i + 1) (by simpa using hi) (by simpa using hi')⟩
/-! ### the greatest, and the first of it -/
def mxL : List Int → Int
  | [] => 0
  | a :: l => l.foldl mx a
theorem mx_foldl_mem : ∀ (l : List Int) (a : Int), l.foldl mx a ∈ a :: l
  | [], a => by simp
  | b :: l, a => by
    have h := mx_foldl_mem l (mx a b)
    rw [List.foldl_cons]
    rcases List.mem_cons.1 h with e | h
    · rw [e]
      unfold mx
      split <;> simp
    · exact List.mem_cons_of_mem _ (List.mem_cons_of_mem _ h)
theorem mxL_mem {l : List Int} (h : 0 < l.length) : mxL l ∈ l := by
  cases l with
  | nil => simp at h
  | cons a l => exact mx_foldl_mem l a
def fst (v : Int) : List Int → Nat
  | [] => 0
  | a :: l => if v = a then 0 else fst v l + 1
theorem fst_lt {v : Int} : ∀ {l : List Int}, v ∈ l → fst v l < l.length
  | a :: l, h => by
    unfold fst
    split
    · simp
    · rename_i hne
      rcases List.mem_cons.1 h with e | h
      · exact absurd e hne
      · have := fst_lt h
        simp; omega
def best (l : List Int) : Nat := fst (mxL l) l
theorem best_lt {l : List Int} (h : 0 < l.length) : best l < l.length := fst_lt (mxL_mem h)
/-! ### dims whose last one is so many times less -/
def lastI (d : List Int) : Int := rd d ((d.length - 1 : Nat) : Int)
def lessD (d : List Int) (n : Int) : List Int := d.set (d.length - 1) (lastI d / n)
theorem lastI_get {d : List Int} (h : 0 < d.length) : lastI d = d[d.length - 1] := rdI (by omega)
theorem prod_append : ∀ (a b : List Int), prod (a ++ b) = prod a * prod b
  | [], b => by simp [prod]
  | x :: a, b => by simp [prod, prod_append a b, Int.mul_assoc]
theorem allR_append {a b : List Int} : allR (a ++ b) ↔ allR a ∧ allR b := by
  simp only [allR, List.mem_append]
  exact ⟨fun h => ⟨fun x hx => h x (.inl hx), fun x hx => h x (.inr hx)⟩, fun h x hx => hx.elim (h.1 x) (h.2 x)⟩
theorem split_last {d : List Int} (h : 0 < d.length) : d = d.take (d.length - 1) ++ [lastI d] := by
  rw [lastI_get h, List.take_append_getElem (by omega), List.take_of_length_le (by omega)]
theorem lessD_eq {d : List Int} (h : 0 < d.length) (n : Int) : lessD d n = d.take (d.length - 1) ++ [lastI d / n] := by
  unfold lessD
  generalize lastI d / n = v
  have e : d.set (d.length - 1) v = (d.take (d.length - 1) ++ [lastI d]).set (d.take (d.length - 1)).length v := by
    rw [List.length_take, show min (d.length - 1) d.length = d.length - 1 by omega]
    exact congrArg (fun z => z.set (d.length - 1) v) (split_last h)
  rw [e, List.set_append_right _ _ (Nat.le_refl _), Nat.sub_self]
  rfl
theorem lessD_ok {d : List Int} (hd : okD d) {n : Int} (hn : 1 ≤ n) (hdv : lastI d % n = 0) : okD (lessD d n) ∧ prod (lessD d n) * n = prod d := by
  have h1 := hd.1
  have hs := split_last (d := d) (by omega)
  have he := lessD_eq (d := d) (by omega) n
  have hm := Int.mul_ediv_add_emod (lastI d) n
  have ha : allR (d.take (d.length - 1)) ∧ allR [lastI d] := by rw [← allR_append, ← hs]; exact hd.2.2.1
  have hl : inR (lastI d) := ha.2 _ (by simp)
  have hp0 := prod_pos ha.1
  have q0 : 0 ≤ lastI d / n := Int.ediv_nonneg (by have := hl.1; omega) (by omega)
  have q1 : lastI d / n ≤ lastI d := Int.ediv_le_self n (by have := hl.1; omega)
  have q2 : 1 ≤ lastI d / n := by
    rcases Int.lt_or_le 0 (lastI d / n) with h | h
    · omega
    · have e : lastI d / n = 0 := by omega
      rw [e, Int.mul_zero] at hm
      have := hl.1
      omega
  have hpr : prod (lessD d n) * n = prod d := by
    have e2 : prod d = prod (d.take (d.length - 1)) * lastI d := by
      conv => lhs; rw [hs, prod_append]
      simp [prod]
    rw [e2, he, prod_append]
    simp only [prod, Int.mul_one]
    rw [Int.mul_assoc, Int.mul_comm (lastI d / n) n, show n * (lastI d / n) = lastI d by omega]
  have hle : prod (lessD d n) * 1 ≤ prod (lessD d n) * n := Int.mul_le_mul_of_nonneg_left hn (by
    rw [he, prod_append]
    simp only [prod, Int.mul_one]
    exact Int.mul_nonneg (by omega) q0)
  refine ⟨⟨?_, ?_, ?_, ?_⟩, hpr⟩
  · unfold lessD; rw [List.length_set]; exact hd.1
  · unfold lessD; rw [List.length_set]; exact hd.2.1
  · rw [he, allR_append]
    exact ⟨ha.1, fun x hx => by simp at hx; subst hx; exact ⟨q2, by have := hl.2; omega⟩⟩
  · have := hd.2.2.2
    omega
/-! ### so many side by side -/
def blk (l : List Int) (n i : Nat) : List Int := (l.drop (i * n)).take n
theorem blk_eq (l : List Int) (n i : Nat) : (l.take (i * n + n)).drop (i * n) = blk l n i := by
  unfold blk
  rw [List.drop_take, show i * n + n - i * n = n by omega]
theorem blk_length {l : List Int} {n q i : Nat} (hl : l.length = q * n) (hi : i < q) : (blk l n i).length = n := by
  have : (i + 1) * n ≤ q * n := Nat.mul_le_mul_right n hi
  rw [Nat.add_mul, Nat.one_mul] at this
  unfold blk
  rw [List.length_take, List.length_drop]
  omega
def maxG (l : List Int) (n q : Nat) : List Int := (List.range q).map fun j => mxL (blk l n j)
def pickG (l : List Int) (n : Nat) : List Int → Nat → List Int → List Int
  | [], _, acc => acc
  | x :: b, i, acc => pickG l n b (i + 1) (acc.set (i * n + best (blk l n i)) x)
/-! ### which dims are wider than which -/
def growsD : List Int → List Int → Prop
  | x :: e, y :: d => (x = 1 ∨ x = y) ∧ growsD e d
  | [], [] => True
  | _, _ => False
instance growsD_dec : ∀ e d, Decidable (growsD e d)
  | x :: e, y :: d => @instDecidableAnd _ _ _ (growsD_dec e d)
  | [], [] => isTrue trivial
  | [], _ :: _ => isFalse (fun h => h)
  | _ :: _, [] => isFalse (fun h => h)
theorem growsD_length : ∀ {e d : List Int}, growsD e d → e.length = d.length
  | _ :: _, _ :: _, h => congrArg (· + 1) (growsD_length h.2)
  | [], [], _ => rfl
/-! ### the place in lesser dims -/
def zeroL : List Int → List Int → List Int
  | x :: e, v :: p => (if x = 1 then 0 else v) :: zeroL e p
  | _, p => p
theorem zeroL_length : ∀ e p, (zeroL e p).length = p.length
  | _ :: e, _ :: p => congrArg (· + 1) (zeroL_length e p)
  | [], p => by simp [zeroL]
  | _ :: _, [] => rfl
theorem zero_within : ∀ {e d p : List Int}, growsD e d → within d p → within e (zeroL e p)
  | x :: e, y :: d, v :: p, hg, hw => by
    refine ⟨?_, ?_, zero_within hg.2 hw.2.2⟩
    · split
      · omega
      · exact hw.1
    · split
      · rename_i h; omega
      · rename_i h
        rw [hg.1.resolve_left h]
        exact hw.2.1
  | [], [], [], _, _ => trivial
def lowN (e d : List Int) (n : Int) : Int := place e (zeroL e (nums d n))
theorem low_range {e d : List Int} (he : allR e) (hd : allR d) (hg : growsD e d) {n : Int} (h0 : 0 ≤ n) (hn : n < prod d) : 0 ≤ lowN e d n ∧ lowN e d n < prod e :=
  place_range he (zero_within hg (nums_within hd h0 hn))
theorem low_cons (x y : Int) (e d : List Int) (n : Int) : lowN (x :: e) (y :: d) n = prod e * (if x = 1 then 0 else n / prod d) + lowN e d (n % prod d) := rfl
/-! ### how often a place is met -/
theorem count_range_mul (p : Nat → Bool) (P : Nat) : ∀ y : Nat, (List.range (y * P)).countP p = ((List.range y).map (fun q => (List.range P).countP (fun r => p (q * P + r)))).sum
  | 0 => by simp
  | y + 1 => by
    rw [Nat.add_mul, Nat.one_mul, List.range_add, List.countP_append, count_range_mul p P y, List.range_succ, List.map_append, List.sum_append, List.countP_map]
    simp [Function.comp_def]
theorem sum_const (c : Nat) : ∀ y : Nat, ((List.range y).map (fun _ => c)).sum = y * c
  | 0 => by simp
  | y + 1 => by rw [List.range_succ, List.map_append, List.sum_append, sum_const c y, Nat.add_mul]; simp
theorem sum_single (f : Nat → Nat) (q0 : Nat) : ∀ y : Nat, ((List.range y).map (fun q => if q = q0 then f q else 0)).sum = if q0 < y then f q0 else 0
  | 0 => by simp
  | y + 1 => by
    rw [List.range_succ, List.map_append, List.sum_append, sum_single f q0 y]
    by_cases h : q0 < y
    · rw [if_pos h, if_pos (by omega)]
      simp
      intro e; omega
    · rw [if_neg h]
      by_cases e : y = q0
      · subst e; simp
      · rw [if_neg (by omega)]
        simp [e]
def cnt (e d : List Int) (j : Int) : Nat := (List.range (prod d).toNat).countP fun i : Nat => decide (lowN e d (i : Int) = j)
theorem cnt_spec : ∀ {e d : List Int}, allR e → allR d → growsD e d → ∀ {j : Int}, 0 ≤ j → j < prod e → (cnt e d j : Int) * prod e = prod d
  | [], [], _, _, _, j, h0, hj => by
    have : j = 0 := by simp [prod] at hj; omega
    subst this
    rfl
  | x :: e, y :: d, he, hd, hg, j, h0, hj => by
    have hx := (allR_cons.1 he).1
    have hy := (allR_cons.1 hd).1
    have he' := (allR_cons.1 he).2
    have hd' := (allR_cons.1 hd).2
    have pe := prod_pos he'
    have pd := prod_pos hd'
    have hP : (prod (y :: d)).toNat = y.toNat * (prod d).toNat := by
      rw [prod, Int.toNat_mul (by have := hy.1; omega) (by omega)]
    unfold cnt
    rw [hP, count_range_mul]
    have hlow : ∀ q r : Nat, r < (prod d).toNat → lowN (x :: e) (y :: d) ((q * (prod d).toNat + r : Nat) : Int) = prod e * (if x = 1 then 0 else (q : Int)) + lowN e d (r : Int) := by
      intro q r hr
      have e1 : ((q * (prod d).toNat + r : Nat) : Int) = (r : Int) + (q : Int) * prod d := by
        rw [Int.natCast_add, Int.natCast_mul, Int.toNat_of_nonneg (by omega)]; omega
      have e2 : ((r : Int) + (q : Int) * prod d) / prod d = (q : Int) := by
        rw [Int.add_mul_ediv_right _ _ (by omega), Int.ediv_eq_zero_of_lt (by omega) (by omega)]; omega
      have e3 : ((r : Int) + (q : Int) * prod d) % prod d = (r : Int) := by
        rw [Int.add_mul_emod_self_right, Int.emod_eq_of_lt (by omega) (by omega)]
      rw [low_cons, e1, e2, e3]
    by_cases c : x = 1
    · have hj' : j < prod e := by rw [prod, c, Int.one_mul] at hj; exact hj
      have ih := cnt_spec he' hd' hg.2 h0 hj'
      have : ∀ q : Nat, (List.range (prod d).toNat).countP (fun r => decide (lowN (x :: e) (y :: d) ((q * (prod d).toNat + r : Nat) : Int) = j)) = cnt e d j := by
        intro q
        unfold cnt
        refine List.countP_congr fun r hr => ?_
        rw [hlow q r (List.mem_range.1 hr), if_pos c, Int.mul_zero, Int.zero_add]
      rw [List.map_congr_left (g := fun _ => cnt e d j) (fun q _ => this q), sum_const, prod, prod, c, Int.one_mul, Int.natCast_mul, Int.mul_assoc, ih, Int.toNat_of_nonneg (by have := hy.1; omega)]
    · have hxy : x = y := hg.1.resolve_left c
      have m0 := Int.emod_nonneg j (show prod e ≠ 0 by omega)
      have m1 := Int.emod_lt_of_pos j (show 0 < prod e by omega)
      have q0 := Int.ediv_nonneg h0 (show 0 ≤ prod e by omega)
      have q1 : j / prod e < x := Int.ediv_lt_of_lt_mul (by omega) (by rw [prod] at hj; exact hj)
      have hjd := Int.mul_ediv_add_emod j (prod e)
      have ih := cnt_spec he' hd' hg.2 m0 m1
      have : ∀ q : Nat, (List.range (prod d).toNat).countP (fun r => decide (lowN (x :: e) (y :: d) ((q * (prod d).toNat + r : Nat) : Int) = j)) = if q = (j / prod e).toNat then cnt e d (j % prod e) else 0 := by
        intro q
        by_cases cq : q = (j / prod e).toNat
        · rw [if_pos cq]
          unfold cnt
          refine List.countP_congr fun r hr => ?_
          rw [hlow q r (List.mem_range.1 hr), if_neg c, cq, Int.toNat_of_nonneg q0]
          simp only [decide_eq_true_eq]
          omega
        · rw [if_neg cq, List.countP_eq_zero]
          intro r hr
          rw [hlow q r (List.mem_range.1 hr), if_neg c]
          simp only [decide_eq_true_eq]
          intro h
          have hr' := List.mem_range.1 hr
          have lr := low_range he' hd' hg.2 (n := (r : Int)) (by omega) (by omega)
          have e2 : j / prod e = (q : Int) := by
            rw [← h, Int.add_comm, Int.add_mul_ediv_left _ _ (by omega), Int.ediv_eq_zero_of_lt lr.1 lr.2, Int.zero_add]
          omega
      rw [List.map_congr_left (g := fun q => if q = (j / prod e).toNat then cnt e d (j % prod e) else 0) (fun q _ => this q), sum_single (fun _ => cnt e d (j % prod e)), if_pos (by omega), prod, prod, ← hxy, ← ih, ← Int.mul_assoc, ← Int.mul_assoc, Int.mul_comm (cnt e d (j % prod e) : Int) x]
/-! ### laid out wider -/
/-! ### summed up -/
def sumG (e d : List Int) : List Int → Nat → List Int → List Int
  | [], _, acc => acc
  | x :: l, i, acc => sumG e d l (i + 1) (acc.set (lowN e d (i : Int)).toNat (IntKind.i64.wrap (rd acc (lowN e d (i : Int)) + x)))
/-! ### tensors -/
structure Tn where
  d : List Int
  x : List Int
  deriving DecidableEq
abbrev tv (t : Tn) : AV := .agg [ints t.d, ints t.x]
def okTn (t : Tn) : Prop := okT t.d t.x
instance (t : Tn) : Decidable (okTn t) := inferInstanceAs (Decidable (okT _ _))
theorem Tn.ext' {a b : Tn} : a = b ↔ a.d = b.d ∧ a.x = b.x := by cases a; cases b; simp
theorem okTn.len {t : Tn} (h : okTn t) : t.d.length ≤ 3 ∧ t.x.length ≤ 64 ∧ 1 ≤ t.x.length := by
  have h1 := h.1.2.1
  have h2 := h.1.2.2.2
  have h3 := h.2
  have h4 := prod_pos h.1.2.2.1
  exact ⟨h1, by omega, by omega⟩
def Tn.sm (t : Tn) : Prop := t.d.length ≤ 4398046511104 ∧ t.x.length ≤ 4398046511104
theorem okTn.sm {t : Tn} (h : okTn t) : t.sm := by have := h.len; exact ⟨by omega, by omega⟩
theorem anyR (d : List Int) : (d.any fun n => decide (¬ inR n)) = decide (¬ allR d) := by
  cases h : (d.any fun n => decide (¬ inR n)) with
  | true => 
    symm
    apply decide_eq_true
    obtain ⟨x, hx, hp⟩ := List.any_eq_true.1 h
    exact fun ha => of_decide_eq_true hp (ha x hx)
  | false =>
    symm
    apply decide_eq_false
    refine fun hn => hn fun x hx => ?_
    have := List.any_eq_false.1 h x hx
    simpa using this
theorem foldl_take {α β : Type} {l : List α} {i : Nat} (h : i < l.length) (g : β → α → β) (z : β) : (l.take (i + 1)).foldl g z = g ((l.take i).foldl g z) l[i] := by
  rw [List.take_succ_eq_append_getElem h, List.foldl_append]; rfl
/-- The first that p takes; none: -1. -/
def fidx {α : Type} (p : α → Bool) (l : List α) : Int := if l.any p then (l.findIdx p : Int) else -1
theorem fidx_miss {α : Type} {p : α → Bool} {l : List α} (h : l.any p = false) : fidx p l = -1 := by rw [fidx, h]; rfl
theorem fidx_hit {α : Type} {p : α → Bool} : ∀ {l : List α} {i : Nat} {x : α}, (l.take i).any p = false → l[i]? = some x → p x = true → fidx p l = (i : Int)
  | [], i, x, _, hx, _ => by simp at hx
  | a :: l, 0, x, _, hx, hp => by simp at hx; subst hx; simp [fidx, hp, List.findIdx_cons]
  | a :: l, i + 1, x, h, hx, hp => by
    simp only [List.take_succ_cons, List.any_cons, Bool.or_eq_false_iff] at h
    have ih := fidx_hit h.2 (by simpa using hx) hp
    have hm : l.any p = true := List.any_eq_true.2 ⟨x, List.mem_of_getElem? (by simpa using hx), hp⟩
    unfold fidx at ih ⊢
    rw [hm] at ih
    simp only [List.any_cons, hm, Bool.or_true, if_true, List.findIdx_cons, h.1, cond_false] at ih ⊢
    omega
theorem fidx_nonneg {α : Type} {p : α → Bool} {l : List α} : (0 ≤ fidx p l) ↔ l.any p = true := by
  unfold fidx
  cases l.any p <;> simp <;> omega
theorem fidx_any {α : Type} {p : α → Bool} {l : List α} : decide (fidx p l ≥ 0) = l.any p := by
  cases h : l.any p with
  | true => exact decide_eq_true (fidx_nonneg.2 h)
  | false => exact decide_eq_false fun hh => by rw [fidx_nonneg.1 hh] at h; cases h
theorem take_any {α : Type} {p : α → Bool} {l : List α} {i : Nat} {x : α} (h : (l.take i).any p = false) (hx : l[i]? = some x) (hp : p x = false) : (l.take (i + 1)).any p = false := by
  obtain ⟨hi, rfl⟩ := List.getElem?_eq_some_iff.1 hx
  rw [List.take_succ_eq_append_getElem hi, List.any_append, h]; simp [hp]
end Go.Proofs.Al
