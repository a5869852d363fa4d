/- Plain laws: sums and products that wrap around. -/
import Derived.Test.YtaiccchelchdmaaAr
namespace Go.Proofs.Al
open Go
set_option linter.unusedVariables false
set_option linter.unusedSimpArgs false
def inI (x : Int) : Prop := -9223372036854775808 ≤ x ∧ x ≤ 9223372036854775807
theorem wb (x : Int) : IntKind.i64.wrap x = x.bmod 18446744073709551616 := by
  simp only [IntKind.wrap, IntKind.signed, IntKind.bits, Int.bmod, Bool.true_and]
  split <;> split <;> simp_all <;> omega
theorem wbI {x : Int} (h : inI x) : x.bmod 18446744073709551616 = x := by rw [← wb]; exact w64 h.1 h.2
theorem wI (x : Int) : inI (IntKind.i64.wrap x) := by
  simp only [inI, IntKind.wrap, IntKind.signed, IntKind.bits, Bool.true_and]
  split <;> simp_all <;> omega
/-- Sums wrapped. -/
def sumI (l : List Int) : Int := l.foldr (· + ·) 0
theorem sumW_eq (l : List Int) : sumW l = (sumI l).bmod 18446744073709551616 := by
  have h : ∀ (l : List Int) (a : Int), l.foldl (fun a x => IntKind.i64.wrap (a + x)) (a.bmod 18446744073709551616) = (a + sumI l).bmod 18446744073709551616 := by
    intro l
    induction l with
    | nil => intro a; simp [sumI]
    | cons x l ih =>
      intro a
      rw [List.foldl_cons, wb, Int.bmod_add_bmod, ih, Int.add_assoc]; rfl
  have := h l 0
  rw [show (0 : Int).bmod 18446744073709551616 = 0 by decide, Int.zero_add] at this
  exact this
theorem zip_ok {a b : Tn} {op : Int → Int → Int} (ha : okTn a) (hb : okTn b) (hd : a.d = b.d) : okTn (zipT op a b) := ⟨ha.1, by rw [zip_len ha hb hd]; exact ha.2⟩
theorem two_ok {a b : Tn} {op : Int → Int → Int} (ha : okTn a) (hb : okTn b) (hd : a.d = b.d) : twoS op a b = (zipT op a b, 0) := by
  have h := pairS_zero.2 ⟨ha, hb, hd⟩
  rw [twoS, h, if_pos rfl]
theorem scale_ok {a : Tn} (ha : okTn a) (n : Int) : scaleS a n = (scaleT a n, 0) := by rw [scaleS, if_pos ha]
theorem like_ok {a : Tn} (b : Tn) (ha : okTn a) : okTn (like a b) := ⟨ha.1, by simp only [like, tab_len]; exact ha.2⟩
theorem add_comm_t {a b : Tn} (hd : a.d = b.d) : zipT opA a b = zipT opA b a := by
  refine Tn.ext'.2 ⟨hd, ?_⟩
  simp only [zipT]
  rw [List.zipWith_comm]
  congr 1; funext x y; rw [opA, opA, Int.add_comm]
theorem zip_ext {A B : List Int} (h : A.length = B.length) (g : ∀ i, (h1 : i < A.length) → (h2 : i < B.length) → A[i] = B[i]) : A = B := List.ext_getElem h g
theorem add_assoc_t {a b d : Tn} : zipT opA (zipT opA a b) d = zipT opA a (zipT opA b d) := by
  refine Tn.ext'.2 ⟨rfl, zip_ext (by simp [zipT, Nat.min_assoc]) fun i h1 h2 => ?_⟩
  simp only [zipT, List.getElem_zipWith, opA, wb, Int.bmod_add_bmod, Int.add_bmod_bmod]
  rw [Int.add_assoc]
theorem mul_over {a b d : Tn} (h1 : a.x.length = b.x.length) (h2 : a.x.length = d.x.length) : zipT opM a (zipT opA b d) = zipT opA (zipT opM a b) (zipT opM a d) := by
  refine Tn.ext'.2 ⟨rfl, zip_ext (by simp [zipT]; omega) fun i h1 h2 => ?_⟩
  simp only [zipT, List.getElem_zipWith, opA, opM, wb, Int.bmod_add_bmod, Int.add_bmod_bmod, Int.mul_bmod_bmod]
  rw [Int.mul_add]
theorem back_t {a b : Tn} (hl : a.x.length = b.x.length) (hr : ∀ x ∈ a.x, inI x) : zipT opS (zipT opA a b) b = a := by
  refine Tn.ext'.2 ⟨rfl, zip_ext (by simp [zipT]; omega) fun i h1 h2 => ?_⟩
  simp only [zipT, List.getElem_zipWith, opA, opS, wb, Int.bmod_sub_bmod]
  rw [Int.add_sub_cancel]
  exact wbI (hr _ (List.getElem_mem h2))
theorem dot_over : ∀ {a b d : List Int}, a.length = b.length → a.length = d.length → sumW (List.zipWith opM a (List.zipWith opA b d)) = IntKind.i64.wrap (sumW (List.zipWith opM a b) + sumW (List.zipWith opM d a)) := by
  intro a b d h1 h2
  rw [wb, sumW_eq, sumW_eq, sumW_eq, Int.bmod_add_bmod, Int.add_bmod_bmod]
  induction a generalizing b d with
  | nil => simp [sumI]
  | cons x a ih =>
    match b, d with
    | [], _ => simp at h1
    | _, [] => simp at h2
    | y :: b, z :: d =>
      have e := ih (b := b) (d := d) (by simpa using h1) (by simpa using h2)
      have hc : ∀ (u : Int) (l : List Int), sumI (u :: l) = u + sumI l := fun _ _ => rfl
      simp only [List.zipWith_cons_cons, hc] at e ⊢
      generalize sumI (List.zipWith opM a (List.zipWith opA b d)) = A at *
      generalize sumI (List.zipWith opM a b) = B at *
      generalize sumI (List.zipWith opM d a) = C at *
      simp only [opM, opA, wb]
      rw [← Int.add_bmod_bmod, e, Int.add_bmod_bmod, Int.mul_bmod_bmod, Int.bmod_add_bmod]
      have h3 : ((x * y).bmod 18446744073709551616 + B + ((z * x).bmod 18446744073709551616 + C)) = (x * y).bmod 18446744073709551616 + ((z * x).bmod 18446744073709551616 + (B + C)) := by omega
      rw [h3, Int.bmod_add_bmod]
      have h4 : x * y + ((z * x).bmod 18446744073709551616 + (B + C)) = (z * x).bmod 18446744073709551616 + (x * y + (B + C)) := by omega
      rw [h4, Int.bmod_add_bmod, Int.mul_add, Int.mul_comm z x]
      congr 1; omega
theorem wU {a : Nat} (h : a ≤ 9223372036854775807) : IntKind.u64.wrap (a : Int) = (a : Int) := by
  unfold IntKind.wrap; simp [IntKind.signed, IntKind.bits]; omega
theorem pair_e {a b : Tn} (h : okTn a ∧ okTn b) (hd : a.d ≠ b.d) : pairS a b = 4 := by rw [pairS, if_pos h, if_neg hd]
theorem pair_f {a b : Tn} (h : ¬ (okTn a ∧ okTn b)) : pairS a b = 1 := by rw [pairS, if_neg h]
theorem two_no {a b : Tn} {op : Int → Int → Int} (h : pairS a b ≠ 0) : (twoS op a b).1 = ⟨[], []⟩ := by rw [twoS, if_neg h]
theorem each_add {a b : Tn} (h : pairS a b = 0) : eachT a b 0 = (twoS opA a b).1 := by
  rw [twoS, if_pos h]; exact Tn.ext'.2 ⟨rfl, by simp only [eachT, zipT]; congr 1⟩
theorem each_sub {a b : Tn} (h : pairS a b = 0) : eachT a b 1 = (twoS opS a b).1 := by
  rw [twoS, if_pos h]; exact Tn.ext'.2 ⟨rfl, by simp only [eachT, zipT]; congr 1⟩
theorem each_mul {a b : Tn} (h : pairS a b = 0) : eachT a b 2 = (twoS opM a b).1 := by
  rw [twoS, if_pos h]; exact Tn.ext'.2 ⟨rfl, by simp only [eachT, zipT]; congr 1⟩
theorem Tn.sm.fit {t : Tn} (h : t.sm) : t.fit := ⟨by have := h.1; omega, by have := h.2; omega⟩
/-! ### lists of numbers -/
def wlF : List (List Int) → Nat → Nat
  | [], n => n
  | t :: l, n => if n < 1048576 then wlF l (n + t.length) else n
theorem wlF_ge : ∀ (l : List (List Int)) (n : Nat), n ≤ wlF l n
  | [], n => Nat.le_refl _
  | t :: l, n => by
    unfold wlF
    split
    · have := wlF_ge l (n + t.length); omega
    · exact Nat.le_refl _
theorem wlF_small : ∀ {l : List (List Int)} {n : Nat}, wlF l n ≤ 1000 → n ≤ 1000 ∧ ∀ t ∈ l, t.length ≤ 1000
  | [], n, h => ⟨h, fun t ht => by simp at ht⟩
  | t :: l, n, h => by
    have h0 : n < 1048576 := by have := wlF_ge (t :: l) n; omega
    unfold wlF at h
    rw [if_pos h0] at h
    obtain ⟨h1, h2⟩ := wlF_small h
    refine ⟨by omega, fun u hu => ?_⟩
    rcases List.mem_cons.1 hu with rfl | hu
    · omega
    · exact h2 u hu
theorem wlF_le : ∀ (l : List (List Int)) (n : Nat), (∀ t ∈ l, t.length ≤ 17592186044416) → wlF l n ≤ max n 20000000000000
  | [], n, _ => by unfold wlF; omega
  | t :: l, n, h => by
    have h1 := h t (by simp)
    have h2 := wlF_le l (n + t.length) fun u hu => h u (by simp [hu])
    unfold wlF
    split <;> omega
def wtL (l : List (List Int)) : Nat := wlF l l.length
theorem wtL_small {l : List (List Int)} (h : wtL l ≤ 1000) : l.length ≤ 1000 ∧ ∀ t ∈ l, t.length ≤ 1000 := wlF_small h
theorem wtL_le {l : List (List Int)} (h : ∀ t ∈ l, t.length ≤ 17592186044416) (hl : l.length ≤ 17592186044416) : wtL l ≤ 4611686018427387904 := by
  have := wlF_le l l.length h
  unfold wtL; omega
theorem wtT_le' {l : List Tn} (h : ∀ t ∈ l, t.fit) (hl : l.length ≤ 17592186044416) : wtT l ≤ 20000000000000 := by
  have := wtF_le l l.length h
  unfold wtT; omega
theorem wtL_le' {l : List (List Int)} (h : ∀ t ∈ l, t.length ≤ 17592186044416) (hl : l.length ≤ 17592186044416) : wtL l ≤ 20000000000000 := by
  have := wlF_le l l.length h
  unfold wtL; omega
theorem wfI {x : Int} (h : (Lit.int .i64 x).wf = true) : inI x := by
  simp [Lit.wf, IntKind.min, IntKind.max, IntKind.signed, IntKind.bits] at h
  exact ⟨by omega, by omega⟩
end Go.Proofs.Al
