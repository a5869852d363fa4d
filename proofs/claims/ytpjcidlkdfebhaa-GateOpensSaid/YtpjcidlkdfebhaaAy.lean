/- Plain: what goes through. -/
import Derived.Test.YtpjcidlkdfebhaaAx
namespace Go.Proofs.Al
open Go
set_option linter.unusedVariables false
set_option linter.unusedSimpArgs false
theorem mxL_snoc {xs : List Int} (h : 0 < xs.length) (v : Int) : mxL (xs ++ [v]) = mx (mxL xs) v := by
  cases xs with
  | nil => simp at h
  | cons a xs => simp [mxL, List.foldl_append]
theorem mxL_take {l : List Int} {i : Nat} (h1 : 1 ≤ i) (h : i < l.length) : mxL (l.take (i + 1)) = mx (mxL (l.take i)) l[i] := by
  rw [List.take_succ_eq_append_getElem h]
  exact mxL_snoc (by simp; omega) _
def lessS (d : List Int) (n : Int) : List Int × Bool := if lastI d % n = 0 then (lessD d n, true) else ([], false)
theorem lessS_k {d : List Int} {n : Int} (h : lastI d % n = 0) : lessS d n = (lessD d n, true) := by rw [lessS, if_pos h]
theorem lessS_e {d : List Int} {n : Int} (h : ¬ lastI d % n = 0) : lessS d n = ([], false) := by rw [lessS, if_neg h]
abbrev askP (a : Tn) (n : Int) : Prop := okTn a ∧ 1 ≤ n ∧ n ≤ 8
def askS (a : Tn) (n : Int) : List Int × Int := if askP a n then (if lastI a.d % n = 0 then (lessD a.d n, 0) else ([], 4)) else ([], 1)
theorem askS_k {a : Tn} {n : Int} (h : askP a n) (h' : lastI a.d % n = 0) : askS a n = (lessD a.d n, 0) := by rw [askS, if_pos h, if_pos h']
theorem askS_e {a : Tn} {n : Int} (h : askP a n) (h' : ¬ lastI a.d % n = 0) : askS a n = ([], 4) := by rw [askS, if_pos h, if_neg h']
theorem askS_f {a : Tn} {n : Int} (h : ¬ askP a n) : askS a n = ([], 1) := by rw [askS, if_neg h]
theorem askS_zero {a : Tn} {n : Int} (h : (askS a n).2 = 0) : askP a n ∧ lastI a.d % n = 0 := by
  by_cases hp : askP a n
  · by_cases hq : lastI a.d % n = 0
    · exact ⟨hp, hq⟩
    · rw [askS_e hp hq] at h; exact absurd h (by decide)
  · rw [askS_f hp] at h; exact absurd h (by decide)
abbrev maxS (a : Tn) (n : Int) : Tn × Int := wayS (askP a n) (lastI a.d % n = 0) (maxT a n.toNat)
theorem maxS_err (a : Tn) (n : Int) : (maxS a n).2 = (askS a n).2 := by
  by_cases hp : askP a n
  · by_cases hq : lastI a.d % n = 0
    · rw [askS_k hp hq, maxS, wayS_k hp hq]
    · rw [askS_e hp hq, maxS, wayS_e hp hq]
  · rw [askS_f hp, maxS, wayS_f hp]
theorem maxS_nil {a : Tn} {n : Int} (h : (askS a n).2 ≠ 0) : maxS a n = (⟨[], []⟩, (askS a n).2) := by
  refine Prod.ext ?_ (maxS_err a n)
  by_cases hp : askP a n
  · by_cases hq : lastI a.d % n = 0
    · rw [askS_k hp hq] at h; exact absurd rfl h
    · rw [maxS, wayS_e hp hq]
  · rw [maxS, wayS_f hp]
abbrev pickS (a b : Tn) (n : Int) : Tn × Int := wayS (okTn b ∧ askP a n) (lastI a.d % n = 0 ∧ lessD a.d n = b.d) (pickT a b n.toNat)
abbrev stepS (a b : Tn) : Tn × Int := wayS (okTn a ∧ okTn b) (a.d = b.d) (gateT a b)
theorem gateT_ok {a b : Tn} (ha : okTn a) (hb : okTn b) (hd : a.d = b.d) : okTn (gateT a b) := ⟨hb.1, by
  have h1 := ha.2
  have h2 := hb.2
  rw [hd] at h1
  simp only [gateT, List.length_zipWith]; omega⟩
theorem gateT_len {a b : Tn} (h : a.x.length = b.x.length) : (gateT a b).x.length = a.x.length := by simp [gateT]; omega
theorem maxT_ok {a : Tn} {n : Nat} (ha : okTn a) (h1 : 1 ≤ n) (hl : lastI a.d % (n : Int) = 0) : okTn (maxT a n) := by
  obtain ⟨h2, h3⟩ := lessD_ok ha.1 (n := (n : Int)) (by omega) hl
  refine ⟨h2, ?_⟩
  have := prod_pos h2.2.2.1
  simp only [maxT, maxG, List.length_map, List.length_range]; omega
theorem pickT_len (a b : Tn) (n : Nat) : (pickT a b n).x.length = (prod a.d).toNat := by simp only [pickT, pickG_len, List.length_replicate]
theorem pickT_ok {a b : Tn} {n : Nat} (ha : okTn a) : okTn (pickT a b n) := ⟨ha.1, by
  have := prod_pos ha.1.2.2.1
  rw [pickT_len]; show ((prod a.d).toNat : Int) = prod a.d; omega⟩
theorem maxS_sm (a : Tn) (n : Int) : (maxS a n).1.sm := wayS_sm fun h h' => by
  obtain ⟨k, rfl⟩ : ∃ k : Nat, n = (k : Int) := ⟨n.toNat, by have := h.2.1; omega⟩
  exact (maxT_ok h.1 (by have := h.2.1; omega) h').sm
theorem pickS_sm (a b : Tn) (n : Int) : (pickS a b n).1.sm := wayS_sm fun h h' => (pickT_ok h.2.1).sm
theorem stepS_sm (a b : Tn) : (stepS a b).1.sm := wayS_sm fun h h' => (gateT_ok h.1 h.2 h').sm
theorem zip_gate {A B : List Int} {i : Nat} (h : i < (List.zipWith (fun x y : Int => if x ≤ 0 then 0 else y) A B).length) (h1 : i < A.length) (h2 : i < B.length) :
    (List.zipWith (fun x y : Int => if x ≤ 0 then 0 else y) A B)[i] = if A[i] ≤ 0 then 0 else B[i] := by simp [List.getElem_zipWith]
theorem fill_keep {A : List Int} {i n : Nat} (hn : A.length = n) (hi : i < A.length) (hv : A[i] = 0) : A.take i ++ List.replicate (n - i) (0 : Int) = A.take (i + 1) ++ List.replicate (n - (i + 1)) 0 := by
  have h := fill_set hn hi hv
  rw [← h]
  refine (?_ : _ = _)
  exact (fill_zero hn (by omega)).symm
theorem pickS_err {a b : Tn} {n : Int} (hb : okTn b) (h : (askS a n).2 ≠ 0) : pickS a b n = (⟨[], []⟩, (askS a n).2) := by
  by_cases hp : askP a n
  · by_cases hq : lastI a.d % n = 0
    · rw [askS_k hp hq] at h; exact absurd rfl h
    · rw [pickS, wayS_e ⟨hb, hp⟩ (fun h => hq h.1), askS_e hp hq]
  · rw [pickS, wayS_f (fun h => hp h.2), askS_f hp]
end Go.Proofs.Al
