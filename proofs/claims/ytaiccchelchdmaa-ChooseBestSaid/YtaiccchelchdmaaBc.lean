/- An abstract layer over the walk of Go code, part 23: choices: the search, and all choices in order, in plain Lean. -/
import Derived.Test.YtaiccchelchdmaaBb
namespace Go.Proofs.Al
open Go
abbrev tieI : It := ⟨2, 3, 3⟩
def tie : Nat → Nat → List Int
  | 0, _ => []
  | n + 1, 0 => 1 :: tie n 0
  | n + 1, q + 1 => 0 :: tie n q
theorem tie_len : ∀ n q, (tie n q).length = n
  | 0, _ => rfl
  | n + 1, 0 => by simp [tie, tie_len n 0]
  | n + 1, q + 1 => by simp [tie, tie_len n q]
theorem tie_get : ∀ (n q i : Nat) (h : i < (tie n q).length), (tie n q)[i] = if i < q then 0 else 1
  | 0, _, i, h => by simp [tie] at h
  | n + 1, 0, 0, _ => by simp [tie]
  | n + 1, 0, i + 1, h => by simp [tie, tie_get n 0 i (by simpa [tie] using h)]
  | n + 1, q + 1, 0, _ => by simp [tie]
  | n + 1, q + 1, i + 1, h => by simp [tie, tie_get n q i (by simpa [tie] using h)]
theorem kids3 (room host : Int) (L : List It) (pre : List Int) (s : Sm) (x : It) (a : Acc) : kidsS room host L pre s x 3 a =
    srch room host L (pre ++ [2]) (plusS s x 2) (srch room host L (pre ++ [1]) (plusS s x 1) (srch room host L (pre ++ [0]) (plusS s x 0) a)) := rfl
theorem plus0 (s : Sm) (x : It) : plusS s x 0 = ⟨s.c, s.k + x.s, s.m⟩ := rfl
theorem plus1 (s : Sm) (x : It) : plusS s x 1 = ⟨s.c + x.a, s.k, s.m⟩ := rfl
theorem plus2 (s : Sm) (x : It) : plusS s x 2 = ⟨s.c + x.m, s.k, s.m + x.s⟩ := rfl
theorem tie_no {room : Int} : ∀ (n q : Nat) (pre : List Int) (s : Sm) (a : Acc), 2 * (q : Int) ≤ room - s.k → room - s.k ≤ 2 * (q : Int) + 1 → 0 ≤ a.2 → a.2 ≤ s.c + 3 * ((n - min n q : Nat) : Int) →
    srch room 99 (List.replicate n tieI) pre s a = a
  | 0, q, pre, s, a, h1, h2, h3, h4 => srch_cut (.inr (.inr ⟨h3, by simpa using h4⟩))
  | n + 1, q, pre, s, a, h1, h2, h3, h4 => by
    by_cases hc : cutS room 99 s a
    · exact srch_cut hc
    rw [List.replicate_succ, srch_go hc, kids3]
    have e0 : srch room 99 (List.replicate n tieI) (pre ++ [0]) (plusS s tieI 0) a = a := by
      cases q with
      | zero => exact srch_cut (.inl (by rw [plus0]; simp only; omega))
      | succ q => exact tie_no n q _ _ _ (by rw [plus0]; simp only; omega) (by rw [plus0]; simp only; omega) h3 (by rw [plus0]; simp only; omega)
    rw [e0, tie_no n q (pre ++ [1]) (plusS s tieI 1) a (by rw [plus1]; simp only; omega) (by rw [plus1]; simp only; omega) h3 (by rw [plus1]; simp only; omega)]
    exact tie_no n q _ _ a (by rw [plus2]; simp only; omega) (by rw [plus2]; simp only; omega) h3 (by rw [plus2]; simp only; omega)
theorem tie_yes {room : Int} : ∀ (n q : Nat) (pre : List Int) (s : Sm), 2 * (q : Int) ≤ room - s.k → room - s.k ≤ 2 * (q : Int) + 1 → 0 ≤ s.c → s.m + 2 * (n : Int) ≤ 99 →
    srch room 99 (List.replicate n tieI) pre s (none, -1) = (some (pre ++ tie n q), s.c + 3 * ((n - min n q : Nat) : Int))
  | 0, q, pre, s, h1, h2, h3, h4 => by
    rw [List.replicate_zero, srch_end (by unfold cutS; simp only; omega)]
    simp [tie]
  | n + 1, q, pre, s, h1, h2, h3, h4 => by
    rw [List.replicate_succ, srch_go (by unfold cutS; simp only; omega), kids3]
    cases q with
    | zero =>
      rw [show srch room 99 (List.replicate n tieI) (pre ++ [0]) (plusS s tieI 0) (none, -1) = (none, -1) from srch_cut (.inl (by rw [plus0]; simp only; omega)),
        tie_yes n 0 (pre ++ [1]) (plusS s tieI 1) (by rw [plus1]; simp only; omega) (by rw [plus1]; simp only; omega) (by rw [plus1]; simp only; omega) (by rw [plus1]; simp only; omega),
        tie_no n 0 (pre ++ [2]) (plusS s tieI 2) _ (by rw [plus2]; simp only; omega) (by rw [plus2]; simp only; omega) (by rw [plus1]; simp only; omega) (by rw [plus1, plus2]; simp only; omega), plus1]
      refine Prod.ext (by simp [tie]) (by simp only; omega)
    | succ q =>
      rw [tie_yes n q (pre ++ [0]) (plusS s tieI 0) (by rw [plus0]; simp only; omega) (by rw [plus0]; simp only; omega) (by rw [plus0]; simp only; omega) (by rw [plus0]; simp only; omega),
        tie_no n (q + 1) (pre ++ [1]) (plusS s tieI 1) _ (by rw [plus1]; simp only; omega) (by rw [plus1]; simp only; omega) (by rw [plus0]; simp only; omega) (by rw [plus0, plus1]; simp only; omega),
        tie_no n (q + 1) (pre ++ [2]) (plusS s tieI 2) _ (by rw [plus2]; simp only; omega) (by rw [plus2]; simp only; omega) (by rw [plus0]; simp only; omega) (by rw [plus0, plus2]; simp only; omega), plus0]
      refine Prod.ext (by simp [tie]) (by simp only; omega)
theorem tie_best {n room : Nat} (hn : n ≤ 8) (hr : room ≤ 100) : bestR (List.replicate n tieI) (room : Int) 99 = (tie n (room / 2), 0) := by
  have hok : askC (List.replicate n tieI) (room : Int) 99 := ⟨⟨by simp; omega, fun x hx => by rw [List.eq_of_mem_replicate hx]; decide⟩, ⟨by omega, by omega⟩, by omega, by omega⟩
  rw [bestR, if_pos hok, bestS, tie_yes n (room / 2) _ _ (by simp only; omega) (by simp only; omega) (by simp) (by simp only; omega)]
  rfl
theorem wake1 : bestR [⟨2, 3, 4⟩] 2 0 = ([0], 0) := by decide +kernel
theorem wake2 : bestR [⟨2, 3, 4⟩] 1 9 = ([1], 0) := by decide +kernel
end Go.Proofs.Al
