/- Plain: where places lie, as the law asks it. -/
import Derived.Test.YtpjcidlkdfebhaaAw
namespace Go.Proofs.Al
open Go
set_option linter.unusedVariables false
set_option linter.unusedSimpArgs false
def gB (d p : List Int) : Nat → Bool
  | 0 => decide (okD d ∧ p.length = d.length)
  | j + 1 => gB d p j && decide (0 ≤ rdN p j ∧ rdN p j ≤ rdN d j - 1)
theorem gB_zero {d p : List Int} : ∀ {j : Nat}, gB d p j = true → okD d ∧ p.length = d.length
  | 0, h => of_decide_eq_true h
  | j + 1, h => by simp only [gB, Bool.and_eq_true] at h; exact gB_zero h.1
theorem gB_stop {d p : List Int} {j : Nat} (h : gB d p j = false) : ∀ k, gB d p (j + k) = false
  | 0 => h
  | k + 1 => by rw [← Nat.add_assoc, gB, gB_stop h k]; rfl
theorem gB_all {d p : List Int} : ∀ {j : Nat}, gB d p j = true ↔ (okD d ∧ p.length = d.length) ∧ ∀ m, m < j → 0 ≤ rdN p m ∧ rdN p m ≤ rdN d m - 1
  | 0 => by simp [gB]
  | j + 1 => by
    simp only [gB, Bool.and_eq_true, decide_eq_true_eq, gB_all (j := j)]
    refine ⟨fun ⟨⟨h1, h2⟩, h3⟩ => ⟨h1, fun m hm => ?_⟩, fun ⟨h1, h2⟩ => ⟨⟨h1, fun m hm => h2 m (by omega)⟩, h2 j (by omega)⟩⟩
    by_cases e : m = j
    · subst e; exact h3
    · exact h2 m (by omega)
theorem gB_within {d p : List Int} : gB d p d.length = true ↔ okD d ∧ within d p := by
  rw [gB_all]
  constructor
  · rintro ⟨⟨h1, h2⟩, h3⟩
    refine ⟨h1, (within_drop d p h2).2 fun i h h' => ?_⟩
    have := h3 i h'
    rw [rdN_get h, rdN_get h'] at this
    omega
  · rintro ⟨h1, h2⟩
    have hl := within_length h2
    refine ⟨⟨h1, hl⟩, fun m hm => ?_⟩
    have := (within_drop d p hl).1 h2 m (by omega) hm
    rw [rdN_get (show m < p.length by omega), rdN_get hm]
    omega
theorem cellsS_err (d : List Int) : (cellsS d).2 = if okD d then 0 else 1 := by rw [cellsS]; split <;> rfl
theorem stepsS_err (d : List Int) : (stepsS d).2 = if okD d then 0 else 1 := by rw [stepsS]; split <;> rfl
theorem fillS_err (d : List Int) (v : Int) : (fillS d v).2 = if okD d then 0 else 1 := by rw [fillS]; split <;> rfl
theorem stepsS_len (d : List Int) : (stepsS d).1.length ≤ 3 := by
  rw [stepsS]; split
  · rename_i h; rw [strides_length]; exact h.2.1
  · simp
theorem whereS_len (d : List Int) (n : Int) : (whereS d n).1.length ≤ 3 := by
  rw [whereS]; split
  · rename_i h; rw [nums_length]; exact h.1.2.1
  · simp
theorem fillT_ok {d : List Int} {v : Int} (h : okD d) : okTn (fillT d v) := ⟨h, by
  have := prod_pos h.2.2.1
  simp [fillT]; omega⟩
theorem fillS_sm (d : List Int) (v : Int) : (fillS d v).1.sm := by
  rw [fillS]; split
  · rename_i h; exact (fillT_ok h).sm
  · exact nil_sm
end Go.Proofs.Al
