/- What 'gradus/graduslaw1.ShapeFills' computes is true. -/
import Derived.Test.YtpjcidlkdfebhaaQShapeFills
import Derived.Test.YtpjcidlkdfebhaaShEv2
set_option linter.unusedVariables false
set_option linter.unusedSimpArgs false
namespace Go.Proofs.Ytpjcidlkdfebhaa.Pure
open Go.RowKit Go.Proofs.EvW Go.Proofs.Ytpjcidlkdfebhaa.PT Go.Proofs.YtpjcidlkdfebhaaW.PrintWords Go.Proofs.YtpjcidlkdfebhaaW.PrintLast Go.Proofs.YtpjcidlkdfebhaaW.PrintMore Go.Proofs.Ytpjcidlkdfebhaa.ShEv
namespace Fills
theorem rdL {l : List (List Int)} {i : Nat} (h : i < l.length) : rd_L1 l (i : Int) = l[i] := by simp [rd_L1, List.getD, h]
section
variable (a b : List (List Int)) (c : List Int) (t : List S34)
theorem l1_ev {r : Bool} (d : List Int) (hd : okD d) (v i6 : Int) (hv : v = wrap64 ((wrap64 (i6 * 7)) - 3)) (ht : Ev (fun k => graduslaw1_ShapeFills.l0 k (wrap64 (i6 + 1)) a b c t) r) (m : Nat) : ∀ (j : Nat), j + m = (prod d).toNat →
    Ev (fun k => graduslaw1_ShapeFills.l1 k i6 (prod d) (j : Int) a b c t d (List.replicate (prod d).toNat v)) r := by
  have h1 := prod_pos hd.2.2.1
  have h2 := hd.2.2.2
  induction m with
  | zero =>
    intro j hj
    refine Ev.step (f := fun k => (shape_Tensor.f k d ((List.replicate (prod d).toNat v).take (prod d - 1).toNat)).bind fun t243 => ((graduslaw1_num.f t243).bind fun t244 => (if t244 = 1 then (graduslaw1_ShapeFills.l0 k (wrap64 (i6 + 1)) a b c t) else (none)))) (fun k => ?_) ?_
    · simp only [graduslaw1_ShapeFills.l1]
      rw [if_neg (by omega), w64 (i := prod d - 1) (by omega) (by omega), if_pos (by omega), if_pos (by simp; omega)]
    · refine Ev.bind (tensor_ev d _) ?_
      rw [if_neg (by
        intro h
        have := h.2
        simp at this
        omega)]
      exact call (g := graduslaw1_num.f 1) rfl (pos rfl ht)
  | succ m ih =>
    intro j hj
    refine Ev.step (fun k => ?_) (ih (j + 1) (by omega))
    simp only [graduslaw1_ShapeFills.l1]
    rw [if_pos (by omega), if_pos (by omega), if_pos (by simp; omega), rdI (by simp; omega), if_pos (by rw [List.getElem_replicate, hv]), w64s (by omega)]
theorem l0_ev (ha : a.length ≤ 9223372036854775807) (m : Nat) : ∀ (i : Nat), i + m = a.length → (∀ d ∈ a, d.length ≤ 9223372036854775807) → Ev (fun k => graduslaw1_ShapeFills.l0 k (i : Int) a b c t) true := by
  induction m with
  | zero =>
    intro i hi hA
    refine Ev.step (f := fun k => graduslaw1_ShapeFills.j1 k (i : Int) false a b c t) (fun k => ?_) (Ev.step (f := fun k => (graduslaw1_wakes.f k).bind fun t => some t) (fun k => ?_) (Ev.bind wakes1_ev (Ev.now _)))
    · simp only [graduslaw1_ShapeFills.l0]
      rw [if_neg (by omega)]
    · simp [graduslaw1_ShapeFills.j1]
  | succ m ih =>
    intro i hi hA
    have hlt : i < a.length := by omega
    refine Ev.step (f := fun k => graduslaw1_ShapeFills.j1 k (i : Int) (decide ((i : Int) < 6)) a b c t) (fun k => ?_) ?_
    · simp only [graduslaw1_ShapeFills.l0]
      rw [if_pos (by omega)]
    by_cases h6 : (i : Int) < 6
    · rw [decide_eq_true h6]
      have next := ih (i + 1) (by omega) hA
      have hd3 : a[i].length ≤ 9223372036854775807 := hA _ (List.getElem_mem hlt)
      refine Ev.step (fun k => by rw [graduslaw1_ShapeFills.j1]) ?_
      simp only [rdL hlt]
      refine pos trivial (pos (by omega) (pos (by omega) (Ev.bind (fill_ev _ _) (Ev.bind (cells_ev _) ?_))))
      by_cases h : okD a[i]
      · rw [if_pos h, if_pos h]
        have h1 := prod_pos h.2.2.1
        refine call (g := graduslaw1_num.f 0) rfl (call (g := graduslaw1_num.f 0) rfl (pos rfl (call (g := graduslaw1_num.f 0) rfl (pos rfl (Ev.bind (tensor_ev _ _) ?_)))))
        rw [if_pos ⟨h, by simp; omega⟩]
        refine call (g := graduslaw1_num.f 0) rfl (pos rfl (Ev.bind (eq_ev _ _ hd3) (pos (by simp) ?_)))
        rw [show (((List.replicate (prod a[i]).toNat (wrap64 (wrap64 (↑i * 7) - 3))).length : Int) != prod a[i]) = false by simp; omega]
        refine Ev.step (f := fun k => graduslaw1_ShapeFills.l1 k (i : Int) (prod a[i]) 0 a b c t a[i] (List.replicate (prod a[i]).toNat (wrap64 (wrap64 (↑i * 7) - 3)))) (fun k => ?_) ?_
        · simp [graduslaw1_ShapeFills.j2]
        · exact l1_ev a b c t a[i] h _ (i : Int) rfl (by rw [w64s (by omega)]; exact next) (prod a[i]).toNat 0 (by omega)
      · rw [if_neg h, if_neg h]
        refine call (g := graduslaw1_num.f 1) rfl (call (g := graduslaw1_num.f 1) rfl (pos rfl (call (g := graduslaw1_num.f 1) rfl (neg (by decide) ?_))))
        rw [w64s (by omega)]
        exact next
    · rw [decide_eq_false h6]
      refine Ev.step (f := fun k => (graduslaw1_wakes.f k).bind fun t => some t) (fun k => ?_) (Ev.bind wakes1_ev (Ev.now _))
      simp [graduslaw1_ShapeFills.j1]
end
end Fills
theorem ShapeFills : shapeFillsQ.Pure := by
  intro x hx
  have g0 := hx.1
  have g1 := hx.2.1
  have g3 := hx.2.2.2
  refine ex ?_
  obtain ⟨r, hr⟩ := heavy1_ends x.f0 x.f1 x.f2 x.f3 g0.2.1 g1.2.1 g3.2.1
  unfold graduslaw1_ShapeFills.f
  refine Ev.bind hr ?_
  cases r
  · exact neg (by simp) (Fills.l0_ev x.f0 x.f1 x.f2 x.f3 g0.2.1 x.f0.length 0 (by omega) (fun d hd => (g0.2.2 d hd).2.1))
  · exact pos rfl (Ev.now _)
end Go.Proofs.Ytpjcidlkdfebhaa.Pure
