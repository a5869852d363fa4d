/- What 'gradus/graduslaw1.ShapeBack' computes is true. -/
import Derived.Test.YtpjcidlkdfebhaaQShapeBack
import Derived.Test.YtpjcidlkdfebhaaShEv2
set_option linter.unusedVariables false
set_option linter.unusedSimpArgs false
namespace Go.Proofs.Ytpjcidlkdfebhaa.Pure
open Go.RowKit Go.Proofs.EvW Go.Proofs.Ytpjcidlkdfebhaa.PT Go.Proofs.YtpjcidlkdfebhaaW.PrintWords Go.Proofs.YtpjcidlkdfebhaaW.PrintLast Go.Proofs.YtpjcidlkdfebhaaW.PrintMore Go.Proofs.Ytpjcidlkdfebhaa.ShEv
namespace Back
theorem rdL {l : List (List Int)} {i : Nat} (h : i < l.length) : rd_L1 l (i : Int) = l[i] := by simp [rd_L1, List.getD, h]
theorem set_within : ∀ {d p : List Int} (i : Nat) (v : Int), within d p → 0 ≤ v → (h : i < d.length) → (within d (p.set i v) ↔ v < d[i])
  | a :: d, x :: p, 0, v, hw, h0, h => by
    simp only [List.set_cons_zero, within, List.getElem_cons_zero]
    exact ⟨fun g => g.2.1, fun g => ⟨h0, g, hw.2.2⟩⟩
  | a :: d, x :: p, i + 1, v, hw, h0, h => by
    simp only [List.set_cons_succ, within, List.getElem_cons_succ]
    rw [set_within i v hw.2.2 h0 (by simpa using h)]
    exact ⟨fun g => g.2.2, fun g => ⟨hw.1, hw.2.1, g⟩⟩
  | [], [], i, v, _, _, h => by simp at h
theorem set_place : ∀ {d p : List Int} (i : Nat) (v : Int), within d p → (h : i < d.length) → (hp : i < p.length) → (hs : i < (strides d).length) → place d (p.set i v) = place d p + (strides d)[i] * (v - p[i])
  | a :: d, x :: p, 0, v, hw, h, _, _ => by
    simp only [List.set_cons_zero, place, strides, List.getElem_cons_zero, Int.mul_sub]
    omega
  | a :: d, x :: p, i + 1, v, hw, h, hp, hs => by
    simp only [List.set_cons_succ, place, strides, List.getElem_cons_succ]
    rw [set_place i v hw.2.2 (by simpa using h) (by simpa using hp) (by simpa [strides] using hs)]
    omega
  | [], [], i, v, _, h, _, _ => by simp at h
section
variable (a b : List (List Int)) (c : List Int) (t : List S34)
theorem l2_ev {r : Bool} {d : List Int} (hd : okD d) (i3 : Int) (n : Int) (h0 : 0 ≤ n) (hn : n < prod d) (ht : Ev (fun k => graduslaw1_ShapeBack.l1 k i3 d (prod d) (strides d) (wrap64 (n + 1)) a b c t) r) (m : Nat) : ∀ (j : Nat), j + m = d.length →
    Ev (fun k => graduslaw1_ShapeBack.l2 k i3 d (prod d) (strides d) n (nums d n) (j : Int) a b c t) r := by
  have hR := hd.2.2.1
  have h3 := hd.2.1
  have h64 := hd.2.2.2
  have hw := nums_within hR h0 hn
  have hpl := place_nums hR h0 hn
  have hlen := ShEv.nums_length d n
  induction m with
  | zero =>
    intro j hj
    refine Ev.step (fun k => ?_) ht
    simp only [graduslaw1_ShapeBack.l2]
    rw [if_neg (by omega)]
  | succ m ih =>
    intro j hj
    have hlt : j < d.length := by omega
    have hltp : j < (nums d n).length := by omega
    have hlts : j < (strides d).length := by rw [strides_length]; exact hlt
    have next := ih (j + 1) (by omega)
    have bj := (within_drop d (nums d n) hlen).1 hw j hltp hlt
    have b8 := hR d[j] (List.getElem_mem hlt)
    have bs := strides_le 64 hR h64 (strides d)[j] (List.getElem_mem hlts)
    refine Ev.step (fun k => by rw [graduslaw1_ShapeBack.l2]) ?_
    refine pos (by omega) (Ev.bind (copy_ev _ (by omega)) (pos (by omega) (pos (by omega) ?_)))
    simp only [rdI hltp, rdI hlt, Option.bind_some, w64s (show j < 9223372036854775807 by omega), w64 (i := (nums d n)[j] + 1) (by have := b8.2; omega) (by have := b8.2; omega), show ((j : Int)).toNat = j by omega]
    have e1 : rd ((nums d n).set j ((nums d n)[j] + 1)) (j : Int) = (nums d n)[j] + 1 := by rw [rdI (by simpa using hltp)]; simp
    simp only [e1]
    refine Ev.bind (at_ev _ _) ?_
    have sw := set_within j ((nums d n)[j] + 1) hw (by omega) hlt
    by_cases hin : (nums d n)[j] + 1 < d[j]
    · rw [if_pos ⟨hd, sw.2 hin⟩]
      refine call (g := graduslaw1_num.f 0) rfl (pos rfl (pos hin (call (g := graduslaw1_num.f 0) rfl (pos rfl (pos (by omega) (pos ?_ next))))))
      rw [set_place j _ hw hlt hltp hlts, hpl, rdI hlts, show (nums d n)[j] + 1 - (nums d n)[j] = 1 by omega, Int.mul_one, w64 (by omega) (by omega)]
    · rw [if_neg (fun x => hin (sw.1 x.2))]
      exact call (g := graduslaw1_num.f 1) rfl (neg (by decide) (neg hin (call (g := graduslaw1_num.f 1) rfl (neg (by decide) next))))
theorem l1_ev {r : Bool} {d : List Int} (hd : okD d) (i3 : Int) (ht : Ev (fun k => graduslaw1_ShapeBack.l0 k (wrap64 (i3 + 1)) a b c t) r) (m : Nat) : ∀ (j : Nat), (j : Int) + m = prod d →
    Ev (fun k => graduslaw1_ShapeBack.l1 k i3 d (prod d) (strides d) (j : Int) a b c t) r := by
  have hR := hd.2.2.1
  have h64 := hd.2.2.2
  induction m with
  | zero =>
    intro j hj
    refine Ev.step (fun k => ?_) ht
    simp only [graduslaw1_ShapeBack.l1]
    rw [if_neg (by omega)]
  | succ m ih =>
    intro j hj
    have h0 : (0 : Int) ≤ (j : Int) := by omega
    have hn : (j : Int) < prod d := by omega
    have next := ih (j + 1) (by omega)
    refine Ev.step (fun k => by rw [graduslaw1_ShapeBack.l1]) ?_
    refine pos hn (Ev.bind (where_ev d (by omega)) ?_)
    rw [if_pos ⟨hd, h0, hn⟩]
    refine Ev.bind (at_ev _ _) ?_
    rw [if_pos ⟨hd, nums_within hR h0 hn⟩, place_nums hR h0 hn]
    refine call (g := graduslaw1_num.f 0) rfl (pos rfl (call (g := graduslaw1_num.f 0) rfl (pos rfl (pos rfl ?_))))
    rw [show (((nums d (j : Int)).length : Int) != (d.length : Int)) = false by rw [ShEv.nums_length]; simp]
    refine Ev.step (f := fun k => graduslaw1_ShapeBack.l2 k i3 d (prod d) (strides d) (j : Int) (nums d (j : Int)) 0 a b c t) (fun k => ?_) (l2_ev a b c t hd i3 (j : Int) h0 hn ?_ d.length 0 (by omega))
    · simp [graduslaw1_ShapeBack.j4]
    · rw [w64s (by omega)]
      exact next
theorem l0_ev (ha : a.length ≤ 9223372036854775807) (m : Nat) : ∀ (i : Nat), i + m = a.length → Ev (fun k => graduslaw1_ShapeBack.l0 k (i : Int) a b c t) true := by
  induction m with
  | zero =>
    intro i hi
    refine Ev.step (f := fun k => graduslaw1_ShapeBack.j1 k (i : Int) false a b c t) (fun k => ?_) (Ev.step (f := fun k => (graduslaw1_wakes.f k).bind fun t => some t) (fun k => ?_) (Ev.bind wakes1_ev (Ev.now _)))
    · simp only [graduslaw1_ShapeBack.l0]
      rw [if_neg (by omega)]
    · simp [graduslaw1_ShapeBack.j1]
  | succ m ih =>
    intro i hi
    have hlt : i < a.length := by omega
    refine Ev.step (f := fun k => graduslaw1_ShapeBack.j1 k (i : Int) (decide ((i : Int) < 6)) a b c t) (fun k => ?_) ?_
    · simp only [graduslaw1_ShapeBack.l0]
      rw [if_pos (by omega)]
    by_cases h6 : (i : Int) < 6
    · rw [decide_eq_true h6]
      have next := ih (i + 1) (by omega)
      refine Ev.step (fun k => by rw [graduslaw1_ShapeBack.j1]) ?_
      simp only [rdL hlt]
      refine pos trivial (pos (by omega) (pos (by omega) (Ev.bind (cells_ev _) (Ev.bind (steps_ev _) ?_))))
      by_cases h : okD a[i]
      · rw [if_pos h, if_pos h]
        have h1 := prod_pos h.2.2.1
        have h64 := h.2.2.2
        refine call (g := graduslaw1_num.f 0) rfl (pos rfl (call (g := graduslaw1_num.f 0) rfl (pos rfl (pos (by rw [strides_length]) ?_))))
        rw [show decide (prod a[i] > 64) = false by simp; omega]
        refine Ev.step (f := fun k => graduslaw1_ShapeBack.l1 k (i : Int) a[i] (prod a[i]) (strides a[i]) 0 a b c t) (fun k => ?_) (l1_ev a b c t h (i : Int) (by rw [w64s (by omega)]; exact next) (prod a[i]).toNat 0 (by omega))
        simp [graduslaw1_ShapeBack.j2]
      · rw [if_neg h, if_neg h]
        refine call (g := graduslaw1_num.f 1) rfl (neg (by decide) ?_)
        rw [w64s (by omega)]
        exact next
    · rw [decide_eq_false h6]
      refine Ev.step (f := fun k => (graduslaw1_wakes.f k).bind fun t => some t) (fun k => ?_) (Ev.bind wakes1_ev (Ev.now _))
      simp [graduslaw1_ShapeBack.j1]
end
end Back
theorem ShapeBack : shapeBackQ.Pure := by
  intro x hx
  have g0 := hx.1
  have g1 := hx.2.1
  have g3 := hx.2.2.2
  refine ex ?_
  obtain ⟨r, hr⟩ := heavy1_ends x.f0 x.f1 x.f2 x.f3 g0.2.1 g1.2.1 g3.2.1
  unfold graduslaw1_ShapeBack.f
  refine Ev.bind hr ?_
  cases r
  · exact neg (by simp) (Back.l0_ev x.f0 x.f1 x.f2 x.f3 g0.2.1 x.f0.length 0 (by omega))
  · exact pos rfl (Ev.now _)
end Go.Proofs.Ytpjcidlkdfebhaa.Pure
