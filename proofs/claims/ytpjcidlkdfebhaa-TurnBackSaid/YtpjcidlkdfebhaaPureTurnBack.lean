/- What 'gradus/graduslaw3.TurnBack' computes is true. -/
import Derived.Test.YtpjcidlkdfebhaaQTurnBack
import Derived.Test.YtpjcidlkdfebhaaRfA
import Derived.Test.YtpjcidlkdfebhaaTuA
set_option linter.unusedVariables false
set_option linter.unusedSimpArgs false
namespace Go.Proofs.Ytpjcidlkdfebhaa.Pure
open Go.RowKit Go.Proofs.EvW Go.Proofs.Ytpjcidlkdfebhaa.PT Go.Proofs.YtpjcidlkdfebhaaW.PrintWords Go.Proofs.YtpjcidlkdfebhaaW.PrintLast Go.Proofs.YtpjcidlkdfebhaaW.PrintMore Go.Proofs.Ytpjcidlkdfebhaa.ShEv
namespace Back3
theorem rdL {l : List (List Int)} {i : Nat} (h : i < l.length) : rd_L1 l (i : Int) = l[i] := by simp [rd_L1, List.getD, h]
theorem rdT {l : List S34} {i : Nat} (h : i < l.length) : rd_T34 l (i : Int) = l[i] := by simp [rd_T34, List.getD, h]
/-! ### the sums -/
theorem wadd (a x : Int) : wrap64 (wrap64 a + x) = wrap64 (a + x) := by
  unfold wrap64
  omega
def c (e d : List Int) (i j : Nat) : Nat := (List.range i).countP fun q : Nat => decide (lowN e d (q : Int) = (j : Int))
theorem c_succ (e d : List Int) (i j : Nat) : c e d (i + 1) j = c e d i j + if lowN e d (i : Int) = (j : Int) then 1 else 0 := by
  unfold c
  rw [List.range_succ, List.countP_append, List.countP_singleton]
  by_cases h : lowN e d (i : Int) = (j : Int) <;> simp [h]
theorem sumG_spec {e d la : List Int} (he : allR e) (hd : allR d) (hg : growsD e d) (hl : (la.length : Int) = prod e) (m : Nat) : ∀ (i : Nat) (acc : List Int), i + m = (prod d).toNat → acc.length = la.length →
    (∀ j, (h : j < acc.length) → acc[j] = wrap64 ((c e d i j : Int) * rd la (j : Int))) →
    sumG e d (((List.range (prod d).toNat).map (fun q : Nat => rd la (lowN e d (q : Int)))).drop i) i acc = (List.range la.length).map (fun j : Nat => wrap64 ((c e d (prod d).toNat j : Int) * rd la (j : Int))) := by
  induction m with
  | zero =>
    intro i acc hi ha hacc
    rw [List.drop_of_length_le (by simp; omega), sumG]
    apply List.ext_getElem
    · simp [ha]
    · intro j h1 h2
      simp only [List.getElem_map, List.getElem_range]
      rw [hacc j h1, show i = (prod d).toNat by omega]
  | succ m ih =>
    intro i acc hi ha hacc
    have hr := low_range he hd hg (n := (i : Int)) (by omega) (by omega)
    have hlt : i < ((List.range (prod d).toNat).map (fun q : Nat => rd la (lowN e d (q : Int)))).length := by simp; omega
    rw [List.drop_eq_getElem_cons hlt, sumG]
    refine ih (i + 1) _ (by omega) (by rw [List.length_set]; exact ha) fun j hj => ?_
    rw [List.length_set] at hj
    rw [List.getElem_set, c_succ]
    simp only [List.getElem_map, List.getElem_range]
    obtain ⟨L, hL⟩ : ∃ L : Nat, lowN e d (i : Int) = (L : Int) := ⟨(lowN e d (i : Int)).toNat, by omega⟩
    simp only [hL, Int.toNat_natCast]
    by_cases h : L = j
    · subst h
      rw [if_pos rfl, if_pos rfl, rdI hj, hacc L hj, wadd, Int.natCast_add, Int.add_mul]
      simp
    · rw [if_neg h, if_neg (by omega), hacc j hj]
      simp
theorem c_all {e d : List Int} (he : allR e) (hd : allR d) (hg : growsD e d) {j : Nat} (hj : (j : Int) < prod e) : (c e d (prod d).toNat j : Int) * prod e = prod d :=
  cnt_spec he hd hg (by omega) hj
theorem sums {e d la : List Int} (he : allR e) (hd : allR d) (hg : growsD e d) (hl : (la.length : Int) = prod e) :
    sumG e d ((List.range (prod d).toNat).map (fun q : Nat => rd la (lowN e d (q : Int)))) 0 (List.replicate (prod e).toNat 0) = la.map (fun x => wrap64 (x * (prod d / prod e))) := by
  have hp := prod_pos he
  have h := sumG_spec he hd hg hl (prod d).toNat 0 (List.replicate (prod e).toNat 0) (by omega) (by simp; omega) (fun j hj => by
    rw [List.getElem_replicate]
    simp only [c, List.range_zero, List.countP_nil, Int.natCast_zero, Int.zero_mul]
    exact (w64 (i := 0) (by decide) (by decide)).symm)
  rw [List.drop_zero] at h
  rw [h]
  apply List.ext_getElem
  · simp
  · intro j h1 h2
    simp only [List.getElem_map, List.getElem_range]
    have hj : j < la.length := by simpa using h2
    have hc := c_all he hd hg (j := j) (by omega)
    have hm : prod d / prod e = (c e d (prod d).toNat j : Int) := Int.ediv_eq_of_eq_mul_left (by omega) hc.symm
    simp only [hm]
    rw [rdI hj, Int.mul_comm]
/-! ### the functions of the statement -/
theorem scale_loop (d : List Int) (n : Int) (l : List Int) (hl : l.length ≤ 9223372036854775807) (m : Nat) : ∀ (i : Nat), i + m = l.length →
    Ev (fun k => gradusref1_Scale.l0 k n (i : Int) d ((l.take i).map (fun x => wrap64 (x * n)) ++ l.drop i)) (d, l.map (fun x => wrap64 (x * n))) := by
  induction m with
  | zero =>
    intro i hi
    rw [List.drop_of_length_le (by omega), List.append_nil, List.take_of_length_le (by omega)]
    refine Ev.step (f := fun _ => some (d, l.map (fun x => wrap64 (x * n)))) (fun k => ?_) (Ev.now _)
    simp only [gradusref1_Scale.l0]
    rw [if_neg (by simp; omega)]
  | succ m ih =>
    intro i hi
    have hlt : i < l.length := by omega
    have hlen : ((l.take i).map (fun x => wrap64 (x * n))).length = i := by simp; omega
    have key := ih (i + 1) (by omega)
    rw [← List.take_append_getElem hlt, List.map_append] at key
    have e1 : l.drop i = l[i] :: l.drop (i + 1) := List.drop_eq_getElem_cons hlt
    have e2 : rd ((l.take i).map (fun x => wrap64 (x * n)) ++ l.drop i) (i : Int) = l[i] := by
      rw [rdI (by rw [List.length_append, hlen, List.length_drop]; omega), List.getElem_append_right (by omega)]
      simp only [hlen, Nat.sub_self, List.getElem_drop]
      rfl
    refine Ev.step (fun k => ?_) key
    simp only [gradusref1_Scale.l0]
    rw [if_pos (by rw [List.length_append, hlen, List.length_drop]; omega), if_pos (by omega), e2, w64s (by omega), show ((i : Int)).toNat = i by omega, List.set_append_right _ _ (by omega), hlen, Nat.sub_self, e1, List.set_cons_zero, List.append_assoc]
    rfl
theorem scale_ev (d l : List Int) (n : Int) (hd : d.length ≤ 17592186044416) (hl : l.length ≤ 17592186044416) : Ev (fun k => gradusref1_Scale.f k d l n) (d, l.map (fun x => wrap64 (x * n))) := by
  unfold gradusref1_Scale.f
  refine Ev.bind (copyT_ev d l hd hl) ?_
  have := scale_loop d n l (by omega) l.length 0 (by omega)
  simpa using this
theorem dims_loop (d l : List Int) (hd : d.length ≤ 3) (m : Nat) : ∀ (i : Nat) (x : List (List Int)), i + m = d.length → x.length + 2 * m ≤ 1000 → ∃ r, Ev (fun k => graduslaw3_dims.l0 k x (i : Int) d l) r ∧ r.length ≤ 1000 := by
  induction m with
  | zero =>
    intro i x hi hx
    refine ⟨x, Ev.step (f := fun _ => some x) (fun k => ?_) (Ev.now _), by omega⟩
    simp only [graduslaw3_dims.l0]
    rw [if_neg (by omega)]
  | succ m ih =>
    intro i x hi hx
    have hlt : i < d.length := by omega
    by_cases c : rd d (i : Int) = 1
    · obtain ⟨r, hr, hl⟩ := ih (i + 1) (x ++ [d.set i 1, d.set i 3]) (by omega) (by simp; omega)
      refine ⟨r, Ev.step (fun k => by rw [graduslaw3_dims.l0]) ?_, hl⟩
      refine pos (by omega) (Ev.bind (copy_ev d (by omega)) (pos (by omega) (pos (by omega) (some_ (Ev.bind (copy_ev d (by omega)) (pos (by omega) (pos c (some_ (pos (by simp; omega) ?_)))))))))
      rw [w64s (by omega), show ((i : Int)).toNat = i by omega]
      exact hr
    · obtain ⟨r, hr, hl⟩ := ih (i + 1) (x ++ [d.set i 1, d]) (by omega) (by simp; omega)
      refine ⟨r, Ev.step (fun k => by rw [graduslaw3_dims.l0]) ?_, hl⟩
      refine pos (by omega) (Ev.bind (copy_ev d (by omega)) (pos (by omega) (pos (by omega) (some_ (Ev.bind (copy_ev d (by omega)) (pos (by omega) (neg c (some_ (pos (by simp; omega) ?_)))))))))
      rw [w64s (by omega), show ((i : Int)).toNat = i by omega]
      exact hr
theorem dims_j (d l : List Int) (x : List (List Int)) (hx : x.length ≤ 8) : ∃ r, Ev (fun k => graduslaw3_dims.j0 k x d l) r ∧ r.length ≤ 1000 := by
  by_cases h : okT d l
  · have h3 := h.1.2.1
    obtain ⟨r, hr, hl⟩ := dims_loop d l h3 d.length 0 (x ++ [[1, (l.length : Int) % 9], d]) (by omega) (by simp; omega)
    refine ⟨r, Ev.step (fun k => by rw [graduslaw3_dims.j0]) ?_, hl⟩
    exact Ev.bind (rtensor_ev d l) (pos (by simpa using h) (Ev.bind (copy_ev d (by omega)) (some_ (pos (by simp; omega) hr))))
  · refine ⟨x, Ev.step (fun k => by rw [graduslaw3_dims.j0]) ?_, by omega⟩
    exact Ev.bind (rtensor_ev d l) (neg (by simpa using h) (Ev.now _))
theorem dims_ends (a : List S34) (b : List Int) (p : List (List Int)) (d l : List Int) (hp : p.length * 24 ≤ 140737488351232) : ∃ r, Ev (fun k => graduslaw3_dims.f k a b p d l) r ∧ r.length ≤ 1000 := by
  by_cases h : (([[1], [1, 1], []] ++ p : List (List Int)).length : Int) > 8
  · obtain ⟨r, hr, hl⟩ := dims_j d l (([[1], [1, 1], []] ++ p).take 8) (by rw [List.length_take]; omega)
    refine ⟨r, ?_, hl⟩
    unfold graduslaw3_dims.f
    exact some_ (pos (by simp; omega) (some_ (pos h (pos (by omega) hr))))
  · obtain ⟨r, hr, hl⟩ := dims_j d l ([[1], [1, 1], []] ++ p) (by simp only [List.length_append] at h ⊢; simp at h ⊢; omega)
    refine ⟨r, ?_, hl⟩
    unfold graduslaw3_dims.f
    exact some_ (pos (by simp; omega) (some_ (neg h hr)))
theorem lists_loop3 (l : List (List Int)) (hl : l.length ≤ 9223372036854775807) (m : Nat) : ∀ (i : Nat) (x : Int), i + m = l.length → ∃ r, Ev (fun k => graduslaw0_Lists.l0 k l x (i : Int)) r := by
  induction m with
  | zero =>
    intro i x hi
    refine ⟨x, Ev.step (f := fun _ => some x) (fun k => ?_) (Ev.now _)⟩
    simp only [graduslaw0_Lists.l0]
    rw [if_neg (by omega)]
  | succ m ih =>
    intro i x hi
    by_cases c : x < 1048576
    · obtain ⟨r, hr⟩ := ih (i + 1) (wrap64 (x + ((rd_L1 l (i : Int)).length : Int))) (by omega)
      refine ⟨r, Ev.step (fun k => ?_) hr⟩
      simp only [graduslaw0_Lists.l0]
      rw [if_pos (by omega), if_pos c, if_pos (by omega), w64s (by omega)]
    · refine ⟨x, Ev.step (f := fun _ => some x) (fun k => ?_) (Ev.now _)⟩
      simp only [graduslaw0_Lists.l0]
      rw [if_pos (by omega), if_neg c]
theorem heavy3_ends (a : List S34) (b : List Int) (p : List (List Int)) (ha : a.length ≤ 9223372036854775807) (hp : p.length ≤ 9223372036854775807) : ∃ r, Ev (fun k => graduslaw3_Heavy.f k a b p) r := by
  obtain ⟨r1, h1⟩ := lists_loop3 p hp p.length 0 (p.length : Int) (by omega)
  obtain ⟨r2, h2⟩ := tweight_ends a ha
  by_cases c : r1 > 300
  · refine ⟨true, ?_⟩
    unfold graduslaw3_Heavy.f
    exact Ev.bind h1 (pos c (Ev.now _))
  · refine ⟨decide ((wrap64 (r2 + (b.length : Int))) > 500), ?_⟩
    unfold graduslaw3_Heavy.f graduslaw2_Heavy.f
    exact Ev.bind h1 (neg c (Ev.bind (Ev.bind h2 (Ev.now _)) (Ev.now _)))
theorem wakes3_ev : Ev (fun k => graduslaw3_wakes.f k) true := Ev.of (fun k => graduslaw3_wakes.mono k) (k := 60) (by kernel_rfl)
section
variable (a : List S34) (b : List Int) (p : List (List Int))
theorem l1_ev {r : Bool} (i3 : Int) (ds : List (List Int)) (hds : ds.length ≤ 1000) (e la : List Int) (hnext : Ev (fun k => graduslaw3_TurnBack.l0 k (wrap64 (i3 + 1)) a b p) r) (m : Nat) : ∀ (i : Nat), i + m = ds.length →
    Ev (fun k => graduslaw3_TurnBack.l1 k i3 ds (i : Int) a b p e la) r := by
  induction m with
  | zero =>
    intro i hi
    refine Ev.step (fun k => ?_) hnext
    simp only [graduslaw3_TurnBack.l1]
    rw [if_neg (by omega)]
  | succ m ih =>
    intro i hi
    have hlt : i < ds.length := by omega
    have next := ih (i + 1) (by omega)
    refine Ev.step (fun k => by rw [graduslaw3_TurnBack.l1]) ?_
    simp only [rdL hlt]
    refine pos (by omega) (pos (by omega) (Ev.bind (wide_ev e la ds[i]) ?_))
    by_cases h : okT e la ∧ okD ds[i]
    · rw [if_pos h]
      by_cases hg : growsD e ds[i]
      · rw [if_pos hg]
        have pe := prod_pos h.1.1.2.2.1
        have pd := prod_pos h.2.2.2.1
        have pe64 := h.1.1.2.2.2
        have pd64 := h.2.2.2.2
        have e3 := h.1.1.2.1
        have hl := h.1.2
        have hW : okT ds[i] ((List.range (prod ds[i]).toNat).map (fun q : Nat => rd la (lowN e ds[i] (q : Int)))) := ⟨h.2, by simp; omega⟩
        refine call (g := graduslaw3_num.f 0) rfl (pos rfl (Ev.bind (sum_ev _ _ _) ?_))
        rw [if_pos ⟨hW, h.1.1⟩, if_pos hg, sums h.1.1.2.2.1 h.2.2.2.1 hg hl]
        have hc := c_all h.1.1.2.2.1 h.2.2.2.1 hg (j := 0) (by omega)
        refine call (g := graduslaw3_num.f 0) rfl (pos rfl (pos (by simp) (neg (by omega) ?_)))
        have hmod : ((((List.range (prod ds[i]).toNat).map (fun q : Nat => rd la (lowN e ds[i] (q : Int)))).length : Int) % (la.length : Int) != 0) = false := by
          simp only [List.length_map, List.length_range]
          rw [Int.toNat_of_nonneg (by omega), hl, ← hc, Int.mul_emod_left]
          rfl
        rw [hmod]
        refine Ev.step (fun k => by rw [graduslaw3_TurnBack.j3]) ?_
        refine neg (by simp) (neg (by omega) ?_)
        have hlen : wrap64 ((((List.range (prod ds[i]).toNat).map (fun q : Nat => rd la (lowN e ds[i] (q : Int)))).length : Int) / (la.length : Int)) = prod ds[i] / prod e := by
          simp only [List.length_map, List.length_range]
          rw [Int.toNat_of_nonneg (by omega), hl]
          have q0 := Int.ediv_nonneg (show 0 ≤ prod ds[i] by omega) (show 0 ≤ prod e by omega)
          have q1 := Int.ediv_le_self (prod e) (show 0 ≤ prod ds[i] by omega)
          exact w64 (by omega) (by omega)
        rw [hlen]
        refine Ev.bind (scale_ev e la _ (by omega) (by omega)) (Ev.bind (eqT_ev e (la.map (fun x => wrap64 (x * (prod ds[i] / prod e)))) _ _ (by omega) (by rw [List.length_map]; omega)) (pos (by simp) ?_))
        rw [w64s (by omega)]
        exact next
      · rw [if_neg hg]
        refine call (g := graduslaw3_num.f 4) rfl (neg (by decide) ?_)
        rw [w64s (by omega)]
        exact next
    · rw [if_neg h]
      refine call (g := graduslaw3_num.f 1) rfl (neg (by decide) ?_)
      rw [w64s (by omega)]
      exact next
theorem l0_ev (ha : a.length ≤ 9223372036854775807) (hp : p.length * 24 ≤ 140737488351232) (m : Nat) : ∀ (i : Nat), i + m = a.length → Ev (fun k => graduslaw3_TurnBack.l0 k (i : Int) a b p) true := by
  have stop : Ev (fun k => (graduslaw3_wakes.f k).bind fun t => some t) true := Ev.bind wakes3_ev (Ev.now _)
  induction m with
  | zero =>
    intro i hi
    refine Ev.step (f := fun k => graduslaw3_TurnBack.j1 k (i : Int) false a b p) (fun k => ?_) (Ev.step (fun k => ?_) stop)
    · simp only [graduslaw3_TurnBack.l0]
      rw [if_neg (by omega)]
    · simp [graduslaw3_TurnBack.j1]
  | succ m ih =>
    intro i hi
    have hlt : i < a.length := by omega
    refine Ev.step (f := fun k => graduslaw3_TurnBack.j1 k (i : Int) (decide ((i : Int) < 5)) a b p) (fun k => ?_) ?_
    · simp only [graduslaw3_TurnBack.l0]
      rw [if_pos (by omega)]
    by_cases h5 : (i : Int) < 5
    · rw [decide_eq_true h5]
      obtain ⟨ds, hd, hl⟩ := dims_ends a b p a[i].f0 a[i].f1 hp
      refine Ev.step (fun k => by rw [graduslaw3_TurnBack.j1]) ?_
      simp only [rdT hlt]
      refine pos trivial (pos (by omega) (pos (by omega) (Ev.bind hd ?_)))
      exact l1_ev a b p (i : Int) ds hl _ _ (by rw [w64s (by omega)]; exact ih (i + 1) (by omega)) ds.length 0 (by omega)
    · rw [decide_eq_false h5]
      exact Ev.step (fun k => by simp [graduslaw3_TurnBack.j1]) stop
end
end Back3
theorem TurnBack : turnBackQ.Pure := by
  intro x hx
  have g0 := hx.1.1
  have g1 := hx.2
  refine ex ?_
  obtain ⟨r, hr⟩ := Back3.heavy3_ends x.f0.f0 x.f0.f1 x.f1 g0.2.1 g1.2.1
  unfold graduslaw3_TurnBack.f
  refine Ev.bind hr ?_
  cases r
  · exact neg (by simp) (Back3.l0_ev x.f0.f0 x.f0.f1 x.f1 g0.2.1 g1.1 x.f0.f0.length 0 (by omega))
  · exact pos rfl (Ev.now _)
end Go.Proofs.Ytpjcidlkdfebhaa.Pure
