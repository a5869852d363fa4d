/- What laying out wider and summing up computes, and how often each number is laid. About lists and numbers alone. No memory and no program here: the printed functions alone. -/
import Derived.Test.YtpjcidlkdfebhaaPTx25
import Derived.Test.YtpjcidlkdfebhaaPTx26
import Derived.Test.YtpjcidlkdfebhaaShA
import Derived.Test.YtpjcidlkdfebhaaShB
set_option linter.unusedVariables false
set_option linter.unusedSimpArgs false
namespace Go.Proofs.Ytpjcidlkdfebhaa.ShEv
open Go.RowKit Go.Proofs.EvW Go.Proofs.Ytpjcidlkdfebhaa.PT Go.Proofs.YtpjcidlkdfebhaaW.PrintWords Go.Proofs.YtpjcidlkdfebhaaW.PrintLast Go.Proofs.YtpjcidlkdfebhaaW.PrintMore
/-! ### which dims are wider than which -/
def growsD : List Int → List Int → Prop
  | x :: e, y :: d => (x = 1 ∨ x = y) ∧ growsD e d
  | [], [] => True
  | _, _ => False
instance growsD_dec : ∀ e d, Decidable (growsD e d)
  | x :: e, y :: d => @instDecidableAnd _ _ _ (growsD_dec e d)
  | [], [] => isTrue trivial
  | [], _ :: _ => isFalse (fun h => h)
  | _ :: _, [] => isFalse (fun h => h)
theorem growsD_length : ∀ {e d : List Int}, growsD e d → e.length = d.length
  | _ :: _, _ :: _, h => congrArg (· + 1) (growsD_length h.2)
  | [], [], _ => rfl
theorem grows_loop (a b : List Int) (hl : a.length = b.length) (hm : a.length ≤ 9223372036854775807) (m : Nat) : ∀ (i : Nat), i + m = a.length → Ev (fun k => shape_Grows.l0 k b a (a.length : Int) (i : Int)) (decide (growsD (a.drop i) (b.drop i))) := by
  induction m with
  | zero =>
    intro i hi
    rw [List.drop_of_length_le (by omega), List.drop_of_length_le (by omega)]
    refine Ev.step (f := fun _ => some true) (fun k => ?_) (Ev.now _)
    simp only [shape_Grows.l0]
    rw [if_neg (by omega)]
  | succ m ih =>
    intro i hi
    have hlt : i < a.length := by omega
    have hlt2 : i < b.length := by omega
    rw [show a.drop i = a[i] :: a.drop (i + 1) from List.drop_eq_getElem_cons hlt, show b.drop i = b[i] :: b.drop (i + 1) from List.drop_eq_getElem_cons hlt2]
    by_cases c : a[i] = 1 ∨ a[i] = b[i]
    · have : decide (growsD (a[i] :: a.drop (i + 1)) (b[i] :: b.drop (i + 1))) = decide (growsD (a.drop (i + 1)) (b.drop (i + 1))) := decide_eq_decide.2 ⟨fun g => g.2, fun g => ⟨c, g⟩⟩
      rw [this]
      refine Ev.step (fun k => ?_) (ih (i + 1) (by omega))
      simp only [shape_Grows.l0]
      rw [if_pos (by omega), if_pos (by omega), if_pos (by omega), rdI hlt, rdI hlt2, w64s (by omega)]
      by_cases c1 : a[i] = 1
      · rw [if_pos c1]
      · rw [if_neg c1, if_pos (by omega), if_pos (c.resolve_left c1)]
    · rw [decide_eq_false (fun g => c g.1)]
      refine Ev.step (f := fun _ => some false) (fun k => ?_) (Ev.now _)
      simp only [shape_Grows.l0]
      rw [if_pos (by omega), if_pos (by omega), if_pos (by omega), rdI hlt, rdI hlt2, if_neg (fun h => c (.inl h)), if_pos (by omega), if_neg (fun h => c (.inr h))]
theorem grows_ev (a b : List Int) (hm : a.length ≤ 9223372036854775807) : Ev (fun k => shape_Grows.f k a b) (decide (growsD a b)) := by
  unfold shape_Grows.f
  by_cases h : a.length = b.length
  · exact pos (by omega) (grows_loop a b h hm a.length 0 (by omega))
  · rw [decide_eq_false (fun g => h (growsD_length g))]
    exact neg (by omega) (Ev.now _)
/-! ### the place in lesser dims -/
def zeroL : List Int → List Int → List Int
  | x :: e, v :: p => (if x = 1 then 0 else v) :: zeroL e p
  | _, p => p
theorem zeroL_length : ∀ e p, (zeroL e p).length = p.length
  | _ :: e, _ :: p => congrArg (· + 1) (zeroL_length e p)
  | [], p => by simp [zeroL]
  | _ :: _, [] => rfl
theorem zero_within : ∀ {e d p : List Int}, growsD e d → within d p → within e (zeroL e p)
  | x :: e, y :: d, v :: p, hg, hw => by
    refine ⟨?_, ?_, zero_within hg.2 hw.2.2⟩
    · split
      · omega
      · exact hw.1
    · split
      · rename_i h; omega
      · rename_i h
        rw [hg.1.resolve_left h]
        exact hw.2.1
  | [], [], [], _, _ => trivial
def lowN (e d : List Int) (n : Int) : Int := place e (zeroL e (nums d n))
theorem low_loop {e : List Int} (he : okD e) {q : List Int} (hl : e.length = q.length) (hw : within e (zeroL e q)) (m : Nat) : ∀ (i : Nat), i + m = e.length →
    Ev (fun k => turn_low.l0 k e ((zeroL e q).take i ++ q.drop i) e (e.length : Int) (i : Int)) (place e (zeroL e q)) := by
  have h3 := he.2.1
  have hz := zeroL_length e q
  induction m with
  | zero =>
    intro i hi
    rw [List.drop_of_length_le (by omega), List.append_nil, List.take_of_length_le (by omega)]
    refine Ev.step (f := fun k => (shape_Place.f k e (zeroL e q)).bind fun t => some t) (fun k => ?_) (Ev.bind (place_ev he hw) (Ev.now _))
    simp only [turn_low.l0]
    rw [if_neg (by omega)]
  | succ m ih =>
    intro i hi
    have hlt : i < e.length := by omega
    have hltq : i < q.length := by omega
    have hltz : i < (zeroL e q).length := by omega
    have hget : ∀ (e q : List Int) (i : Nat) (h1 : i < e.length) (h2 : i < q.length) (h3 : i < (zeroL e q).length), (zeroL e q)[i] = if e[i] = 1 then 0 else q[i] := by
      intro e
      induction e with
      | nil => intro q i h1; simp at h1
      | cons x e ihe =>
        intro q i h1 h2 h3
        cases q with
        | nil => simp at h2
        | cons v q =>
          cases i with
          | zero => rfl
          | succ i => exact ihe q i (by simpa using h1) (by simpa using h2) (by simpa [zeroL] using h3)
    have hg := hget e q i hlt hltq hltz
    have key := ih (i + 1) (by omega)
    rw [← List.take_append_getElem hltz, hg] at key
    have e1 : q.drop i = q[i] :: q.drop (i + 1) := List.drop_eq_getElem_cons hltq
    refine Ev.step (fun k => ?_) key
    simp only [turn_low.l0]
    rw [if_pos (by omega), if_pos (by omega), if_pos (by omega), rdI hlt, w64s (by omega)]
    have hlen : ((zeroL e q).take i).length = i := by rw [List.length_take]; omega
    by_cases c : e[i] = 1
    · rw [if_pos c, if_pos c, if_pos (by simp only [List.length_append, List.length_drop, hlen]; omega), show ((i : Int)).toNat = i by omega, List.set_append_right _ _ (by omega), hlen, Nat.sub_self, e1, List.set_cons_zero, List.append_assoc]
      rfl
    · rw [if_neg c, if_neg c, e1, List.append_assoc]
      rfl
theorem low_ev {e d : List Int} (he : okD e) (hd : okD d) (hg : growsD e d) {n : Int} (h0 : 0 ≤ n) (hn : n < prod d) : Ev (fun k => turn_low.f k e d n) (lowN e d n) := by
  have h64 := hd.2.2.2
  unfold turn_low.f
  refine Ev.bind (numbers_ev hd.2.2.1 hd.2.1 h0 (by omega)) ?_
  have hl := growsD_length hg
  have := low_loop he (q := nums d n) (by rw [ShEv.nums_length]; exact hl) (zero_within hg (nums_within hd.2.2.1 h0 hn)) e.length 0 (by omega)
  exact this
theorem low_range {e d : List Int} (he : allR e) (hd : allR d) (hg : growsD e d) {n : Int} (h0 : 0 ≤ n) (hn : n < prod d) : 0 ≤ lowN e d n ∧ lowN e d n < prod e :=
  place_range he (zero_within hg (nums_within hd h0 hn))
theorem low_cons (x y : Int) (e d : List Int) (n : Int) : lowN (x :: e) (y :: d) n = prod e * (if x = 1 then 0 else n / prod d) + lowN e d (n % prod d) := rfl
/-! ### how often a place is met -/
theorem count_range_mul (p : Nat → Bool) (P : Nat) : ∀ y : Nat, (List.range (y * P)).countP p = ((List.range y).map (fun q => (List.range P).countP (fun r => p (q * P + r)))).sum
  | 0 => by simp
  | y + 1 => by
    rw [Nat.add_mul, Nat.one_mul, List.range_add, List.countP_append, count_range_mul p P y, List.range_succ, List.map_append, List.sum_append, List.countP_map]
    simp [Function.comp_def]
theorem sum_const (c : Nat) : ∀ y : Nat, ((List.range y).map (fun _ => c)).sum = y * c
  | 0 => by simp
  | y + 1 => by rw [List.range_succ, List.map_append, List.sum_append, sum_const c y, Nat.add_mul]; simp
theorem sum_single (f : Nat → Nat) (q0 : Nat) : ∀ y : Nat, ((List.range y).map (fun q => if q = q0 then f q else 0)).sum = if q0 < y then f q0 else 0
  | 0 => by simp
  | y + 1 => by
    rw [List.range_succ, List.map_append, List.sum_append, sum_single f q0 y]
    by_cases h : q0 < y
    · rw [if_pos h, if_pos (by omega)]
      simp
      intro e; omega
    · rw [if_neg h]
      by_cases e : y = q0
      · subst e; simp
      · rw [if_neg (by omega)]
        simp [e]
def cnt (e d : List Int) (j : Int) : Nat := (List.range (prod d).toNat).countP fun i : Nat => decide (lowN e d (i : Int) = j)
theorem cnt_spec : ∀ {e d : List Int}, allR e → allR d → growsD e d → ∀ {j : Int}, 0 ≤ j → j < prod e → (cnt e d j : Int) * prod e = prod d
  | [], [], _, _, _, j, h0, hj => by
    have : j = 0 := by simp [prod] at hj; omega
    subst this
    rfl
  | x :: e, y :: d, he, hd, hg, j, h0, hj => by
    have hx := (allR_cons.1 he).1
    have hy := (allR_cons.1 hd).1
    have he' := (allR_cons.1 he).2
    have hd' := (allR_cons.1 hd).2
    have pe := prod_pos he'
    have pd := prod_pos hd'
    have hP : (prod (y :: d)).toNat = y.toNat * (prod d).toNat := by
      rw [prod, Int.toNat_mul (by have := hy.1; omega) (by omega)]
    unfold cnt
    rw [hP, count_range_mul]
    have hlow : ∀ q r : Nat, r < (prod d).toNat → lowN (x :: e) (y :: d) ((q * (prod d).toNat + r : Nat) : Int) = prod e * (if x = 1 then 0 else (q : Int)) + lowN e d (r : Int) := by
      intro q r hr
      have e1 : ((q * (prod d).toNat + r : Nat) : Int) = (r : Int) + (q : Int) * prod d := by
        rw [Int.natCast_add, Int.natCast_mul, Int.toNat_of_nonneg (by omega)]; omega
      have e2 : ((r : Int) + (q : Int) * prod d) / prod d = (q : Int) := by
        rw [Int.add_mul_ediv_right _ _ (by omega), Int.ediv_eq_zero_of_lt (by omega) (by omega)]; omega
      have e3 : ((r : Int) + (q : Int) * prod d) % prod d = (r : Int) := by
        rw [Int.add_mul_emod_self_right, Int.emod_eq_of_lt (by omega) (by omega)]
      rw [low_cons, e1, e2, e3]
    by_cases c : x = 1
    · have hj' : j < prod e := by rw [prod, c, Int.one_mul] at hj; exact hj
      have ih := cnt_spec he' hd' hg.2 h0 hj'
      have : ∀ q : Nat, (List.range (prod d).toNat).countP (fun r => decide (lowN (x :: e) (y :: d) ((q * (prod d).toNat + r : Nat) : Int) = j)) = cnt e d j := by
        intro q
        unfold cnt
        refine List.countP_congr fun r hr => ?_
        rw [hlow q r (List.mem_range.1 hr), if_pos c, Int.mul_zero, Int.zero_add]
      rw [List.map_congr_left (g := fun _ => cnt e d j) (fun q _ => this q), sum_const, prod, prod, c, Int.one_mul, Int.natCast_mul, Int.mul_assoc, ih, Int.toNat_of_nonneg (by have := hy.1; omega)]
    · have hxy : x = y := hg.1.resolve_left c
      have m0 := Int.emod_nonneg j (show prod e ≠ 0 by omega)
      have m1 := Int.emod_lt_of_pos j (show 0 < prod e by omega)
      have q0 := Int.ediv_nonneg h0 (show 0 ≤ prod e by omega)
      have q1 : j / prod e < x := Int.ediv_lt_of_lt_mul (by omega) (by rw [prod] at hj; exact hj)
      have hjd := Int.mul_ediv_add_emod j (prod e)
      have ih := cnt_spec he' hd' hg.2 m0 m1
      have : ∀ q : Nat, (List.range (prod d).toNat).countP (fun r => decide (lowN (x :: e) (y :: d) ((q * (prod d).toNat + r : Nat) : Int) = j)) = if q = (j / prod e).toNat then cnt e d (j % prod e) else 0 := by
        intro q
        by_cases cq : q = (j / prod e).toNat
        · rw [if_pos cq]
          unfold cnt
          refine List.countP_congr fun r hr => ?_
          rw [hlow q r (List.mem_range.1 hr), if_neg c, cq, Int.toNat_of_nonneg q0]
          simp only [decide_eq_true_eq]
          omega
        · rw [if_neg cq, List.countP_eq_zero]
          intro r hr
          rw [hlow q r (List.mem_range.1 hr), if_neg c]
          simp only [decide_eq_true_eq]
          intro h
          have hr' := List.mem_range.1 hr
          have lr := low_range he' hd' hg.2 (n := (r : Int)) (by omega) (by omega)
          have e2 : j / prod e = (q : Int) := by
            rw [← h, Int.add_comm, Int.add_mul_ediv_left _ _ (by omega), Int.ediv_eq_zero_of_lt lr.1 lr.2, Int.zero_add]
          omega
      rw [List.map_congr_left (g := fun q => if q = (j / prod e).toNat then cnt e d (j % prod e) else 0) (fun q _ => this q), sum_single (fun _ => cnt e d (j % prod e)), if_pos (by omega), prod, prod, ← hxy, ← ih, ← Int.mul_assoc, ← Int.mul_assoc, Int.mul_comm (cnt e d (j % prod e) : Int) x]
/-! ### laid out wider -/
theorem wide_loop {e d : List Int} (he : okD e) (hd : okD d) (hg : growsD e d) {l : List Int} (hl : (l.length : Int) = prod e) (m : Nat) : ∀ (i : Nat), i + m = (prod d).toNat →
    Ev (fun k => turn_Wide.l0 k d (((prod d).toNat : Nat) : Int) (i : Int) e l d ((List.range i).map (fun i : Nat => rd l (lowN e d (i : Int))) ++ List.replicate m 0)) (d, (List.range (prod d).toNat).map (fun i : Nat => rd l (lowN e d (i : Int))), 0) := by
  have h64 := hd.2.2.2
  have hp := prod_pos hd.2.2.1
  induction m with
  | zero =>
    intro i hi
    refine Ev.step (f := fun _ => some (d, (List.range (prod d).toNat).map (fun i : Nat => rd l (lowN e d (i : Int))), 0)) (fun k => ?_) (Ev.now _)
    simp only [turn_Wide.l0]
    rw [if_neg (by omega), show i = (prod d).toNat by omega]
    simp
  | succ m ih =>
    intro i hi
    have hr := low_range he.2.2.1 hd.2.2.1 hg (n := (i : Int)) (by omega) (by omega)
    refine Ev.step (fun k => by rw [turn_Wide.l0]) ?_
    refine pos (by omega) (Ev.bind (low_ev he hd hg (by omega) (by omega)) (pos hr.1 (pos (by omega) (pos (by omega) (pos (by simp; omega) ?_)))))
    have hf := set_fill ((List.range i).map (fun i : Nat => rd l (lowN e d (i : Int)))) m (rd l (lowN e d (i : Int)))
    rw [List.length_map, List.length_range] at hf
    rw [show ((i : Int)).toNat = i by omega, w64s (by omega), hf]
    have := ih (i + 1) (by omega)
    rw [List.range_succ, List.map_append] at this
    exact this
theorem wide_ev (e l d : List Int) : Ev (fun k => turn_Wide.f k e l d) (if okT e l ∧ okD d then (if growsD e d then (d, (List.range (prod d).toNat).map (fun i : Nat => rd l (lowN e d (i : Int))), 0) else ([], [], 4)) else ([], [], 1)) := by
  have bad : Ev (fun k => turn_Wide.j0 k d true e l) ([], [], 1) := Ev.step (f := fun _ => some ([], [], 1)) (fun k => by simp [turn_Wide.j0]) (Ev.now _)
  unfold turn_Wide.f
  refine Ev.bind (is_ev e l) ?_
  by_cases h : okT e l
  · refine pos (by simpa using h) (Ev.bind (may_ev d) ?_)
    by_cases h2 : okD d
    · rw [if_pos ⟨h, h2⟩, decide_eq_true h2]
      refine Ev.step (f := fun k => (shape_Grows.f k e d).bind fun t1148 => (if t1148 = true then ((shape_New.f k d).bind fun bt1149 => (turn_Wide.l0 k d (bt1149.2.length : Int) 0 e l bt1149.1 bt1149.2)) else (some (([] : List Int), ([] : List Int), 4)))) (fun k => by simp [turn_Wide.j0]) ?_
      have h3 := h.1.2.1
      refine Ev.bind (grows_ev e d (by omega)) ?_
      by_cases hg : growsD e d
      · rw [if_pos hg]
        refine pos (by simpa using hg) (Ev.bind (new_ev h2) ?_)
        have := wide_loop h.1 h2 hg h.2 (prod d).toNat 0 (by omega)
        simpa using this
      · rw [if_neg hg]
        exact neg (by simpa using hg) (Ev.now _)
    · rw [if_neg (fun x => h2 x.2), decide_eq_false h2]
      exact bad
  · rw [if_neg (fun x => h x.1)]
    exact neg (by simpa using h) bad
/-! ### summed up -/
def sumG (e d : List Int) : List Int → Nat → List Int → List Int
  | [], _, acc => acc
  | x :: l, i, acc => sumG e d l (i + 1) (acc.set (lowN e d (i : Int)).toNat (wrap64 (rd acc (lowN e d (i : Int)) + x)))
theorem sum_loop {e d : List Int} (he : okD e) (hd : okD d) (hg : growsD e d) {l : List Int} (hl : (l.length : Int) = prod d) (m : Nat) : ∀ (i : Nat) (acc : List Int), i + m = l.length → (acc.length : Int) = prod e →
    Ev (fun k => turn_Sum.l0 k e l (l.length : Int) (i : Int) d l e acc) (e, sumG e d (l.drop i) i acc, 0) := by
  have h64 := hd.2.2.2
  induction m with
  | zero =>
    intro i acc hi ha
    rw [List.drop_of_length_le (by omega)]
    refine Ev.step (f := fun _ => some (e, acc, 0)) (fun k => ?_) (Ev.now _)
    simp only [turn_Sum.l0]
    rw [if_neg (by omega)]
  | succ m ih =>
    intro i acc hi ha
    have hlt : i < l.length := by omega
    have hr := low_range he.2.2.1 hd.2.2.1 hg (n := (i : Int)) (by omega) (by omega)
    rw [List.drop_eq_getElem_cons hlt]
    refine Ev.step (fun k => by rw [turn_Sum.l0]) ?_
    refine pos (by omega) (pos (by omega) (pos (by omega) (Ev.bind (low_ev he hd hg (by omega) (by omega)) (pos hr.1 (pos (by omega) ?_)))))
    rw [rdI hlt, w64s (by omega)]
    exact ih (i + 1) _ (by omega) (by rw [List.length_set]; exact ha)
theorem sum_ev (d l e : List Int) : Ev (fun k => turn_Sum.f k d l e) (if okT d l ∧ okD e then (if growsD e d then (e, sumG e d l 0 (List.replicate (prod e).toNat 0), 0) else ([], [], 4)) else ([], [], 1)) := by
  have bad : Ev (fun k => turn_Sum.j0 k e true d l) ([], [], 1) := Ev.step (f := fun _ => some ([], [], 1)) (fun k => by simp [turn_Sum.j0]) (Ev.now _)
  unfold turn_Sum.f
  refine Ev.bind (is_ev d l) ?_
  by_cases h : okT d l
  · refine pos (by simpa using h) (Ev.bind (may_ev e) ?_)
    by_cases h2 : okD e
    · rw [if_pos ⟨h, h2⟩, decide_eq_true h2]
      refine Ev.step (f := fun k => (shape_Grows.f k e d).bind fun t1163 => (if t1163 = true then ((shape_New.f k e).bind fun bt1164 => (turn_Sum.l0 k e l (l.length : Int) 0 d l bt1164.1 bt1164.2)) else (some (([] : List Int), ([] : List Int), 4)))) (fun k => by simp [turn_Sum.j0]) ?_
      have h3 := h2.2.1
      refine Ev.bind (grows_ev e d (by omega)) ?_
      by_cases hg : growsD e d
      · rw [if_pos hg]
        have hp := prod_pos h2.2.2.1
        refine pos (by simpa using hg) (Ev.bind (new_ev h2) ?_)
        have := sum_loop h2 h.1 hg h.2 l.length 0 (List.replicate (prod e).toNat 0) (by omega) (by simp; omega)
        simpa using this
      · rw [if_neg hg]
        exact neg (by simpa using hg) (Ev.now _)
    · rw [if_neg (fun x => h2 x.2), decide_eq_false h2]
      exact bad
  · rw [if_neg (fun x => h x.1)]
    exact neg (by simpa using h) bad
end Go.Proofs.Ytpjcidlkdfebhaa.ShEv
