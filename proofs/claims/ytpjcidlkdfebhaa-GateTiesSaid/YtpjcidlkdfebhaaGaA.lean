/- What the functions of package gate compute: the greatest of so many side by side, and where it stands. About lists and numbers alone. No memory and no program here: the printed functions alone. -/
import Derived.Test.YtpjcidlkdfebhaaPTx29
import Derived.Test.YtpjcidlkdfebhaaPTx30
import Derived.Test.YtpjcidlkdfebhaaShA
set_option linter.unusedVariables false
set_option linter.unusedSimpArgs false
namespace Go.Proofs.Ytpjcidlkdfebhaa.ShEv
open Go.RowKit Go.Proofs.EvW Go.Proofs.Ytpjcidlkdfebhaa.PT Go.Proofs.YtpjcidlkdfebhaaW.PrintWords Go.Proofs.YtpjcidlkdfebhaaW.PrintLast Go.Proofs.YtpjcidlkdfebhaaW.PrintMore
/-! ### the greatest, and the first of it -/
def mxL : List Int → Int
  | [] => 0
  | a :: l => l.foldl mx a
theorem mx_foldl_mem : ∀ (l : List Int) (a : Int), l.foldl mx a ∈ a :: l
  | [], a => by simp
  | b :: l, a => by
    have h := mx_foldl_mem l (mx a b)
    rw [List.foldl_cons]
    rcases List.mem_cons.1 h with e | h
    · rw [e]
      unfold mx
      split <;> simp
    · exact List.mem_cons_of_mem _ (List.mem_cons_of_mem _ h)
theorem mxL_mem {l : List Int} (h : 0 < l.length) : mxL l ∈ l := by
  cases l with
  | nil => simp at h
  | cons a l => exact mx_foldl_mem l a
theorem smax_loop (l : List Int) (hl : l.length ≤ 9223372036854775807) (m : Nat) : ∀ (i : Nat) (x : Int), i + m = l.length → Ev (fun k => slices_Max_int_int.l0 k l x (i : Int)) ((l.drop i).foldl mx x) := by
  induction m with
  | zero =>
    intro i x hi
    refine Ev.step (f := fun _ => some x) (fun k => ?_) ?_
    · simp only [slices_Max_int_int.l0]
      rw [if_neg (by omega)]
    · rw [List.drop_of_length_le (by omega)]
      exact Ev.now _
  | succ m ih =>
    intro i x hi
    have hlt : i < l.length := by omega
    refine Ev.step (f := fun k => slices_Max_int_int.l0 k l (mx x l[i]) ((i + 1 : Nat) : Int)) (fun k => ?_) ?_
    · simp only [slices_Max_int_int.l0]
      rw [if_pos (by omega), if_pos (by omega), rdI hlt, w64s (by omega)]
    · rw [List.drop_eq_getElem_cons hlt]
      exact ih (i + 1) _ (by omega)
theorem smax_ev {l : List Int} (h : 0 < l.length) (hl : l.length ≤ 9223372036854775807) : Ev (fun k => slices_Max_int_int.f k l) (mxL l) := by
  unfold slices_Max_int_int.f
  refine neg (by omega) (pos (by omega) ?_)
  have := smax_loop l hl (l.length - 1) 1 (rd l 0) (by omega)
  cases l with
  | nil => simp at h
  | cons a l => exact this
def fst (v : Int) : List Int → Nat
  | [] => 0
  | a :: l => if v = a then 0 else fst v l + 1
theorem fst_lt {v : Int} : ∀ {l : List Int}, v ∈ l → fst v l < l.length
  | a :: l, h => by
    unfold fst
    split
    · simp
    · rename_i hne
      rcases List.mem_cons.1 h with e | h
      · exact absurd e hne
      · have := fst_lt h
        simp; omega
theorem sindex_loop (v : Int) (l : List Int) (hl : l.length ≤ 9223372036854775807) (m : Nat) : ∀ (i : Nat), i + m = l.length → v ∈ l.drop i → Ev (fun k => slices_Index_int_int.l0 k l v (l.length : Int) (i : Int)) ((i + fst v (l.drop i) : Nat) : Int) := by
  induction m with
  | zero =>
    intro i hi hv
    rw [List.drop_of_length_le (by omega)] at hv
    simp at hv
  | succ m ih =>
    intro i hi hv
    have hlt : i < l.length := by omega
    rw [List.drop_eq_getElem_cons hlt] at hv
    by_cases c : v = l[i]
    · rw [show fst v (l.drop i) = 0 by rw [List.drop_eq_getElem_cons hlt]; simp [fst, c]]
      refine Ev.step (f := fun _ => some (i : Int)) (fun k => ?_) (Ev.now _)
      simp only [slices_Index_int_int.l0]
      rw [if_pos (by omega), if_pos (by omega), if_pos (by omega), rdI hlt, if_pos c]
    · rw [show i + fst v (l.drop i) = (i + 1) + fst v (l.drop (i + 1)) by rw [List.drop_eq_getElem_cons hlt]; simp [fst, c]; omega]
      refine Ev.step (fun k => ?_) (ih (i + 1) (by omega) ((List.mem_cons.1 hv).resolve_left c))
      simp only [slices_Index_int_int.l0]
      rw [if_pos (by omega), if_pos (by omega), if_pos (by omega), rdI hlt, if_neg c, w64s (by omega)]
def best (l : List Int) : Nat := fst (mxL l) l
theorem best_lt {l : List Int} (h : 0 < l.length) : best l < l.length := fst_lt (mxL_mem h)
theorem greatest_ev {l : List Int} (h : 0 < l.length) (hl : l.length ≤ 9223372036854775807) : Ev (fun k => gate_greatest.f k l) ((best l : Nat) : Int) := by
  unfold gate_greatest.f
  refine Ev.bind (smax_ev h hl) (Ev.bind (sindex_loop (mxL l) l hl l.length 0 (by omega) (mxL_mem h)) ?_)
  rw [Nat.zero_add]
  exact Ev.now _
/-! ### dims whose last one is so many times less -/
def lastI (d : List Int) : Int := rd d ((d.length - 1 : Nat) : Int)
def lessD (d : List Int) (n : Int) : List Int := d.set (d.length - 1) (lastI d / n)
theorem lastI_get {d : List Int} (h : 0 < d.length) : lastI d = d[d.length - 1] := rdI (by omega)
theorem less_eq {d : List Int} (hd : okD d) {n : Int} (hn : 1 ≤ n) (hn8 : n ≤ 8) : gate_Less.f d n = some (if lastI d % n = 0 then (lessD d n, true) else ([], false)) := by
  have h1 := hd.1
  have h3 := hd.2.1
  have hr := hd.2.2.1 d[d.length - 1] (List.getElem_mem (by omega))
  have hl : lastI d = d[d.length - 1] := lastI_get (by omega)
  have e0 : rd d ((d.length - 1 : Nat) : Int) = lastI d := rfl
  unfold gate_Less.f
  rw [clone_eq (by omega), Option.bind_some, w64 (by omega) (by omega), show (d.length : Int) - 1 = ((d.length - 1 : Nat) : Int) by omega, e0, if_pos (by omega), if_pos (by omega), if_neg (by omega),
    Int.tmod_eq_emod_of_nonneg (by have := hr.1; omega), Int.tdiv_eq_ediv_of_nonneg (by have := hr.1; omega)]
  have q0 : 0 ≤ lastI d / n := Int.ediv_nonneg (by have := hr.1; omega) (by omega)
  have q1 : lastI d / n ≤ lastI d := Int.ediv_le_self n (by have := hr.1; omega)
  rw [w64 (by omega) (by have := hr.2; omega), show (((d.length - 1 : Nat) : Int)).toNat = d.length - 1 by omega]
  split <;> rfl
theorem prod_append : ∀ (a b : List Int), prod (a ++ b) = prod a * prod b
  | [], b => by simp [prod]
  | x :: a, b => by simp [prod, prod_append a b, Int.mul_assoc]
theorem allR_append {a b : List Int} : allR (a ++ b) ↔ allR a ∧ allR b := by
  simp only [allR, List.mem_append]
  exact ⟨fun h => ⟨fun x hx => h x (.inl hx), fun x hx => h x (.inr hx)⟩, fun h x hx => hx.elim (h.1 x) (h.2 x)⟩
theorem split_last {d : List Int} (h : 0 < d.length) : d = d.take (d.length - 1) ++ [lastI d] := by
  rw [lastI_get h, List.take_append_getElem (by omega), List.take_of_length_le (by omega)]
theorem lessD_eq {d : List Int} (h : 0 < d.length) (n : Int) : lessD d n = d.take (d.length - 1) ++ [lastI d / n] := by
  unfold lessD
  generalize lastI d / n = v
  have e : d.set (d.length - 1) v = (d.take (d.length - 1) ++ [lastI d]).set (d.take (d.length - 1)).length v := by
    rw [List.length_take, show min (d.length - 1) d.length = d.length - 1 by omega]
    exact congrArg (fun z => z.set (d.length - 1) v) (split_last h)
  rw [e, List.set_append_right _ _ (Nat.le_refl _), Nat.sub_self]
  rfl
theorem lessD_ok {d : List Int} (hd : okD d) {n : Int} (hn : 1 ≤ n) (hdv : lastI d % n = 0) : okD (lessD d n) ∧ prod (lessD d n) * n = prod d := by
  have h1 := hd.1
  have hs := split_last (d := d) (by omega)
  have he := lessD_eq (d := d) (by omega) n
  have hm := Int.mul_ediv_add_emod (lastI d) n
  have ha : allR (d.take (d.length - 1)) ∧ allR [lastI d] := by rw [← allR_append, ← hs]; exact hd.2.2.1
  have hl : inR (lastI d) := ha.2 _ (by simp)
  have hp0 := prod_pos ha.1
  have q0 : 0 ≤ lastI d / n := Int.ediv_nonneg (by have := hl.1; omega) (by omega)
  have q1 : lastI d / n ≤ lastI d := Int.ediv_le_self n (by have := hl.1; omega)
  have q2 : 1 ≤ lastI d / n := by
    rcases Int.lt_or_le 0 (lastI d / n) with h | h
    · omega
    · have e : lastI d / n = 0 := by omega
      rw [e, Int.mul_zero] at hm
      have := hl.1
      omega
  have hpr : prod (lessD d n) * n = prod d := by
    have e2 : prod d = prod (d.take (d.length - 1)) * lastI d := by
      conv => lhs; rw [hs, prod_append]
      simp [prod]
    rw [e2, he, prod_append]
    simp only [prod, Int.mul_one]
    rw [Int.mul_assoc, Int.mul_comm (lastI d / n) n, show n * (lastI d / n) = lastI d by omega]
  have hle : prod (lessD d n) * 1 ≤ prod (lessD d n) * n := Int.mul_le_mul_of_nonneg_left hn (by
    rw [he, prod_append]
    simp only [prod, Int.mul_one]
    exact Int.mul_nonneg (by omega) q0)
  refine ⟨⟨?_, ?_, ?_, ?_⟩, hpr⟩
  · unfold lessD; rw [List.length_set]; exact hd.1
  · unfold lessD; rw [List.length_set]; exact hd.2.1
  · rw [he, allR_append]
    exact ⟨ha.1, fun x hx => by simp at hx; subst hx; exact ⟨q2, by have := hl.2; omega⟩⟩
  · have := hd.2.2.2
    omega
theorem asked_ev (d l : List Int) {n : Int} (hn : n ≤ 9223372036854775807) : Ev (fun k => gate_asked.f k d l n) (if okT d l ∧ 1 ≤ n ∧ n ≤ 8 then (if lastI d % n = 0 then (lessD d n, 0) else ([], 4)) else ([], 1)) := by
  have bad : Ev (fun k => gate_asked.j0 k n true d l) ([], 1) := Ev.step (f := fun _ => some ([], 1)) (fun k => by simp [gate_asked.j0]) (Ev.now _)
  unfold gate_asked.f
  refine Ev.bind (is_ev d l) ?_
  by_cases h : okT d l
  · refine pos (by simpa using h) ?_
    by_cases c1 : n < 1
    · rw [if_neg (by omega)]
      exact pos c1 bad
    refine neg c1 ?_
    by_cases c2 : n > 8
    · rw [if_neg (by omega), decide_eq_true c2]
      exact bad
    · rw [if_pos ⟨h, by omega, by omega⟩, decide_eq_false c2]
      refine Ev.step (f := fun k => (gate_Less.f d n).bind fun bt1239 => (if bt1239.2 = true then (some (bt1239.1, 0)) else (some (([] : List Int), 4)))) (fun k => by simp [gate_asked.j0]) ?_
      refine call (less_eq h.1 (by omega) (by omega)) ?_
      by_cases c3 : lastI d % n = 0
      · rw [if_pos c3, if_pos c3]
        exact pos rfl (Ev.now _)
      · rw [if_neg c3, if_neg c3]
        exact neg (by simp) (Ev.now _)
  · rw [if_neg (fun x => h x.1)]
    exact neg (by simpa using h) bad
/-! ### so many side by side -/
def blk (l : List Int) (n i : Nat) : List Int := (l.drop (i * n)).take n
theorem blk_eq (l : List Int) (n i : Nat) : (l.take (i * n + n)).drop (i * n) = blk l n i := by
  unfold blk
  rw [List.drop_take, show i * n + n - i * n = n by omega]
theorem blk_length {l : List Int} {n q i : Nat} (hl : l.length = q * n) (hi : i < q) : (blk l n i).length = n := by
  have : (i + 1) * n ≤ q * n := Nat.mul_le_mul_right n hi
  rw [Nat.add_mul, Nat.one_mul] at this
  unfold blk
  rw [List.length_take, List.length_drop]
  omega
theorem gmax_loop (d : List Int) {l e : List Int} {n q : Nat} (hn : 1 ≤ n) (hl : l.length = q * n) (h64 : l.length ≤ 64) (m : Nat) : ∀ (i : Nat), i + m = q →
    Ev (fun k => gate_Max.l0 k (n : Int) (q : Int) (i : Int) d l e ((List.range i).map (fun j => mxL (blk l n j)) ++ List.replicate m 0)) (e, (List.range q).map (fun j => mxL (blk l n j)), 0) := by
  induction m with
  | zero =>
    intro i hi
    refine Ev.step (f := fun _ => some (e, (List.range q).map (fun j => mxL (blk l n j)), 0)) (fun k => ?_) (Ev.now _)
    simp only [gate_Max.l0]
    rw [if_neg (by omega), show i = q by omega]
    simp
  | succ m ih =>
    intro i hi
    have hiq : i < q := by omega
    have hb : (i + 1) * n ≤ q * n := Nat.mul_le_mul_right n hiq
    rw [Nat.add_mul, Nat.one_mul] at hb
    have hbl := blk_length hl hiq
    have hq : q ≤ q * n := Nat.le_mul_of_pos_right q (by omega)
    have e1 : (i : Int) * (n : Int) = ((i * n : Nat) : Int) := by simp
    refine Ev.step (f := fun k => (slices_Max_int_int.f k (blk l n i)).bind fun t => gate_Max.l0 k (n : Int) (q : Int) ((i + 1 : Nat) : Int) d l e (((List.range i).map (fun j => mxL (blk l n j)) ++ List.replicate (m + 1) 0).set i t)) (fun k => ?_) (Ev.bind (smax_ev (by omega) (by omega)) ?_)
    · simp only [gate_Max.l0]
      rw [if_pos (by omega), e1, w64 (i := ((i * n : Nat) : Int)) (by omega) (by omega), w64 (i := ((i * n : Nat) : Int) + (n : Int)) (by omega) (by omega), if_pos (by omega), if_pos (by omega), if_pos (by omega),
        show (((i * n : Nat) : Int) + (n : Int)).toNat = i * n + n by omega, show (((i * n : Nat) : Int)).toNat = i * n by omega, blk_eq]
      refine congrArg _ (funext fun t => ?_)
      rw [if_pos (by omega), if_pos (by simp; omega), w64s (by omega)]
      rfl
    · have hf := set_fill ((List.range i).map (fun j => mxL (blk l n j))) m (mxL (blk l n i))
      rw [List.length_map, List.length_range] at hf
      rw [hf]
      have := ih (i + 1) (by omega)
      rw [List.range_succ, List.map_append] at this
      exact this
/-- The greatest of each n side by side. -/
def maxG (l : List Int) (n q : Nat) : List Int := (List.range q).map fun j => mxL (blk l n j)
theorem gmax_ev (d l : List Int) {n : Int} (hn : n ≤ 9223372036854775807) : Ev (fun k => gate_Max.f k d l n)
    (if okT d l ∧ 1 ≤ n ∧ n ≤ 8 then (if lastI d % n = 0 then (lessD d n, maxG l n.toNat (prod (lessD d n)).toNat, 0) else ([], [], 4)) else ([], [], 1)) := by
  unfold gate_Max.f
  refine Ev.bind (asked_ev d l hn) ?_
  by_cases h : okT d l ∧ 1 ≤ n ∧ n ≤ 8
  · rw [if_pos h, if_pos h]
    by_cases c : lastI d % n = 0
    · rw [if_pos c, if_pos c]
      obtain ⟨h1, h2⟩ := lessD_ok h.1.1 h.2.1 c
      refine pos rfl (Ev.bind (new_ev h1) ?_)
      have hp := prod_pos h1.2.2.1
      have h64 := h.1.1.2.2.2
      have hl := h.1.2
      have hl2 : l.length = (prod (lessD d n)).toNat * n.toNat := by
        have : ((l.length : Nat) : Int) = (((prod (lessD d n)).toNat * n.toNat : Nat) : Int) := by
          rw [Int.natCast_mul, Int.toNat_of_nonneg (by omega), Int.toNat_of_nonneg (by omega), h2, hl]
        exact_mod_cast this
      have := gmax_loop d (l := l) (e := lessD d n) (n := n.toNat) (q := (prod (lessD d n)).toNat) (by omega) hl2 (by omega) (prod (lessD d n)).toNat 0 (by omega)
      rw [show ((n.toNat : Nat) : Int) = n by omega] at this
      simpa [maxG] using this
    · rw [if_neg c, if_neg c]
      exact neg (by decide) (Ev.now _)
  · rw [if_neg h, if_neg h]
    exact neg (by decide) (Ev.now _)
end Go.Proofs.Ytpjcidlkdfebhaa.ShEv
