/- What 'gradus/graduslaw5.GateTies' computes is true. -/
import Derived.Test.YtpjcidlkdfebhaaQGateTies
import Derived.Test.YtpjcidlkdfebhaaGaB
set_option linter.unusedVariables false
set_option linter.unusedSimpArgs false
namespace Go.Proofs.Ytpjcidlkdfebhaa.Pure
open Go.RowKit Go.Proofs.EvW Go.Proofs.Ytpjcidlkdfebhaa.PT Go.Proofs.YtpjcidlkdfebhaaW.PrintWords Go.Proofs.YtpjcidlkdfebhaaW.PrintLast Go.Proofs.YtpjcidlkdfebhaaW.PrintMore Go.Proofs.Ytpjcidlkdfebhaa.ShEv
namespace Ties
/-- The numbers of the tensor that is asked: two rows of n, the first k of each V. -/
def row (n k : Nat) (V : Int) : List Int := List.replicate k V ++ List.replicate (n - k) 5
def data (n k : Nat) (V : Int) : List Int := row n k V ++ row n k V
theorem row_length {n k : Nat} (h : k < n) (V : Int) : (row n k V).length = n := by simp [row]; omega
theorem mx_V {V : Int} (hV : V < 5) : ∀ (m : Nat), (List.replicate m V).foldl mx V = V
  | 0 => rfl
  | m + 1 => by rw [List.replicate_succ, List.foldl_cons, show mx V V = V by simp [mx]]; exact mx_V hV m
theorem mx_5 : ∀ (m : Nat), (List.replicate m (5 : Int)).foldl mx 5 = 5
  | 0 => rfl
  | m + 1 => by rw [List.replicate_succ, List.foldl_cons, show mx 5 5 = 5 by simp [mx]]; exact mx_5 m
theorem mxL_row {n k : Nat} (h : k < n) {V : Int} (hV : V < 5) : mxL (row n k V) = 5 := by
  unfold row
  obtain ⟨m, hm⟩ : ∃ m, n - k = m + 1 := ⟨n - k - 1, by omega⟩
  rw [hm, List.replicate_succ]
  cases k with
  | zero =>
    rw [List.replicate_zero, List.nil_append, mxL]
    exact mx_5 m
  | succ k =>
    rw [List.replicate_succ, List.cons_append, mxL, List.foldl_append, mx_V hV, List.foldl_cons, show mx V 5 = 5 by unfold mx; rw [if_pos hV]]
    exact mx_5 m
theorem fst_row {V : Int} (hV : V < 5) (m : Nat) : ∀ k : Nat, fst 5 (List.replicate k V ++ List.replicate (m + 1) 5) = k
  | 0 => by simp [List.replicate_succ, fst]
  | k + 1 => by
    rw [List.replicate_succ, List.cons_append, fst, if_neg (by omega), fst_row hV m k]
theorem best_row {n k : Nat} (h : k < n) {V : Int} (hV : V < 5) : best (row n k V) = k := by
  unfold best
  rw [mxL_row h hV]
  unfold row
  obtain ⟨m, hm⟩ : ∃ m, n - k = m + 1 := ⟨n - k - 1, by omega⟩
  rw [hm]
  exact fst_row hV m k
theorem blk0 {n k : Nat} (h : k < n) (V : Int) : blk (data n k V) n 0 = row n k V := by
  unfold blk data
  rw [Nat.zero_mul, List.drop_zero, List.take_append_of_le_length (by rw [row_length h]; omega), List.take_of_length_le (by rw [row_length h]; omega)]
theorem blk1 {n k : Nat} (h : k < n) (V : Int) : blk (data n k V) n 1 = row n k V := by
  unfold blk data
  rw [Nat.one_mul, show List.drop n (row n k V ++ row n k V) = row n k V by
    have := List.drop_left (l₁ := row n k V) (l₂ := row n k V)
    rw [row_length h] at this
    exact this, List.take_of_length_le (by rw [row_length h]; omega)]
theorem okN {n : Nat} (h1 : 1 ≤ n) (h8 : n ≤ 8) : okD [2, (n : Int)] := ⟨by simp, by simp, by simp [allR, inR]; omega, by simp [prod]; omega⟩
theorem ok1 : okD [2, 1] := by decide
/-- The numbers that are picked. -/
def picked (n k : Nat) : List Int := ((List.replicate (2 * n) (0 : Int)).set k 3).set (n + k) 4
section
variable (t : List S34) (c : List Int)
theorem cell {n k i : Nat} (hk : k < n) (hi : i < 2 * n) : (picked n k)[i]'(by simp [picked]; omega) = if i = k then 3 else if i = n + k then 4 else 0 := by
  unfold picked
  rw [List.getElem_set, List.getElem_set, List.getElem_replicate]
  by_cases e2 : i = n + k
  · rw [if_pos e2.symm, if_neg (show ¬ i = k by omega), if_pos e2]
  · by_cases e1 : i = k
    · rw [if_neg (fun h => e2 h.symm), if_pos e1.symm, if_pos e1]
    · rw [if_neg (fun h => e2 h.symm), if_neg (fun h => e1 h.symm), if_neg e1, if_neg e2]
theorem l3_ev {r : Bool} {n k : Nat} (h1 : 1 ≤ n) (h8 : n ≤ 8) (hk : k < n) (d : List Int) (hnext : Ev (fun q => graduslaw5_GateTies.l1 q (n : Int) ((k + 1 : Nat) : Int) t c) r) (m : Nat) : ∀ (i : Nat), i + m = 2 * n →
    Ev (fun q => graduslaw5_GateTies.l3 q (n : Int) (k : Int) (i : Int) t c d (picked n k)) r := by
  have hpl : (picked n k).length = 2 * n := by simp [picked]
  induction m with
  | zero =>
    intro i hi
    refine Ev.step (fun q => ?_) hnext
    simp only [graduslaw5_GateTies.l3]
    rw [w64 (i := 2 * (n : Int)) (by omega) (by omega), if_neg (by omega), w64s (by omega)]
  | succ m ih =>
    intro i hi
    have hc := cell hk (show i < 2 * n by omega)
    have hrd : rd (picked n k) (i : Int) = if i = k then 3 else if i = n + k then 4 else 0 := by rw [rdI (by omega), hc]
    have hm : Int.tmod (i : Int) (n : Int) = ((i % n : Nat) : Int) := rfl
    have hq : Int.tdiv (i : Int) (n : Int) = ((i / n : Nat) : Int) := rfl
    refine Ev.step (fun q => ?_) (ih (i + 1) (by omega))
    simp only [graduslaw5_GateTies.l3]
    rw [w64 (i := 2 * (n : Int)) (by omega) (by omega), if_pos (by omega), if_neg (by omega), hrd, hm, hq, w64s (by omega)]
    by_cases e1 : i = k
    · have a1 : i % n = k := by rw [e1]; exact Nat.mod_eq_of_lt hk
      have a2 : i / n = 0 := Nat.div_eq_of_lt (by omega)
      rw [a1, a2, if_pos rfl, if_pos (by omega), if_pos (by omega), if_pos e1, if_pos (by rw [w64 (i := ((0 : Nat) : Int)) (by omega) (by omega), w64 (by omega) (by omega)]; rfl)]
    · by_cases e2 : i = n + k
      · have a1 : i % n = k := by rw [e2, Nat.add_mod_left]; exact Nat.mod_eq_of_lt hk
        have a2 : i / n = 1 := by rw [e2, Nat.add_div_left _ (by omega), Nat.div_eq_of_lt hk]
        rw [a1, a2, if_pos rfl, if_pos (by omega), if_pos (by omega), if_neg e1, if_pos e2, if_pos (by rw [w64 (i := ((1 : Nat) : Int)) (by omega) (by omega), w64 (by omega) (by omega)]; rfl)]
      · have a1 : i % n ≠ k := by
          intro h
          rcases Nat.lt_or_ge i n with h' | h'
          · exact e1 (by rw [← h, Nat.mod_eq_of_lt h'])
          · have : i = n + (i - n) := by omega
            rw [this, Nat.add_mod_left, Nat.mod_eq_of_lt (by omega)] at h
            omega
        rw [if_neg (by omega), if_pos (by omega), if_pos (by omega), if_neg e1, if_neg e2, if_pos rfl]
theorem fin {n k : Nat} (hk : k < n) (V : Int) : data n k V = (List.range (2 * n)).map (fun i => if i % n ≥ k then 5 else V) := by
  unfold data row
  have hr : (List.replicate k V ++ List.replicate (n - k) 5).length = n := by simp; omega
  apply List.ext_getElem
  · simp; omega
  · intro i h1 h2
    simp only [List.getElem_map, List.getElem_range]
    simp only [List.length_map, List.length_range] at h2
    rw [List.getElem_append]
    split
    · rename_i h3
      rw [hr] at h3
      rw [List.getElem_append]
      rw [Nat.mod_eq_of_lt h3]
      split
      · rename_i h4
        simp at h4
        rw [List.getElem_replicate, if_neg (by omega)]
      · rename_i h4
        simp at h4
        rw [List.getElem_replicate, if_pos (by omega)]
    · rename_i h3
      rw [hr] at h3
      rw [List.getElem_append]
      have : i % n = i - n := by
        have e : i = n + (i - n) := by omega
        rw [e, Nat.add_mod_left, Nat.mod_eq_of_lt (by omega)]
        omega
      rw [this]
      split
      · rename_i h4
        simp only [List.length_replicate, hr] at h4
        rw [List.getElem_replicate, if_neg (by omega)]
      · rename_i h4
        simp only [List.length_replicate, hr] at h4
        rw [List.getElem_replicate, if_pos (by omega)]
theorem l2_ev {r : Bool} {n k : Nat} (h1 : 1 ≤ n) (h8 : n ≤ 8) (hk : k < n) (ht : t.length ≤ 9223372036854775000) (hnext : Ev (fun q => graduslaw5_GateTies.l1 q (n : Int) ((k + 1 : Nat) : Int) t c) r) (m : Nat) : ∀ (i : Nat), i + m = 2 * n →
    Ev (fun q => graduslaw5_GateTies.l2 q (n : Int) (k : Int) (i : Int) t c [2, (n : Int)] ((List.range i).map (fun j => if j % n ≥ k then (5 : Int) else (-9 - (t.length : Int))) ++ List.replicate m 0)) r := by
  have hV : (-9 - (t.length : Int)) < 5 := by omega
  have hok := okN h1 h8
  induction m with
  | zero =>
    intro i hi
    rw [List.replicate_zero, List.append_nil, show i = 2 * n by omega, ← fin hk]
    have hl : (data n k (-9 - (t.length : Int))).length = 2 * n := by simp [data, row_length hk]; omega
    have hT : okT [2, (n : Int)] (data n k (-9 - (t.length : Int))) := ⟨hok, by rw [hl]; simp [prod]⟩
    have hlast : lastI [2, (n : Int)] = (n : Int) := rfl
    have hless : lessD [2, (n : Int)] (n : Int) = [2, 1] := by
      unfold lessD
      rw [hlast, Int.ediv_self (by omega)]
      rfl
    refine Ev.step (fun q => by rw [graduslaw5_GateTies.l2, w64 (i := 2 * (n : Int)) (by omega) (by omega), if_neg (by omega)]) ?_
    refine Ev.bind (gmax_ev _ _ (by omega)) (Ev.bind (pick_ev _ _ _ _ (by omega)) ?_)
    rw [hlast, hless, if_pos ⟨hT, by omega, by omega⟩, if_pos (Int.emod_self), if_pos (show okT [2, 1] [3, 4] from by decide), if_pos ⟨hT, by omega, by omega⟩, if_pos (Int.emod_self), if_pos rfl]
    have hm : maxG (data n k (-9 - (t.length : Int))) ((n : Int)).toNat (prod [2, 1]).toNat = [5, 5] := by
      rw [show ((n : Int)).toNat = n by omega, show (prod [2, 1]).toNat = 2 from rfl]
      simp only [maxG, List.range_succ, List.range_zero, List.nil_append, List.map_append, List.map_cons, List.map_nil, List.cons_append]
      rw [blk0 hk, blk1 hk, mxL_row hk hV]
    have hp : pickG (data n k (-9 - (t.length : Int))) ((n : Int)).toNat [3, 4] 0 (List.replicate (prod [2, (n : Int)]).toNat 0) = picked n k := by
      rw [show ((n : Int)).toNat = n by omega, show (prod [2, (n : Int)]).toNat = 2 * n by simp [prod]; omega]
      simp only [pickG]
      rw [blk0 hk, show (0 + 1) = 1 from rfl, blk1 hk, best_row hk hV]
      simp only [Nat.zero_mul, Nat.zero_add, Nat.one_mul]
      rfl
    rw [hm, hp]
    refine call (g := graduslaw5_num.f 0) rfl (pos rfl (call (g := graduslaw5_num.f 0) rfl (pos rfl (Ev.bind (eq_ev _ _ (by simp)) (pos (by decide) ?_)))))
    rw [show (((picked n k).length : Int) != 2 * (n : Int)) = false by simp [picked]]
    refine Ev.step (f := fun q => graduslaw5_GateTies.l3 q (n : Int) (k : Int) 0 t c [2, (n : Int)] (picked n k)) (fun q => by simp [graduslaw5_GateTies.j3]) (l3_ev t c h1 h8 hk _ hnext (2 * n) 0 (by omega))
  | succ m ih =>
    intro i hi
    have hf : ∀ v : Int, ((List.range i).map (fun j => if j % n ≥ k then (5 : Int) else (-9 - (t.length : Int))) ++ List.replicate (m + 1) 0).set i v = (List.range i).map (fun j => if j % n ≥ k then (5 : Int) else (-9 - (t.length : Int))) ++ [v] ++ List.replicate m 0 := by
      intro v
      have := set_fill ((List.range i).map (fun j => if j % n ≥ k then (5 : Int) else (-9 - (t.length : Int)))) m v
      rw [List.length_map, List.length_range] at this
      exact this
    have key := ih (i + 1) (by omega)
    rw [List.range_succ, List.map_append, List.map_singleton] at key
    have hm : (i : Int) % (n : Int) = ((i % n : Nat) : Int) := rfl
    refine Ev.step (fun q => ?_) key
    simp only [graduslaw5_GateTies.l2]
    rw [w64 (i := 2 * (n : Int)) (by omega) (by omega), if_pos (by omega), if_pos (by omega), if_pos (by simp; omega), Option.bind_some, if_neg (by omega), w64s (by omega), w64 (i := (-9) - (t.length : Int)) (by omega) (by omega), show ((i : Int)).toNat = i by omega, hm]
    by_cases e : i % n ≥ k
    · rw [if_pos (by omega), if_pos e, List.set_set, hf]
    · rw [if_neg (by omega), if_neg e, hf]
theorem l1_ev {r : Bool} {n : Nat} (h1 : 1 ≤ n) (h8 : n ≤ 8) (ht : t.length ≤ 9223372036854775000) (hnext : Ev (fun q => graduslaw5_GateTies.l0 q ((n + 1 : Nat) : Int) t c) r) (m : Nat) : ∀ (k : Nat), k + m = n →
    Ev (fun q => graduslaw5_GateTies.l1 q (n : Int) (k : Int) t c) r := by
  induction m with
  | zero =>
    intro k hk
    refine Ev.step (fun q => ?_) hnext
    simp only [graduslaw5_GateTies.l1]
    rw [if_neg (by omega), w64s (by omega)]
  | succ m ih =>
    intro k hk
    refine Ev.step (fun q => ?_) (l2_ev t c h1 h8 (show k < n by omega) ht (ih (k + 1) (by omega)) (2 * n) 0 (by omega))
    simp only [graduslaw5_GateTies.l1]
    rw [if_pos (by omega), w64 (i := 2 * (n : Int)) (by omega) (by omega), if_pos (by omega), if_pos (by omega), show (2 * (n : Int)).toNat = 2 * n by omega]
    rfl
theorem wakes5_ev : Ev (fun k => graduslaw5_wakes.f k) true := Ev.of (fun k => graduslaw5_wakes.mono k) (k := 60) (by kernel_rfl)
theorem l0_ev (ht : t.length ≤ 9223372036854775000) (m : Nat) : ∀ (n : Nat), 1 ≤ n → n + m = 9 → Ev (fun q => graduslaw5_GateTies.l0 q (n : Int) t c) true := by
  induction m with
  | zero =>
    intro n h1 hn
    refine Ev.step (f := fun q => (graduslaw5_wakes.f q).bind fun t => some t) (fun q => ?_) (Ev.bind wakes5_ev (Ev.now _))
    simp only [graduslaw5_GateTies.l0]
    rw [if_neg (by omega)]
  | succ m ih =>
    intro n h1 hn
    refine Ev.step (fun q => ?_) (l1_ev t c h1 (by omega) ht (ih (n + 1) (by omega) (by omega)) n 0 (by omega))
    simp only [graduslaw5_GateTies.l0]
    rw [if_pos (by omega)]
    rfl
end
end Ties
theorem GateTies : gateTiesQ.Pure := by
  intro x hx
  have g0 := hx.1.1
  exact ex (Ties.l0_ev x.f0 x.f1 (by omega) 8 1 (by omega) (by omega))
end Go.Proofs.Ytpjcidlkdfebhaa.Pure
