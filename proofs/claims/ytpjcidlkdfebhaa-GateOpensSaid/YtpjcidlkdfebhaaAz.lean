/- Plain: what goes through, twice; the sum of products of what is picked. -/
import Derived.Test.YtpjcidlkdfebhaaAy
namespace Go.Proofs.Al
open Go
set_option linter.unusedVariables false
set_option linter.unusedSimpArgs false
theorem gate_get {a b : Tn} {i : Nat} (h : i < (gateT a b).x.length) (h1 : i < a.x.length) (h2 : i < b.x.length) : (gateT a b).x[i] = if a.x[i] ≤ 0 then 0 else b.x[i] := zip_gate h h1 h2
theorem gate_gate (a : Tn) : gateT (gateT a a) (gateT a a) = gateT a a := by
  refine Tn.ext'.2 ⟨rfl, List.ext_getElem (by simp [gateT]) fun i h1 h2 => ?_⟩
  have h3 : i < a.x.length := by simp [gateT] at h2; omega
  rw [gate_get h1 h2 h2, gate_get h2 h3 h3]
  split <;> (try split) <;> first | rfl | omega
theorem gate_err {a : Tn} : (stepS a a).2 = if okTn a then 0 else 1 := by
  by_cases h : okTn a
  · rw [stepS, wayS_k ⟨h, h⟩ rfl, if_pos h]
  · rw [stepS, wayS_f (fun x => h x.1), if_neg h]
theorem blk_get {l : List Int} {n i j : Nat} (hj : j < (blk l n i).length) (h : i * n + j < l.length) : l[i * n + j] = (blk l n i)[j] := by
  simp only [blk, List.getElem_take, List.getElem_drop]
theorem blk_pos {l : List Int} {n q i : Nat} (hl : l.length = q * n) (hi : i < q) (hn : 0 < n) : i * n + best (blk l n i) < l.length ∧ (∀ h : i * n + best (blk l n i) < l.length, l[i * n + best (blk l n i)] = mxL (blk l n i)) ∧ best (blk l n i) < n := by
  have h1 := blk_length hl hi
  have h2 := best_lt (l := blk l n i) (by omega)
  have h3 : i * n + n ≤ q * n := by have := Nat.mul_le_mul_right n hi; rw [Nat.succ_mul] at this; exact this
  exact ⟨by omega, fun h => by rw [blk_get h2 h, best_get h2], by omega⟩
def pS (l : List Int) (n : Nat) : List Int → Nat → Int
  | [], _ => 0
  | b :: bs, i => b * mxL (blk l n i) + pS l n bs (i + 1)
theorem dot_pick {l : List Int} {n q : Nat} (hl : l.length = q * n) (hn : 0 < n) : ∀ (bs : List Int) (i : Nat) (acc : List Int), acc.length = l.length → i + bs.length ≤ q → (∀ j (h : j < acc.length), i * n ≤ j → acc[j] = 0) →
    dI l (pickG l n bs i acc) = dI l acc + pS l n bs i
  | [], i, acc, _, _, _ => by simp [pickG, pS]
  | b :: bs, i, acc, ha, hi, hz => by
    have hiq : i < q := by simp only [List.length_cons] at hi; omega
    obtain ⟨h1, h2, h3⟩ := blk_pos hl hiq hn
    rw [pickG, dot_pick hl hn bs (i + 1) _ (by rw [List.length_set]; exact ha) (by simp only [List.length_cons] at hi; omega) (fun j hj hij => by
      rw [List.length_set] at hj
      rw [Nat.succ_mul] at hij
      rw [List.getElem_set_ne (by omega)]
      exact hz j hj (by omega)), dI_set (by omega) h1, pS, h2 h1, hz _ (by omega) (by omega), Int.sub_zero, Int.mul_comm (mxL _) b]
    omega
theorem pS_max {l : List Int} {n : Nat} : ∀ (bs : List Int) (i : Nat), dI bs ((List.range' i bs.length).map fun j => mxL (blk l n j)) = pS l n bs i
  | [], i => by simp [dI, pS, sumI]
  | b :: bs, i => by rw [List.length_cons, List.range'_succ, List.map_cons, dI_cons, pS_max bs (i + 1), pS]
theorem zip_comm (x y : List Int) : List.zipWith opM x y = List.zipWith opM y x := by
  rw [List.zipWith_comm]; congr 1; funext a b; rw [opM, opM, Int.mul_comm]
theorem dI_zeros : ∀ (x : List Int) (n : Nat), dI x (List.replicate n 0) = 0 := by
  intro x
  induction x with
  | nil => intro n; exact dI_nil _
  | cons c x ih =>
    intro n
    cases n with
    | zero => exact dI_nil' _
    | succ n => rw [List.replicate_succ, dI_cons, ih]; simp
theorem dot_max {a b : Tn} {n q : Nat} (ha : okTn a) (hl : a.x.length = q * n) (hn : 0 < n) (hb : b.x.length = q) (hq : (prod (lessD a.d n)).toNat = q) :
    sumW (List.zipWith opM (pickT a b n).x a.x) = sumW (List.zipWith opM b.x (maxT a n).x) := by
  have hN : (List.replicate (prod a.d).toNat (0 : Int)).length = a.x.length := by
    have := ha.2; simp; omega
  rw [zip_comm, sumW_M, sumW_M]
  simp only [pickT, maxT, maxG]
  rw [dot_pick hl hn b.x 0 _ hN (by omega) (fun j h _ => by simp), dI_zeros, Int.zero_add, hq, ← hb, List.range_eq_range', pS_max]
theorem pick_back {l : List Int} {n q : Nat} (hl : l.length = q * n) (hn : 0 < n) : ∀ (bs : List Int) (i : Nat) (acc : List Int), acc.length = l.length → i + bs.length ≤ q → (∀ j (h : j < bs.length), bs[j] = mxL (blk l n (i + j))) →
    (∀ j (h : j < acc.length) (h' : j < l.length), acc[j] = 0 ∨ acc[j] = l[j]) → ∀ j (h : j < (pickG l n bs i acc).length) (h' : j < l.length), (pickG l n bs i acc)[j] = 0 ∨ (pickG l n bs i acc)[j] = l[j]
  | [], i, acc, _, _, _, hz => hz
  | b :: bs, i, acc, ha, hi, hb, hz => by
    have hiq : i < q := by simp only [List.length_cons] at hi; omega
    obtain ⟨h1, h2, h3⟩ := blk_pos hl hiq hn
    have e : pickG l n (b :: bs) i acc = pickG l n bs (i + 1) (acc.set (i * n + best (blk l n i)) b) := rfl
    rw [e]
    refine pick_back hl hn bs (i + 1) _ (by rw [List.length_set]; exact ha) (by simp only [List.length_cons] at hi; omega) (fun j h => by
      have := hb (j + 1) (by simp only [List.length_cons]; omega)
      rw [List.getElem_cons_succ] at this
      rw [this]; congr 2; omega) fun j h h' => ?_
    rw [List.length_set] at h
    by_cases hj : i * n + best (blk l n i) = j
    · subst hj
      rw [List.getElem_set_self]
      right
      have := hb 0 (by simp)
      rw [List.getElem_cons_zero, Nat.add_zero] at this
      rw [this, h2 h']
    · rw [List.getElem_set_ne hj]; exact hz j h h'
theorem back_get {a : Tn} {n q : Nat} (ha : okTn a) (hl : a.x.length = q * n) (hn : 0 < n) (hq : (prod (lessD a.d n)).toNat = q) {j : Nat} (h : j < (pickT a (maxT a n) n).x.length) (h' : j < a.x.length) :
    (pickT a (maxT a n) n).x[j] ≠ 0 → (pickT a (maxT a n) n).x[j] = a.x[j] := fun hne => by
  have hN : (List.replicate (prod a.d).toNat (0 : Int)).length = a.x.length := by
    have := ha.2; simp; omega
  have hM : (maxT a n).x.length = q := by simp [maxT, maxG, hq]
  exact (pick_back hl hn (maxT a n).x 0 _ hN (by omega) (fun j h => by simp [maxT, maxG]) (fun j h _ => by left; simp) j h h').resolve_left hne
def dotC (m : Tn) : Tn := ⟨m.d, tab m.x.length fun j => IntKind.i64.wrap (IntKind.i64.wrap (rdN m.x j * 5) + (j : Int))⟩
theorem dotC_len (m : Tn) : (dotC m).x.length = m.x.length := tab_len _ _
theorem dotC_ok {m : Tn} (h : okTn m) : okTn (dotC m) := ⟨h.1, by rw [dotC_len]; exact h.2⟩
end Go.Proofs.Al
