/- What the functions of the packages compute: plain lists and numbers, no program in sight. -/
import Derived.Test.YtaiccchelchdmaaAq
set_option linter.unusedVariables false
set_option linter.unusedSimpArgs false
namespace Go.Proofs.Al
open Go
set_option linter.unusedVariables false
set_option linter.unusedSimpArgs false
theorem fill_set {A : List Int} {i n : Nat} {v : Int} (hn : A.length = n) (hi : i < A.length) (hv : A[i] = v) : (A.take i ++ List.replicate (n - i) 0).set i v = A.take (i + 1) ++ List.replicate (n - (i + 1)) 0 := by
  subst hn
  have h1 := set_fill (A.take i) (A.length - (i + 1)) v
  have h2 : (A.take i).length = i := by simp; omega
  have h3 : A.length - (i + 1) + 1 = A.length - i := by omega
  rw [h2, h3] at h1
  rw [h1, List.take_succ_eq_append_getElem hi, hv]
theorem fill_all {A : List Int} {i n : Nat} (hn : A.length = n) (hi : n ≤ i) : A.take i ++ List.replicate (n - i) 0 = A := by
  rw [List.take_of_length_le (by omega), show n - i = 0 by omega]; simp
theorem fill_len {A : List Int} {i n : Nat} (hn : A.length = n) (hi : i ≤ n) : (A.take i ++ List.replicate (n - i) 0).length = n := by
  rw [List.length_append, List.length_take, List.length_replicate]; omega
theorem mix_set {A B : List Int} {i : Nat} {v : Int} (hl : A.length = B.length) (hi : i < A.length) (hv : A[i] = v) : (A.take i ++ B.drop i).set i v = A.take (i + 1) ++ B.drop (i + 1) := by
  have h1 : (A.take i).length = i := by simp; omega
  rw [List.set_append_right _ _ (by omega), h1, Nat.sub_self, List.drop_eq_getElem_cons (show i < B.length by omega), List.set_cons_zero, List.take_succ_eq_append_getElem hi, hv]; simp
theorem mix_keep {A B : List Int} {i : Nat} (hl : A.length = B.length) (hi : i < A.length) (hv : A[i] = B[i]) : A.take i ++ B.drop i = A.take (i + 1) ++ B.drop (i + 1) := by
  rw [List.drop_eq_getElem_cons (show i < B.length by omega), List.take_succ_eq_append_getElem hi, hv]; simp
theorem mix_len {A B : List Int} {i : Nat} (hl : A.length = B.length) (hi : i ≤ A.length) : (A.take i ++ B.drop i).length = A.length := by
  rw [List.length_append, List.length_take, List.length_drop]; omega
theorem mix_all {A B : List Int} {i : Nat} (hl : A.length = B.length) (hi : A.length ≤ i) : A.take i ++ B.drop i = A := by
  rw [List.take_of_length_le hi, List.drop_of_length_le (by omega), List.append_nil]
theorem mix_get {A B : List Int} {i j : Nat} (hl : A.length = B.length) (hi : i ≤ A.length) (hj : i ≤ j) (hb : j < B.length) : (A.take i ++ B.drop i)[j]? = some B[j] := by
  have h1 : (A.take i).length = i := by simp; omega
  rw [List.getElem?_append_right (by omega), h1, List.getElem?_drop, show i + (j - i) = j by omega]; exact List.getElem?_eq_getElem hb
/-- A slice that is filled from its end. -/
theorem fillr_set {A : List Int} {i : Nat} {v : Int} (hi : i < A.length) (hv : A[i] = v) : (List.replicate (i + 1) 0 ++ A.drop (i + 1)).set i v = List.replicate i 0 ++ A.drop i := by
  rw [List.set_append_left _ _ (by simp), List.replicate_succ', List.set_append_right _ _ (by simp), List.drop_eq_getElem_cons hi, hv]
  simp
theorem fillr_len {A : List Int} {i : Nat} (hi : i ≤ A.length) : (List.replicate i 0 ++ A.drop i).length = A.length := by
  simp; omega
theorem zeroL_get : ∀ (e q : List Int) (i : Nat) (h1 : i < e.length) (h2 : i < q.length) (h3 : i < (zeroL e q).length), (zeroL e q)[i] = if e[i] = 1 then 0 else q[i]
  | [], q, i, h1, _, _ => by simp at h1
  | x :: e, [], i, _, h2, _ => by simp at h2
  | x :: e, v :: q, 0, _, _, _ => rfl
  | x :: e, v :: q, i + 1, h1, h2, h3 => zeroL_get e q i (by simpa using h1) (by simpa using h2) (by simpa [zeroL] using h3)
theorem fst_eq {v : Int} : ∀ {l : List Int} {k : Nat} (h : k < l.length), l[k] = v → (∀ j, (h' : j < k) → l[j] ≠ v) → fst v l = k
  | a :: l, 0, _, e, _ => by simp at e; subst e; simp [fst]
  | a :: l, k + 1, h, e, hn => by
    have h0 : a ≠ v := hn 0 (by omega)
    have := fst_eq (l := l) (k := k) (by simpa using h) (by simpa using e) (fun j h' => by have := hn (j + 1) (by omega); simpa using this)
    simp [fst, Ne.symm h0, this]
theorem mxL_ge {l : List Int} : ∀ (a : Int), a ≤ l.foldl mx a ∧ ∀ x ∈ l, x ≤ l.foldl mx a := by
  induction l with
  | nil => intro a; simp
  | cons b l ih =>
    intro a
    have h1 := ih (mx a b)
    have h2 : a ≤ mx a b ∧ b ≤ mx a b := by unfold mx; split <;> omega
    refine ⟨by simp only [List.foldl_cons]; omega, fun x hx => ?_⟩
    simp only [List.foldl_cons]
    rcases List.mem_cons.1 hx with rfl | hx
    · omega
    · exact h1.2 x hx
theorem best_eq {l : List Int} {k : Nat} (hk : k < l.length) (h1 : ∀ j, (h : j < l.length) → l[j] ≤ l[k]) (h2 : ∀ j, (h : j < k) → l[j] < l[k]) : best l = k := by
  have hm := mxL_mem (l := l) (by omega)
  obtain ⟨j, hj, e⟩ := List.getElem_of_mem hm
  have hge : l[k] ≤ mxL l := by
    cases l with
    | nil => simp at hk
    | cons a l =>
      have := mxL_ge (l := l) a
      rcases List.mem_cons.1 (List.getElem_mem hk) with h | h
      · rw [h]; exact this.1
      · exact this.2 _ h
  have e2 : l[k] = mxL l := by have := h1 j hj; omega
  exact fst_eq hk e2 fun j h => by have := h2 j h; omega
def sumW (l : List Int) : Int := l.foldl (fun a x => IntKind.i64.wrap (a + x)) 0
theorem prod_nat {d : List Int} (h : allR d) : ∃ m : Nat, prod d = (m : Int) ∧ 1 ≤ m := by
  have := prod_pos h
  exact ⟨(prod d).toNat, by omega, by omega⟩
theorem prod_le8 : ∀ {l : List Int}, allR l → prod l ≤ 8 ^ l.length
  | [], _ => by decide
  | a :: l, h => by
    have h1 := (allR_cons.1 h).1
    have h2 := prod_le8 (allR_cons.1 h).2
    have h3 := prod_pos (allR_cons.1 h).2
    have := Int.mul_le_mul h1.2 h2 (by omega) (by omega)
    rw [prod, List.length_cons, Int.pow_succ, Int.mul_comm (8 ^ _)]; exact this
theorem prod_small {l : List Int} (h : allR l) (hl : l.length ≤ 3) : 1 ≤ prod l ∧ prod l ≤ 512 := by
  refine ⟨prod_pos h, Int.le_trans (prod_le8 h) ?_⟩
  rcases l with _ | ⟨a, _ | ⟨b, _ | ⟨c, _ | ⟨e, l⟩⟩⟩⟩ <;> simp at hl ⊢ <;> omega
theorem prod_drop {d : List Int} {i : Nat} (hi : i < d.length) : prod (d.drop i) = d[i] * prod (d.drop (i + 1)) := by
  rw [List.drop_eq_getElem_cons hi]; rfl
theorem tdivw {a b : Int} (h0 : 0 ≤ a) (ha : a ≤ 9223372036854775807) (hb : 1 ≤ b) : IntKind.i64.wrap (a.tdiv b) = a / b := by
  rw [Int.tdiv_eq_ediv_of_nonneg h0]
  have h1 := Int.ediv_nonneg h0 (show 0 ≤ b by omega)
  have h2 : a / b ≤ a := Int.ediv_le_self _ h0
  exact w64 (by omega) (by omega)
theorem tmodw {a b : Int} (h0 : 0 ≤ a) : a.tmod b = a % b := Int.tmod_eq_emod_of_nonneg h0
theorem numsS_step {S A : List Int} {n : Int} {i : Nat} (h : numsS (S.drop i) n = A.drop i) (hi : i < S.length) (hA : i < A.length) : n / S[i] = A[i] ∧ numsS (S.drop (i + 1)) (n % S[i]) = A.drop (i + 1) := by
  rw [List.drop_eq_getElem_cons hi, List.drop_eq_getElem_cons hA] at h
  simp only [numsS, List.cons.injEq] at h
  exact h
theorem nums_get : ∀ {d : List Int} {n : Int}, allR d → 0 ≤ n → n < prod d → ∀ (i : Nat) (h : i < (nums d n).length) (h' : i < d.length), (nums d n)[i] = (n / prod (d.drop (i + 1))) % d[i]
  | [], _, _, _, _, i, _, h' => by simp at h'
  | a :: d, n, hd, h0, hn, 0, h, h' => by
    have h3 := prod_pos (allR_cons.1 hd).2
    simp only [nums_cons, List.getElem_cons_zero, List.drop_succ_cons, List.drop_zero]
    rw [Int.emod_eq_of_lt (Int.ediv_nonneg h0 (by omega)) (Int.ediv_lt_of_lt_mul (by omega) (by rw [prod] at hn; exact hn))]
  | a :: d, n, hd, h0, hn, i + 1, h, h' => by
    have h3 := prod_pos (allR_cons.1 hd).2
    have h4 := Int.emod_nonneg n (show prod d ≠ 0 by omega)
    have h5 := Int.emod_lt_of_pos n (show 0 < prod d by omega)
    simp only [nums_cons, List.getElem_cons_succ, List.drop_succ_cons]
    have hi : i < d.length := by simpa using h'
    rw [nums_get (allR_cons.1 hd).2 h4 h5 i (by simpa [nums_cons] using h) hi]
    have hP := prod_pos (allR_drop (allR_cons.1 hd).2 (i + 1))
    -- prod d is a multiple of d[i] * P
    have hm : ∀ (j : Nat) (l : List Int), ∃ c, prod l = c * prod (l.drop j) := by
      intro j
      induction j with
      | zero => intro l; exact ⟨1, by simp⟩
      | succ j ih =>
        intro l
        cases l with
        | nil => exact ⟨1, by simp⟩
        | cons x l => obtain ⟨c, hc⟩ := ih l; exact ⟨x * c, by rw [List.drop_succ_cons, prod, hc, Int.mul_assoc]⟩
    obtain ⟨c, hc⟩ := hm i d
    rw [prod_drop hi] at hc
    generalize prod (d.drop (i + 1)) = p at hc hP
    generalize hx : d[i] = x at hc
    generalize prod d = q at hc h3 h4 h5
    subst hc
    have e : n = n % (c * (x * p)) + (n / (c * (x * p)) * c * x) * p := by
      have h6 := Int.emod_add_mul_ediv n (c * (x * p))
      rw [show c * (x * p) * (n / (c * (x * p))) = (n / (c * (x * p)) * c * x) * p by rw [Int.mul_comm (c * (x * p))]; simp only [Int.mul_assoc]] at h6
      exact h6.symm
    conv => rhs; rw [e, Int.add_mul_ediv_right _ _ (show p ≠ 0 by omega), Int.add_mul_emod_self_right]
theorem within_dropn : ∀ {d p : List Int} (i : Nat), within d p → within (d.drop i) (p.drop i)
  | _, _, 0, h => h
  | _ :: _, _ :: _, i + 1, h => by simp only [List.drop_succ_cons]; exact within_dropn i h.2.2
  | [], [], _ + 1, h => trivial
theorem place_drop {d p : List Int} {i : Nat} (hi : i < d.length) (hj : i < p.length) : place (d.drop i) (p.drop i) = prod (d.drop (i + 1)) * p[i] + place (d.drop (i + 1)) (p.drop (i + 1)) := by
  rw [List.drop_eq_getElem_cons hi, List.drop_eq_getElem_cons hj]; rfl
theorem growsD_drop {a b : List Int} {i : Nat} (hi : i < a.length) (hj : i < b.length) : growsD (a.drop i) (b.drop i) ↔ ((a[i] = 1 ∨ a[i] = b[i]) ∧ growsD (a.drop (i + 1)) (b.drop (i + 1))) := by
  rw [List.drop_eq_getElem_cons hi, List.drop_eq_getElem_cons hj]; rfl
theorem growsD_end {a b : List Int} {i : Nat} (hi : a.length ≤ i) (h : a.length = b.length) : growsD (a.drop i) (b.drop i) := by
  rw [List.drop_of_length_le hi, List.drop_of_length_le (by omega)]; trivial
theorem allR_take {d : List Int} {i : Nat} (h : allR (d.take i)) (hi : i < d.length) (hx : inR d[i]) : allR (d.take (i + 1)) := by
  rw [List.take_succ_eq_append_getElem hi]
  intro x hx'
  rcases List.mem_append.1 hx' with h1 | h1
  · exact h x h1
  · simp at h1; subst h1; exact hx
def zerosT (d : List Int) : Tn := ⟨d, List.replicate (prod d).toNat 0⟩
def fillT (d : List Int) (v : Int) : Tn := ⟨d, List.replicate (prod d).toNat v⟩
def cellsS (d : List Int) : Int × Int := if okD d then (prod d, 0) else (0, 1)
def stepsS (d : List Int) : List Int × Int := if okD d then (strides d, 0) else ([], 1)
def whereS (d : List Int) (n : Int) : List Int × Int := if okD d ∧ 0 ≤ n ∧ n < prod d then (nums d n, 0) else ([], 1)
def atS (d p : List Int) : Int × Int := if okD d ∧ within d p then (place d p, 0) else (0, 1)
def fillS (d : List Int) (v : Int) : Tn × Int := if okD d then (fillT d v, 0) else (⟨[], []⟩, 1)
def sameS (a b : List Int) : Bool × Int := if okD a ∧ okD b then (decide (a = b), 0) else (false, 1)
def widerS (a b : List Int) : Int := if okD a ∧ okD b then (if growsD a b then 0 else 4) else 1
theorem mulN {a b : Nat} (h : a * b ≤ 4398046511104) : IntKind.i64.wrap ((a : Int) * (b : Int)) = ((a * b : Nat) : Int) := by
  rw [← Int.natCast_mul]; exact w64 (by omega) (by omega)
theorem addN {a b : Nat} (h : a + b ≤ 4398046511104) : IntKind.i64.wrap ((a : Int) + (b : Int)) = ((a + b : Nat) : Int) := by
  rw [← Int.natCast_add]; exact w64 (by omega) (by omega)
theorem addN46 {a b : Nat} (h : a + b ≤ 4611686018427387904) : IntKind.i64.wrap ((a : Int) + (b : Int)) = ((a + b : Nat) : Int) := by
  rw [← Int.natCast_add]; exact w64 (by omega) (by omega)
theorem addN1 {a : Nat} (h : a ≤ 4398046511104) : IntKind.i64.wrap ((a : Int) + 1) = ((a + 1 : Nat) : Int) := by
  rw [Int.natCast_add]; exact w64 (by omega) (by omega)
theorem divmod {i k c : Nat} (h : k < c) : (i * c + k) / c = i ∧ (i * c + k) % c = k := by
  refine ⟨?_, ?_⟩
  · rw [Nat.mul_comm, Nat.mul_add_div (by omega), Nat.div_eq_of_lt h]; omega
  · rw [Nat.mul_comm, Nat.mul_add_mod, Nat.mod_eq_of_lt h]
theorem pos_lt {i k r c : Nat} (hi : i < r) (hk : k < c) : i * c + k < r * c := by
  have : (i + 1) * c ≤ r * c := Nat.mul_le_mul_right c hi
  rw [Nat.succ_mul] at this; omega
theorem mul88 {a b : Nat} (ha : a ≤ 8) (hb : b ≤ 8) : a * b ≤ 64 := Nat.mul_le_mul ha hb
theorem mul88' {a b : Nat} (ha : a ≤ 8) (hb : b ≤ 8) : a * b ≤ 4398046511104 := Nat.le_trans (mul88 ha hb) (by decide)
theorem prod2 (a b : Nat) : prod [(a : Int), (b : Int)] = ((a * b : Nat) : Int) := by simp [prod]
theorem okD2 {a b : Nat} (ha : 1 ≤ a) (ha8 : a ≤ 8) (hb : 1 ≤ b) (hb8 : b ≤ 8) : okD [(a : Int), (b : Int)] := by
  refine ⟨by simp, by simp, fun x hx => ?_, ?_⟩
  · simp at hx; unfold inR; omega
  · rw [prod2]; have := mul88 ha8 hb8; omega
/-- The dims of a matrix. -/
theorem mat_dims {d : List Int} (h : okD d) (h2 : d.length = 2) : ∃ r c : Nat, d = [(r : Int), (c : Int)] ∧ 1 ≤ r ∧ r ≤ 8 ∧ 1 ≤ c ∧ c ≤ 8 := by
  match d, h2 with
  | [x, y], _ =>
    have hx := h.2.2.1 x (by simp)
    have hy := h.2.2.1 y (by simp)
    unfold inR at hx hy
    exact ⟨x.toNat, y.toNat, by simp; omega, by omega, by omega, by omega, by omega⟩
/-- A row of f's values. -/
def tab (n : Nat) (f : Nat → Int) : List Int := (List.range n).map f
theorem tab_len (n : Nat) (f : Nat → Int) : (tab n f).length = n := by simp [tab]
theorem tab_get {n : Nat} {f : Nat → Int} {j : Nat} (h : j < n) : (tab n f)[j]? = some (f j) := by simp [tab, h]
theorem tab_getE {n : Nat} {f : Nat → Int} {j : Nat} (h : j < (tab n f).length) : (tab n f)[j] = f j := by simp [tab]
theorem tab_congr {n : Nat} {f g : Nat → Int} (h : ∀ m, m < n → f m = g m) : tab n f = tab n g := List.map_congr_left fun m hm => h m (List.mem_range.1 hm)
theorem tab_set {n j : Nat} {f : Nat → Int} {v : Int} : (tab n f).set j v = tab n (fun m => if m = j then v else f m) := by
  apply List.ext_getElem (by simp [tab])
  intro m h1 h2
  rw [List.getElem_set]
  by_cases hj : j = m
  · subst hj; simp [tab]
  · have : ¬ m = j := fun e => hj e.symm
    simp [tab, hj, this]
theorem tab_zero (n : Nat) : List.replicate n (0 : Int) = tab n (fun _ => 0) := by
  apply List.ext_getElem (by simp [tab])
  intro m h1 h2; simp [tab]
def rdN (l : List Int) (i : Nat) : Int := l.getD i 0
theorem rdN_get {l : List Int} {i : Nat} (h : i < l.length) : rdN l i = l[i] := by simp [rdN, h]
theorem rd_toNat {l : List Int} {i : Int} (h : i.toNat < l.length) : rd l i = l[i.toNat] := by simp [rd, h]
def oneT (n : Nat) : Tn := ⟨[(n : Int), (n : Int)], tab (n * n) (fun m => if m / n = m % n then 1 else 0)⟩
def turnT (r c : Nat) (a : Tn) : Tn := ⟨[(c : Int), (r : Int)], tab (c * r) (fun m => rdN a.x (m % r * c + m / r))⟩
def macF (m c : Nat) (xa xb : List Int) (p : Nat) (acc : Int) (j : Nat) : Int := IntKind.i64.wrap (acc + IntKind.i64.wrap (rdN xa (p / c * m + j) * rdN xb (j * c + p % c)))
def matT (r m c : Nat) (a b : Tn) : Tn := ⟨[(r : Int), (c : Int)], tab (r * c) (fun p => (List.range m).foldl (macF m c a.x b.x p) 0)⟩
def powF (n : Nat) : Nat → Tn → Tn → Nat → Tn
  | 0, t, _, _ => t
  | f + 1, t, a, k => if k = 0 then t else powF n f (if k % 2 = 1 then matT n n n t a else t) (matT n n n a a) (k / 2)
def powT (n : Nat) (a : Tn) (k : Nat) : Tn := powF n k (oneT n) a k
def wideT (a : Tn) (d : List Int) : Tn := ⟨d, tab (prod d).toNat (fun i => rd a.x (lowN a.d d i))⟩
def sumT (a : Tn) (d : List Int) : Tn := ⟨d, sumG d a.d a.x 0 (List.replicate (prod d).toNat 0)⟩
theorem sumG_step {e d l acc : List Int} {i : Nat} (h : i < l.length) : sumG e d (l.drop i) i acc = sumG e d (l.drop (i + 1)) (i + 1) (acc.set (lowN e d (i : Int)).toNat (IntKind.i64.wrap (rd acc (lowN e d (i : Int)) + l[i]))) := by
  rw [List.drop_eq_getElem_cons h]; rfl
theorem sumG_len {e d : List Int} : ∀ (l : List Int) (i : Nat) (acc : List Int), (sumG e d l i acc).length = acc.length
  | [], _, _ => rfl
  | x :: l, i, acc => by rw [sumG, sumG_len l]; simp
def maxT (a : Tn) (n : Nat) : Tn := ⟨lessD a.d n, maxG a.x n (prod (lessD a.d n)).toNat⟩
def pickT (a b : Tn) (n : Nat) : Tn := ⟨a.d, pickG a.x n b.x 0 (List.replicate (prod a.d).toNat 0)⟩
theorem pickG_step {l bs acc : List Int} {n i : Nat} (h : i < bs.length) : pickG l n (bs.drop i) i acc = pickG l n (bs.drop (i + 1)) (i + 1) (acc.set (i * n + best (blk l n i)) bs[i]) := by
  rw [List.drop_eq_getElem_cons h]; rfl
theorem pickG_len {l : List Int} {n : Nat} : ∀ (bs : List Int) (i : Nat) (acc : List Int), (pickG l n bs i acc).length = acc.length
  | [], _, _ => rfl
  | x :: bs, i, acc => by rw [pickG, pickG_len bs]; simp
theorem fst_get {v : Int} : ∀ {l : List Int} (h : fst v l < l.length), l[fst v l] = v
  | a :: l, h => by
    by_cases e : v = a
    · subst e; simp [fst]
    · have h' : fst v l < l.length := by simpa [fst, e] using h
      have : fst v (a :: l) = fst v l + 1 := by simp [fst, e]
      simp only [this, List.getElem_cons_succ]
      exact fst_get h'
theorem best_get {l : List Int} (h : best l < l.length) : l[best l] = mxL l := fst_get h
def scaleT (a : Tn) (n : Int) : Tn := ⟨a.d, a.x.map fun x => IntKind.i64.wrap (x * n)⟩
def opH (how : Int) (x y : Int) : Int := if how = 0 then IntKind.i64.wrap (x + y) else if how = 1 then IntKind.i64.wrap (x - y) else IntKind.i64.wrap (x * y)
def eachT (a b : Tn) (how : Int) : Tn := ⟨a.d, List.zipWith (opH how) a.x b.x⟩
def gateT (a b : Tn) : Tn := ⟨b.d, List.zipWith (fun x y => if x ≤ 0 then 0 else y) a.x b.x⟩
theorem itec {p q : Prop} [Decidable p] [Decidable q] {a b : Int} (h : p ↔ q) : (if p then a else b) = if q then a else b := by
  by_cases hp : p
  · rw [if_pos hp, if_pos (h.1 hp)]
  · rw [if_neg hp, if_neg (fun x => hp (h.2 x))]
theorem fill2_len (a b : Nat) (v : Int) : (fillT [(a : Int), (b : Int)] v).x.length = a * b := by simp only [fillT, prod2, List.length_replicate]; omega
theorem fill2_x (a b : Nat) : (fillT [(a : Int), (b : Int)] 0).x = List.replicate (a * b) 0 := by simp only [fillT, prod2]; rw [show ((a * b : Nat) : Int).toNat = a * b by omega]
theorem mat_fold {m c : Nat} {xa xb : List Int} {p j : Nat} {acc : Int} (h : acc = (List.range j).foldl (macF m c xa xb p) 0) : IntKind.i64.wrap (acc + IntKind.i64.wrap (rdN xa (p / c * m + j) * rdN xb (j * c + p % c))) = (List.range (j + 1)).foldl (macF m c xa xb p) 0 := by
  rw [List.range_succ, List.foldl_append, ← h]; rfl
theorem and1 {k : Nat} (h : k ≤ 4398046511104) : IntKind.i64.wrap (BitVec.ofInt IntKind.i64.bits (k : Int) &&& BitVec.ofInt IntKind.i64.bits 1).toNat = ((k % 2 : Nat) : Int) := by
  have e : (BitVec.ofInt IntKind.i64.bits (k : Int) &&& BitVec.ofInt IntKind.i64.bits 1).toNat = k % 2 := by
    have e1 : (BitVec.ofInt IntKind.i64.bits (k : Int)).toNat = k := by
      show (BitVec.ofInt 64 (k : Int)).toNat = k
      rw [BitVec.toNat_ofInt]; omega
    have e2 : (BitVec.ofInt IntKind.i64.bits 1).toNat = 1 := rfl
    rw [BitVec.toNat_and, e1, e2, Nat.and_one_is_mod]
  rw [e]; exact w64 (by omega) (by omega)
theorem shr1 {k : Nat} : ((k : Int)).fdiv (2 ^ min (1 : Int).toNat IntKind.i64.bits) = ((k / 2 : Nat) : Int) := by
  have e : (2 : Int) ^ min (1 : Int).toNat IntKind.i64.bits = 2 := rfl
  rw [e, Int.fdiv_eq_ediv_of_nonneg _ (by omega)]; omega
theorem look2 {σ : AH} {b2 b4 b5 : Nat} {A Z T : Blk} (h42 : b4 ≠ b2) (h52 : b5 ≠ b2) : (((σ.set b2 A).set b4 Z).set b5 T) b2 = some A := by
  rw [AH.set_ne (Ne.symm h52), AH.set_ne (Ne.symm h42), AH.set_self]
theorem look4 {σ : AH} {b4 b5 : Nat} {Z T : Blk} (h54 : b5 ≠ b4) : ((σ.set b4 Z).set b5 T) b4 = some Z := by
  rw [AH.set_ne (Ne.symm h54), AH.set_self]
theorem deep2 {σ : AH} {b2 b4 b5 : Nat} {A A' Z T : Blk} (h42 : b4 ≠ b2) (h52 : b5 ≠ b2) : ((((σ.set b2 A).set b4 Z).set b5 T).set b2 A') = ((σ.set b2 A').set b4 Z).set b5 T := by
  funext m; simp only [AH.set]; by_cases h1 : m = b2
  · subst h1; simp [Ne.symm h42, Ne.symm h52]
  · simp [h1]
theorem divmod_iff {m i k c : Nat} (h : k < c) : m = i * c + k ↔ m / c = i ∧ m % c = k := by
  refine ⟨fun e => by subst e; exact divmod h, fun ⟨h1, h2⟩ => ?_⟩
  have := Nat.div_add_mod m c
  rw [h1, h2, Nat.mul_comm] at this; exact this.symm
theorem AH.set_eq {ρ : AH} {b : Nat} {x : Blk} (h : ρ b = some x) : ρ.set b x = ρ := by
  funext m; simp only [AH.set]; by_cases h1 : m = b
  · subst h1; simp [h]
  · simp [h1]
theorem AH.set_back {ρ : AH} {b c : Nat} {x y z : Blk} (h : c ≠ b) : ((ρ.set b x).set c y).set b z = (ρ.set c y).set b z := by
  funext m; simp only [AH.set]; by_cases h1 : m = b <;> simp [h1]
theorem AH.regrow {ρ : AH} {b x y : Nat} {R C R' C' : Blk} (hx : ρ x = none) (hxb : x ≠ b) : ((((ρ.set x R).set b C).del x).set y R').set b C' = (ρ.set y R').set b C' := by
  funext m
  simp only [AH.set, AH.del]
  by_cases h1 : m = b
  · simp [h1]
  · by_cases h2 : m = y
    · simp [h1, h2]
    · by_cases h3 : m = x
      · subst h3; simp [h1, h2, hx]
      · simp [h1, h2, h3]
theorem ten_comm {σ : AH} {b b' k : Nat} {d x : List Int} {Z W : Blk} (h : b ≠ k) (h' : b' ≠ k) : ((σ.set k Z).ten b b' d x).set k W = (σ.ten b b' d x).set k W := by
  funext m; simp only [AH.ten, AH.set]; by_cases h1 : m = k <;> simp [h1]
/-! ### how much a law is asked -/
def wtF : List Tn → Nat → Nat
  | [], n => n
  | t :: l, n => if n < 1048576 then wtF l (n + t.d.length + t.x.length / 8) else n
theorem wtF_ge : ∀ (l : List Tn) (n : Nat), n ≤ wtF l n
  | [], n => Nat.le_refl _
  | t :: l, n => by
    unfold wtF
    split
    · have := wtF_ge l (n + t.d.length + t.x.length / 8); omega
    · exact Nat.le_refl _
theorem wtF_small : ∀ {l : List Tn} {n : Nat}, wtF l n ≤ 1000 → n ≤ 1000 ∧ ∀ t ∈ l, t.d.length ≤ 1000 ∧ t.x.length ≤ 8007
  | [], n, h => ⟨h, fun t ht => by simp at ht⟩
  | t :: l, n, h => by
    have h0 : n < 1048576 := by have := wtF_ge (t :: l) n; omega
    unfold wtF at h
    rw [if_pos h0] at h
    obtain ⟨h1, h2⟩ := wtF_small h
    refine ⟨by omega, fun u hu => ?_⟩
    rcases List.mem_cons.1 hu with rfl | hu
    · omega
    · exact h2 u hu
theorem wtF_le : ∀ (l : List Tn) (n : Nat), (∀ t ∈ l, t.d.length ≤ 17592186044416 ∧ t.x.length ≤ 17592186044416) → wtF l n ≤ max n 20000000000000
  | [], n, _ => by unfold wtF; omega
  | t :: l, n, h => by
    have h1 := h t (by simp)
    have h2 := wtF_le l (n + t.d.length + t.x.length / 8) fun u hu => h u (by simp [hu])
    unfold wtF
    split <;> omega
def wtT (l : List Tn) : Nat := wtF l l.length
theorem wtT_small {l : List Tn} (h : wtT l ≤ 1000) : l.length ≤ 1000 ∧ ∀ t ∈ l, t.d.length ≤ 1000 ∧ t.x.length ≤ 8007 := wtF_small h
/-- Tensors that the machine has. -/
def Tn.fit (t : Tn) : Prop := t.d.length ≤ 17592186044416 ∧ t.x.length ≤ 17592186044416
def like (a b : Tn) : Tn := ⟨a.d, tab a.x.length fun i => if b.x.length = 0 then IntKind.i64.wrap (((i * i : Nat) : Int) - 7) else IntKind.i64.wrap (rdN b.x (i % b.x.length) + (i : Int))⟩
/-! ### ring -/
def pairS (a b : Tn) : Int := if okTn a ∧ okTn b then (if a.d = b.d then 0 else 4) else 1
theorem pairS_zero {a b : Tn} : pairS a b = 0 ↔ okTn a ∧ okTn b ∧ a.d = b.d := by
  unfold pairS
  by_cases h : okTn a ∧ okTn b
  · rw [if_pos h]
    by_cases h2 : a.d = b.d
    · rw [if_pos h2]; exact ⟨fun _ => ⟨h.1, h.2, h2⟩, fun _ => rfl⟩
    · rw [if_neg h2]; exact ⟨fun h => absurd h (by decide), fun h => absurd h.2.2 h2⟩
  · rw [if_neg h]; exact ⟨fun h => absurd h (by decide), fun x => absurd ⟨x.1, x.2.1⟩ h⟩
def zipT (op : Int → Int → Int) (a b : Tn) : Tn := ⟨a.d, List.zipWith op a.x b.x⟩
def twoS (op : Int → Int → Int) (a b : Tn) : Tn × Int := (if pairS a b = 0 then zipT op a b else ⟨[], []⟩, pairS a b)
def opA (x y : Int) : Int := IntKind.i64.wrap (x + y)
def opS (x y : Int) : Int := IntKind.i64.wrap (x - y)
def opM (x y : Int) : Int := IntKind.i64.wrap (x * y)
def scaleS (a : Tn) (n : Int) : Tn × Int := if okTn a then (scaleT a n, 0) else (⟨[], []⟩, 1)
theorem zip_len {a b : Tn} {op : Int → Int → Int} (ha : okTn a) (hb : okTn b) (hd : a.d = b.d) : (zipT op a b).x.length = a.x.length := by
  have h1 := ha.2
  have h2 := hb.2
  rw [hd] at h1
  simp [zipT]; omega
theorem okTn.dims {a b : Tn} (ha : okTn a) (hb : okTn b) (hd : a.d = b.d) : a.x.length = b.x.length := by
  have h1 := ha.2
  have h2 := hb.2
  rw [hd] at h1
  omega
theorem okTn.zeros {a : Tn} (ha : okTn a) : (zerosT a.d).x.length = a.x.length := by
  have h1 := ha.2
  simp [zerosT]; omega
theorem scale_two (a : Tn) (n : Int) : twoS (fun x _ => IntKind.i64.wrap (x * n)) a a = scaleS a n := by
  unfold twoS scaleS
  by_cases h : okTn a
  · have e : pairS a a = 0 := pairS_zero.2 ⟨h, h, rfl⟩
    rw [if_pos h, e, if_pos rfl]
    refine congrArg (fun t => (t, (0 : Int))) ?_
    rw [Tn.ext']
    refine ⟨rfl, ?_⟩
    simp only [zipT, scaleT]
    apply List.ext_getElem (by simp)
    intro i h1 h2; simp
  · have e : pairS a a = 1 := by unfold pairS; rw [if_neg (fun x => h x.1)]
    rw [if_neg h, e, if_neg (by decide)]
section
variable {P : Program} {t : AT} {dst : Option Tmp} {ty : TypeId} {pos : String} {af : Array Edge} {g : Option (Nat × Bool)} {σ : AH} {K : AV → AH → Prop}
theorem D.idx_ri {x i : Operand} {T : TypeId} {b k len : Nat} {kd : IntKind} {j : Int} (hx : t.ev x = some (.ref b k 0 len)) (hi : t.ev i = some (.v (.int kd j))) (h0 : 0 ≤ j) (h1 : j.toNat < len) (hT : elT P T = some k) :
    Det P ⟨dst, .indexAddr T x i, ty, pos, af, g⟩ t (.ptr b j.toNat [] 0) := D.index_r hx hi h0 (by omega) (by simp) hT
theorem D.cut_blk {l : List Int} {x lo hi : Operand} {T : TypeId} {c : Bool} {n i : Nat} {kd kd' : IntKind} (hx : t.ev x = some (.list c 1 (l.map iv))) (hlo : t.ev lo = some (.v (.int kd ((i * n : Nat) : Int)))) (hhi : t.ev hi = some (.v (.int kd' ((i * n + n : Nat) : Int))))
    (hm : i * n + n ≤ l.length) (hT : elT P T = some 1) : Det P ⟨dst, .slice T x (some lo) (some hi) none, ty, pos, af, g⟩ t (ints (blk l n i)) := by
  have h := D.cut_lh (P := P) (dst := dst) (ty := ty) (pos := pos) (af := af) (g := g) (f := iv) hx hlo hhi (Nat.le_add_right _ _) hm hT
  rw [show i * n + n - i * n = n by omega] at h
  exact h
end
theorem wtT_le {l : List Tn} (h : ∀ t ∈ l, t.fit) (hl : l.length ≤ 17592186044416) : wtT l ≤ 4611686018427387904 := by
  have := wtF_le l l.length h
  unfold wtT; omega
theorem err0 {p : Prop} [Decidable p] : (if p then (0 : Int) else 1) = 0 ↔ p := by
  by_cases h : p
  · rw [if_pos h]; exact ⟨fun _ => h, fun _ => rfl⟩
  · rw [if_neg h]; exact ⟨fun e => absurd e (by decide), fun x => absurd x h⟩
theorem scaleS_err (a : Tn) (n : Int) : (scaleS a n).2 = if okTn a then 0 else 1 := by
  unfold scaleS; by_cases h : okTn a
  · rw [if_pos h, if_pos h]
  · rw [if_neg h, if_neg h]
theorem nil_sm : (⟨[], []⟩ : Tn).sm := ⟨by simp, by simp⟩
theorem scaleS_sm (a : Tn) (n : Int) : (scaleS a n).1.sm := by
  unfold scaleS; by_cases h : okTn a
  · rw [if_pos h]; have := h.len; exact ⟨by simp only [scaleT]; omega, by simp only [scaleT, List.length_map]; omega⟩
  · rw [if_neg h]; exact nil_sm
theorem two_sm (op : Int → Int → Int) (a b : Tn) : (twoS op a b).1.sm := by
  simp only [twoS]
  by_cases h : pairS a b = 0
  · obtain ⟨h1, h2, h3⟩ := pairS_zero.1 h
    rw [if_pos h]
    have := zip_len (op := op) h1 h2 h3
    have := h1.len
    exact ⟨by simp only [zipT]; omega, by omega⟩
  · rw [if_neg h]; exact nil_sm
end Go.Proofs.Al
