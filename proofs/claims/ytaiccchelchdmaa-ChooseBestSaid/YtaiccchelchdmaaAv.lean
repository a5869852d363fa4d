/- Plain: matrices, their algebra (numbers wrap around). -/
import Derived.Test.YtaiccchelchdmaaAu
namespace Go.Proofs.Al
open Go
set_option linter.unusedVariables false
set_option linter.unusedSimpArgs false
def sumR : Nat → (Nat → Int) → Int
  | 0, _ => 0
  | n + 1, f => sumR n f + f n
theorem sumR_congr {n : Nat} {f g : Nat → Int} (h : ∀ j, j < n → f j = g j) : sumR n f = sumR n g := by
  induction n with
  | zero => rfl
  | succ n ih => rw [sumR, sumR, ih fun j hj => h j (by omega), h n (by omega)]
theorem sumR_add (n : Nat) (f g : Nat → Int) : sumR n (fun j => f j + g j) = sumR n f + sumR n g := by
  induction n with
  | zero => rfl
  | succ n ih => simp only [sumR, ih]; omega
theorem sumR_mul (n : Nat) (f : Nat → Int) (c : Int) : sumR n (fun j => f j * c) = sumR n f * c := by
  induction n with
  | zero => simp [sumR]
  | succ n ih => simp only [sumR, ih, Int.add_mul]
theorem sumR_lmul (n : Nat) (f : Nat → Int) (c : Int) : sumR n (fun j => c * f j) = c * sumR n f := by
  induction n with
  | zero => simp [sumR]
  | succ n ih => simp only [sumR, ih, Int.mul_add]
theorem sumR_zero (n : Nat) : sumR n (fun _ => 0) = 0 := by
  induction n with
  | zero => rfl
  | succ n ih => rw [sumR, ih]; rfl
theorem sumR_comm (n m : Nat) (f : Nat → Nat → Int) : sumR n (fun j => sumR m (fun l => f j l)) = sumR m (fun l => sumR n (fun j => f j l)) := by
  induction n with
  | zero => simp only [sumR]; exact (sumR_zero m).symm
  | succ n ih => simp only [sumR]; rw [ih, ← sumR_add]
abbrev W64 (x : Int) : Int := x.bmod 18446744073709551616
theorem sumR_w {n : Nat} {f g : Nat → Int} (h : ∀ j, j < n → W64 (f j) = W64 (g j)) : W64 (sumR n f) = W64 (sumR n g) := by
  induction n with
  | zero => rfl
  | succ n ih =>
    have h1 := ih fun j hj => h j (by omega)
    have h2 := h n (by omega)
    simp only [sumR]
    rw [W64, ← Int.bmod_add_bmod, ← Int.add_bmod_bmod, show (sumR n f).bmod _ = _ from h1, show (f n).bmod _ = _ from h2, Int.bmod_add_bmod, Int.add_bmod_bmod]
theorem sumR_one {n i : Nat} (hi : i < n) (x : Nat → Int) : sumR n (fun j => (if i = j then 1 else 0) * x j) = x i := by
  induction n with
  | zero => omega
  | succ n ih =>
    rw [sumR]
    by_cases h : i = n
    · subst h
      rw [sumR_congr (g := fun _ => 0) (fun j hj => by rw [if_neg (by omega)]; simp), sumR_zero]; simp
    · rw [ih (by omega), if_neg h]; simp
theorem sumR_one' {n i : Nat} (hi : i < n) (x : Nat → Int) : sumR n (fun j => x j * (if j = i then 1 else 0)) = x i := by
  rw [sumR_congr (g := fun j => (if i = j then 1 else 0) * x j) (fun j _ => by rw [Int.mul_comm]; congr 1; by_cases h : i = j <;> simp [h, Ne.symm, eq_comm])]
  exact sumR_one hi x
theorem fold_mac (m c : Nat) (xa xb : List Int) (p : Nat) : (List.range m).foldl (macF m c xa xb p) 0 = W64 (sumR m (fun j => rdN xa (p / c * m + j) * rdN xb (j * c + p % c))) := by
  have h : ∀ k, (List.range k).foldl (macF m c xa xb p) 0 = W64 (sumR k (fun j => rdN xa (p / c * m + j) * rdN xb (j * c + p % c))) := by
    intro k
    induction k with
    | zero => rfl
    | succ k ih =>
      rw [List.range_succ, List.foldl_append, ih]
      simp only [List.foldl_cons, List.foldl_nil, macF, sumR, wb, W64, Int.bmod_add_bmod, Int.add_bmod_bmod]
  exact h m
/-- The number in row i and column k of a matrix of c columns. -/
def ent (X : Tn) (c i k : Nat) : Int := rdN X.x (i * c + k)
theorem rdN_tab {n : Nat} {f : Nat → Int} {j : Nat} (h : j < n) : rdN (tab n f) j = f j := by
  rw [rdN_get (by rw [tab_len]; exact h), tab_getE]
theorem ent_mat {r m c : Nat} {a b : Tn} {i k : Nat} (hi : i < r) (hk : k < c) : ent (matT r m c a b) c i k = W64 (sumR m (fun j => ent a m i j * ent b c j k)) := by
  obtain ⟨q1, q2⟩ := divmod (i := i) hk
  rw [ent, matT, rdN_tab (pos_lt hi hk), fold_mac, q1, q2]; rfl
theorem ent_one {n i k : Nat} (hi : i < n) (hk : k < n) : ent (oneT n) n i k = if i = k then 1 else 0 := by
  obtain ⟨q1, q2⟩ := divmod (i := i) hk
  rw [ent, oneT, rdN_tab (pos_lt hi hk), q1, q2]
theorem ent_turn {r c : Nat} {a : Tn} {i k : Nat} (hi : i < c) (hk : k < r) : ent (turnT r c a) r i k = ent a c k i := by
  obtain ⟨q1, q2⟩ := divmod (i := i) hk
  rw [ent, turnT, rdN_tab (pos_lt hi hk), q1, q2]; rfl
/-- A matrix of r rows and c columns. -/
structure Mx (r c : Nat) (X : Tn) : Prop where
  d : X.d = [(r : Int), (c : Int)]
  n : X.x.length = r * c
theorem Mx.ext {r c : Nat} {X Y : Tn} (hX : Mx r c X) (hY : Mx r c Y) (h : ∀ i k, i < r → k < c → ent X c i k = ent Y c i k) : X = Y := by
  refine Tn.ext'.2 ⟨hX.d.trans hY.d.symm, List.ext_getElem (hX.n.trans hY.n.symm) fun p h1 h2 => ?_⟩
  have hp : p < r * c := by have := hX.n; omega
  have hc : 0 < c := by
    rcases Nat.eq_zero_or_pos c with h | h
    · subst h; omega
    · exact h
  have e : p / c * c + p % c = p := Nat.div_add_mod' p c
  have := h (p / c) (p % c) (Nat.div_lt_of_lt_mul (by rw [Nat.mul_comm]; exact hp)) (Nat.mod_lt _ hc)
  simp only [ent, e] at this
  rwa [rdN_get h1, rdN_get h2] at this
theorem Mx.mat (r m c : Nat) (a b : Tn) : Mx r c (matT r m c a b) := ⟨rfl, tab_len _ _⟩
theorem Mx.one (n : Nat) : Mx n n (oneT n) := ⟨rfl, tab_len _ _⟩
theorem Mx.turn (r c : Nat) (a : Tn) : Mx c r (turnT r c a) := ⟨rfl, tab_len _ _⟩
theorem Mx.lit {r c : Nat} {x : List Int} (h : x.length = r * c) : Mx r c ⟨[(r : Int), (c : Int)], x⟩ := ⟨rfl, h⟩
theorem Mx.eta {r c : Nat} {X : Tn} (h : Mx r c X) : X = ⟨[(r : Int), (c : Int)], X.x⟩ := Tn.ext'.2 ⟨h.d, rfl⟩
theorem Mx.ok {r c : Nat} {X : Tn} (h : Mx r c X) (h1 : 1 ≤ r) (h2 : r ≤ 8) (h3 : 1 ≤ c) (h4 : c ≤ 8) : okTn X := by
  rw [h.eta]; exact okTn.lit h1 h2 h3 h4 h.n
/-- Its numbers are the machine's. -/
def inT (X : Tn) : Prop := ∀ x ∈ X.x, inI x
theorem ent_in {X : Tn} (h : inT X) {c i k : Nat} (hp : i * c + k < X.x.length) : W64 (ent X c i k) = ent X c i k := by
  rw [ent, rdN_get hp]; exact wbI (h _ (List.getElem_mem hp))
theorem one_mat {r c : Nat} {a : Tn} (ha : Mx r c a) (h : inT a) : matT r r c (oneT r) a = a := by
  refine Mx.ext (Mx.mat ..) ha fun i k hi hk => ?_
  rw [ent_mat hi hk, sumR_congr (g := fun j => (if i = j then 1 else 0) * ent a c j k) (fun j hj => by rw [ent_one hi hj]), sumR_one hi]
  exact ent_in h (by rw [ha.n]; exact pos_lt hi hk)
theorem mat_one {r c : Nat} {a : Tn} (ha : Mx r c a) (h : inT a) : matT r c c a (oneT c) = a := by
  refine Mx.ext (Mx.mat ..) ha fun i k hi hk => ?_
  rw [ent_mat hi hk, sumR_congr (g := fun j => ent a c i j * (if j = k then 1 else 0)) (fun j hj => by rw [ent_one hj hk]), sumR_one' hk (fun j => ent a c i j)]
  exact ent_in h (by rw [ha.n]; exact pos_lt hi hk)
theorem W_mul (x y : Int) : W64 (W64 x * y) = W64 (x * y) := Int.bmod_mul_bmod ..
theorem W_mul' (x y : Int) : W64 (x * W64 y) = W64 (x * y) := Int.mul_bmod_bmod ..
theorem mat_assoc {r m c e : Nat} (a b d : Tn) : matT r c e (matT r m c a b) d = matT r m e a (matT m c e b d) := by
  refine Mx.ext (Mx.mat ..) (Mx.mat ..) fun i k hi hk => ?_
  rw [ent_mat hi hk, ent_mat hi hk]
  rw [sumR_w (g := fun j => sumR m (fun l => ent a m i l * ent b c l j * ent d e j k)) (fun j hj => by rw [ent_mat hi hj, W_mul, sumR_mul])]
  rw [sumR_w (f := fun j => ent a m i j * ent (matT m c e b d) e j k) (g := fun l => sumR c (fun j => ent a m i l * ent b c l j * ent d e j k)) (fun l hl => by
    rw [ent_mat hl hk, W_mul', ← sumR_lmul]; exact congrArg W64 (sumR_congr fun j _ => (Int.mul_assoc ..).symm))]
  rw [sumR_comm]
theorem Mx.zip {r c : Nat} {a b : Tn} {op : Int → Int → Int} (ha : Mx r c a) (hb : Mx r c b) : Mx r c (zipT op a b) := ⟨ha.d, by simp [zipT, ha.n, hb.n]⟩
theorem ent_add {r c : Nat} {a b : Tn} (ha : Mx r c a) (hb : Mx r c b) {i k : Nat} (hi : i < r) (hk : k < c) : ent (zipT opA a b) c i k = W64 (ent a c i k + ent b c i k) := by
  have h1 : i * c + k < a.x.length := by rw [ha.n]; exact pos_lt hi hk
  have h2 : i * c + k < b.x.length := by rw [hb.n]; exact pos_lt hi hk
  rw [ent, rdN_get (by rw [(ha.zip hb).n]; exact pos_lt hi hk)]
  simp only [zipT, List.getElem_zipWith, opA, wb, ent, rdN_get h1, rdN_get h2]
theorem mat_add {r m c : Nat} {a b d : Tn} (hb : Mx m c b) (hd : Mx m c d) : matT r m c a (zipT opA b d) = zipT opA (matT r m c a b) (matT r m c a d) := by
  refine Mx.ext (Mx.mat ..) ((Mx.mat ..).zip (Mx.mat ..)) fun i k hi hk => ?_
  rw [ent_mat hi hk, ent_add (Mx.mat ..) (Mx.mat ..) hi hk, ent_mat hi hk, ent_mat hi hk]
  rw [sumR_w (g := fun j => ent a m i j * ent b c j k + ent a m i j * ent d c j k) (fun j hj => by rw [ent_add hb hd hj hk, W_mul', Int.mul_add]), sumR_add]
  simp only [W64, Int.bmod_add_bmod, Int.add_bmod_bmod]
theorem mat_turn {r m c : Nat} (a b : Tn) : turnT r c (matT r m c a b) = matT c m r (turnT m c b) (turnT r m a) := by
  refine Mx.ext (Mx.turn ..) (Mx.mat ..) fun i k hi hk => ?_
  rw [ent_turn hi hk, ent_mat hk hi, ent_mat hi hk]
  exact sumR_w fun j hj => by rw [ent_turn hi hj, ent_turn hj hk, Int.mul_comm]
theorem inT_mat (r m c : Nat) (a b : Tn) : inT (matT r m c a b) := fun x hx => by
  obtain ⟨p, hp, rfl⟩ := List.getElem_of_mem hx
  simp only [matT] at hp ⊢
  rw [tab_getE, fold_mac, W64, ← wb]; exact wI _
theorem pow_zero (n : Nat) (a : Tn) : powT n a 0 = oneT n := rfl
theorem pow_one {n : Nat} {a : Tn} (ha : Mx n n a) (h : inT a) : powT n a 1 = a := by
  show powF n 1 (oneT n) a 1 = a
  rw [powF, if_neg (by decide), if_pos (by decide), powF, one_mat ha h]
theorem pow_two {n : Nat} {a : Tn} : powT n a 2 = matT n n n a a := by
  show powF n 2 (oneT n) a 2 = _
  rw [powF, if_neg (by decide), if_neg (by decide), powF, if_neg (by decide), if_pos (by decide), powF, one_mat (Mx.mat _ _ _ _ _) (inT_mat _ _ _ _ _)]
theorem pow_three {n : Nat} {a : Tn} (ha : Mx n n a) (h : inT a) : powT n a 3 = matT n n n a (matT n n n a a) := by
  show powF n 3 (oneT n) a 3 = _
  rw [powF, if_neg (by decide), if_pos (by decide), powF, if_neg (by decide), if_pos (by decide), powF, if_pos (by decide), one_mat ha h]
theorem pow_five {n : Nat} {a : Tn} (ha : Mx n n a) (h : inT a) : powT n a 5 = matT n n n a (matT n n n (matT n n n a a) (matT n n n a a)) := by
  show powF n 5 (oneT n) a 5 = _
  rw [powF, if_neg (by decide), if_pos (by decide), powF, if_neg (by decide), if_neg (by decide), powF, if_neg (by decide), if_pos (by decide), powF, if_pos (by decide), one_mat ha h]
theorem pow_add5 {n : Nat} {a : Tn} (ha : Mx n n a) (h : inT a) : powT n a 5 = matT n n n (powT n a 2) (powT n a 3) := by
  rw [pow_five ha h, pow_two, pow_three ha h]
  rw [← mat_assoc a (matT n n n a a) (matT n n n a a), ← mat_assoc (matT n n n a a) a (matT n n n a a), mat_assoc a a a]
/-! ### other dims -/
def turnS (a : Tn) : Tn × Int := if okTn a then (if a.d.length = 2 then (turnT (rd a.d 0).toNat (rd a.d 1).toNat a, 0) else (⟨[], []⟩, 4)) else (⟨[], []⟩, 1)
theorem turnS_f {a : Tn} (h : ¬ okTn a) : turnS a = (⟨[], []⟩, 1) := by rw [turnS, if_neg h]
theorem turnS_e {a : Tn} (h : okTn a) (h' : a.d.length ≠ 2) : turnS a = (⟨[], []⟩, 4) := by rw [turnS, if_pos h, if_neg h']
theorem turnS_k {r c : Nat} {x : List Int} (h : okTn ⟨[(r : Int), (c : Int)], x⟩) : turnS ⟨[(r : Int), (c : Int)], x⟩ = (turnT r c ⟨[(r : Int), (c : Int)], x⟩, 0) := by rw [turnS, if_pos h]; rfl
theorem turnS_sm (a : Tn) : (turnS a).1.sm := by
  by_cases h : okTn a
  · by_cases h' : a.d.length = 2
    · obtain ⟨r, c, x, rfl, hx, h1, h2, h3, h4⟩ := h.mat h'
      rw [turnS_k h]; exact ((Mx.turn r c _).ok h3 h4 h1 h2).sm
    · rw [turnS_e h h']; exact nil_sm
  · rw [turnS_f h]; exact nil_sm
/-- What a tensor is in other dims: whether it may, and what. -/
def wayS (p q : Prop) [Decidable p] [Decidable q] (t : Tn) : Tn × Int := if p then (if q then (t, 0) else (⟨[], []⟩, 4)) else (⟨[], []⟩, 1)
theorem wayS_k {p q : Prop} [Decidable p] [Decidable q] {t : Tn} (h : p) (h' : q) : wayS p q t = (t, 0) := by rw [wayS, if_pos h, if_pos h']
theorem wayS_e {p q : Prop} [Decidable p] [Decidable q] {t : Tn} (h : p) (h' : ¬ q) : wayS p q t = (⟨[], []⟩, 4) := by rw [wayS, if_pos h, if_neg h']
theorem wayS_f {p q : Prop} [Decidable p] [Decidable q] {t : Tn} (h : ¬ p) : wayS p q t = (⟨[], []⟩, 1) := by rw [wayS, if_neg h]
theorem wayS_sm {p q : Prop} [Decidable p] [Decidable q] {t : Tn} (h : p → q → t.sm) : (wayS p q t).1.sm := by
  by_cases hp : p
  · by_cases hq : q
    · rw [wayS_k hp hq]; exact h hp hq
    · rw [wayS_e hp hq]; exact nil_sm
  · rw [wayS_f hp]; exact nil_sm
abbrev shapeS (a : Tn) (d : List Int) : Tn × Int := wayS (okTn a ∧ okD d) (prod d = (a.x.length : Int)) ⟨d, a.x⟩
abbrev wideS (a : Tn) (d : List Int) : Tn × Int := wayS (okTn a ∧ okD d) (growsD a.d d) (wideT a d)
abbrev sumS (a : Tn) (d : List Int) : Tn × Int := wayS (okTn a ∧ okD d) (growsD d a.d) (sumT a d)
theorem wideT_ok {a : Tn} {d : List Int} (hd : okD d) : okTn (wideT a d) := ⟨hd, by
  have := prod_pos hd.2.2.1
  simp only [wideT, tab_len]; omega⟩
theorem sumT_ok {a : Tn} {d : List Int} (hd : okD d) : okTn (sumT a d) := ⟨hd, by
  have := prod_pos hd.2.2.1
  simp only [sumT, sumG_len, List.length_replicate]; omega⟩
theorem shapeS_sm (a : Tn) (d : List Int) : (shapeS a d).1.sm := wayS_sm fun h h' => (show okTn ⟨d, a.x⟩ from ⟨h.2, h'.symm⟩).sm
theorem wideS_sm (a : Tn) (d : List Int) : (wideS a d).1.sm := wayS_sm fun h _ => (wideT_ok h.2).sm
theorem sumS_sm (a : Tn) (d : List Int) : (sumS a d).1.sm := wayS_sm fun h _ => (sumT_ok h.2).sm
end Go.Proofs.Al
