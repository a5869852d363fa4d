/- Plain: matrices multiplied. -/
import Derived.Test.YtaiccchelchdmaaAs
namespace Go.Proofs.Al
open Go
set_option linter.unusedVariables false
set_option linter.unusedSimpArgs false
def matD (a b : Tn) : Prop := a.d.length = 2 ∧ b.d.length = 2 ∧ rd a.d 1 = rd b.d 0
instance (a b : Tn) : Decidable (matD a b) := inferInstanceAs (Decidable (_ ∧ _ ∧ _))
def matN (a b : Tn) : Tn := matT (rd a.d 0).toNat (rd a.d 1).toNat (rd b.d 1).toNat a b
def matS (a b : Tn) : Tn × Int := if okTn a ∧ okTn b then (if matD a b then (matN a b, 0) else (⟨[], []⟩, 4)) else (⟨[], []⟩, 1)
theorem matS_e {a b : Tn} (h : okTn a ∧ okTn b) (h' : ¬ matD a b) : matS a b = (⟨[], []⟩, 4) := by rw [matS, if_pos h, if_neg h']
theorem matS_f {a b : Tn} (h : ¬ (okTn a ∧ okTn b)) : matS a b = (⟨[], []⟩, 1) := by rw [matS, if_neg h]
theorem matS_k {a b : Tn} (h : okTn a ∧ okTn b) (h' : matD a b) : matS a b = (matN a b, 0) := by rw [matS, if_pos h, if_pos h']
theorem matN_lit (r m c : Nat) (xa xb : List Int) : matN ⟨[(r : Int), (m : Int)], xa⟩ ⟨[(m : Int), (c : Int)], xb⟩ = matT r m c ⟨[(r : Int), (m : Int)], xa⟩ ⟨[(m : Int), (c : Int)], xb⟩ := rfl
theorem okTn.mat {a : Tn} (h : okTn a) (h2 : a.d.length = 2) : ∃ r c : Nat, ∃ x, a = ⟨[(r : Int), (c : Int)], x⟩ ∧ x.length = r * c ∧ 1 ≤ r ∧ r ≤ 8 ∧ 1 ≤ c ∧ c ≤ 8 := by
  obtain ⟨r, c, hd, h1, h3, h4, h5⟩ := mat_dims h.1 h2
  obtain ⟨d, x⟩ := a
  dsimp only at hd
  subst hd
  refine ⟨r, c, x, rfl, ?_, h1, h3, h4, h5⟩
  have := h.2
  rw [prod2] at this
  exact Int.ofNat_inj.1 this
theorem okTn.lit {r c : Nat} {x : List Int} (h1 : 1 ≤ r) (h3 : r ≤ 8) (h4 : 1 ≤ c) (h5 : c ≤ 8) (hx : x.length = r * c) : okTn ⟨[(r : Int), (c : Int)], x⟩ :=
  ⟨okD2 h1 h3 h4 h5, by rw [prod2]; exact congrArg Int.ofNat hx⟩
theorem matN_ok {a b : Tn} (h : okTn a ∧ okTn b) (h' : matD a b) : okTn (matN a b) ∧ (matN a b).d = [rd a.d 0, rd b.d 1] := by
  obtain ⟨r, m, xa, rfl, hx, h1, h2, h3, h4⟩ := h.1.mat h'.1
  obtain ⟨m', c, xb, rfl, hx', h5, h6, h7, h8⟩ := h.2.mat h'.2.1
  obtain rfl : m = m' := Int.ofNat_inj.1 h'.2.2
  rw [matN_lit]
  exact ⟨okTn.lit h1 h2 h7 h8 (tab_len _ _), rfl⟩
theorem matS_sm (a b : Tn) : (matS a b).1.sm := by
  by_cases h : okTn a ∧ okTn b
  · by_cases h' : matD a b
    · rw [matS_k h h']; exact (matN_ok h h').1.sm
    · rw [matS_e h h']; exact nil_sm
  · rw [matS_f h]; exact nil_sm
theorem fill_zero {A : List Int} {n p : Nat} (hn : A.length = n) (hp : p < n) : (A.take p ++ List.replicate (n - p) (0 : Int)).set p 0 = A.take p ++ List.replicate (n - p) 0 := by
  have h1 := set_fill (A.take p) (n - (p + 1)) 0
  have h2 : (A.take p).length = p := by simp; omega
  rw [h2, show n - (p + 1) + 1 = n - p by omega] at h1
  rw [h1, show n - p = (n - (p + 1)) + 1 by omega, List.replicate_succ, List.append_assoc]; rfl
def oneS (n : Int) : Tn × Int := if 1 ≤ n ∧ n ≤ 8 then (oneT n.toNat, 0) else (⟨[], []⟩, 1)
theorem set_get {l : List Int} {p : Nat} {v : Int} (h : p < l.length) : (l.set p v)[p]? = some v := by rw [List.getElem?_set_self h]
theorem wkNE {t : Tn} {e : Int} (h : t = ⟨[], []⟩) : Wk (.tup [nilT0, iv e]) (.tup [tv t, iv e]) := by
  subst h; exact Wk.tup2 (Wk1.agg ⟨.nil, .nil, trivial⟩)
def powD (a : Tn) : Prop := a.d.length = 2 ∧ rd a.d 0 = rd a.d 1
instance (a : Tn) : Decidable (powD a) := inferInstanceAs (Decidable (_ ∧ _))
def powS (a : Tn) (k : Int) : Tn × Int := if okTn a ∧ 0 ≤ k ∧ k ≤ 1073741824 then (if powD a then (powT (rd a.d 0).toNat a k.toNat, 0) else (⟨[], []⟩, 4)) else (⟨[], []⟩, 1)
theorem powS_f {a : Tn} {k : Int} (h : ¬ (okTn a ∧ 0 ≤ k ∧ k ≤ 1073741824)) : powS a k = (⟨[], []⟩, 1) := by rw [powS, if_neg h]
theorem powS_e {a : Tn} {k : Int} (h : okTn a ∧ 0 ≤ k ∧ k ≤ 1073741824) (h' : ¬ powD a) : powS a k = (⟨[], []⟩, 4) := by rw [powS, if_pos h, if_neg h']
theorem powS_k {a : Tn} {k : Int} (h : okTn a ∧ 0 ≤ k ∧ k ≤ 1073741824) (h' : powD a) : powS a k = (powT (rd a.d 0).toNat a k.toNat, 0) := by rw [powS, if_pos h, if_pos h']
theorem oneS_f {n : Int} (h : ¬ (1 ≤ n ∧ n ≤ 8)) : oneS n = (⟨[], []⟩, 1) := by rw [oneS, if_neg h]
theorem oneS_k {n : Nat} (h : 1 ≤ n) (h' : n ≤ 8) : oneS (n : Int) = (oneT n, 0) := by rw [oneS, if_pos ⟨by omega, by omega⟩]; rfl
theorem powF_lit (n : Nat) : ∀ (f : Nat) (t a : Tn) (k : Nat), t.d = [(n : Int), (n : Int)] → t.x.length = n * n → (powF n f t a k).d = [(n : Int), (n : Int)] ∧ (powF n f t a k).x.length = n * n
  | 0, t, a, k, h, h' => ⟨h, h'⟩
  | f + 1, t, a, k, h, h' => by
    rw [powF]
    split
    · exact ⟨h, h'⟩
    · refine powF_lit n f _ _ _ ?_ ?_
      · split
        · rfl
        · exact h
      · split
        · exact tab_len _ _
        · exact h'
theorem powT_ok {n : Nat} (h : 1 ≤ n) (h' : n ≤ 8) (a : Tn) (k : Nat) : okTn (powT n a k) := by
  obtain ⟨h1, h2⟩ := powF_lit n k (oneT n) a k rfl (tab_len _ _)
  have := okTn.lit h h' h h' h2
  rw [← h1] at this
  exact this
def sqT (t : Tn) (n : Nat) : Tn := ⟨[(n : Int), (n : Int)], tab (n * n) fun i => if t.x.length = 0 then 3 else IntKind.i64.wrap (rdN t.x (i % t.x.length) + (i : Int))⟩
theorem fill2_v (a b : Nat) (v : Int) : (fillT [(a : Int), (b : Int)] v).x = List.replicate (a * b) v := by simp only [fillT, prod2]; rw [show ((a * b : Nat) : Int).toNat = a * b by omega]
theorem sqT_ok (t : Tn) {n : Nat} (h : 1 ≤ n) (h' : n ≤ 8) : okTn (sqT t n) := okTn.lit h h' h h' (tab_len _ _)
theorem oneS_sm (n : Int) : (oneS n).1.sm := by
  by_cases h : 1 ≤ n ∧ n ≤ 8
  · obtain ⟨k, rfl⟩ : ∃ k : Nat, n = (k : Int) := ⟨n.toNat, by omega⟩
    rw [oneS_k (by omega) (by omega)]
    exact (okTn.lit (r := k) (c := k) (x := (oneT k).x) (by omega) (by omega) (by omega) (by omega) (tab_len _ _)).sm
  · rw [oneS_f h]; exact nil_sm
theorem powS_sm (a : Tn) (k : Int) : (powS a k).1.sm := by
  by_cases h : okTn a ∧ 0 ≤ k ∧ k ≤ 1073741824
  · by_cases h' : powD a
    · obtain ⟨r, c, x, rfl, hx, h1, h2, h3, h4⟩ := h.1.mat h'.1
      rw [powS_k h h']; exact (powT_ok h1 h2 _ _).sm
    · rw [powS_e h h']; exact nil_sm
  · rw [powS_f h]; exact nil_sm
end Go.Proofs.Al
