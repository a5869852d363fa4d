/- Slots frozen, deeper; and the sum of products of what is laid out wider. -/
import Derived.Test.YtpjcidlkdfebhaaAw
namespace Go.Proofs.Al
open Go
set_option linter.unusedVariables false
set_option linter.unusedSimpArgs false
/-- What y tells is x once the own memory that ρ does not know is written no more. -/
def Fz (σ ρ : AH) (y x : AV) : Prop := ∀ Φ Φ', Phi.le Φ Φ' → (∀ a a', Pz σ ρ a a' → ∀ us, CR Φ a us → CR Φ' a' us) → ∀ u, VR Φ y u → VR Φ' x u
theorem Fz.refl {σ ρ : AH} (x : AV) : Fz σ ρ x x := fun Φ Φ' hle _ u hv => hv.mono hle
theorem Fz.pz {σ ρ : AH} {x y : AV} (h : Pz σ ρ y x) : Fz σ ρ y x := fun Φ Φ' hle hf u hv => h.vr' hle hf hv
theorem Fz.iptr {σ ρ : AH} {x y : AV} (h : Pz σ ρ y x) : Fz σ ρ (.iptr y) (.iptr x) := fun Φ Φ' hle hf u hv => by
  simp only [VR, VR1] at hv ⊢
  cases hv with
  | iptr hΦ hr hm => exact .iptr (hle.obj _ _ hΦ) (hf _ _ h _ hr) hm
def AT.subx (σ ρ : AH) : AT → AT → Prop
  | [], _ => True
  | (d, x) :: r, t => (∃ y, t.get d = some y ∧ Fz σ ρ y x) ∧ AT.subx σ ρ r t
theorem AT.subx.tr {Φ Φ' : Phi} {σ ρ : AH} {n : Nat} {a : Act} (hle : Φ.le Φ') (hf : ∀ a a', Pz σ ρ a a' → ∀ us, CR Φ a us → CR Φ' a' us) : ∀ {s t : AT}, AT.subx σ ρ s t → TR Φ n t a → TR Φ' n s a
  | [], _, _, ht => ⟨ht.1, fun d x hx => by simp [AT.get] at hx⟩
  | (d, x) :: r, t, h, ht => by
    obtain ⟨⟨y, h1, h2⟩, h3⟩ := h
    refine ⟨ht.1, fun e z hz => ?_⟩
    by_cases hde : d = e
    · subst hde; rw [AT.get_cons_self] at hz; cases hz; exact h2 _ _ hle hf _ (ht.2 _ _ h1)
    · rw [AT.get_cons_ne hde] at hz; exact (AT.subx.tr hle hf h3 ht).2 e z hz
theorem AT.subx.nil {σ ρ : AH} {t : AT} : AT.subx σ ρ [] t := trivial
theorem AT.subx.cons {σ ρ : AH} {d : Nat} {x : AV} {s t : AT} (h : t.get d = some x) (k : AT.subx σ ρ s t) : AT.subx σ ρ ((d, x) :: s) t := ⟨⟨x, h, .refl x⟩, k⟩
theorem AT.subx.fz {σ ρ : AH} {d : Nat} {x y : AV} {s t : AT} (h : t.get d = some y) (hf : Fz σ ρ y x) (k : AT.subx σ ρ s t) : AT.subx σ ρ ((d, x) :: s) t := ⟨⟨y, h, hf⟩, k⟩
theorem afreezex {P : Program} {n : Nat} {Q : Exit → AT → AH → Prop} {t : AT} {σ : AH} {c : Code} (s : AT) (ρ : AH) (hs : Sub ρ σ) (ht : AT.subx σ ρ s t) (h : AWp P n c Q s ρ) : AWp P n c Q t σ := by
  intro Φ w a hW hT hd
  obtain ⟨Φ', m1, m2, m3⟩ := freeze hW hs
  exact Go.wp_mono (h Φ' w a m2 (ht.tr m1 m3 hT) hd) fun _ _ _ hp => hp.mono m1 fun _ _ _ h => h
/-! ### sums of products -/
def dI (x y : List Int) : Int := sumI (List.zipWith (· * ·) x y)
theorem sumI_cons (u : Int) (l : List Int) : sumI (u :: l) = u + sumI l := rfl
theorem dI_cons (a b : Int) (x y : List Int) : dI (a :: x) (b :: y) = a * b + dI x y := rfl
theorem dI_nil (y : List Int) : dI [] y = 0 := by simp [dI, sumI]
theorem dI_nil' (x : List Int) : dI x [] = 0 := by simp [dI, sumI]
theorem W_add (x y : Int) : W64 (W64 x + y) = W64 (x + y) := Int.bmod_add_bmod ..
theorem W_add' (x y : Int) : W64 (x + W64 y) = W64 (x + y) := Int.add_bmod_bmod ..
theorem sumW_M : ∀ (x y : List Int), sumW (List.zipWith opM x y) = W64 (dI x y) := by
  intro x y
  rw [sumW_eq]
  show W64 _ = _
  induction x generalizing y with
  | nil => simp [dI]
  | cons a x ih =>
    cases y with
    | nil => simp [dI]
    | cons b y =>
      rw [List.zipWith_cons_cons, sumI_cons, dI_cons, opM, wb, ← W_add', ih]
      show W64 (W64 (a * b) + W64 (dI x y)) = _
      rw [W_add, W_add']
theorem dI_set : ∀ {a acc : List Int} {k : Nat} {v : Int} (h : k < acc.length) (h' : k < a.length), dI a (acc.set k v) = dI a acc + a[k] * (v - acc[k])
  | [], _, k, v, _, h' => by simp at h'
  | _ :: _, [], k, v, h, _ => by simp at h
  | a :: as, c :: cs, 0, v, h, h' => by
    simp only [List.set_cons_zero, dI_cons, List.getElem_cons_zero, Int.mul_sub]; omega
  | a :: as, c :: cs, k + 1, v, h, h' => by
    simp only [List.set_cons_succ, dI_cons, List.getElem_cons_succ]
    rw [dI_set (by simpa using h) (by simpa using h')]; omega
def wS (a e d : List Int) : List Int → Nat → Int
  | [], _ => 0
  | x :: l, i => rd a (lowN e d (i : Int)) * x + wS a e d l (i + 1)
theorem dot_sum {a e d : List Int} : ∀ (l : List Int) (i : Nat) (acc : List Int), acc.length = a.length → (∀ m, i ≤ m → m < i + l.length → 0 ≤ lowN e d (m : Int) ∧ (lowN e d (m : Int)).toNat < a.length) →
    W64 (dI a (sumG e d l i acc)) = W64 (dI a acc + wS a e d l i)
  | [], i, acc, _, _ => by simp [sumG, wS]
  | x :: l, i, acc, hl, hr => by
    obtain ⟨h0, h1⟩ := hr i (Nat.le_refl _) (by simp)
    have h2 : (lowN e d (i : Int)).toNat < acc.length := by omega
    rw [sumG, dot_sum l (i + 1) _ (by rw [List.length_set]; exact hl) (fun m hm hm' => hr m (by omega) (by simp only [List.length_cons]; omega)), dI_set h2 h1, wS, rd_toNat h2, rd_toNat h1, wb]
    generalize a[(lowN e d (i : Int)).toNat] = p
    generalize acc[(lowN e d (i : Int)).toNat] = q
    generalize wS a e d l (i + 1) = s
    generalize dI a acc = u
    have e1 : W64 (p * ((q + x).bmod 18446744073709551616 - q)) = W64 (p * x) := by
      rw [W64, ← Int.mul_bmod_bmod, Int.bmod_sub_bmod, Int.mul_bmod_bmod]
      congr 2; omega
    have e2 : u + p * ((q + x).bmod 18446744073709551616 - q) + s = (u + s) + p * ((q + x).bmod 18446744073709551616 - q) := by omega
    rw [e2, ← W_add', e1, W_add']
    congr 1; omega
theorem wide_sum {a e d : List Int} : ∀ (l : List Int) (i : Nat), dI ((List.range' i l.length).map fun (m : Nat) => rd a (lowN e d (m : Int))) l = wS a e d l i
  | [], i => by simp [dI, wS, sumI]
  | x :: l, i => by
    rw [List.length_cons, List.range'_succ, List.map_cons, dI_cons, wide_sum l (i + 1), wS]
theorem dot_wide {a : Tn} {d b : List Int} (ha : okTn a) (hd : okD d) (hg : growsD a.d d) (hb : b.length = (prod d).toNat) : sumW (List.zipWith opM (wideT a d).x b) = sumW (List.zipWith opM a.x (sumT ⟨d, b⟩ a.d).x) := by
  have h1 := prod_pos ha.1.2.2.1
  have h2 := prod_pos hd.2.2.1
  have h3 := ha.2
  have hN : (List.replicate (prod a.d).toNat (0 : Int)).length = a.x.length := by simp; omega
  rw [sumW_M, sumW_M]
  simp only [wideT, sumT, tab]
  rw [List.range_eq_range', ← hb, wide_sum, dot_sum b 0 _ hN (fun m hm hm' => by
    have := low_range ha.1.2.2.1 hd.2.2.1 hg (n := (m : Int)) (by omega) (by omega)
    omega)]
  have hz : ∀ (x : List Int) (n : Nat), dI x (List.replicate n 0) = 0 := by
    intro x
    induction x with
    | nil => intro n; exact dI_nil _
    | cons c x ih =>
      intro n
      cases n with
      | zero => exact dI_nil' _
      | succ n => rw [List.replicate_succ, dI_cons, ih]; simp
  rw [hz, Int.zero_add]
def dotB (w : Tn) : Tn := ⟨w.d, tab w.x.length fun j => IntKind.i64.wrap (IntKind.i64.wrap (rdN w.x j * 3) + ((j * j : Nat) : Int))⟩
theorem dotB_len (w : Tn) : (dotB w).x.length = w.x.length := tab_len _ _
theorem dotB_ok {w : Tn} (h : okTn w) : okTn (dotB w) := ⟨h.1, by rw [dotB_len]; exact h.2⟩
theorem turn_turn {r c : Nat} {a : Tn} (ha : Mx r c a) : turnT c r (turnT r c a) = a :=
  Mx.ext (Mx.turn ..) ha fun i k hi hk => by rw [ent_turn hi hk, ent_turn hk hi]
theorem wayS_zero {p q : Prop} [Decidable p] [Decidable q] {t : Tn} (h : (wayS p q t).2 = 0) : p ∧ q := by
  by_cases hp : p
  · by_cases hq : q
    · exact ⟨hp, hq⟩
    · rw [wayS_e hp hq] at h; exact absurd h (by decide)
  · rw [wayS_f hp] at h; exact absurd h (by decide)
theorem turnS_zero {a : Tn} (h : (turnS a).2 = 0) : okTn a ∧ a.d.length = 2 := by
  by_cases hp : okTn a
  · by_cases hq : a.d.length = 2
    · exact ⟨hp, hq⟩
    · rw [turnS_e hp hq] at h; exact absurd h (by decide)
  · rw [turnS_f hp] at h; exact absurd h (by decide)
theorem turnS_mx {r c : Nat} {X : Tn} (h : Mx r c X) (h1 : 1 ≤ r) (h2 : r ≤ 8) (h3 : 1 ≤ c) (h4 : c ≤ 8) : turnS X = (turnT r c X, 0) := by
  rw [turnS, if_pos (h.ok h1 h2 h3 h4), h.d]; rfl
end Go.Proofs.Al
