/- An abstract layer over the walk of Go code, part 12: results that are told of less, or as one's own. -/
import Derived.Test.YtaiccchelchdmaaAlk
namespace Go.Proofs.Al
open Go
set_option linter.unusedVariables false

/-- Cells that tell less. -/
def WkC (x y : AV) : Prop := x.n = y.n ∧ ∀ Φ us, CR Φ x us → CR Φ y us
theorem WkC.refl (x : AV) : WkC x x := ⟨rfl, fun _ _ h => h⟩
theorem WkC.nil {k k' : Nat} {c : Bool} : WkC (.list true k []) (.list c k' []) := ⟨rfl, fun _ _ h => by
  cases h with
  | nil h => exact .nil fun _ => h rfl
  | list hne => exact absurd rfl hne⟩
theorem WkC.nil' {k k' : Nat} {c : Bool} : WkC (.list c k []) (.list false k' []) := ⟨rfl, fun _ _ h => by
  cases h with
  | nil h => exact .nil fun h => by cases h
  | list hne => exact absurd rfl hne⟩
theorem WkC.less {k : Nat} {es : List AV} {c : Bool} : WkC (.list c k es) (.list false k es) := ⟨rfl, fun _ _ h => by
  cases h with
  | nil h => exact .nil fun hc => by cases hc
  | list hne hΦ hc hcap hl hu hn hr hm => exact .list hne hΦ (fun h => by cases h) hcap hl hu hn hr hm⟩
def WkL : List AV → List AV → Prop
  | [], [] => True
  | x :: xs, y :: ys => WkC x y ∧ WkL xs ys
  | _, _ => False
theorem WkL.nL : ∀ {xs ys : List AV}, WkL xs ys → AV.nL xs = AV.nL ys
  | [], [], _ => rfl
  | x :: xs, y :: ys, h => by simp only [AV.nL]; rw [h.1.1, WkL.nL h.2]
theorem WkL.take : ∀ {xs ys : List AV} (i : Nat), WkL xs ys → WkL (xs.take i) (ys.take i)
  | [], [], i, _ => by simp [WkL]
  | _ :: _, _ :: _, 0, _ => trivial
  | x :: xs, y :: ys, i + 1, h => ⟨h.1, WkL.take i h.2⟩
theorem WkL.get : ∀ {xs ys : List AV} {i : Nat} {y : AV}, WkL xs ys → ys[i]? = some y → ∃ x, xs[i]? = some x ∧ WkC x y
  | [], [], _, _, _, h => by simp at h
  | x :: xs, y :: ys, 0, _, h, e => by simp at e; subst e; exact ⟨x, rfl, h.1⟩
  | x :: xs, y :: ys, i + 1, z, h, e => by simp only [List.getElem?_cons_succ] at e ⊢; exact WkL.get h.2 e
theorem WkC.agg {xs ys : List AV} (h : WkL xs ys) : WkC (.agg xs) (.agg ys) := by
  refine ⟨by simp only [AV.n]; exact h.nL, fun Φ us hu => ?_⟩
  cases hu with
  | agg hu hp hr =>
    refine .agg (by rw [hu, h.nL]) hp fun i y hy => ?_
    obtain ⟨x, hx, hk⟩ := h.get hy
    have := hr i x hx
    rw [hk.1, (h.take i).nL] at this
    exact hk.2 _ _ this
def AV.simple : AV → Bool
  | .agg _ | .tup _ => false
  | _ => true
/-- What may be told less of, with its kind. -/
theorem WkC.vr1 {x y : AV} (h : WkC x y) (hs : x.simple = true) (hs' : y.simple = true) {Φ : Phi} {u : Value} (hv : VR1 Φ x u) : VR1 Φ y u := by
  refine .of_cells (h.2 _ _ ?_) fun fs e => by subst e; cases hs'
  cases x <;> first | exact hv | cases hs
theorem WkL.agg1 {xs ys : List AV} (h : WkL xs ys) {Φ : Phi} {u : Value} (hv : VR1 Φ (.agg xs) u) : VR1 Φ (.agg ys) u := by
  obtain ⟨us, h1, rfl⟩ := hv
  exact ⟨us, (WkC.agg h).2 _ _ h1, rfl⟩
/-- One value, of a tuple or by itself, that tells less. -/
def Wk1 (x y : AV) : Prop := ∀ Φ u, VR1 Φ x u → VR1 Φ y u
theorem Wk1.refl (x : AV) : Wk1 x x := fun _ _ h => h
theorem Wk1.agg {xs ys : List AV} (h : WkL xs ys) : Wk1 (.agg xs) (.agg ys) := fun _ _ hv => h.agg1 hv
theorem Wk1.nil {k k' : Nat} {c : Bool} : Wk1 (.list true k []) (.list c k' []) := fun _ _ hv => WkC.nil.vr1 rfl rfl hv
theorem Wk1.nil' {k k' : Nat} {c : Bool} : Wk1 (.list c k []) (.list false k' []) := fun _ _ hv => WkC.nil'.vr1 rfl rfl hv
theorem Wk1.less {k : Nat} {es : List AV} {c : Bool} : Wk1 (.list c k es) (.list false k es) := fun _ _ hv => WkC.less.vr1 rfl rfl hv
def Wk1L : List AV → List AV → Prop
  | [], [] => True
  | x :: xs, y :: ys => Wk1 x y ∧ Wk1L xs ys
  | _, _ => False
theorem Wk1L.get : ∀ {xs ys : List AV} {i : Nat} {y : AV}, Wk1L xs ys → ys[i]? = some y → ∃ x, xs[i]? = some x ∧ Wk1 x y
  | [], [], _, _, _, h => by simp at h
  | x :: xs, y :: ys, 0, _, h, e => by simp at e; subst e; exact ⟨x, rfl, h.1⟩
  | x :: xs, y :: ys, i + 1, z, h, e => by simp only [List.getElem?_cons_succ] at e ⊢; exact Wk1L.get h.2 e
theorem Wk1L.length : ∀ {xs ys : List AV}, Wk1L xs ys → xs.length = ys.length
  | [], [], _ => rfl
  | x :: xs, y :: ys, h => by simp [Wk1L.length h.2]
theorem Wk.tup {xs ys : List AV} (h : Wk1L xs ys) : Wk (.tup xs) (.tup ys) := by
  rintro Φ u ⟨us, rfl, hl, hu⟩
  refine ⟨us, rfl, by rw [hl, h.length], fun i y v hy hv => ?_⟩
  obtain ⟨x, hx, hk⟩ := h.get hy
  exact hk _ _ (hu i x v hx hv)
theorem Wk.one {x y : AV} (h : Wk1 x y) (hx : x.notTup = true) (hy : y.notTup = true) : Wk x y := fun _ _ hv => .of1 (h _ _ (hv.to1 (AV.notTup_spec hx)))
theorem Wk.tup2 {x y e : AV} (h : Wk1 x y) : Wk (.tup [x, e]) (.tup [y, e]) := Wk.tup ⟨h, .refl e, trivial⟩

section
variable {P : Program} {f : FuncId} {args : List AV} {σ : AH} {R R' : AV → AH → Prop}
theorem ACalls.wk (h : ACalls P f args σ R) (hr : ∀ y σ', R y σ' → ∃ y', Wk y y' ∧ R' y' σ') : ACalls P f args σ R' :=
  fun Φ w vs hW hl hv => Calls.mono (h Φ w vs hW hl hv) fun e w' ⟨y, σ', Φ', u, h1, h2, h3, h4, h5⟩ => by
    obtain ⟨y', k1, k2⟩ := hr y σ' h2
    exact ⟨y', σ', Φ', u, h1, k2, h3, h4, k1 _ _ h5⟩
theorem pure_wk {y : AV} (h : ∀ σ, ACalls P f args σ (fun y' σ' => Wk y' y ∧ σ' = σ)) : Pure P f args y := fun σ =>
  (h σ).wk fun y' σ' ⟨h1, h2⟩ => ⟨y, h1, rfl, h2⟩
/-- A result that is nil may be told as one's own. -/
theorem ACalls.own1 (h : ACalls P f args σ R) (hr : ∀ y σ', R y σ' → R' y σ' ∨ ∃ k0 k e, y = .tup [.list true k0 [], e] ∧ ∀ b, σ' b = none → R' (.tup [.ref b k 0 0, e]) (σ'.set b (.row k []))) : ACalls P f args σ R' :=
  fun Φ w vs hW hl hv => Calls.mono (h Φ w vs hW hl hv) fun e w' ⟨y, σ', Φ', u, h1, h2, h3, h4, h5⟩ => by
    rcases hr y σ' h2 with h6 | ⟨k0, k, e, rfl, h6⟩
    · exact ⟨y, σ', Φ', u, h1, h6, h3, h4, h5⟩
    · obtain ⟨b, hb, hσ⟩ := h4.fresh
      obtain ⟨m1, m2⟩ := h4.newVirt (k := k) hb
      refine ⟨_, _, _, u, h1, h6 b hσ, h3.trans m1, m2, ?_⟩
      obtain ⟨us, rfl, hl, hu⟩ := h5
      refine ⟨us, rfl, by simpa using hl, fun i x v hx hv => ?_⟩
      match i with
      | 0 =>
        simp at hx; subst hx
        have := hu 0 _ v rfl hv
        rcases (VR.of1 this).list with ⟨_, A, cap, hA, hc⟩ | ⟨hne, _⟩
        · rw [hA, hc rfl]; exact CR.refz (Phi.addOwn_self ..)
        · exact absurd rfl hne
      | 1 => simp at hx; subst hx; exact (hu 1 _ v rfl hv).mono m1
      | i + 2 => simp at hx
theorem ACalls.own0 (h : ACalls P f args σ R) (hr : ∀ y σ', R y σ' → R' y σ' ∨ ∃ k0 k, y = .list true k0 [] ∧ ∀ b, σ' b = none → R' (.ref b k 0 0) (σ'.set b (.row k []))) : ACalls P f args σ R' :=
  fun Φ w vs hW hl hv => Calls.mono (h Φ w vs hW hl hv) fun e w' ⟨y, σ', Φ', u, h1, h2, h3, h4, h5⟩ => by
    rcases hr y σ' h2 with h6 | ⟨k0, k, rfl, h6⟩
    · exact ⟨y, σ', Φ', u, h1, h6, h3, h4, h5⟩
    · obtain ⟨b, hb, hσ⟩ := h4.fresh
      obtain ⟨m1, m2⟩ := h4.newVirt (k := k) hb
      refine ⟨_, _, _, u, h1, h6 b hσ, h3.trans m1, m2, ?_⟩
      rcases h5.list with ⟨_, A, cap, hA, hc⟩ | ⟨hne, _⟩
      · rw [hA, hc rfl]; exact .of1 (CR.refz (Phi.addOwn_self ..))
      · exact absurd rfl hne
theorem ACalls.own2 (h : ACalls P f args σ R) (hr : ∀ y σ', R y σ' → R' y σ' ∨ ∃ k1 k2 k k' e, y = .tup [.agg [.list true k1 [], .list true k2 []], e] ∧ ∀ b b', σ' b = none → σ' b' = none → b' ≠ b → R' (.tup [.agg [.ref b k 0 0, .ref b' k' 0 0], e]) ((σ'.set b (.row k [])).set b' (.row k' []))) :
    ACalls P f args σ R' :=
  fun Φ w vs hW hl hv => Calls.mono (h Φ w vs hW hl hv) fun e w' ⟨y, σ', Φ', u, h1, h2, h3, h4, h5⟩ => by
    rcases hr y σ' h2 with h6 | ⟨k1, k2, k, k', e, rfl, h6⟩
    · exact ⟨y, σ', Φ', u, h1, h6, h3, h4, h5⟩
    · obtain ⟨b, hb, hσ⟩ := h4.fresh
      obtain ⟨m1, m2⟩ := h4.newVirt (k := k) hb
      obtain ⟨b', hb', hσ'⟩ := m2.fresh
      obtain ⟨m3, m4⟩ := m2.newVirt (k := k') hb'
      have hbb : b' ≠ b := fun e => by subst e; rw [Phi.addOwn_self] at hb'; cases hb'
      refine ⟨_, _, _, u, h1, h6 b b' hσ (by rw [AH.set_ne hbb] at hσ'; exact hσ') hbb, (h3.trans m1).trans m3, m4, ?_⟩
      obtain ⟨us, rfl, hl, hu⟩ := h5
      refine ⟨us, rfl, by simpa using hl, fun i x v hx hv => ?_⟩
      match i with
      | 0 =>
        simp at hx; subst hx
        have h7 := hu 0 _ v rfl hv
        obtain ⟨vs, h8, rfl⟩ := h7
        refine ⟨vs, ?_, rfl⟩
        cases h8 with
        | agg hu hp hr =>
          refine .agg (by simpa [AV.nL, AV.n] using hu) hp fun i x hx => ?_
          have nilOwn : ∀ {k0 kk bb : Nat} {cs : List Value}, CR Φ' (.list true k0 []) cs → ((Φ'.addOwn b .virt).addOwn b' .virt).own bb = some .virt → CR ((Φ'.addOwn b .virt).addOwn b' .virt) (.ref bb kk 0 0) cs := by
            intro k0 kk bb cs hc hbb
            cases hc with
            | nil hc => rw [hc rfl]; exact .refz hbb
            | list hne => exact absurd rfl hne
          match i with
          | 0 =>
            simp at hx; subst hx
            have := hr 0 _ rfl
            simp only [List.take_zero, AV.nL, List.drop_zero, AV.n] at this ⊢
            exact nilOwn this (m3.own _ _ (Phi.addOwn_self ..))
          | 1 =>
            simp at hx; subst hx
            have := hr 1 _ rfl
            simp only [List.take_succ_cons, List.take_zero, AV.nL, AV.n] at this ⊢
            exact nilOwn this (Phi.addOwn_self ..)
          | i + 2 => simp at hx
      | 1 => simp at hx; subst hx; exact ((hu 1 _ v rfl hv).mono m1).mono m3
      | i + 2 => simp at hx
end
section
variable {P : Program} {t : AT} {dst : Option Tmp} {ty : TypeId} {pos : String} {af : Array Edge} {g : Option (Nat × Bool)} {σ : AH} {K : AV → AH → Prop}
/-- Is a slice nil? Of an empty one it is not known. -/
theorem A.eqlNil {x : Operand} {T yt : TypeId} {c : Bool} {k : Nat} {es : List AV} (hx : t.ev x = some (.list c k es)) (hT : isSl P T = true) (hk : ∀ b, (b = true → es = []) → K (bv b) σ) :
    AOp P ⟨dst, .binOp .eql T x (.const (.slice none 0 0)) yt, ty, pos, af, g⟩ t σ K := by
  intro Φ w a hW hO
  obtain ⟨e, he⟩ := isSl_spec hT
  have hv := hO x (by simp [Op.operands]) _ hx
  obtain ⟨A, l, cap, hA, hn⟩ : ∃ A l cap, a.eval x = .slice A l cap ∧ (A = none → es = []) := by
    rcases hv.list with ⟨h1, A, cap, h2, _⟩ | ⟨_, β, o, cap, us, cs, el, fz, h2, _⟩
    · exact ⟨A, 0, cap, h2, fun _ => h1⟩
    · exact ⟨_, _, _, h2, fun h => by cases h⟩
  have hc : a.eval (.const (.slice none 0 0)) = .slice none 0 0 := rfl
  have hr : (Op.equal T (.slice A l cap) (.slice none 0 0)).run P w = .ok A.isNone w := by
    have h : ∀ m, (Op.equalIn (m + 1) T (.slice A l cap) (.slice none 0 0)).run P w = .ok A.isNone w := fun m => by
      cases A <;> simp only [Op.equalIn, Sem.run_bind, run_und he, Result.andThen_ok, Sem.run_pure] <;> rfl
    exact h 9999
  have h1 : (execOp a.eval ⟨dst, .binOp .eql T x (.const (.slice none 0 0)) yt, ty, pos, af, g⟩).run P w = .ok (.value (.bool A.isNone)) w := by
    simp [execOp, hA, hc, eqGuard, binOp, hr]
  unfold Oper.wp
  rw [h1]
  exact ⟨_, σ, Φ, _, rfl, hk A.isNone (fun h => hn (by cases A <;> simp_all)), .refl Φ, hW, .of1 (CR.v rfl)⟩
end
section
variable {P : Program} {n : Nat} {ops : Array Oper} {Q : AT → AH → Prop} {F : Fr} {r : List Stp} {t : AT} {σ : AH} {i : Nat} {d : Tmp} {op : Op} {ty : TypeId} {pos : String} {af : Array Edge}
theorem d_yesC {c : Bool} {g dg : Nat} {want : Bool} (ho : nth ops.toList i = some ⟨some d, op, ty, pos, af, some (g, want)⟩) (hg : (nth ops.toList g).bind (·.dst) = some dg) (hb : t.get dg = some (.v (.bool want)))
    (h : Det P ⟨some d, op, ty, pos, af, some (g, want)⟩ t (.v (.bool c))) (hd : Nat.blt d n = true) (k1 : c = true → ADr P n ops Q F r ((d, .v (.bool true)) :: t) σ) (k2 : c = false → ADr P n ops Q F r ((d, .v (.bool false)) :: t) σ) :
    ADr P n ops Q F (.det i :: r) t σ := by
  cases c
  · exact d_yes ho hg hb h hd (k2 rfl)
  · exact d_yes ho hg hb h hd (k1 rfl)
end
#print axioms ACalls.own2
end Go.Proofs.Al
