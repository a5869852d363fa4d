/- An abstract layer over the walk of Go code, part 13: what only computes numbers may read what is one's own. -/
import Derived.Test.YtaiccchelchdmaaAq
namespace Go.Proofs.Al
open Go
/-- A result without memory. -/
def AV.scalar : AV → Bool
  | .v _ => true
  | .tup vs => vs.all fun x => match x with | .v _ => true | _ => false
  | _ => false
theorem VR.scalar {Φ Φ' : Phi} {y : AV} {u : Value} (hs : y.scalar = true) (h : VR Φ y u) : VR Φ' y u := by
  have one : ∀ (x u : Value), VR1 Φ (.v x) u → VR1 Φ' (.v x) u := fun x u h => by
    simp only [VR1] at h ⊢
    cases h with | v h => exact .v h
  cases y <;> try cases hs
  case v x => exact .of1 (one x u (h.to1 (fun vs e => by cases e)))
  case tup vs =>
    obtain ⟨us, h1, h2, h3⟩ := h
    refine ⟨us, h1, h2, fun i x z hx hz => ?_⟩
    have hx' := List.all_eq_true.1 hs x (List.mem_of_getElem? hx)
    cases x <;> try cases hx'
    exact one _ _ (h3 i _ z hx hz)
open Classical in
theorem Pure.reads {P : Program} {f : FuncId} {args args' : List AV} {y : AV} (hp : Pure P f args' y) (hy : y.scalar = true) {σ : AH} (hl : args.length = args'.length)
    (ha : ∀ (i : Nat) x x', args[i]? = some x → args'[i]? = some x' → Pz σ (fun _ => none) x x') : ACalls P f args σ (fun y' σ' => y' = y ∧ σ' = σ) := by
  intro Φ w vs hW hvl hv
  obtain ⟨Φ1, m1, m2, m3, m4⟩ := freezeX hW (Sub.none σ)
  refine Calls.mono (hp (fun _ => none) Φ1 w vs m2 (by rw [hvl, hl]) fun i x' u hx' hu => ?_) ?_
  · obtain ⟨x, hx⟩ := get_of_len hl hx'
    exact (ha i x x' hx hx').vr' m1 m3 (hv i x u hx hu)
  · rintro e w' ⟨y', σ', Φ2, u, rfl, ⟨rfl, rfl⟩, hle, hW2, hvr⟩
    let F : Nat → Prop := fun β => ∃ b x l, σ b = some x ∧ Φ.own b = some l ∧ l.blk? = some β
    let Φ3 : Phi := { Φ2 with obj := fun β => if F β then none else Φ2.obj β }
    have h12 := m1.trans hle
    have hnF : ∀ β o, Φ.obj β = some o → ¬ F β := by
      rintro β o ho ⟨b, x, l, h1, h2, h3⟩
      cases hW.own b x h1 with
      | virt h => rw [h] at h2; cases h2; cases h3
      | row h _ _ _ h4 _ _ => rw [h] at h2; cases h2; cases h3; rw [h4] at ho; cases ho
      | map h _ h4 _ => rw [h] at h2; cases h2; cases h3; rw [h4] at ho; cases ho
    have hle3 : Φ.le Φ3 := ⟨fun β o ho => by
      show (if F β then none else Φ2.obj β) = some o
      rw [if_neg (hnF β o ho)]; exact h12.obj _ _ ho, h12.own, h12.os, h12.tape, h12.output⟩
    have hsame : ∀ b x l β, σ b = some x → Φ.own b = some l → l.blk? = some β → ∀ o, w.heap[β]? = some o → w'.heap[β]? = some o := fun b x l β h1 h2 h3 o ho =>
      hW2.obj β o (hle.obj β o (by rw [m4 b x l β h1 rfl h2 h3]; exact ho))
    refine ⟨y', σ, Φ3, u, rfl, ⟨rfl, rfl⟩, hle3, ⟨fun β o ho => ?_, fun b x hx => ?_, ?_, hW2.fin, hW2.os, hW2.tape, hW2.output⟩, hvr.scalar hy⟩
    · replace ho : (if F β then none else Φ2.obj β) = some o := ho
      split at ho
      · cases ho
      · exact hW2.obj β o ho
    · cases hW.own b x hx with
      | virt h => exact .virt (hle3.own _ _ h)
      | row h hw hsz hfz ho hr hm => exact .row (hle3.own _ _ h) (hsame b _ _ _ hx h rfl _ hw) hsz hfz (if_pos ⟨b, _, _, hx, h, rfl⟩) (hr.mono hle3) hm
      | map h hw ho hr =>
        refine .map (hle3.own _ _ h) (hsame b _ _ _ hx h rfl _ hw) (if_pos ⟨b, _, _, hx, h, rfl⟩) ?_
        exact ⟨hr.1, fun i e p he hp => ⟨(hr.2.1 i e p he hp).1, (hr.2.1 i e p he hp).2.mono hle3⟩, hr.2.2⟩
    · intro b b' x x' l l' β hx hx' h1 h2 h3 h4
      obtain ⟨k, hk⟩ := (hW.own b x hx).loc
      obtain ⟨k', hk'⟩ := (hW.own b' x' hx').loc
      have e1 : Φ2.own b = some k := h12.own _ _ hk
      have e2 : Φ2.own b' = some k' := h12.own _ _ hk'
      have e3 : l = k := by have : Φ2.own b = some l := h1; rw [e1] at this; cases this; rfl
      have e4 : l' = k' := by have : Φ2.own b' = some l' := h2; rw [e2] at this; cases this; rfl
      subst e3; subst e4
      exact hW.inj b b' x x' l l' β hx hx' hk hk' h3 h4
theorem pz1 {σ ρ : AH} {a a' : AV} (h : Pz σ ρ a a') : ∀ (i : Nat) x x', [a][i]? = some x → [a'][i]? = some x' → Pz σ ρ x x' := fun i x x' hx hx' => by
  match i with
  | 0 => simp at hx hx'; subst hx; subst hx'; exact h
  | i + 1 => simp at hx
theorem pz2 {σ ρ : AH} {a a' b b' : AV} (h : Pz σ ρ a a') (k : Pz σ ρ b b') : ∀ (i : Nat) x x', [a, b][i]? = some x → [a', b'][i]? = some x' → Pz σ ρ x x' := fun i x x' hx hx' => by
  match i with
  | 0 => simp at hx hx'; subst hx; subst hx'; exact h
  | i + 1 => exact pz1 k i x x' (by simpa using hx) (by simpa using hx')
theorem pz3 {σ ρ : AH} {a a' b b' c c' : AV} (h : Pz σ ρ a a') (k : Pz σ ρ b b') (l : Pz σ ρ c c') : ∀ (i : Nat) x x', [a, b, c][i]? = some x → [a', b', c'][i]? = some x' → Pz σ ρ x x' := fun i x x' hx hx' => by
  match i with
  | 0 => simp at hx hx'; subst hx; subst hx'; exact h
  | i + 1 => exact pz2 k l i x x' (by simpa using hx) (by simpa using hx')
theorem Pz.ten {σ ρ : AH} {b c : Nat} {t : Tn} (hb : σ b = some (rowI t.d)) (hc : σ c = some (rowI t.x)) (hρb : ρ b = none) (hρc : ρ c = none) : Pz σ ρ (.agg [.ref b 1 0 t.d.length, .ref c 1 0 t.x.length]) (tv t) := by
  refine .agg rfl fun i x y hx hy => ?_
  match i with
  | 0 => simp at hx hy; subst hx; subst hy; exact Pz.whole hb hρb (by simp)
  | 1 => simp at hx hy; subst hx; subst hy; exact Pz.whole hc hρc (by simp)
  | i + 2 => simp at hx
section
variable {P : Program} {n : Nat} {ops : Array Oper} {Q : AT → AH → Prop} {F : Fr} {r : List Stp} {t : AT} {σ : AH} {i : Nat} {d : Tmp} {op : Op} {ty : TypeId} {pos : String} {af : Array Edge}
/-- A guarded operation that comes up alone. -/
theorem d_yesA {g dg : Nat} {want : Bool} (ho : nth ops.toList i = some ⟨some d, op, ty, pos, af, some (g, want)⟩) (hg : (nth ops.toList g).bind (·.dst) = some dg) (hb : t.get dg = some (.v (.bool want))) (hd : Nat.blt d n = true)
    (hF : keepF ⟨some d, op, ty, pos, af, some (g, want)⟩ F = []) (h : AOp P ⟨some d, op, ty, pos, af, some (g, want)⟩ t σ (fun y σ' => ADr P n ops Q [] r ((d, y) :: t) σ')) : ADr P n ops Q F (.act i :: r) t σ :=
  ⟨_, nth_ops ho, hd, .inl ⟨⟨dg, _, by rw [nth_eq] at hg; simpa using hg, hb, by simp [gval]⟩, h.mono fun y σ' hk => by rw [hF]; exact ⟨fun f hf => by simp at hf, hk⟩⟩⟩
theorem d_noA {g dg : Nat} {want b : Bool} (ho : nth ops.toList i = some ⟨some d, op, ty, pos, af, some (g, want)⟩) (hg : (nth ops.toList g).bind (·.dst) = some dg) (hb : t.get dg = some (.v (.bool b))) (hne : (b == want) = false)
    (hd : Nat.blt d n = true) (hF : keepF ⟨some d, op, ty, pos, af, some (g, want)⟩ F = []) (k : ADr P n ops Q [] r ((d, .tup []) :: t) σ) : ADr P n ops Q F (.act i :: r) t σ :=
  ⟨_, nth_ops ho, hd, .inr ⟨⟨dg, _, by rw [nth_eq] at hg; simpa using hg, hb, congrArg some hne⟩, by rw [hF]; exact ⟨fun f hf => by simp at hf, k⟩⟩⟩
end
section
variable {P : Program} {t : AT} {dst : Option Tmp} {ty : TypeId} {pos : String} {af : Array Edge} {g : Option (Nat × Bool)}
/-- Growing a slice without room that is not written any more; what comes is not written any more. -/
theorem D.append_l {x s : Operand} {T T2 : TypeId} {k by_ : Nat} {es xs : List AV} {c : Bool} {z : Value} (hs : t.ev s = some (.list true k es)) (hx : t.ev x = some (.list c k xs))
    (hT : slT P T = some (k, by_, z)) (hT2 : srcT P T2 = true) (hbig : (es.length + xs.length) * by_ ≤ 70368744177664) (hb : 1 ≤ by_ ∧ by_ ≤ 1000) :
    Det P ⟨dst, .call ⟨.builtin .append, #[s, x], #[T, T2]⟩, ty, pos, af, g⟩ t (.list false k (es ++ xs)) := by
  have hT2 := srcT_spec hT2
  intro σ
  refine .of_value fun Φ w ρ hW hO => ?_
  have hsv := hO s (by simp [Op.operands, Call.operands]) _ hs
  have hWd : WR Φ σ w.drew := hW.heapEq rfl rfl rfl rfl
  have hsrc : Src t σ x k xs := .list hx
  obtain ⟨us, hr, hl, hf⟩ := hsrc.ok (P := P) hW (hO x (by simp [Op.operands, Call.operands]))
  obtain ⟨us', hr', _, hf'⟩ := hsrc.ok (P := P) hWd (hO x (by simp [Op.operands, Call.operands]))
  have hrunop : ∀ u w', (Builtin.append_ #[T, T2] ty #[ρ s, ρ x]).run P w = .ok u w' → (execOp ρ ⟨dst, .call ⟨.builtin .append, #[s, x], #[T, T2]⟩, ty, pos, af, g⟩).run P w = .ok (.value u) w' := fun u w' h => by
    simp [execOp, resolve, invoke, builtin, h]
  obtain ⟨A, us0, hA, hr0, hf0⟩ : ∃ A us0, ρ s = .slice A es.length es.length ∧ Row Φ k es us0 ∧ (Builtin.firstCells k es.length (.slice A es.length es.length)).run P w.drew = .ok us0.toArray w.drew := by
    rcases hsv.list with ⟨h1, A, cap, hA, hc⟩ | ⟨_, β, o, cap, us0, cs, el, fz, hA, hc, _, hΦ, hr0, hm⟩
    · subst h1; have := hc rfl; subst this
      exact ⟨A, [], hA, Row.nil .., run_firstCells0⟩
    · have := hc rfl; subst this
      exact ⟨_, us0, hA, hr0, run_firstCells (hWd.obj _ _ hΦ) hm hr0.1⟩
  by_cases hm : xs = []
  · subst hm
    have h0 : us = [] := by have := hr.1; simpa using this
    subst h0
    have hrun : (Builtin.append_ #[T, T2] ty #[ρ s, ρ x]).run P w = .ok (ρ s) w := by
      have := run_append_fits (P := P) (w' := w) (ty := ty) (A := A) (len := es.length) (cap := es.length) (m := 0) (x := ρ x) (ns := []) hT hT2 hl hf (by omega) (by cases A <;> rfl)
      rw [hA]; simpa using this
    refine ⟨_, _, Φ, _, _, hrunop _ _ hrun, ⟨rfl, rfl⟩, .refl Φ, hW, ?_⟩
    rw [List.append_nil]
    exact Wk.less _ _ hsv
  · have hpos := List.length_pos_iff.2 hm
    obtain ⟨e, nc, hnc, hrun⟩ := run_append_grow (P := P) (w := w) (ty := ty) (A := A) (len := es.length) (cap := es.length) (x := ρ x) (os := us0) (ns := us') hT hT2 hl hf0 hf' (by omega) hbig hb
    rw [← hA] at hrun
    obtain ⟨h1, h2, h3⟩ := hWd.newObj (.cells (us0.toArray ++ us'.toArray ++ Builtin.zeroCells z.cells (nc - (es.length + xs.length))) e)
    have hrow := (hr0.mono h1).append (hr'.mono h1)
    refine ⟨_, _, _, _, _, hrunop _ _ hrun, ⟨rfl, rfl⟩, h1, h2, .of1 ?_⟩
    show CR _ _ _
    refine CR.list (by simp [hm]) h3 (fun h => by cases h) hnc (by simp) hrow.1 hrow.2.1 hrow.2.2 ?_
    exact zeroCells_at
theorem Wk.iptr {x y : AV} (h : WkC x y) : Wk (.iptr x) (.iptr y) := fun Φ u hv => by
  simp only [VR, VR1] at hv ⊢
  cases hv with
  | iptr hΦ hr hm => exact .iptr hΦ (h.2 _ _ hr) hm
theorem wkI {t : Tn} (h : t = ⟨[], []⟩) : Wk (.iptr nilT0) (.iptr (tv t)) := by
  subst h; exact Wk.iptr (WkC.agg ⟨.nil, .nil, trivial⟩)
/-- Slots told anew where own memory is written no more, and of less. -/
def AT.subw (σ ρ : AH) : AT → AT → Prop
  | [], _ => True
  | (d, x) :: r, t => (∃ y y', t.get d = some y ∧ Pz σ ρ y y' ∧ Wk y' x) ∧ AT.subw σ ρ r t
theorem AT.subw.tr {Φ Φ' : Phi} {σ ρ : AH} {n : Nat} {a : Act} (hle : Φ.le Φ') (hf : ∀ a a', Pz σ ρ a a' → ∀ us, CR Φ a us → CR Φ' a' us) : ∀ {s t : AT}, AT.subw σ ρ s t → TR Φ n t a → TR Φ' n s a
  | [], _, _, ht => ⟨ht.1, fun d x hx => by simp [AT.get] at hx⟩
  | (d, x) :: r, t, h, ht => by
    obtain ⟨⟨y, y', h1, h2, h4⟩, h3⟩ := h
    refine ⟨ht.1, fun e z hz => ?_⟩
    by_cases hde : d = e
    · subst hde; rw [AT.get_cons_self] at hz; cases hz; exact h4 _ _ (h2.vr' hle hf (ht.2 _ _ h1))
    · rw [AT.get_cons_ne hde] at hz; exact (AT.subw.tr hle hf h3 ht).2 e z hz
theorem AT.subw.nil {σ ρ : AH} {t : AT} : AT.subw σ ρ [] t := trivial
theorem AT.subw.cons {σ ρ : AH} {d : Nat} {x : AV} {s t : AT} (h : t.get d = some x) (k : AT.subw σ ρ s t) : AT.subw σ ρ ((d, x) :: s) t := ⟨⟨x, x, h, .refl x, .refl x⟩, k⟩
theorem AT.subw.wk {σ ρ : AH} {d : Nat} {x y : AV} {s t : AT} (h : t.get d = some y) (hw : Wk y x) (k : AT.subw σ ρ s t) : AT.subw σ ρ ((d, x) :: s) t := ⟨⟨y, y, h, .refl y, hw⟩, k⟩
theorem AT.subw.fix {σ ρ : AH} {d b kk : Nat} {x y : AV} {s t : AT} (h : t.get d = some (.ptr b 0 [] 0)) (hσ : σ b = some (.row kk [y])) (hρ : ρ b = none) (hw : Wk (.iptr y) x) (k : AT.subw σ ρ s t) : AT.subw σ ρ ((d, x) :: s) t :=
  ⟨⟨_, _, h, .ptr hσ hρ rfl rfl (.refl y), hw⟩, k⟩
/-- Behind x, whatever the way, this is known: (T i, S i) for an i with I i; what S i does not know of one's own is written no more. -/
theorem amidz {P : Program} {n : Nat} {Q : Exit → AT → AH → Prop} {t : AT} {σ : AH} {x y : Code} {ι : Sort _} (I : ι → Prop) (T : ι → AT) (S : ι → AH)
    (h1 : AWp P n x (AEx.then (fun t' σ' => ∃ i, I i ∧ Sub (S i) σ' ∧ AT.subw σ' (S i) (T i) t') Q) t σ) (h2 : ∀ i, I i → AWp P n y Q (T i) (S i)) : AWp P n (.seq x y) Q t σ := by
  intro Φ w a hW ht hd
  refine wp_seq (Go.wp_mono (h1 Φ w a hW ht hd) ?_)
  intro e a' w' hp
  cases e with
  | normal =>
    obtain ⟨t', σ', Φ', ⟨i, hi, hs, hz⟩, h2', h3, h4, h5⟩ := hp
    obtain ⟨Φ'', m1, m2, m3⟩ := freeze h3 hs
    exact Go.wp_mono (h2 i hi Φ'' w' a' m2 (hz.tr m1 m3 h4) h5) fun _ _ _ hp => hp.mono (h2'.trans m1) fun _ _ _ h => h
  | _ => exact hp
theorem fr1 {σ : AH} {b c : Nat} {z x : Blk} (h : (σ.set b z) c = none) : (σ.set b x) c = none := by
  rw [AH.set_ne (AH.set_none h).2]; exact (AH.set_none h).1
theorem fr2 {σ : AH} {b b' c : Nat} {z x z' x' : Blk} (h : ((σ.set b z).set b' z') c = none) : ((σ.set b x).set b' x') c = none := by
  rw [AH.set_ne (AH.set_none h).2]; exact fr1 (AH.set_none h).1
end
#print axioms Pure.reads
end Go.Proofs.Al
