/- An abstract layer over the walk of Go code, part 8: own memory that is never written any more; operations one behind the other, and in any order. -/
import Derived.Test.YtaiccchelchdmaaAlg
namespace Go.Proofs.Al
open Go

/-- a' tells what a tells, once all own memory that ρ does not know stays as it is. -/
inductive Pz (σ ρ : AH) : AV → AV → Prop
  | refl (a : AV) : Pz σ ρ a a
  | ref {b k off len : Nat} {es es' : List AV} (hσ : σ b = some (.row k es)) (hρ : ρ b = none) (hl : off + len ≤ es.length) (hlen : es'.length = len)
      (h : ∀ (i : Nat) x y, ((es.drop off).take len)[i]? = some x → es'[i]? = some y → Pz σ ρ x y) : Pz σ ρ (.ref b k off len) (.list false k es')
  | ptr {b i off k : Nat} {path : List Nat} {es : List AV} {e x x' : AV} (hσ : σ b = some (.row k es)) (hρ : ρ b = none) (he : es[i]? = some e) (hp : AV.part e path = some (off, x)) (h : Pz σ ρ x x') :
      Pz σ ρ (.ptr b i path off) (.iptr x')
  | agg {fs fs' : List AV} (hl : fs.length = fs'.length) (h : ∀ (i : Nat) x y, fs[i]? = some x → fs'[i]? = some y → Pz σ ρ x y) : Pz σ ρ (.agg fs) (.agg fs')
  | list {c : Bool} {k : Nat} {es es' : List AV} (hl : es.length = es'.length) (h : ∀ (i : Nat) x y, es[i]? = some x → es'[i]? = some y → Pz σ ρ x y) : Pz σ ρ (.list c k es) (.list c k es')
  | tup {fs fs' : List AV} (hl : fs.length = fs'.length) (h : ∀ (i : Nat) x y, fs[i]? = some x → fs'[i]? = some y → Pz σ ρ x y) : Pz σ ρ (.tup fs) (.tup fs')

theorem nL_eq : ∀ (fs fs' : List AV), fs.length = fs'.length → (∀ (i : Nat) x y, fs[i]? = some x → fs'[i]? = some y → y.n = x.n) → AV.nL fs' = AV.nL fs
  | [], [], _, _ => rfl
  | x :: fs, y :: fs', hl, h => by
    simp only [AV.nL]
    rw [h 0 x y rfl rfl, nL_eq fs fs' (by simpa using hl) (fun i a b ha hb => h (i + 1) a b (by simpa using ha) (by simpa using hb))]
  | [], _ :: _, hl, _ => by simp at hl
  | _ :: _, [], hl, _ => by simp at hl
theorem Pz.n {σ ρ : AH} {a a' : AV} (h : Pz σ ρ a a') : a'.n = a.n := by
  induction h with
  | refl => rfl
  | ref => rfl
  | ptr => rfl
  | agg hl _ ih => simp only [AV.n]; exact nL_eq _ _ hl ih
  | list => rfl
  | tup => rfl
theorem get_of_len {α β : Type} {l : List α} {l' : List β} (h : l.length = l'.length) {i : Nat} {y : β} (hy : l'[i]? = some y) : ∃ x, l[i]? = some x := by
  have := (List.getElem?_eq_some_iff.1 hy).1
  exact ⟨l[i], List.getElem?_eq_getElem (by omega)⟩

def Sub (ρ σ : AH) : Prop := ∀ b x, ρ b = some x → σ b = some x
theorem Sub.refl (σ : AH) : Sub σ σ := fun _ _ h => h
theorem Sub.none (σ : AH) : Sub (fun _ => none) σ := fun _ _ h => by cases h
theorem Sub.set {ρ σ : AH} (h : Sub ρ σ) {b : Nat} (hb : ρ b = Option.none) (x : Blk) : Sub ρ (σ.set b x) := fun c y hc => by
  rw [AH.set_ne (fun e => by subst e; rw [hb] at hc; cases hc)]; exact h c y hc
theorem Sub.del {ρ σ : AH} (h : Sub ρ σ) {b : Nat} (hb : ρ b = Option.none) : Sub ρ (σ.del b) := fun c y hc => by
  simp only [AH.del]; rw [if_neg (fun e => by subst e; rw [hb] at hc; cases hc)]; exact h c y hc
theorem Sub.fresh {ρ σ : AH} (h : Sub ρ σ) {b : Nat} (hb : σ b = Option.none) : ρ b = Option.none := by
  cases hx : ρ b with
  | none => rfl
  | some x => rw [h b x hx] at hb; cases hb

open Classical in
theorem freezeX {Φ : Phi} {σ ρ : AH} {w : World} (hW : WR Φ σ w) (hs : Sub ρ σ) : ∃ Φ', Φ.le Φ' ∧ WR Φ' ρ w ∧ (∀ a a', Pz σ ρ a a' → ∀ us, CR Φ a us → CR Φ' a' us) ∧
    ∀ b x l β, σ b = some x → ρ b = none → Φ.own b = some l → l.blk? = some β → Φ'.obj β = w.heap[β]? := by
  let F : Nat → Prop := fun β => ∃ b x l, σ b = some x ∧ ρ b = none ∧ Φ.own b = some l ∧ l.blk? = some β
  let Φ' : Phi := { Φ with obj := fun β => if F β then w.heap[β]? else Φ.obj β }
  have hle : Φ.le Φ' := ⟨fun β o ho => by
    show (if F β then w.heap[β]? else Φ.obj β) = some o
    split
    · exact hW.obj _ _ ho
    · exact ho, fun _ _ h => h, rfl, rfl, rfl⟩
  refine ⟨Φ', hle, ⟨fun β o ho => ?_, fun b x hx => ?_, ?_, hW.fin, hW.os, hW.tape, hW.output⟩, ?_, fun b x l β h1 h2 h3 h4 => if_pos ⟨b, x, l, h1, h2, h3, h4⟩⟩
  · replace ho : (if F β then w.heap[β]? else Φ.obj β) = some o := ho
    split at ho
    · exact ho
    · exact hW.obj _ _ ho
  · refine (hW.own b x (hs b x hx)).mono hle (fun _ _ _ _ _ h => h) fun l β hl hβ ho => ?_
    show (if F β then w.heap[β]? else Φ.obj β) = none
    rw [if_neg]
    · exact ho
    · rintro ⟨b2, x2, l2, h1, h2, h3, h4⟩
      have := hW.inj b b2 x x2 l l2 β (hs b x hx) h1 hl h3 hβ h4
      subst this; rw [hx] at h2; cases h2
  · intro b b' x x' l l' β hx hx'; exact hW.inj b b' x x' l l' β (hs _ _ hx) (hs _ _ hx')
  · intro a a' h
    have frozen : ∀ b k es β sz k', σ b = some (.row k es) → ρ b = none → Φ.own b = some (.row β sz k') → ∃ cs el fz us, k' = k ∧ Φ'.obj β = some (.cells cs el fz) ∧ Row Φ k es us ∧ At cs 0 us := fun b k es β sz k' hσ hρ hb => by
      obtain ⟨cs, el, fz, us, h1, h2, _, _, h3, h4⟩ := (hW.own b _ hσ).real hb
      refine ⟨cs, el, fz, us, h1, ?_, h3, h4⟩
      show (if F β then w.heap[β]? else Φ.obj β) = _
      rw [if_pos ⟨b, _, _, hσ, hρ, hb, rfl⟩, h2]
    induction h with
    | refl a => exact fun us h => h.mono hle
    | @ref b k off len es es' hσ hρ hl hlen h ih =>
      intro us hc
      cases hc with
      | refz h1 =>
        have : es' = [] := List.length_eq_zero_iff.1 hlen
        subst this
        exact .nil (fun h => by cases h)
      | @ref _ _ _ cap β sz _ h1 hcap hsz =>
        obtain ⟨cs, el, fz, us0, _, h2, h3, h4⟩ := frozen b k es β sz k hσ hρ h1
        by_cases hne : es' = []
        · subst hne
          simp at hlen; subst hlen
          exact .nil (fun h => by cases h)
        · have hr := (h3.drop off).take len
          have hlen2 : ((es.drop off).take len).length = es'.length := by rw [hlen]; simp; omega
          refine .list hne h2 (fun h => by cases h) hcap hlen (by rw [← hlen2]; exact hr.1) (fun i y hy => ?_) (fun i y hy => ?_) (us := ((us0.drop (off * k)).take (len * k))) ?_
          · obtain ⟨x, hx⟩ := get_of_len hlen2 hy
            rw [(h i x y hx hy).n]; exact hr.2.1 i x hx
          · obtain ⟨x, hx⟩ := get_of_len hlen2 hy
            exact ih i x y hx hy _ (hr.2.2 i x hx)
          · have := (h4.drop (off * k)).take (len * k)
            rwa [Nat.zero_add] at this
    | @ptr b i off k path es e x x' hσ hρ he hp h ih =>
      intro us hc
      cases hc with
      | @ptr _ _ _ β sz k' _ h1 =>
        obtain ⟨cs, el, fz, us0, rfl, h2, h3, h4⟩ := frozen b k es β sz k' hσ hρ h1
        obtain ⟨r1, r2, r3⟩ := h3.at he
        have hcx := CR.partAt path r3 hp
        have hle2 := AV.part_le path hp
        rw [List.take_drop_take _ _ _ _ _ (by omega)] at hcx
        have := (h4.drop (i * k' + off)).take x.n
        rw [Nat.zero_add] at this
        exact .iptr h2 (ih _ hcx) this
    | @agg fs fs' hl h ih =>
      intro us hc
      cases hc with
      | agg hu hp hr =>
        refine .agg (by rw [hu, nL_eq fs fs' hl fun i x y hx hy => (h i x y hx hy).n]) hp fun i y hy => ?_
        obtain ⟨x, hx⟩ := get_of_len hl hy
        have ht : AV.nL (fs'.take i) = AV.nL (fs.take i) := nL_eq _ _ (by simp [hl]) fun j a b ha hb => by
          rw [List.getElem?_take] at ha hb
          split at ha
          · rename_i hj; rw [if_pos hj] at hb; exact (h j a b ha hb).n
          · cases ha
        rw [ht, (h i x y hx hy).n]
        exact ih i x y hx hy _ (hr i x hx)
    | @list c k es es' hl h ih =>
      intro us hc
      cases hc with
      | nil h1 =>
        have : es' = [] := List.length_eq_zero_iff.1 hl.symm
        subst this; exact .nil h1
      | list hne hΦ hc hcap hl' hu hn hr hm =>
        refine .list (fun e => hne (by subst e; exact List.length_eq_zero_iff.1 hl)) (hle.obj _ _ hΦ) hc hcap (by rw [← hl]; exact hl') (by rw [← hl]; exact hu) (fun i y hy => ?_) (fun i y hy => ?_) hm
        · obtain ⟨x, hx⟩ := get_of_len hl hy
          rw [(h i x y hx hy).n]; exact hn i x hx
        · obtain ⟨x, hx⟩ := get_of_len hl hy
          exact ih i x y hx hy _ (hr i x hx)
    | tup => intro us hc; cases hc

theorem freeze {Φ : Phi} {σ ρ : AH} {w : World} (hW : WR Φ σ w) (hs : Sub ρ σ) : ∃ Φ', Φ.le Φ' ∧ WR Φ' ρ w ∧ ∀ a a', Pz σ ρ a a' → ∀ us, CR Φ a us → CR Φ' a' us :=
  let ⟨Φ', h1, h2, h3, _⟩ := freezeX hW hs
  ⟨Φ', h1, h2, h3⟩
theorem Pz.isAgg {σ ρ : AH} {a a' : AV} (h : Pz σ ρ a a') : (∃ fs, a = .agg fs) ↔ (∃ fs, a' = .agg fs) := by
  cases h <;> simp
theorem Pz.vr {Φ Φ' : Phi} {σ ρ : AH} (hf : ∀ a a', Pz σ ρ a a' → ∀ us, CR Φ a us → CR Φ' a' us) : ∀ {a a' : AV} {u : Value}, Pz σ ρ a a' → VR1 Φ a u → VR1 Φ' a' u := by
  intro a a' u h hv
  have hc := hf a a' h _ hv.cells
  by_cases ha : ∃ fs, a = .agg fs
  · obtain ⟨fs, rfl⟩ := ha
    obtain ⟨us, h1, rfl⟩ := hv
    obtain ⟨fs', rfl⟩ := h.isAgg.1 ⟨fs, rfl⟩
    exact ⟨us, by simpa [Value.cells] using hc, rfl⟩
  · have ha' : ∀ fs, a' ≠ .agg fs := fun fs e => ha (h.isAgg.2 ⟨fs, e⟩)
    have hu : u.cells.toList = [u] := by
      have h1 := hv
      cases a <;> simp only [VR1] at h1
      case agg fs => exact absurd ⟨fs, rfl⟩ ha
      case v x => cases h1 with | v h => cases u <;> simp_all [plain, Value.cells]
      all_goals (cases h1 <;> rfl)
    rw [hu] at hc
    exact .of_cells hc ha'
theorem Pz.vr' {Φ Φ' : Phi} {σ ρ : AH} (hle : Φ.le Φ') (hf : ∀ a a', Pz σ ρ a a' → ∀ us, CR Φ a us → CR Φ' a' us) {a a' : AV} {u : Value} (h : Pz σ ρ a a') (hv : VR Φ a u) : VR Φ' a' u := by
  by_cases ha : ∃ vs, a = .tup vs
  · obtain ⟨vs, rfl⟩ := ha
    cases h with
    | refl => exact hv.mono hle
    | @tup _ fs' hl h =>
      obtain ⟨us, h1, h2, h3⟩ := hv
      refine ⟨us, h1, by rw [← hl]; exact h2, fun i y z hy hz => ?_⟩
      obtain ⟨x, hx⟩ := get_of_len hl hy
      exact (h i x y hx hy).vr hf (h3 i x z hx hz)
  · have h1 := hv.to1 (fun vs e => ha ⟨vs, e⟩)
    exact .of1 (h.vr hf h1)

/-- A call's results may be told as what they are once they are written no more. -/
theorem ACalls.freeze {P : Program} {f : FuncId} {args : List AV} {σ : AH} {R R' : AV → AH → Prop} (h : ACalls P f args σ R) (hr : ∀ y σ', R y σ' → ∃ y' ρ, Sub ρ σ' ∧ Pz σ' ρ y y' ∧ R' y' ρ) : ACalls P f args σ R' :=
  fun Φ w us hW hl hu => Calls.mono (h Φ w us hW hl hu) fun _ _ ⟨y, σ', Φ', u, h1, h2, h3, h4, h5⟩ => by
    obtain ⟨y', ρ, k1, k2, k3⟩ := hr y σ' h2
    obtain ⟨Φ'', m1, m2, m3⟩ := Al.freeze h4 k1
    exact ⟨y', ρ, Φ'', u, h1, k3, h3.trans m1, m2, k2.vr' m1 m3 h5⟩

/-- Slots told anew where own memory is written no more. -/
def AT.subz (σ ρ : AH) : AT → AT → Prop
  | [], _ => True
  | (d, x) :: r, t => (∃ y, t.get d = some y ∧ Pz σ ρ y x) ∧ AT.subz σ ρ r t
theorem AT.subz.tr {Φ Φ' : Phi} {σ ρ : AH} {n : Nat} {a : Act} (hle : Φ.le Φ') (hf : ∀ a a', Pz σ ρ a a' → ∀ us, CR Φ a us → CR Φ' a' us) : ∀ {s t : AT}, AT.subz σ ρ s t → TR Φ n t a → TR Φ' n s a
  | [], _, _, ht => ⟨ht.1, fun d x hx => by simp [AT.get] at hx⟩
  | (d, x) :: r, t, h, ht => by
    obtain ⟨⟨y, h1, h2⟩, h3⟩ := h
    refine ⟨ht.1, fun e z hz => ?_⟩
    by_cases hde : d = e
    · subst hde; rw [AT.get_cons_self] at hz; cases hz; exact h2.vr' hle hf (ht.2 _ _ h1)
    · rw [AT.get_cons_ne hde] at hz; exact (AT.subz.tr hle hf h3 ht).2 e z hz
theorem afreeze {P : Program} {n : Nat} {c : Code} {Q : Exit → AT → AH → Prop} {t : AT} {σ : AH} (s : AT) (ρ : AH) (hs : Sub ρ σ) (ht : AT.subz σ ρ s t) (h : AWp P n c Q s ρ) : AWp P n c Q t σ := by
  intro Φ w a hW hT hd
  obtain ⟨Φ', m1, m2, m3⟩ := freeze hW hs
  exact Go.wp_mono (h Φ' w a m2 (ht.tr m1 m3 hT) hd) fun _ _ _ hp => hp.mono m1 fun _ _ _ h => h
/-- An empty slice may become one's own. -/
theorem aown {P : Program} {n : Nat} {c : Code} {Q : Exit → AT → AH → Prop} {t : AT} {σ : AH} {d k0 k : Nat} (hd : t.get d = some (.list true k0 [])) (h : ∀ b, σ b = none → AWp P n c Q ((d, .ref b k 0 0) :: t) (σ.set b (.row k []))) : AWp P n c Q t σ := by
  intro Φ w a hW hT hdf
  obtain ⟨b, hb, hσ⟩ := hW.fresh
  obtain ⟨h1, h2⟩ := hW.newVirt (k := k) hb
  refine Go.wp_mono (h b hσ _ w a h2 ⟨hT.1, fun e x hx => ?_⟩ hdf) fun _ _ _ hp => hp.mono h1 fun _ _ _ h => h
  by_cases hde : d = e
  · subst hde
    rw [AT.get_cons_self] at hx; cases hx
    have hv := hT.2 _ _ hd
    rcases hv.list with ⟨_, A, cap, hA, hc⟩ | ⟨hne, _⟩
    · rw [hA, hc rfl]; exact .of1 (CR.refz (Phi.addOwn_self ..))
    · exact absurd rfl hne
  · rw [AT.get_cons_ne hde] at hx; exact (hT.2 e x hx).mono h1

/-- A variable that is written no more. -/
theorem AH.del_set_self {ρ : AH} {b : Nat} (h : ρ b = none) (x : Blk) : (ρ.set b x).del b = ρ := by
  funext c
  simp only [AH.set, AH.del]
  split
  · subst_vars; exact h.symm
  · rfl
theorem afix {P : Program} {n : Nat} {c : Code} {Q : Exit → AT → AH → Prop} {t : AT} {ρ : AH} {d b k : Nat} {y : AV} (hd : t.get d = some (.ptr b 0 [] 0)) (hb : ρ b = none) (h : AWp P n c Q ((d, .iptr y) :: t) ρ) : AWp P n c Q t (ρ.set b (.row k [y])) := by
  intro Φ w a hW hT hdf
  obtain ⟨Φ', m1, m2, m3⟩ := freeze (ρ := ρ) hW (Sub.set (Sub.refl ρ) hb _)
  refine Go.wp_mono (h Φ' w a m2 ⟨hT.1, fun e x hx => ?_⟩ hdf) fun _ _ _ hp => hp.mono m1 fun _ _ _ h => h
  by_cases hde : d = e
  · subst hde
    rw [AT.get_cons_self] at hx; cases hx
    exact Pz.vr' m1 m3 (.ptr (AH.set_self ..) hb rfl rfl (.refl _)) (hT.2 _ _ hd)
  · rw [AT.get_cons_ne hde] at hx; exact (hT.2 e x hx).mono m1

/-! Operations one behind the other. -/
section
variable {P : Program} {n : Nat} {ops : Array Oper} {Q : AT → AH → Prop} {t : AT} {σ : AH} {d : Nat} {op : Op} {ty : TypeId} {pos : String} {af : Array Edge} {rest : List Oper}
theorem s_nil (h : Q t σ) : ASeq P n ops Q [] t σ := h
theorem s_det {y : AV} (h : Det P ⟨some d, op, ty, pos, af, none⟩ t y) (hd : Nat.blt d n = true) (k : ASeq P n ops Q rest ((d, y) :: t) σ) : ASeq P n ops Q (⟨some d, op, ty, pos, af, none⟩ :: rest) t σ :=
  ⟨hd, .inl ⟨rfl, (h σ).mono fun _ _ ⟨e1, e2⟩ => by subst e1; subst e2; exact k⟩⟩
theorem s_own {y : AV} {b : Nat} {x : Blk} (hσ : σ b = some x) (h : DetOn P b x ⟨some d, op, ty, pos, af, none⟩ t y) (hd : Nat.blt d n = true) (k : ASeq P n ops Q rest ((d, y) :: t) σ) : ASeq P n ops Q (⟨some d, op, ty, pos, af, none⟩ :: rest) t σ :=
  ⟨hd, .inl ⟨rfl, (h σ hσ).mono fun _ _ ⟨e1, e2⟩ => by subst e1; subst e2; exact k⟩⟩
/-- The outcome of a test: both ways. -/
theorem s_cmp {c : Bool} (h : Det P ⟨some d, op, ty, pos, af, none⟩ t (.v (.bool c))) (hd : Nat.blt d n = true) (k1 : c = true → ASeq P n ops Q rest ((d, .v (.bool true)) :: t) σ) (k2 : c = false → ASeq P n ops Q rest ((d, .v (.bool false)) :: t) σ) :
    ASeq P n ops Q (⟨some d, op, ty, pos, af, none⟩ :: rest) t σ := by
  cases c
  · exact s_det h hd (k2 rfl)
  · exact s_det h hd (k1 rfl)
theorem s_act (hd : Nat.blt d n = true) (h : AOp P ⟨some d, op, ty, pos, af, none⟩ t σ (fun y σ' => ASeq P n ops Q rest ((d, y) :: t) σ')) : ASeq P n ops Q (⟨some d, op, ty, pos, af, none⟩ :: rest) t σ :=
  ⟨hd, .inl ⟨rfl, h⟩⟩
theorem s_do (h : AOp P ⟨none, op, ty, pos, af, none⟩ t σ (fun _ σ' => ASeq P n ops Q rest t σ')) : ASeq P n ops Q (⟨none, op, ty, pos, af, none⟩ :: rest) t σ :=
  ⟨rfl, .inl ⟨rfl, h⟩⟩
theorem s_yes {dst : Option Tmp} {g dg : Nat} {want : Bool} (hg : (ops[g]?).bind (·.dst) = some dg) (hb : t.get dg = some (.v (.bool want))) (k : ASeq P n ops Q (⟨dst, op, ty, pos, af, none⟩ :: rest) t σ) :
    ASeq P n ops Q (⟨dst, op, ty, pos, af, some (g, want)⟩ :: rest) t σ := by
  obtain ⟨h1, h2⟩ := k
  refine ⟨h1, .inl ⟨⟨dg, _, hg, hb, by simp [gval]⟩, ?_⟩⟩
  rcases h2 with ⟨_, h⟩ | ⟨h, _⟩
  · exact h
  · simp [Wanted] at h
theorem s_noU {g dg : Nat} {want : Bool} (hg : (ops[g]?).bind (·.dst) = some dg) (hb : t.get dg = some (.tup [])) (hd : Nat.blt d n = true) (k : ASeq P n ops Q rest ((d, .tup []) :: t) σ) :
    ASeq P n ops Q (⟨some d, op, ty, pos, af, some (g, want)⟩ :: rest) t σ :=
  ⟨hd, .inr ⟨⟨dg, _, hg, hb, rfl⟩, k⟩⟩
theorem s_no {g dg : Nat} {want b : Bool} (hg : (ops[g]?).bind (·.dst) = some dg) (hb : t.get dg = some (.v (.bool b))) (hne : (b == want) = false) (hd : Nat.blt d n = true) (k : ASeq P n ops Q rest ((d, .tup []) :: t) σ) :
    ASeq P n ops Q (⟨some d, op, ty, pos, af, some (g, want)⟩ :: rest) t σ :=
  ⟨hd, .inr ⟨⟨dg, _, hg, hb, congrArg some hne⟩, k⟩⟩
end
#print axioms freeze
end Go.Proofs.Al
