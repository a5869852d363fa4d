/- An abstract layer over the walk of Go code, part 9: a body's results; regions whose order is open. -/
import Derived.Test.YtaiccchelchdmaaAlh
namespace Go.Proofs.Al
open Go

/-- What one result is, at a body's end. -/
def ARes1 (P : Program) (t : AT) (σ : AH) : ResultVar → AV → Prop
  | .tmp d, y => t.get d = some y ∧ y.notTup = true
  | .cell a T, y => (t.get a = some (.iptr y) ∨ ∃ b i path o k es e, t.get a = some (.ptr b i path o) ∧ σ b = some (.row k es) ∧ es[i]? = some e ∧ AV.part e path = some (o, y)) ∧ szT P T = some (y.isAgg, y.n)
def AResL (P : Program) (t : AT) (σ : AH) : List ResultVar → List AV → Prop
  | [], [] => True
  | r :: rs, y :: ys => ARes1 P t σ r y ∧ AResL P t σ rs ys
  | _, _ => False
def tupOf : List AV → AV
  | [y] => y
  | ys => .tup ys
def FnPost (P : Program) (rs : List ResultVar) (R : AV → AH → Prop) : Exit → AT → AH → Prop
  | .normal, t, σ | .ret, t, σ => ∃ ys, AResL P t σ rs ys ∧ R (tupOf ys) σ
  | _, _, _ => False

def resF (tmps : Array Value) : ResultVar → Sem Value
  | .tmp t => pure (tmps.getD t undef)
  | .cell a t => do loadVar t (← asAddr (tmps.getD a undef))
theorem results_eq (fn : Func) (tmps : Array Value) : results fn tmps = (do let vs ← fn.results.mapM (resF tmps); pure (if h : vs.size = 1 then vs[0] else .tuple vs)) := rfl
theorem ARes1.sound {P : Program} {Φ : Phi} {n : Nat} {t : AT} {σ : AH} {y : AV} {a : Act} {w : World} {r : ResultVar} (h : ARes1 P t σ r y) (hW : WR Φ σ w) (ht : TR Φ n t a) : ∃ v, (resF a.tmps r).run P w = .ok v w ∧ VR1 Φ y v := by
  cases r with
  | tmp d => exact ⟨_, rfl, (ht.2 _ _ h.1).to1 (AV.notTup_spec h.2)⟩
  | cell d T =>
    obtain ⟨h1, hT⟩ := h
    rcases h1 with h1 | ⟨b, i, path, o, k, es, e, h1, hσ, he, hp⟩
    · obtain ⟨β, o, us, cs, el, fz, h2, h3, h4, h5⟩ := (ht.2 _ _ h1).iptr
      rw [← h4.length] at hT
      refine ⟨_, ?_, VR1.of_row h4⟩
      simp only [resF, h2, asAddr, Sem.run_bind, Sem.run_pure, Result.andThen_ok]
      exact run_loadVar_at (hW.obj _ _ h3) h5 hT h4.one_of
    · obtain ⟨β, sz, k', h2, h3⟩ := (ht.2 _ _ h1).ptr
      obtain ⟨cs, el, fz, us, rfl, hw, hsz, hfz, hr, hm⟩ := (hW.own b _ hσ).real h3
      obtain ⟨r1, r2, r3⟩ := hr.at he
      have hc := CR.partAt path r3 hp
      have hle := AV.part_le path hp
      rw [List.take_drop_take _ _ _ _ _ (by omega)] at hc
      have hmm : At cs (i * k' + o) ((us.drop (i * k' + o)).take y.n) := by
        have := (hm.drop (i * k' + o)).take y.n
        rwa [Nat.zero_add] at this
      rw [← hc.length] at hT
      refine ⟨_, ?_, VR1.of_row hc⟩
      simp only [resF, h2, asAddr, Sem.run_bind, Sem.run_pure, Result.andThen_ok]
      exact run_loadVar_at hw hmm hT hc.one_of
theorem AResL.sound {P : Program} {fn : Func} {Φ : Phi} {n : Nat} {t : AT} {σ : AH} {a : Act} {w : World} {rs : List ResultVar} {ys : List AV} (hrs : fn.results = rs.toArray) (hl : rs.length ≤ 4) (h : AResL P t σ rs ys) (hW : WR Φ σ w) (ht : TR Φ n t a) :
    ∃ v, (results fn a.tmps).run P w = .ok v w ∧ VR Φ (tupOf ys) v := by
  rw [results_eq, hrs]
  have tup : ∀ (us : List Value) (ys : List AV), us.length = ys.length → (∀ (i : Nat) y u, ys[i]? = some y → us[i]? = some u → VR1 Φ y u) → VR Φ (.tup ys) (.tuple us.toArray) := fun us ys h1 h2 => ⟨us, rfl, h1, h2⟩
  match rs, ys, h with
  | [], [], _ => exact ⟨.tuple #[], by simp, tup [] [] rfl (fun i y u h => by simp at h)⟩
  | [r], [y], h =>
    obtain ⟨v, h1, h2⟩ := h.1.sound (w := w) hW ht
    exact ⟨v, by simp [h1], .of1 h2⟩
  | [r, s], [y, z], h =>
    obtain ⟨v, h1, h2⟩ := h.1.sound (w := w) hW ht
    obtain ⟨u, h3, h4⟩ := h.2.1.sound (w := w) hW ht
    refine ⟨.tuple #[v, u], by simp [h1, h3], tup [v, u] [y, z] rfl fun i y u hy hu => ?_⟩
    match i with
    | 0 => simp at hy hu; subst hy; subst hu; exact h2
    | 1 => simp at hy hu; subst hy; subst hu; exact h4
    | _ + 2 => simp at hy
  | [r, s, q], [y, z, x], h =>
    obtain ⟨v, h1, h2⟩ := h.1.sound (w := w) hW ht
    obtain ⟨u, h3, h4⟩ := h.2.1.sound (w := w) hW ht
    obtain ⟨p, h5, h6⟩ := h.2.2.1.sound (w := w) hW ht
    refine ⟨.tuple #[v, u, p], by simp [h1, h3, h5], tup [v, u, p] [y, z, x] rfl fun i y u hy hu => ?_⟩
    match i with
    | 0 => simp at hy hu; subst hy; subst hu; exact h2
    | 1 => simp at hy hu; subst hy; subst hu; exact h4
    | 2 => simp at hy hu; subst hy; subst hu; exact h6
    | _ + 3 => simp at hy
  | [r, s, q, l], [y, z, x, m], h =>
    obtain ⟨v, h1, h2⟩ := h.1.sound (w := w) hW ht
    obtain ⟨u, h3, h4⟩ := h.2.1.sound (w := w) hW ht
    obtain ⟨p, h5, h6⟩ := h.2.2.1.sound (w := w) hW ht
    obtain ⟨c, h7, h8⟩ := h.2.2.2.1.sound (w := w) hW ht
    refine ⟨.tuple #[v, u, p, c], by simp [h1, h3, h5, h7], tup [v, u, p, c] [y, z, x, m] rfl fun i y u hy hu => ?_⟩
    match i with
    | 0 => simp at hy hu; subst hy; subst hu; exact h2
    | 1 => simp at hy hu; subst hy; subst hu; exact h4
    | 2 => simp at hy hu; subst hy; subst hu; exact h6
    | 3 => simp at hy hu; subst hy; subst hu; exact h8
    | _ + 4 => simp at hy
  | _ :: _ :: _ :: _ :: _ :: _, _, _ => simp at hl

theorem acalls {P : Program} {f : FuncId} {fn : Func} {c : Code} {args : List AV} {σ : AH} {R : AV → AH → Prop} {rs : List ResultVar} (hf : P.funcs[f]? = some fn) (hb : fn.body = some c)
    (hrs : fn.results = rs.toArray) (hl4 : rs.length ≤ 4) {n : Nat} (hnt : fn.ntmps = n) (hn : Nat.ble args.length n = true) (h : AWp P n c (FnPost P rs R) (enumT 0 args) σ) : ACalls P f args σ R := by
  subst hnt
  replace hn := Nat.le_of_ble_eq_true hn
  intro Φ w us hW hl hu
  refine calls_of_wp hf hb (Go.wp_mono (h Φ w _ hW ⟨?_, ?_⟩ rfl) ?_)
  · simp [hl]; omega
  · intro d x hx
    obtain ⟨_, h1⟩ := enumT_get args 0 d x hx
    simp only [Nat.sub_zero] at h1
    have hd : d < us.length := by rw [hl]; exact (List.getElem?_eq_some_iff.1 h1).1
    have := hu d x us[d] h1 (List.getElem?_eq_getElem hd)
    simpa [Array.getD_eq_getD_getElem?, Array.getElem?_append, hd] using this
  · rintro e a' w' ⟨t, σ', Φ', hq, hle, hW', ht, hd⟩
    cases e with
    | normal =>
      obtain ⟨ys, hy, hR⟩ := hq
      obtain ⟨v, h1, h2⟩ := hy.sound (w := w') hrs hl4 hW' ht
      exact ⟨hd, v, h1, _, σ', Φ', v, rfl, hR, hle, hW', h2⟩
    | ret =>
      obtain ⟨ys, hy, hR⟩ := hq
      obtain ⟨v, h1, h2⟩ := hy.sound (w := w') hrs hl4 hW' ht
      exact ⟨hd, v, h1, _, σ', Φ', v, rfl, hR, hle, hW', h2⟩
    | _ => exact hq.elim

/-! Any order that is allowed. -/
section
variable {P : Program} {n : Nat} {ops : Array Oper} {Q : AT → AH → Prop}

abbrev Fr := List (Nat × Nat × Blk)
def notPred (o : Oper) (i : Nat) : Bool := o.after.all fun e => !(Region.binds .any e && e.on == i)
def keepF (o : Oper) (F : Fr) : Fr := F.filter fun f => notPred o f.1
def Keep (F : Fr) (σ : AH) : Prop := ∀ f ∈ F, σ f.2.1 = some f.2.2

def AAny (P : Program) (n : Nat) (ops : Array Oper) (Q : AT → AH → Prop) : Nat → Fr → Array Bool → AT → AH → Prop
  | 0, _, L, t, σ => Region.ready .any ops L = [] ∧ ∃ t', AT.le t' t ∧ Q t' σ
  | f + 1, F, L, t, σ => (Region.ready .any ops L = [] → ∃ t', AT.le t' t ∧ Q t' σ) ∧
    ∀ i ∈ Region.ready .any ops L, ∃ o, ops[i]? = some o ∧ AOpI P n ops o t σ (fun t' σ' => Keep (keepF o F) σ' ∧ AAny P n ops Q f (keepF o F) (L.setIfInBounds i true) t' σ')

theorem AAny.sound {Q : Exit → AT → AH → Prop} (Φ0 : Phi) (hfl : ops.toList.all flatOp = true) : ∀ (f : Nat) (F : Fr) (L : Array Bool) (t : AT) (σ : AH), AAny P n ops (Q .normal) f F L t σ →
    ∀ (Φ : Phi) (w : World) (a : Act), Φ0.le Φ → WR Φ σ w → TR Φ n t a → a.defers = [] → wpAny P .any ops (Post Φ0 n Q) f L a w
  | 0, F, L, t, σ, h, Φ, w, a, hle, hW, ht, hd => by
    obtain ⟨h1, t', h2, h3⟩ := h
    exact ⟨h1, t', σ, Φ, h3, hle, hW, h2.tr ht, hd⟩
  | f + 1, F, L, t, σ, h, Φ, w, a, hle, hW, ht, hd => by
    refine ⟨fun h0 => ?_, fun i hi => ?_⟩
    · obtain ⟨t', h2, h3⟩ := h.1 h0
      exact ⟨t', σ, Φ, h3, hle, hW, h2.tr ht, hd⟩
    · obtain ⟨o, ho, hop⟩ := h.2 i hi
      have hfo : flatOp o = true := List.all_eq_true.1 hfl o (by simpa using Array.mem_of_getElem? ho)
      have hs := AOpI.sound (Q := Post Φ0 n Q) hop hfo hW ht hd (next := wpAny P .any ops (Post Φ0 n Q) f (L.setIfInBounds i true))
        (fun t' σ' Φ' a' w' hk hle' hW' ht' hd' => AAny.sound Φ0 hfl f _ _ t' σ' hk.2 Φ' w' a' (hle.trans hle') hW' ht' hd')
      unfold wpOp
      simp only [ho]
      by_cases hw : Region.wanted o (yielded ops a.tmps) = true
      · rw [if_pos hw] at hs ⊢; exact .inl hs
      · rw [if_neg hw] at hs ⊢; exact hs

theorem keepF_sub {o : Oper} {F G : Fr} (h : ∀ f ∈ G, f ∈ F) : ∀ f ∈ keepF o G, f ∈ keepF o F := fun f hf => by
  simp only [keepF, List.mem_filter] at hf ⊢
  exact ⟨h f hf.1, hf.2⟩
theorem AAny.fewer : ∀ (f : Nat) {F G : Fr} {L : Array Bool} {t : AT} {σ : AH}, (∀ x ∈ G, x ∈ F) → AAny P n ops Q f F L t σ → AAny P n ops Q f G L t σ
  | 0, _, _, _, _, _, _, h => h
  | f + 1, F, G, L, t, σ, hs, h => ⟨h.1, fun i hi => by
    obtain ⟨o, ho, hop⟩ := h.2 i hi
    exact ⟨o, ho, hop.mono fun t' σ' ⟨h1, h2⟩ => ⟨fun x hx => h1 x (keepF_sub hs x hx), AAny.fewer f (keepF_sub hs) h2⟩⟩⟩
theorem AOpI.le {o : Oper} {t t' : AT} {σ : AH} {K : AT → AH → Prop} (hle : t.le t') (hK : ∀ s s' σ', AT.le s s' → K s σ' → K s' σ') (h : AOpI P n ops o t σ K) : AOpI P n ops o t' σ K := by
  refine ⟨h.1, h.2.imp (fun ⟨a, b⟩ => ⟨a.le fun d _ y hy => hle d y hy, ?_⟩) (fun ⟨a, b⟩ => ⟨a.le fun d _ y hy => hle d y hy, hK _ _ _ (hle.put _ _) b⟩)⟩
  exact (AOp.le (fun x _ y hy => hle.ev hy) b).mono fun y σ' hk => hK _ _ _ (hle.put _ _) hk
theorem AAny.le : ∀ (f : Nat) {F : Fr} {L : Array Bool} {t t' : AT} {σ : AH}, t.le t' → AAny P n ops Q f F L t σ → AAny P n ops Q f F L t' σ
  | 0, _, _, _, _, _, hle, h => ⟨h.1, let ⟨s, h1, h2⟩ := h.2; ⟨s, h1.trans hle, h2⟩⟩
  | f + 1, F, L, t, t', σ, hle, h => ⟨fun h0 => let ⟨s, h1, h2⟩ := h.1 h0; ⟨s, h1.trans hle, h2⟩, fun i hi => by
    obtain ⟨o, ho, hop⟩ := h.2 i hi
    exact ⟨o, ho, hop.le hle fun s s' σ' hs ⟨k1, k2⟩ => ⟨k1, AAny.le f hs k2⟩⟩⟩

/-- What an operation yields whenever it comes up. -/
def YI (P : Program) (ops : Array Oper) (B : Option (Nat × Blk)) (o : Oper) (t : AT) (y : AV) : Prop :=
  (Wanted ops o t true ∧ match B with | none => Det P o t y | some (b, x) => DetOn P b x o t y) ∨ (Wanted ops o t false ∧ y = .tup [])
theorem YI.op {B : Option (Nat × Blk)} {o : Oper} {t : AT} {y : AV} (h : YI P ops B o t y) (hd : dstOk o.dst n = true) {σ : AH} (hB : ∀ b x, B = some (b, x) → σ b = some x) {K : AT → AH → Prop} (hK : K (putT t o.dst y) σ) : AOpI P n ops o t σ K := by
  refine ⟨hd, ?_⟩
  rcases h with ⟨hw, h⟩ | ⟨hw, rfl⟩
  · left
    refine ⟨hw, ?_⟩
    cases B with
    | none => exact (h σ).mono fun _ _ ⟨e1, e2⟩ => by subst e1; subst e2; exact hK
    | some bx => exact (h σ (hB _ _ rfl)).mono fun _ _ ⟨e1, e2⟩ => by subst e1; subst e2; exact hK
  · exact .inr ⟨hw, hK⟩
theorem YI.congr {B : Option (Nat × Blk)} {o : Oper} {t t' : AT} {y : AV} (hle : ∀ d ∈ o.looksAt ops, ∀ y, t.get d = some y → t'.get d = some y) (h : YI P ops B o t y) : YI P ops B o t' y := by
  rcases h with ⟨hw, h⟩ | ⟨hw, rfl⟩
  · refine .inl ⟨hw.le hle, ?_⟩
    cases B with
    | none => exact fun σ => AOp.le (ev_le_of_looks hle) (h σ)
    | some bx => exact fun σ hσ => AOp.le (ev_le_of_looks hle) (h σ hσ)
  · exact .inr ⟨hw.le hle, rfl⟩
theorem get_putT_ne {t : AT} {d : Option Tmp} {y : AV} {e : Nat} (h : d ≠ some e) : (putT t d y).get e = t.get e := by
  cases d with
  | none => rfl
  | some d => exact AT.get_cons_ne (fun e' => h (by rw [e'])) _ _
theorem putT_comm {t : AT} {a b : Option Tmp} {y z : AV} (h : ∀ d, a = some d → b ≠ some d) : (putT (putT t a y) b z).le (putT (putT t b z) a y) := by
  intro e x hx
  by_cases hb : b = some e
  · have ha : a ≠ some e := fun ha => h e ha hb
    rw [get_putT_ne ha]
    subst hb
    simp only [putT, AT.get_cons_self] at hx ⊢; exact hx
  · rw [get_putT_ne hb] at hx
    by_cases ha : a = some e
    · subst ha; simp only [putT, AT.get_cons_self] at hx ⊢; exact hx
    · rw [get_putT_ne ha] at hx ⊢; rw [get_putT_ne hb]; exact hx

/-- B's row, among those that are kept. -/
def addF (i : Nat) (B : Option (Nat × Blk)) (F : Fr) : Fr :=
  match B with
  | none => F
  | some (b, x) => (i, b, x) :: F

theorem AAny.first {i : Nat} {oi : Oper} {y : AV} {B : Option (Nat × Blk)} (hi : ops[i]? = some oi) (hdi : dstOk oi.dst n = true) : ∀ (f : Nat) (F : Fr) (L : Array Bool) (t : AT) (σ : AH),
    (∀ j oj, ops[j]? = some oj → j ≠ i → L.getD j true = false → (∀ e ∈ oj.after, Region.binds .any e = true → e.on ≠ i) → oi.apart ops oj = true) →
    i ∈ Region.ready .any ops L → YI P ops B oi t y → (∀ b x, B = some (b, x) → σ b = some x) → Keep F σ →
    AAny P n ops Q f (addF i B F) (L.setIfInBounds i true) (putT t oi.dst y) σ → AAny P n ops Q (f + 1) F L t σ := by
  intro f
  have self : ∀ (f : Nat) (F : Fr) (L : Array Bool) (t : AT) (σ : AH), YI P ops B oi t y → (∀ b x, B = some (b, x) → σ b = some x) → Keep F σ →
      AAny P n ops Q f (addF i B F) (L.setIfInBounds i true) (putT t oi.dst y) σ → AOpI P n ops oi t σ (fun t' σ' => Keep (keepF oi F) σ' ∧ AAny P n ops Q f (keepF oi F) (L.setIfInBounds i true) t' σ') := by
    intro f F L t σ hy hB hk H
    refine hy.op hdi hB ⟨fun x hx => hk x (List.mem_filter.1 hx).1, AAny.fewer f (fun x hx => ?_) H⟩
    have := (List.mem_filter.1 hx).1
    cases B with
    | none => exact this
    | some bx => exact List.mem_cons_of_mem _ this
  induction f with
  | zero =>
    intro F L t σ _ hr hy hB hk H
    refine ⟨fun h => (by rw [h] at hr; cases hr), fun j hj => ?_⟩
    by_cases hji : j = i
    · subst hji; exact ⟨oi, hi, self 0 F L t σ hy hB hk H⟩
    · have := ready_mono hj hji
      rw [H.1] at this
      cases this
  | succ f ih =>
    intro F L t σ hfree hr hy hB hk H
    refine ⟨fun h => (by rw [h] at hr; cases hr), fun j hj => ?_⟩
    by_cases hji : j = i
    · subst hji; exact ⟨oi, hi, self (f + 1) F L t σ hy hB hk H⟩
    · obtain ⟨oj, hoj, h1⟩ := H.2 j (ready_mono hj hji)
      obtain ⟨hjun, oj', hoj', hall⟩ := mem_ready.1 hj
      rw [hoj] at hoj'; cases hoj'
      have hnot : ∀ e ∈ oj.after, Region.binds .any e = true → e.on ≠ i := fun e he hb heq => by
        have h1 := hall e he hb
        have h0 := (mem_ready.1 hr).1
        rw [heq] at h1
        rcases Nat.lt_or_ge i L.size with h' | h'
        · simp [h'] at h0 h1; rw [h0] at h1; cases h1
        · simp [Array.getElem?_eq_none h'] at h1
      obtain ⟨a1, a2, a3⟩ := Oper.apart_spec (hfree j oj hoj hji hjun hnot)
      have hfree' : ∀ k ok, ops[k]? = some ok → k ≠ i → (L.setIfInBounds j true).getD k true = false →
          (∀ e ∈ ok.after, Region.binds .any e = true → e.on ≠ i) → oi.apart ops ok = true := fun k ok hk hki hun hno => by
        refine hfree k ok hk hki ?_ hno
        by_cases hjk : j = k
        · subst hjk; exact hjun
        · rw [getD_set_ne true hjk] at hun; exact hun
      have hkeep : keepF oj (addF i B F) = addF i B (keepF oj F) := by
        cases B with
        | none => rfl
        | some bx =>
          have : notPred oj i = true := by
            unfold notPred
            rw [Array.all_eq_true_iff_forall_mem]
            intro e he
            cases hb : Region.binds .any e with
            | false => rfl
            | true =>
              have := hnot e he hb
              simp [this]
          simp [addF, keepF, this]
      have hlook : ∀ d ∈ oj.looksAt ops, ∀ z, (putT t oi.dst y).get d = some z → t.get d = some z := fun d hd z hz => by
        rwa [get_putT_ne (fun e => a1 d e hd)] at hz
      have hlooki : ∀ z, ∀ d ∈ oi.looksAt ops, ∀ q, t.get d = some q → (putT t oj.dst z).get d = some q := fun z d hd q hq => by
        rw [get_putT_ne (fun e => a3 d e hd)]; exact hq
      refine ⟨oj, hoj, ?_⟩
      have step : ∀ (z : AV) (σ' : AH), Keep (keepF oj (addF i B F)) σ' ∧ AAny P n ops Q f (keepF oj (addF i B F)) ((L.setIfInBounds i true).setIfInBounds j true) (putT (putT t oi.dst y) oj.dst z) σ' →
          Keep (keepF oj F) σ' ∧ AAny P n ops Q (f + 1) (keepF oj F) (L.setIfInBounds j true) (putT t oj.dst z) σ' := by
        rintro z σ' ⟨k1, k2⟩
        rw [hkeep] at k1 k2
        have k3 : Keep (keepF oj F) σ' := fun x hx => k1 x (by cases B with | none => exact hx | some bx => exact List.mem_cons_of_mem _ hx)
        refine ⟨k3, ih (keepF oj F) (L.setIfInBounds j true) (putT t oj.dst z) σ' hfree' (ready_mono hr (Ne.symm hji)) (hy.congr (hlooki z)) (fun b x hbx => ?_) k3 ?_⟩
        · subst hbx; exact k1 (i, b, x) (by simp [addF])
        · rw [Array.setIfInBounds_comm _ _ hji]
          exact AAny.le f (putT_comm a2) k2
      refine ⟨h1.1, h1.2.imp (fun ⟨hw, ho⟩ => ⟨hw.le hlook, ?_⟩) (fun ⟨hw, ho⟩ => ⟨hw.le hlook, step _ _ ho⟩)⟩
      exact (AOp.le (ev_le_of_looks hlook) ho).mono fun z σ' hz => step z σ' hz
end
#print axioms AAny.first
#print axioms acalls
end Go.Proofs.Al
