/- An abstract layer over the walk of Go code, part 2: operations, regions (in the text's order, and in any order that is allowed), and the control of a body, told of what is known alone. -/
import Derived.Tactics
import Derived.Test.YtaiccchelchdmaaAla
namespace Go.Proofs.Al
open Go

/-- What operation o does where t and σ are known. -/
def AOp (P : Program) (o : Oper) (t : AT) (σ : AH) (K : AV → AH → Prop) : Prop :=
  ∀ (Φ : Phi) (w : World) (a : Act), WR Φ σ w → (∀ x ∈ o.op.operands, ∀ y, t.ev x = some y → VR Φ y (a.eval x)) →
    o.wp P a w (fun a' w' => ∃ y σ' Φ' u, a' = a.put o.dst u ∧ K y σ' ∧ Φ.le Φ' ∧ WR Φ' σ' w' ∧ VR Φ' y u) (fun _ _ _ => False)

theorem AOp.mono {P : Program} {o : Oper} {t : AT} {σ : AH} {K K' : AV → AH → Prop} (h : AOp P o t σ K) (hk : ∀ y σ', K y σ' → K' y σ') : AOp P o t σ K' :=
  fun Φ w a hW hO => Oper.wp_mono (fun _ _ ⟨y, σ', Φ', u, h1, h2, h3⟩ => ⟨y, σ', Φ', u, h1, hk _ _ h2, h3⟩) (h Φ w a hW hO)

def Det (P : Program) (o : Oper) (t : AT) (y : AV) : Prop := ∀ σ, AOp P o t σ (fun y' σ' => y' = y ∧ σ' = σ)
def DetOn (P : Program) (b : Nat) (x : Blk) (o : Oper) (t : AT) (y : AV) : Prop := ∀ σ, σ b = some x → AOp P o t σ (fun y' σ' => y' = y ∧ σ' = σ)

def putT (t : AT) (d : Option Tmp) (y : AV) : AT :=
  match d with
  | some d => (d, y) :: t
  | none => t
def dstOk (d : Option Tmp) (n : Nat) : Bool :=
  match d with
  | some d => Nat.blt d n
  | none => true

/-- Whether what a guard told lets go on (nothing, where it was left out itself, lets nothing go on). -/
def gval : AV → Bool → Option Bool
  | .v (.bool b), want => some (b == want)
  | .tup [], _ => some false
  | _, _ => none
theorem gval_spec {y : AV} {want r : Bool} (h : gval y want = some r) : (∃ b, y = .v (.bool b) ∧ (b == want) = r) ∨ (y = .tup [] ∧ r = false) := by
  unfold gval at h
  split at h
  · exact .inl ⟨_, rfl, Option.some.inj h⟩
  · exact .inr ⟨rfl, (Option.some.inj h).symm⟩
  · cases h
def Wanted (ops : Array Oper) (o : Oper) (t : AT) (r : Bool) : Prop :=
  match o.guard with
  | none => r = true
  | some (g, want) => ∃ d y, (ops[g]?).bind (·.dst) = some d ∧ t.get d = some y ∧ gval y want = some r

def AOpI (P : Program) (n : Nat) (ops : Array Oper) (o : Oper) (t : AT) (σ : AH) (K : AT → AH → Prop) : Prop :=
  dstOk o.dst n = true ∧ ((Wanted ops o t true ∧ AOp P o t σ (fun y σ' => K (putT t o.dst y) σ')) ∨ (Wanted ops o t false ∧ K (putT t o.dst (.tup [])) σ))

theorem AOpI.mono {P : Program} {n : Nat} {ops : Array Oper} {o : Oper} {t : AT} {σ : AH} {K K' : AT → AH → Prop} (h : AOpI P n ops o t σ K) (hk : ∀ t' σ', K t' σ' → K' t' σ') : AOpI P n ops o t σ K' :=
  ⟨h.1, h.2.imp (fun ⟨a, b⟩ => ⟨a, b.mono fun _ _ => hk _ _⟩) (fun ⟨a, b⟩ => ⟨a, hk _ _ b⟩)⟩

def AT.le (t t' : AT) : Prop := ∀ d x, t.get d = some x → t'.get d = some x
theorem AT.le.refl (t : AT) : t.le t := fun _ _ h => h
theorem AT.le.trans {a b c : AT} (h : a.le b) (k : b.le c) : a.le c := fun d x hx => k d x (h d x hx)
theorem AT.le.ev {t t' : AT} (h : t.le t') {x : Operand} {y : AV} (hx : t.ev x = some y) : t'.ev x = some y := by
  cases x <;> first | exact h _ _ hx | exact hx
theorem AT.le.put {t t' : AT} (h : t.le t') (d : Option Tmp) (y : AV) : (putT t d y).le (putT t' d y) := by
  cases d with
  | none => exact h
  | some d =>
    intro e x hx
    by_cases hde : d = e
    · subst hde; simp only [putT, AT.get_cons_self] at *; exact hx
    · simp only [putT, AT.get_cons_ne hde] at *; exact h _ _ hx
theorem AT.le.tr {t t' : AT} (h : t.le t') {Φ : Phi} {n : Nat} {a : Act} (ht : TR Φ n t' a) : TR Φ n t a := ⟨ht.1, fun d x hx => ht.2 d x (h d x hx)⟩

theorem AOp.le {P : Program} {o : Oper} {t t' : AT} {σ : AH} {K : AV → AH → Prop} (hle : ∀ x ∈ o.op.operands, ∀ y, t.ev x = some y → t'.ev x = some y) (h : AOp P o t σ K) : AOp P o t' σ K :=
  fun Φ w a hW hO => h Φ w a hW fun x hx y hy => hO x hx y (hle x hx y hy)
theorem Wanted.le {ops : Array Oper} {o : Oper} {t t' : AT} {r : Bool} (hle : ∀ d ∈ o.looksAt ops, ∀ y, t.get d = some y → t'.get d = some y) (h : Wanted ops o t r) : Wanted ops o t' r := by
  unfold Wanted at *
  cases hg : o.guard with
  | none => simpa [hg] using h
  | some gw =>
    obtain ⟨g, want⟩ := gw
    simp only [hg] at h ⊢
    obtain ⟨d, b, h1, h2, h3⟩ := h
    exact ⟨d, b, h1, hle d (by simp [Oper.looksAt, hg, h1]) _ h2, h3⟩
theorem looks_operand {ops : Array Oper} {o : Oper} {d : Tmp} (h : Operand.tmp d ∈ o.op.operands) : d ∈ o.looksAt ops :=
  List.mem_append_left _ (List.mem_filterMap.2 ⟨.tmp d, by simpa using h, rfl⟩)
theorem ev_le_of_looks {ops : Array Oper} {o : Oper} {t t' : AT} (hle : ∀ d ∈ o.looksAt ops, ∀ y, t.get d = some y → t'.get d = some y) : ∀ x ∈ o.op.operands, ∀ y, t.ev x = some y → t'.ev x = some y := by
  intro x hx y hy
  cases x with
  | tmp d => exact hle d (looks_operand hx) _ hy
  | _ => exact hy

/-- Neither a panic nor memory that runs out. -/
theorem Oper.wp_no {P : Program} {o : Oper} {a : Act} {w : World} {K : Act → World → Prop} {Q : Exit → Act → World → Prop} (h : o.wp P a w K (fun _ _ _ => False)) : o.wp P a w K Q := by
  unfold Oper.wp at *
  generalize (execOp a.eval o).run P w = r at *
  cases r with
  | ok m w' =>
    cases m <;> simp only [Oper.upon] at h ⊢ <;> try exact h
    refine Calls.mono h fun e w'' he => ?_
    cases e with
    | returned v => exact he
    | panicked c => exact he.elim
    | outgrown => obtain ⟨_, _, hh⟩ := he; exact hh.elim
  | halt x w' =>
    cases x <;> simp only [Oper.upon] at h ⊢

/-- Behind a piece of code. -/
def Post (Φ : Phi) (n : Nat) (Q : Exit → AT → AH → Prop) : Exit → Act → World → Prop :=
  fun e a w => ∃ t σ Φ', Q e t σ ∧ Φ.le Φ' ∧ WR Φ' σ w ∧ TR Φ' n t a ∧ a.defers = []
theorem Post.mono {Φ Φ' : Phi} (h : Φ.le Φ') {n : Nat} {Q Q' : Exit → AT → AH → Prop} (hq : ∀ e t σ, Q e t σ → Q' e t σ) {e : Exit} {a : Act} {w : World} (hp : Post Φ' n Q e a w) : Post Φ n Q' e a w :=
  let ⟨t, σ, Ψ, h1, h2, h3⟩ := hp
  ⟨t, σ, Ψ, hq _ _ _ h1, h.trans h2, h3⟩

theorem wanted_of {ops : Array Oper} {o : Oper} {t : AT} {r : Bool} (h : Wanted ops o t r) {Φ : Phi} {n : Nat} {a : Act} (ht : TR Φ n t a) : Region.wanted o (yielded ops a.tmps) = r := by
  unfold Wanted at h
  unfold Region.wanted
  cases hg : o.guard with
  | none => simp only [hg] at h; simp [h]
  | some gw =>
    obtain ⟨g, want⟩ := gw
    simp only [hg] at h ⊢
    obtain ⟨d, y, h1, h2, h3⟩ := h
    rcases gval_spec h3 with ⟨b, rfl, hbw⟩ | ⟨rfl, rfl⟩
    case inr =>
      have hb := ht.2 d _ h2
      have hd : a.tmps.getD d undef = .tuple #[] := by
        obtain ⟨us, h4, h5, _⟩ := hb
        have : us = [] := by simpa using h5
        subst this; exact h4
      have hin : a.tmps[d]? = some (.tuple #[]) ∨ a.tmps[d]? = none := by
        cases hx : a.tmps[d]? with
        | none => exact .inr rfl
        | some v => simp [Array.getD_eq_getD_getElem?, hx] at hd; rw [hd]; exact .inl rfl
      rcases hin with hin | hin <;> simp [yielded, h1, hin]
    have hb := ht.2 d _ h2
    have hd : a.tmps.getD d undef = .bool b := hb.vv
    have hin : a.tmps[d]? = some (.bool b) := by
      cases hx : a.tmps[d]? with
      | none => simp [Array.getD_eq_getD_getElem?, hx, undef] at hd
      | some v => simp [Array.getD_eq_getD_getElem?, hx] at hd; rw [hd]
    simp only [yielded, h1, Option.bind_some, hin]
    rw [← hbw]
    cases b <;> cases want <;> rfl

theorem TR.eval {Φ : Phi} {n : Nat} {t : AT} {a : Act} (ht : TR Φ n t a) {x : Operand} {y : AV} (hx : t.ev x = some y) (hc : ∀ v, x = .const v → flat v = true) : VR Φ y (a.eval x) := by
  cases x with
  | tmp d => exact ht.2 d _ hx
  | const v => cases hx; exact VR.const (hc v rfl)
  | func f =>
    cases hx
    exact CR.fn (us := []) rfl (fun i x h => by simp at h) (fun i x h => by simp at h)
  | global g => cases hx

def flatOp (o : Oper) : Bool := o.op.operands.toList.all fun | .const v => flat v | _ => true
def flatOps (ops : Array Oper) : Bool := ops.all flatOp
theorem flatOp_spec {o : Oper} (h : flatOp o = true) {x : Operand} (hx : x ∈ o.op.operands) (v : Value) (hv : x = .const v) : flat v = true := by
  have := List.all_eq_true.1 h x (by simpa using hx)
  subst hv
  exact this

/-- One operation as it comes up. -/
theorem AOpI.sound {P : Program} {n : Nat} {ops : Array Oper} {o : Oper} {t : AT} {σ : AH} {K : AT → AH → Prop} (h : AOpI P n ops o t σ K) (hf : flatOp o = true) {Q : Exit → Act → World → Prop}
    {Φ : Phi} {w : World} {a : Act} (hW : WR Φ σ w) (ht : TR Φ n t a) (hd : a.defers = []) {next : Act → World → Prop}
    (hn : ∀ t' σ' Φ' a' w', K t' σ' → Φ.le Φ' → WR Φ' σ' w' → TR Φ' n t' a' → a'.defers = [] → next a' w') :
    if Region.wanted o (yielded ops a.tmps) then o.wp P a w next Q else next (a.put o.dst undef) w := by
  have hdef : ∀ u, (a.put o.dst u).defers = [] := fun u => by cases o.dst <;> exact hd
  have hput : ∀ {Φ' : Phi} {y : AV} {u : Value}, Φ.le Φ' → VR Φ' y u → TR Φ' n (putT t o.dst y) (a.put o.dst u) := by
    intro Φ' y u hle hy
    cases hdst : o.dst with
    | none => exact ht.mono hle
    | some d =>
      have hok := h.1
      rw [hdst] at hok
      exact (ht.mono hle).put (Nat.le_of_ble_eq_true hok) hy
  rcases h.2 with ⟨hw, hop⟩ | ⟨hw, hk⟩
  · rw [wanted_of hw ht, if_pos rfl]
    refine Oper.wp_no (Oper.wp_mono ?_ (hop Φ w a hW fun x hx y hy => ht.eval hy (flatOp_spec hf hx)))
    rintro a' w' ⟨y, σ', Φ', u, rfl, hk, hle, hW', hy⟩
    exact hn _ _ Φ' _ _ hk hle hW' (hput hle hy) (hdef u)
  · rw [wanted_of hw ht, if_neg (by decide)]
    exact hn _ _ Φ _ _ hk (.refl Φ) hW (hput (.refl Φ) ⟨[], rfl, rfl, fun i x y hx => by simp at hx⟩) (hdef _)

/-- Operations one behind the other. -/
def ASeq (P : Program) (n : Nat) (ops : Array Oper) (Q : AT → AH → Prop) : List Oper → AT → AH → Prop
  | [], t, σ => Q t σ
  | o :: rest, t, σ => AOpI P n ops o t σ (ASeq P n ops Q rest)

theorem ASeq.sound {P : Program} {n : Nat} {ops : Array Oper} {Q : Exit → AT → AH → Prop} (Φ0 : Phi) : ∀ (l : List Oper), l.all flatOp = true → ∀ (t : AT) (σ : AH), ASeq P n ops (Q .normal) l t σ →
    ∀ (Φ : Phi) (w : World) (a : Act), Φ0.le Φ → WR Φ σ w → TR Φ n t a → a.defers = [] → wpList P ops (Post Φ0 n Q) l a w
  | [], _, t, σ, h, Φ, w, a, hle, hW, ht, hd => ⟨t, σ, Φ, h, hle, hW, ht, hd⟩
  | o :: rest, hf, t, σ, h, Φ, w, a, hle, hW, ht, hd => by
    simp only [List.all_cons, Bool.and_eq_true] at hf
    have hs := AOpI.sound (Q := Post Φ0 n Q) h hf.1 hW ht hd (next := wpList P ops (Post Φ0 n Q) rest)
      (fun t' σ' Φ' a' w' hk hle' hW' ht' hd' => ASeq.sound Φ0 rest hf.2 t' σ' hk Φ' w' a' (hle.trans hle') hW' ht' hd')
    unfold wpList
    by_cases hw : Region.wanted o (yielded ops a.tmps) = true
    · rw [if_pos hw] at hs ⊢; exact .inl hs
    · rw [if_neg hw] at hs ⊢; exact hs

/-- A piece of code, told of what is known. -/
def AWp (P : Program) (n : Nat) (c : Code) (Q : Exit → AT → AH → Prop) (t : AT) (σ : AH) : Prop :=
  ∀ (Φ : Phi) (w : World) (a : Act), WR Φ σ w → TR Φ n t a → a.defers = [] → c.wp P (Post Φ n Q) a w

theorem AWp.mono {P : Program} {n : Nat} {c : Code} {Q Q' : Exit → AT → AH → Prop} {t : AT} {σ : AH} (h : AWp P n c Q t σ) (hq : ∀ e t σ, Q e t σ → Q' e t σ) : AWp P n c Q' t σ :=
  fun Φ w a hW ht hd => Go.wp_mono (h Φ w a hW ht hd) fun _ _ _ hp => hp.mono (.refl Φ) hq

theorem AWp.le {P : Program} {n : Nat} {c : Code} {Q : Exit → AT → AH → Prop} {t t' : AT} {σ : AH} (hle : t'.le t) (h : AWp P n c Q t' σ) : AWp P n c Q t σ :=
  fun Φ w a hW ht hd => h Φ w a hW (hle.tr ht) hd

theorem areg {P : Program} {n id : Nat} {l : List Oper} {Q : Exit → AT → AH → Prop} {t : AT} {σ : AH} (hf : l.all flatOp = true) (h : ASeq P n l.toArray (Q .normal) l t σ) :
    AWp P n (.region id l.toArray false) Q t σ :=
  fun Φ w a hW ht hd => wp_region_lit (ASeq.sound Φ l hf t σ h Φ w a (.refl Φ) hW ht hd)

def AEx.then (next : AT → AH → Prop) (Q : Exit → AT → AH → Prop) : Exit → AT → AH → Prop
  | .normal, t, σ => next t σ
  | e, t, σ => Q e t σ
def AEx.inB (id : Nat) (Q : Exit → AT → AH → Prop) : Exit → AT → AH → Prop
  | .exit id', t, σ => bif Nat.beq id' id then Q .normal t σ else Q (.exit id') t σ
  | e, t, σ => Q e t σ

section
variable {P : Program} {n : Nat} {Q : Exit → AT → AH → Prop} {t : AT} {σ : AH}
theorem aseq {x y : Code} (h : AWp P n x (AEx.then (AWp P n y Q) Q) t σ) : AWp P n (.seq x y) Q t σ := by
  intro Φ w a hW ht hd
  refine wp_seq (Go.wp_mono (h Φ w a hW ht hd) ?_)
  intro e a' w' hp
  cases e with
  | normal =>
    obtain ⟨t', σ', Φ', h1, h2, h3, h4, h5⟩ := hp
    exact Go.wp_mono (h1 Φ' w' a' h3 h4 h5) fun _ _ _ hp => hp.mono h2 fun _ _ _ h => h
  | _ => exact hp
theorem askip (h : Q .normal t σ) : AWp P n .skip Q t σ := fun Φ _ _ hW ht hd => wp_skip ⟨t, σ, Φ, h, .refl Φ, hW, ht, hd⟩
theorem alabel {l : Nat} (h : Q .normal t σ) : AWp P n (.label l) Q t σ := fun Φ _ _ hW ht hd => wp_label ⟨t, σ, Φ, h, .refl Φ, hW, ht, hd⟩
theorem aret (h : Q .ret t σ) : AWp P n .ret Q t σ := fun Φ _ _ hW ht hd => wp_ret ⟨t, σ, Φ, h, .refl Φ, hW, ht, hd⟩
theorem aexit {id : Nat} (h : Q (.exit id) t σ) : AWp P n (.exit id) Q t σ := fun Φ _ _ hW ht hd => wp_exit ⟨t, σ, Φ, h, .refl Φ, hW, ht, hd⟩
theorem acond {c : Operand} {x y : Code} {b : Bool} (hc : t.ev c = some (.v (.bool b))) (h1 : b = true → AWp P n x Q t σ) (h2 : b = false → AWp P n y Q t σ) : AWp P n (.cond c x y) Q t σ := by
  intro Φ w a hW ht hd
  have hv : a.eval c = .bool b := by
    have hb : VR Φ (.v (.bool b)) (a.eval c) := by
      refine ht.eval hc fun v hv => ?_
      subst hv
      simp only [AT.ev, Option.some.injEq] at hc
      cases v <;> simp_all [AV.const, flat, AV.const0] <;> (split at hc <;> simp_all)
    exact hb.vv
  exact wp_cond_split hv (fun hb => h1 hb Φ w a hW ht hd) (fun hb => h2 hb Φ w a hW ht hd)
theorem acond_t {c : Operand} {x y : Code} (hc : t.ev c = some (.v (.bool true))) (h : AWp P n x Q t σ) : AWp P n (.cond c x y) Q t σ := acond hc (fun _ => h) (fun h => by cases h)
theorem acond_f {c : Operand} {x y : Code} (hc : t.ev c = some (.v (.bool false))) (h : AWp P n y Q t σ) : AWp P n (.cond c x y) Q t σ := acond hc (fun h => by cases h) (fun _ => h)
theorem ablock {id : Nat} {c : Code} (h : AWp P n c (AEx.inB id Q) t σ) : AWp P n (.block id c) Q t σ := by
  intro Φ w a hW ht hd
  refine wp_block (Go.wp_mono (h Φ w a hW ht hd) ?_)
  rintro e a' w' ⟨t', σ', Φ', h1, h2⟩
  cases e with
  | exit id' =>
    simp only [AEx.inB] at h1
    simp only [Exit.inBlock]
    by_cases hid : id' = id
    · subst hid
      simp only [Nat.beq_refl, cond_true] at h1
      rw [if_pos rfl]
      exact ⟨t', σ', Φ', h1, h2⟩
    · have : Nat.beq id' id = false := by
        cases hb : Nat.beq id' id with
        | false => rfl
        | true => exact absurd (Nat.eq_of_beq_eq_true hb) hid
      simp only [this, cond_false] at h1
      rw [if_neg hid]
      exact ⟨t', σ', Φ', h1, h2⟩
  | _ => exact ⟨t', σ', Φ', h1, h2⟩

/-- A value that tells less. -/
def Wk (x y : AV) : Prop := ∀ Φ u, VR Φ x u → VR Φ y u
theorem Wk.refl (x : AV) : Wk x x := fun _ _ h => h
theorem Wk.full {k : Nat} {es : List AV} {c : Bool} : Wk (.list true k es) (.list c k es) := by
  intro Φ u h
  simp only [VR, VR1] at *
  cases h with
  | nil h => exact .nil fun hc => h rfl
  | list hne hΦ hc hcap hl hu hn hr hm => exact .list hne hΦ (fun _ => hc rfl) hcap hl hu hn hr hm
theorem Wk.less {k : Nat} {es : List AV} {c : Bool} : Wk (.list c k es) (.list false k es) := by
  intro Φ u h
  simp only [VR, VR1] at *
  cases h with
  | nil h => exact .nil fun hc => by cases hc
  | list hne hΦ hc hcap hl hu hn hr hm => exact .list hne hΦ (fun h => by cases h) hcap hl hu hn hr hm
theorem Wk.nil {k k' : Nat} {c : Bool} : Wk (.list c k []) (.list c k' []) := by
  intro Φ u h
  simp only [VR, VR1] at *
  cases h with
  | nil h => exact .nil h
  | list hne => exact absurd rfl hne
theorem Wk.trans {x y z : AV} (h : Wk x y) (k : Wk y z) : Wk x z := fun Φ u hu => k Φ u (h Φ u hu)

/-- The slots s are known, too, where t is. -/
def AT.sub : AT → AT → Prop
  | [], _ => True
  | (d, x) :: r, t => (∃ y, t.get d = some y ∧ Wk y x) ∧ AT.sub r t
theorem AT.sub.tr {Φ : Phi} {n : Nat} {a : Act} : ∀ {s t : AT}, AT.sub s t → TR Φ n t a → TR Φ n s a
  | [], _, _, ht => ⟨ht.1, fun d x hx => by simp [AT.get] at hx⟩
  | (d, x) :: r, t, h, ht => by
    obtain ⟨⟨y, h1, h2⟩, h3⟩ := h
    refine ⟨ht.1, fun e z hz => ?_⟩
    by_cases hde : d = e
    · subst hde; rw [AT.get_cons_self] at hz; cases hz; exact h2 _ _ (ht.2 _ _ h1)
    · rw [AT.get_cons_ne hde] at hz; exact (AT.sub.tr h3 ht).2 e z hz
theorem AT.sub.nil {t : AT} : AT.sub [] t := trivial
theorem AT.sub.cons {d : Nat} {x : AV} {s t : AT} (h : t.get d = some x) (k : AT.sub s t) : AT.sub ((d, x) :: s) t := ⟨⟨x, h, .refl x⟩, k⟩
theorem AT.sub.wk {d : Nat} {x y : AV} {s t : AT} (h : t.get d = some y) (hw : Wk y x) (k : AT.sub s t) : AT.sub ((d, x) :: s) t := ⟨⟨y, h, hw⟩, k⟩

/-- What is known may be told anew, and less of it. -/
theorem acut {c : Code} (s : AT) (hs : AT.sub s t) (h : AWp P n c Q s σ) : AWp P n c Q t σ :=
  fun Φ w a hW ht hd => h Φ w a hW (hs.tr ht) hd

/-- Behind x, whatever the way, this is known: (T i, S i) for an i with I i. -/
theorem amid {x y : Code} {ι : Sort _} (I : ι → Prop) (T : ι → AT) (S : ι → AH) (h1 : AWp P n x (AEx.then (fun t' σ' => ∃ i, I i ∧ AT.sub (T i) t' ∧ σ' = S i) Q) t σ)
    (h2 : ∀ i, I i → AWp P n y Q (T i) (S i)) : AWp P n (.seq x y) Q t σ := by
  intro Φ w a hW ht hd
  refine wp_seq (Go.wp_mono (h1 Φ w a hW ht hd) ?_)
  intro e a' w' hp
  cases e with
  | normal =>
    obtain ⟨t', σ', Φ', ⟨i, hi, hs, rfl⟩, h2', h3, h4, h5⟩ := hp
    exact Go.wp_mono (h2 i hi Φ' w' a' h3 (hs.tr h4) h5) fun _ _ _ hp => hp.mono h2' fun _ _ _ h => h
  | _ => exact hp

/-- A loop: what is known at every round's head (T i, S i), and a number that each round lowers. -/
theorem aloop {c : Code} {ι : Type _} (I : ι → Prop) (μ : ι → Nat) (T : ι → AT) (S : ι → AH) (i₀ : ι) (h₀ : I i₀) (hT : AT.sub (T i₀) t) (hS : σ = S i₀)
    (round : ∀ i, I i → AWp P n c (AEx.then (fun t' σ' => ∃ j, I j ∧ μ j < μ i ∧ AT.sub (T j) t' ∧ σ' = S j) Q) (T i) (S i)) : AWp P n (.loop c) Q t σ := by
  intro Φ w a hW ht hd
  let J : ι → Act → World → Prop := fun i a w => ∃ Φ', I i ∧ Φ.le Φ' ∧ WR Φ' (S i) w ∧ TR Φ' n (T i) a ∧ a.defers = []
  have key : ∀ m, ∀ i, μ i = m → ∀ a w, J i a w → ∀ (b : Frame) (k : List Item) (cs : List Frame),
      ∃ e a' w', Post Φ n Q e a' w' ∧ Arrives P (lone (b.at a (.code c :: .inLoop c :: k)) cs w) b k cs e a' w' := by
    intro m
    induction m using Nat.strongRecOn with
    | _ m ih =>
      intro i hm a w ⟨Φ', hI, hle, hW, ht, hd⟩ b k cs
      obtain ⟨e, a₁, w₁, hq, harr⟩ := round i hI Φ' w a hW ht hd b (.inLoop c :: k) cs
      cases e with
      | normal =>
        obtain ⟨t', σ', Φ'', ⟨j, hj, hlt, hs, rfl⟩, h2, h3, h4, h5⟩ := hq
        obtain ⟨e₂, a₂, w₂, hq₂, harr₂⟩ := ih (μ j) (hm ▸ hlt) j rfl a₁ w₁ ⟨Φ'', hj, hle.trans h2, h3, hs.tr h4, h5⟩ b k cs
        exact ⟨e₂, a₂, w₂, hq₂, .of_steps (Steps.trans harr (.one step_inLoop)) harr₂⟩
      | exit id => exact ⟨_, a₁, w₁, Post.mono hle (fun _ _ _ h => h) hq, .pass (x := .inLoop c) rfl (fun _ _ => .inl (by simp)) harr⟩
      | goto l => exact ⟨_, a₁, w₁, Post.mono hle (fun _ _ _ h => h) hq, .pass (x := .inLoop c) rfl (fun _ _ => .inl (by simp)) harr⟩
      | ret => exact ⟨_, a₁, w₁, Post.mono hle (fun _ _ _ h => h) hq, .pass (x := .inLoop c) rfl (fun _ _ => .inl (by simp)) harr⟩
      | panic ch => exact ⟨_, a₁, w₁, Post.mono hle (fun _ _ _ h => h) hq, .pass (x := .inLoop c) rfl (fun _ _ => .inl (by simp)) harr⟩
      | outgrown => exact ⟨_, a₁, w₁, Post.mono hle (fun _ _ _ h => h) hq, .pass (x := .inLoop c) rfl (fun _ _ => .inl (by simp)) harr⟩
  intro b k cs
  obtain ⟨e, a', w', hq, harr⟩ := key _ i₀ rfl a w ⟨Φ, h₀, .refl Φ, hS ▸ hW, hT.tr ht, hd⟩ b k cs
  exact ⟨e, a', w', hq, .of_steps (.one step_loop) harr⟩
end

/-- A call, told of what is known. -/
def ACalls (P : Program) (f : FuncId) (args : List AV) (σ : AH) (R : AV → AH → Prop) : Prop :=
  ∀ (Φ : Phi) (w : World) (us : List Value), WR Φ σ w → us.length = args.length → (∀ (i : Nat) x u, args[i]? = some x → us[i]? = some u → VR Φ x u) →
    Calls P f us.toArray w (fun e w' => ∃ y σ' Φ' u, e = .returned u ∧ R y σ' ∧ Φ.le Φ' ∧ WR Φ' σ' w' ∧ VR Φ' y u)
theorem ACalls.mono {P : Program} {f : FuncId} {args : List AV} {σ : AH} {R R' : AV → AH → Prop} (h : ACalls P f args σ R) (hr : ∀ y σ', R y σ' → R' y σ') : ACalls P f args σ R' :=
  fun Φ w us hW hl hu => Calls.mono (h Φ w us hW hl hu) fun _ _ ⟨y, σ', Φ', u, h1, h2, h3⟩ => ⟨y, σ', Φ', u, h1, hr _ _ h2, h3⟩

def enumT : Nat → List AV → AT
  | _, [] => []
  | i, x :: r => (i, x) :: enumT (i + 1) r
theorem enumT_get : ∀ (l : List AV) (i d : Nat) (x : AV), (enumT i l).get d = some x → i ≤ d ∧ l[d - i]? = some x
  | [], _, _, _, h => by simp [enumT, AT.get] at h
  | y :: r, i, d, x, h => by
    by_cases hd : i = d
    · subst hd
      rw [enumT, AT.get_cons_self] at h
      cases h
      simp
    · rw [enumT, AT.get_cons_ne hd] at h
      obtain ⟨h1, h2⟩ := enumT_get r (i + 1) d x h
      refine ⟨by omega, ?_⟩
      have : d - i = (d - (i + 1)) + 1 := by omega
      rw [this, List.getElem?_cons_succ]
      exact h2

#print axioms aloop
end Go.Proofs.Al
