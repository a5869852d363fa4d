/- An abstract layer over the walk of Go code, part 3: the operations that change nothing that is known. -/
import Derived.Test.YtaiccchelchdmaaAlb
import Derived.Laws.IdiomCopy
import Derived.Laws.Cells
import Derived.KernelRfl
namespace Go.Proofs.Al
open Go

theorem AOp.of_value {P : Program} {o : Oper} {t : AT} {σ : AH} {K : AV → AH → Prop}
    (h : ∀ (Φ : Phi) (w : World) (ρ : Operand → Value), WR Φ σ w → (∀ x ∈ o.op.operands, ∀ y, t.ev x = some y → VR Φ y (ρ x)) →
      ∃ u w' Φ' y σ', (execOp ρ o).run P w = .ok (.value u) w' ∧ K y σ' ∧ Φ.le Φ' ∧ WR Φ' σ' w' ∧ VR Φ' y u) : AOp P o t σ K := by
  intro Φ w a hW hO
  obtain ⟨u, w', Φ', y, σ', h1, h2, h3, h4, h5⟩ := h Φ w a.eval hW hO
  unfold Oper.wp
  rw [h1]
  exact ⟨y, σ', Φ', u, rfl, h2, h3, h4, h5⟩
theorem AOp.of_skip {P : Program} {o : Oper} {t : AT} {σ : AH} {K : AV → AH → Prop}
    (h : ∀ (Φ : Phi) (w : World) (ρ : Operand → Value), WR Φ σ w → (∀ x ∈ o.op.operands, ∀ y, t.ev x = some y → VR Φ y (ρ x)) →
      ∃ w' Φ' σ', (execOp ρ o).run P w = .ok .skip w' ∧ K (.tup []) σ' ∧ Φ.le Φ' ∧ WR Φ' σ' w') : AOp P o t σ K := by
  intro Φ w a hW hO
  obtain ⟨w', Φ', σ', h1, h2, h3, h4⟩ := h Φ w a.eval hW hO
  unfold Oper.wp
  rw [h1]
  exact ⟨.tup [], σ', Φ', undef, rfl, h2, h3, h4, [], rfl, rfl, fun i x y hx => by simp at hx⟩
/-- An operation that yields a value and leaves the world alone. -/
theorem Det.of_run {P : Program} {o : Oper} {t : AT} {y : AV}
    (h : ∀ (Φ : Phi) (w : World) (ρ : Operand → Value), (∀ β x, Φ.obj β = some x → w.heap[β]? = some x) → (∀ x ∈ o.op.operands, ∀ y, t.ev x = some y → VR Φ y (ρ x)) →
      ∃ u, (execOp ρ o).run P w = .ok (.value u) w ∧ VR Φ y u) : Det P o t y :=
  fun σ => .of_value fun Φ w ρ hW hO => let ⟨u, h1, h2⟩ := h Φ w ρ hW.obj hO; ⟨u, w, Φ, y, σ, h1, ⟨rfl, rfl⟩, .refl Φ, hW, h2⟩

theorem run_und {P : Program} {w : World} {t : TypeId} {d : TypeDesc} (h : P.underlying t = some d) : (underlying t).run P w = .ok d w := by
  simp [underlying, h]
theorem run_info {P : Program} {w : World} {t : TypeId} {i : TypeInfo} (h : P.info? t = some i) : (typeInfo t).run P w = .ok i w := by
  simp [typeInfo, h]
theorem run_size {P : Program} {w : World} {t : TypeId} {k : Nat} (h : (P.info? t).map (·.size) = some k) : (sizeOf t).run P w = .ok k w := by
  cases hi : P.info? t with
  | none => simp [hi] at h
  | some i => simp [hi] at h; simp [sizeOf, run_info hi, h]

def aggD : TypeDesc → Bool
  | .struct _ | .array _ _ => true
  | _ => false
/-- Is the type an aggregate, and how many cells it takes. -/
def szT (P : Program) (t : TypeId) : Option (Bool × Nat) :=
  match P.underlying t, (P.info? t).map (·.size) with
  | some d, some k => some (aggD d, k)
  | _, _ => none
theorem szT_spec {P : Program} {t : TypeId} {b : Bool} {k : Nat} (h : szT P t = some (b, k)) : ∃ d, P.underlying t = some d ∧ aggD d = b ∧ (P.info? t).map (·.size) = some k := by
  unfold szT at h
  split at h
  · rename_i d k' hd hk; simp only [Option.some.injEq, Prod.mk.injEq] at h; obtain ⟨rfl, rfl⟩ := h; exact ⟨d, hd, rfl, hk⟩
  · cases h
theorem run_isAgg' {P : Program} {w : World} {t : TypeId} {d : TypeDesc} (h : P.underlying t = some d) : (isAgg t).run P w = .ok (aggD d) w := by
  simp only [isAgg, Sem.run_bind, run_und h, Result.andThen_ok]
  cases d <;> rfl

theorem add_addr (β o j : Nat) : Addr.add ⟨β, o, none⟩ j = ⟨β, o + j, none⟩ := by
  unfold Addr.add
  split
  · subst_vars; rfl
  · rfl
theorem cell_at {w : World} {β : Nat} {cs : Array Value} {el : TypeId} {fz : Nat × Nat} (h : w.heap[β]? = some (.cells cs el fz)) (o : Nat) : w.cell? ⟨β, o, none⟩ = cs[o]? := by
  simp [World.cell?, h]
theorem run_loadCells_at {P : Program} {w : World} {β o : Nat} {cs : Array Value} {el : TypeId} {fz : Nat × Nat} {us : List Value} {k : Nat} (h : w.heap[β]? = some (.cells cs el fz)) (hm : At cs o us) (hk : us.length = k) :
    (loadCells ⟨β, o, none⟩ k).run P w = .ok us.toArray w := by
  subst hk
  exact run_loadCells_list w _ us fun j v hj => by rw [add_addr, cell_at h]; exact hm j v hj
theorem run_load_at {P : Program} {w : World} {β o : Nat} {cs : Array Value} {el : TypeId} {fz : Nat × Nat} {u : Value} (h : w.heap[β]? = some (.cells cs el fz)) (hm : At cs o [u]) :
    (load ⟨β, o, none⟩).run P w = .ok u w := by
  have : w.cell? ⟨β, o, none⟩ = some u := by rw [cell_at h]; simpa using hm 0 u rfl
  simp [load, Sem.run, this]
theorem run_loadVar_at {P : Program} {w : World} {β o : Nat} {cs : Array Value} {el : TypeId} {fz : Nat × Nat} {us : List Value} {t : TypeId} {b : Bool} (h : w.heap[β]? = some (.cells cs el fz)) (hm : At cs o us)
    (hT : szT P t = some (b, us.length)) (hb : b = false → us.length = 1) :
    (loadVar t ⟨β, o, none⟩).run P w = .ok (if b then .agg us.toArray else us.headD undef) w := by
  obtain ⟨d, h1, h2, h3⟩ := szT_spec hT
  simp only [loadVar, Sem.run_bind, run_isAgg' h1, Result.andThen_ok, h2]
  cases b
  · obtain ⟨u, rfl⟩ := List.length_eq_one_iff.1 (hb rfl)
    simp only [Bool.false_eq_true, if_false, List.headD_cons]
    exact run_load_at h hm
  · simp only [if_true, Sem.run_bind, run_size h3, Result.andThen_ok, run_loadCells_at h hm rfl, Sem.run_pure]

def AV.isAgg : AV → Bool
  | .agg _ => true
  | _ => false
theorem VR1.of_row {Φ : Phi} {e : AV} {us : List Value} (h : CR Φ e us) : VR1 Φ e (if e.isAgg then .agg us.toArray else us.headD undef) := by
  cases e
  case agg fs => exact ⟨us, h, rfl⟩
  all_goals (first | (cases h; done) | (simp only [AV.isAgg, Bool.false_eq_true, if_false]; have h' := h; have hl := h.length; simp only [AV.n] at hl; obtain ⟨u, rfl⟩ := List.length_eq_one_iff.1 hl; exact h'))
theorem CR.one_of {Φ : Phi} {e : AV} {us : List Value} (h : CR Φ e us) (hb : e.isAgg = false) : us.length = 1 := by
  have := h.length
  cases e <;> simp_all [AV.n, AV.isAgg]

theorem VR.iptr {Φ : Phi} {e : AV} {u : Value} (h : VR Φ (.iptr e) u) : ∃ β o us cs el fz, u = .pointer (some ⟨β, o, none⟩) ∧ Φ.obj β = some (.cells cs el fz) ∧ CR Φ e us ∧ At cs o us := by
  simp only [VR, VR1] at h
  cases h with
  | iptr hΦ hr hm => exact ⟨_, _, _, _, _, _, rfl, hΦ, hr, hm⟩
theorem VR.ptr {Φ : Phi} {b i off : Nat} {path : List Nat} {u : Value} (h : VR Φ (.ptr b i path off) u) : ∃ β sz k, u = .pointer (some ⟨β, i * k + off, none⟩) ∧ Φ.own b = some (.row β sz k) := by
  simp only [VR, VR1] at h
  cases h with
  | ptr h => exact ⟨_, _, _, rfl, h⟩
theorem VR.list {Φ : Phi} {c : Bool} {k : Nat} {es : List AV} {u : Value} (h : VR Φ (.list c k es) u) : (es = [] ∧ ∃ A cap, u = .slice A 0 cap ∧ (c = true → cap = 0)) ∨
    (es ≠ [] ∧ ∃ β o cap us cs el fz, u = .slice (some ⟨β, o, none⟩) es.length cap ∧ (c = true → cap = es.length) ∧ es.length ≤ cap ∧ Φ.obj β = some (.cells cs el fz) ∧ Row Φ k es us ∧ At cs o us) := by
  simp only [VR, VR1] at h
  cases h with
  | nil h => exact .inl ⟨rfl, _, _, rfl, h⟩
  | list hne hΦ hc hcap hl hu hn hr hm => subst hl; exact .inr ⟨hne, _, _, _, _, _, _, _, rfl, hc, hcap, hΦ, ⟨hu, hn, hr⟩, hm⟩
theorem VR.ref {Φ : Phi} {b k off len : Nat} {u : Value} (h : VR Φ (.ref b k off len) u) : (∃ l A, Φ.own b = some l ∧ len = 0 ∧ u = .slice A 0 0) ∨
    ∃ β sz cap, Φ.own b = some (.row β sz k) ∧ u = .slice (some ⟨β, off * k, none⟩) len cap ∧ len ≤ cap ∧ (off + cap) * k ≤ sz := by
  simp only [VR, VR1] at h
  cases h with
  | refz h => exact .inl ⟨_, _, h, rfl, rfl⟩
  | ref h h1 h2 => exact .inr ⟨_, _, _, h, rfl, h1, h2⟩

section
variable {P : Program} {t : AT} {dst : Option Tmp} {ty : TypeId} {pos : String} {af : Array Edge} {g : Option (Nat × Bool)}

theorem D.move {x : Operand} {y : AV} (hx : t.ev x = some y) : Det P ⟨dst, .move x, ty, pos, af, g⟩ t y :=
  .of_run fun Φ w ρ _ hO => ⟨ρ x, rfl, hO x (by simp [Op.operands]) y hx⟩
theorem D.assign {x : Operand} {y : AV} (hx : t.ev x = some y) : Det P ⟨dst, .assign x, ty, pos, af, g⟩ t y :=
  .of_run fun Φ w ρ _ hO => ⟨ρ x, rfl, hO x (by simp [Op.operands]) y hx⟩
theorem D.pick {c x z : Operand} {b : Bool} {y y1 y2 : AV} (hc : t.ev c = some (.v (.bool b))) (hx : t.ev x = some y1) (hz : t.ev z = some y2) (hy : (bif b then y1 else y2) = y) :
    Det P ⟨dst, .pick c x z, ty, pos, af, g⟩ t y := by
  subst hy
  refine .of_run fun Φ w ρ _ hO => ?_
  have h1 := (hO c (by simp [Op.operands]) _ hc).vv
  have h2 := hO x (by simp [Op.operands]) _ hx
  have h3 := hO z (by simp [Op.operands]) _ hz
  cases b
  · exact ⟨ρ z, by simp [execOp, h1, asBool], h3⟩
  · exact ⟨ρ x, by simp [execOp, h1, asBool], h2⟩

theorem D.bin2 {op : BinOp} {xt yt : TypeId} {x y : Operand} {a b r : Value} (hx : t.ev x = some (.v a)) (hy : t.ev y = some (.v b))
    (hr : ∀ w, (eqGuard op xt x y a b).run P w = .ok () w ∧ (binOp op xt a b).run P w = .ok r w) (hp : plain r = true) :
    Det P ⟨dst, .binOp op xt x y yt, ty, pos, af, g⟩ t (.v r) := by
  refine .of_run fun Φ w ρ _ hO => ?_
  have h1 := (hO x (by simp [Op.operands]) _ hx).vv
  have h2 := (hO y (by simp [Op.operands]) _ hy).vv
  refine ⟨r, ?_, .of1 (.of_cells (.v hp) (by simp))⟩
  simp [execOp, h1, h2, (hr w).1, (hr w).2]

section ints
variable {xt yt : TypeId} {x y : Operand} {k k' : IntKind} {a b r : Int} {c : Bool}
theorem D.add (hx : t.ev x = some (.v (.int k a))) (hy : t.ev y = some (.v (.int k b))) (hr : k.wrap (a + b) = r) : Det P ⟨dst, .binOp .add xt x y yt, ty, pos, af, g⟩ t (.v (.int k r)) :=
  D.bin2 hx hy (fun w => by subst hr; simp [eqGuard, binOp, Op.intArith]) rfl
theorem D.sub (hx : t.ev x = some (.v (.int k a))) (hy : t.ev y = some (.v (.int k b))) (hr : k.wrap (a - b) = r) : Det P ⟨dst, .binOp .sub xt x y yt, ty, pos, af, g⟩ t (.v (.int k r)) :=
  D.bin2 hx hy (fun w => by subst hr; simp [eqGuard, binOp, Op.intArith]) rfl
theorem D.mul (hx : t.ev x = some (.v (.int k a))) (hy : t.ev y = some (.v (.int k b))) (hr : k.wrap (a * b) = r) : Det P ⟨dst, .binOp .mul xt x y yt, ty, pos, af, g⟩ t (.v (.int k r)) :=
  D.bin2 hx hy (fun w => by subst hr; simp [eqGuard, binOp, Op.intArith]) rfl
theorem D.quo (hx : t.ev x = some (.v (.int k a))) (hy : t.ev y = some (.v (.int k b))) (h0 : b ≠ 0) (hr : k.wrap (a.tdiv b) = r) : Det P ⟨dst, .binOp .quo xt x y yt, ty, pos, af, g⟩ t (.v (.int k r)) :=
  D.bin2 hx hy (fun w => by subst hr; simp [eqGuard, binOp, Op.intDiv, h0]) rfl
theorem D.rem (hx : t.ev x = some (.v (.int k a))) (hy : t.ev y = some (.v (.int k b))) (h0 : b ≠ 0) (hr : a.tmod b = r) : Det P ⟨dst, .binOp .rem xt x y yt, ty, pos, af, g⟩ t (.v (.int k r)) :=
  D.bin2 hx hy (fun w => by subst hr; simp [eqGuard, binOp, Op.intDiv, h0]) rfl
theorem D.and (hx : t.ev x = some (.v (.int k a))) (hy : t.ev y = some (.v (.int k b))) (hr : k.wrap (BitVec.ofInt k.bits a &&& BitVec.ofInt k.bits b).toNat = r) : Det P ⟨dst, .binOp .and xt x y yt, ty, pos, af, g⟩ t (.v (.int k r)) :=
  D.bin2 hx hy (fun w => by subst hr; simp [eqGuard, binOp, Op.intBits]) rfl
theorem D.or (hx : t.ev x = some (.v (.int k a))) (hy : t.ev y = some (.v (.int k b))) (hr : k.wrap (BitVec.ofInt k.bits a ||| BitVec.ofInt k.bits b).toNat = r) : Det P ⟨dst, .binOp .or xt x y yt, ty, pos, af, g⟩ t (.v (.int k r)) :=
  D.bin2 hx hy (fun w => by subst hr; simp [eqGuard, binOp, Op.intBits]) rfl
theorem D.xor (hx : t.ev x = some (.v (.int k a))) (hy : t.ev y = some (.v (.int k b))) (hr : k.wrap (BitVec.ofInt k.bits a ^^^ BitVec.ofInt k.bits b).toNat = r) : Det P ⟨dst, .binOp .xor xt x y yt, ty, pos, af, g⟩ t (.v (.int k r)) :=
  D.bin2 hx hy (fun w => by subst hr; simp [eqGuard, binOp, Op.intBits]) rfl
theorem D.shl (hx : t.ev x = some (.v (.int k a))) (hy : t.ev y = some (.v (.int k' b))) (h0 : 0 ≤ b) (hr : k.wrap (a * 2 ^ min b.toNat k.bits) = r) : Det P ⟨dst, .binOp .shl xt x y yt, ty, pos, af, g⟩ t (.v (.int k r)) :=
  D.bin2 hx hy (fun w => by subst hr; simp [eqGuard, binOp, Op.shift, Int.not_lt.2 h0]) rfl
theorem D.shr (hx : t.ev x = some (.v (.int k a))) (hy : t.ev y = some (.v (.int k' b))) (h0 : 0 ≤ b) (hr : a.fdiv (2 ^ min b.toNat k.bits) = r) : Det P ⟨dst, .binOp .shr xt x y yt, ty, pos, af, g⟩ t (.v (.int k r)) :=
  D.bin2 hx hy (fun w => by subst hr; simp [eqGuard, binOp, Op.shift, Int.not_lt.2 h0]) rfl
theorem D.lss (hx : t.ev x = some (.v (.int k a))) (hy : t.ev y = some (.v (.int k b))) (hr : decide (a < b) = c) : Det P ⟨dst, .binOp .lss xt x y yt, ty, pos, af, g⟩ t (.v (.bool c)) :=
  D.bin2 hx hy (fun w => by subst hr; simp [eqGuard, binOp, Op.intCmp]) rfl
theorem D.leq (hx : t.ev x = some (.v (.int k a))) (hy : t.ev y = some (.v (.int k b))) (hr : decide (a ≤ b) = c) : Det P ⟨dst, .binOp .leq xt x y yt, ty, pos, af, g⟩ t (.v (.bool c)) :=
  D.bin2 hx hy (fun w => by subst hr; simp [eqGuard, binOp, Op.intCmp]) rfl
theorem D.gtr (hx : t.ev x = some (.v (.int k a))) (hy : t.ev y = some (.v (.int k b))) (hr : decide (a > b) = c) : Det P ⟨dst, .binOp .gtr xt x y yt, ty, pos, af, g⟩ t (.v (.bool c)) :=
  D.bin2 hx hy (fun w => by subst hr; simp [eqGuard, binOp, Op.intCmp]) rfl
theorem D.geq (hx : t.ev x = some (.v (.int k a))) (hy : t.ev y = some (.v (.int k b))) (hr : decide (a ≥ b) = c) : Det P ⟨dst, .binOp .geq xt x y yt, ty, pos, af, g⟩ t (.v (.bool c)) :=
  D.bin2 hx hy (fun w => by subst hr; simp [eqGuard, binOp, Op.intCmp]) rfl
theorem D.eql (hx : t.ev x = some (.v (.int k a))) (hy : t.ev y = some (.v (.int k b))) (hr : decide (a = b) = c) : Det P ⟨dst, .binOp .eql xt x y yt, ty, pos, af, g⟩ t (.v (.bool c)) :=
  D.bin2 hx hy (fun w => by subst hr; simp [eqGuard, binOp, Op.intCmp]; rfl) rfl
theorem D.neq (hx : t.ev x = some (.v (.int k a))) (hy : t.ev y = some (.v (.int k b))) (hr : decide (a ≠ b) = c) : Det P ⟨dst, .binOp .neq xt x y yt, ty, pos, af, g⟩ t (.v (.bool c)) :=
  D.bin2 hx hy (fun w => by subst hr; simp [eqGuard, binOp, Op.intCmp, bne]; rfl) rfl
end ints

theorem D.load_i {x : Operand} {T : TypeId} {e : AV} (hx : t.ev x = some (.iptr e)) (hT : szT P T = some (e.isAgg, e.n)) : Det P ⟨dst, .load T x, ty, pos, af, g⟩ t e := by
  refine .of_run fun Φ w ρ hobj hO => ?_
  obtain ⟨β, o, us, cs, el, fz, h1, h2, h3, h4⟩ := (hO x (by simp [Op.operands]) _ hx).iptr
  refine ⟨_, ?_, .of1 (VR1.of_row h3)⟩
  have hl := h3.length
  rw [← hl] at hT
  simp [execOp, h1, Instr.loadAt, Instr.sureAddr, run_loadVar_at (hobj _ _ h2) h4 hT h3.one_of]

/-- Where a field lies (fields that take room alone). -/
def fldT (P : Program) (S : TypeId) (f : Nat) : Option Nat :=
  match P.underlying S with
  | some (.struct fields) =>
    match fields[f]? with
    | some fd => match (P.info? fd.type).map (·.size) with
      | some (_ + 1) => some fd.offset
      | _ => none
    | none => none
  | _ => none
theorem run_fieldAt {w : World} {S : TypeId} {f off : Nat} (h : fldT P S f = some off) (β o : Nat) : (Instr.fieldAt S (.pointer (some ⟨β, o, none⟩)) f).run P w = .ok (.pointer (some ⟨β, o + off, none⟩)) w := by
  unfold fldT at h
  split at h
  · rename_i fields hu
    split at h
    · rename_i fd hf
      split at h
      · rename_i s hs
        cases h
        simp [Instr.fieldAt, run_und hu, hf, Instr.sureAddr, fieldPlace, run_size hs, add_addr]
      · cases h
    · cases h
  · cases h

theorem CR.part {Φ : Phi} {fs : List AV} {us : List Value} (h : CR Φ (.agg fs) us) {f : Nat} {e : AV} (hf : fs[f]? = some e) : CR Φ e ((us.drop (AV.nL (fs.take f))).take e.n) := by
  cases h with
  | agg hu hp hr => exact hr f e hf

theorem D.field_i {x : Operand} {S : TypeId} {f : Nat} {fs : List AV} {e : AV} (hx : t.ev x = some (.iptr (.agg fs))) (hf : fs[f]? = some e) (hT : fldT P S f = some (AV.nL (fs.take f))) :
    Det P ⟨dst, .fieldAddr S x f, ty, pos, af, g⟩ t (.iptr e) := by
  refine .of_run fun Φ w ρ hobj hO => ?_
  obtain ⟨β, o, us, cs, el, fz, h1, h2, h3, h4⟩ := (hO x (by simp [Op.operands]) _ hx).iptr
  exact ⟨_, by simp [execOp, h1, run_fieldAt hT], .of1 (CR.iptr h2 (h3.part hf) ((h4.drop _).take _))⟩
theorem D.field_p {x : Operand} {S : TypeId} {f off b i o : Nat} {path : List Nat} (hx : t.ev x = some (.ptr b i path o)) (hT : fldT P S f = some off) :
    Det P ⟨dst, .fieldAddr S x f, ty, pos, af, g⟩ t (.ptr b i (path ++ [f]) (o + off)) := by
  refine .of_run fun Φ w ρ hobj hO => ?_
  obtain ⟨β, sz, k, h1, h2⟩ := (hO x (by simp [Op.operands]) _ hx).ptr
  refine ⟨.pointer (some ⟨β, i * k + o + off, none⟩), by simp [execOp, h1, run_fieldAt hT], .of1 ?_⟩
  have := CR.ptr (Φ := Φ) (b := b) (i := i) (path := path ++ [f]) (off := o + off) h2
  rw [← Nat.add_assoc] at this
  exact this

/-- A slice type's element takes so many cells. -/
def elT (P : Program) (T : TypeId) : Option Nat :=
  match P.underlying T with
  | some (.slice e) => (P.info? e).map (·.size)
  | _ => none
theorem elT_spec {T : TypeId} {k : Nat} (h : elT P T = some k) : ∃ e, P.underlying T = some (.slice e) ∧ (P.info? e).map (·.size) = some k := by
  unfold elT at h
  split at h
  · rename_i e he; exact ⟨e, he, h⟩
  · cases h
theorem run_indexAt {w : World} {T : TypeId} {k : Nat} (h : elT P T = some k) {kd : IntKind} {iv : Int} {len cap β o : Nat} (h0 : 0 ≤ iv) (h1 : iv < len) :
    (Instr.indexAt T (.slice (some ⟨β, o, none⟩) len cap) (.int kd iv)).run P w = .ok (.pointer (some ⟨β, o + iv.toNat * k, none⟩)) w := by
  obtain ⟨e, he, hk⟩ := elT_spec h
  simp [Instr.indexAt, asIntOf, run_und he, h0, h1, run_size hk, add_addr]

theorem D.index_i {x i : Operand} {T : TypeId} {c : Bool} {k : Nat} {es : List AV} {kd : IntKind} {iv : Int} {e : AV} (hx : t.ev x = some (.list c k es)) (hi : t.ev i = some (.v (.int kd iv)))
    (h0 : 0 ≤ iv) (he : es[iv.toNat]? = some e) (hT : elT P T = some k) : Det P ⟨dst, .indexAddr T x i, ty, pos, af, g⟩ t (.iptr e) := by
  have hlt : iv.toNat < es.length := (List.getElem?_eq_some_iff.1 he).1
  refine .of_run fun Φ w ρ hobj hO => ?_
  have h2 := (hO i (by simp [Op.operands]) _ hi).vv
  rcases (hO x (by simp [Op.operands]) _ hx).list with ⟨rfl, _⟩ | ⟨hne, β, o, cap, us, cs, el, fz, h3, _, _, hΦ, hr, hm⟩
  · simp at hlt
  · refine ⟨_, by simp only [execOp, h2, h3, Sem.run_bind, run_indexAt hT h0 (show iv < (es.length : Int) by omega)]; rfl, .of1 (CR.iptr hΦ (hr.2.2 _ _ he) ((hm.drop _).take _))⟩
theorem D.index_r {x i : Operand} {T : TypeId} {b k off len : Nat} {kd : IntKind} {iv : Int} {j : Nat} (hx : t.ev x = some (.ref b k off len)) (hi : t.ev i = some (.v (.int kd iv)))
    (h0 : 0 ≤ iv) (h1 : iv < len) (hj : off + iv.toNat = j) (hT : elT P T = some k) : Det P ⟨dst, .indexAddr T x i, ty, pos, af, g⟩ t (.ptr b j [] 0) := by
  subst hj
  refine .of_run fun Φ w ρ hobj hO => ?_
  have h2 := (hO i (by simp [Op.operands]) _ hi).vv
  rcases (hO x (by simp [Op.operands]) _ hx).ref with ⟨_, _, _, rfl, _⟩ | ⟨β, sz, cap, h3, h4, _⟩
  · omega
  · refine ⟨.pointer (some ⟨β, off * k + iv.toNat * k, none⟩), by simp only [execOp, h2, h4, Sem.run_bind, run_indexAt hT h0 h1]; rfl, .of1 ?_⟩
    have := CR.ptr (Φ := Φ) (b := b) (i := off + iv.toNat) (path := []) (off := 0) h3
    rw [Nat.add_zero, Nat.add_mul] at this
    exact this

def isSl (P : Program) (T : TypeId) : Bool :=
  match P.underlying T with
  | some (.slice _) => true
  | _ => false
theorem isSl_spec {T : TypeId} (h : isSl P T = true) : ∃ e, P.underlying T = some (.slice e) := by
  unfold isSl at h
  split at h
  · rename_i e he; exact ⟨e, he⟩
  · cases h
def isStr (P : Program) (T : TypeId) : Bool :=
  match P.underlying T with
  | some .string => true
  | _ => false
theorem isStr_spec {T : TypeId} (h : isStr P T = true) : P.underlying T = some .string := by
  unfold isStr at h
  split at h
  · assumption
  · cases h
theorem D.len_i {x : Operand} {T : TypeId} {c : Bool} {k m : Nat} {es : List AV} (hx : t.ev x = some (.list c k es)) (hm : es.length = m) (hT : isSl P T = true) :
    Det P ⟨dst, .call ⟨.builtin .len, #[x], #[T]⟩, ty, pos, af, g⟩ t (.v (.int .i64 m)) := by
  subst hm
  obtain ⟨e, he⟩ := isSl_spec hT
  refine .of_run fun Φ w ρ hobj hO => ?_
  refine ⟨.int .i64 es.length, ?_, .of1 (CR.v rfl)⟩
  rcases (hO x (by simp [Op.operands, Call.operands]) _ hx).list with ⟨rfl, A, cap, h3, _⟩ | ⟨hne, β, o, cap, us, cs, el, fz, h3, _⟩ <;>
    simp [execOp, resolve, invoke, builtin, Builtin.len_, h3, run_und he, goInt]
theorem D.len_r {x : Operand} {T : TypeId} {b k off len : Nat} (hx : t.ev x = some (.ref b k off len)) (hT : isSl P T = true) :
    Det P ⟨dst, .call ⟨.builtin .len, #[x], #[T]⟩, ty, pos, af, g⟩ t (.v (.int .i64 len)) := by
  obtain ⟨e, he⟩ := isSl_spec hT
  refine .of_run fun Φ w ρ hobj hO => ?_
  refine ⟨.int .i64 len, ?_, .of1 (CR.v rfl)⟩
  rcases (hO x (by simp [Op.operands, Call.operands]) _ hx).ref with ⟨l, A, _, rfl, h3⟩ | ⟨β, sz, cap, _, h3, _⟩ <;>
    simp [execOp, resolve, invoke, builtin, Builtin.len_, h3, run_und he, goInt]
theorem D.len_s {x : Operand} {T : TypeId} {s : ByteArray} (hx : t.ev x = some (.v (.string s))) (hT : isStr P T = true) :
    Det P ⟨dst, .call ⟨.builtin .len, #[x], #[T]⟩, ty, pos, af, g⟩ t (.v (.int .i64 s.size)) := by
  refine .of_run fun Φ w ρ hobj hO => ⟨.int .i64 s.size, ?_, .of1 (CR.v rfl)⟩
  have h3 := (hO x (by simp [Op.operands, Call.operands]) _ hx).vv
  simp [execOp, resolve, invoke, builtin, Builtin.len_, h3, run_und (isStr_spec hT), goInt]

theorem D.nilCheck_i {x : Operand} {e : AV} (hx : t.ev x = some (.iptr e)) : Det P ⟨dst, .nilCheck x, ty, pos, af, g⟩ t (.iptr e) := by
  refine .of_run fun Φ w ρ hobj hO => ⟨ρ x, ?_, hO x (by simp [Op.operands]) _ hx⟩
  obtain ⟨β, o, us, cs, el, fz, h1, h2, h3, h4⟩ := (hO x (by simp [Op.operands]) _ hx).iptr
  simp [execOp, h1]
theorem D.nilCheck_p {x : Operand} {b i o : Nat} {path : List Nat} (hx : t.ev x = some (.ptr b i path o)) : Det P ⟨dst, .nilCheck x, ty, pos, af, g⟩ t (.ptr b i path o) := by
  refine .of_run fun Φ w ρ hobj hO => ⟨ρ x, ?_, hO x (by simp [Op.operands]) _ hx⟩
  obtain ⟨β, sz, k, h1, h2⟩ := (hO x (by simp [Op.operands]) _ hx).ptr
  simp [execOp, h1]
theorem D.nilCheck_f {x : Operand} {f : FuncId} {cap : List AV} (hx : t.ev x = some (.fn (.func f) cap)) : Det P ⟨dst, .nilCheck x, ty, pos, af, g⟩ t (.fn (.func f) cap) := by
  refine .of_run fun Φ w ρ hobj hO => ⟨ρ x, ?_, hO x (by simp [Op.operands]) _ hx⟩
  have h := hO x (by simp [Op.operands]) _ hx
  have h2 : ∃ cs, ρ x = .func (.func f) #[] cs := by
    simp only [VR, VR1] at h
    generalize ρ x = u at h
    cases h with
    | fn hu hn hr => exact ⟨_, rfl⟩
  obtain ⟨cs, h3⟩ := h2
  simp [execOp, h3]

theorem D.extract {x : Operand} {i : Nat} {vs : List AV} {e : AV} (hx : t.ev x = some (.tup vs)) (he : vs[i]? = some e) : Det P ⟨dst, .extract x i, ty, pos, af, g⟩ t e := by
  refine .of_run fun Φ w ρ hobj hO => ?_
  obtain ⟨us, h1, h2, h3⟩ := hO x (by simp [Op.operands]) _ hx
  have hlt : i < us.length := by rw [h2]; exact (List.getElem?_eq_some_iff.1 he).1
  refine ⟨us[i], by simp [execOp, h1, Instr.extract, hlt], .of1 (h3 i _ _ he (List.getElem?_eq_getElem hlt))⟩
theorem D.not {x : Operand} {T : TypeId} {b c : Bool} (hx : t.ev x = some (.v (.bool b))) (hr : (!b) = c) : Det P ⟨dst, .unOp .not T x, ty, pos, af, g⟩ t (.v (.bool c)) := by
  subst hr
  refine .of_run fun Φ w ρ hobj hO => ⟨.bool !b, ?_, .of1 (CR.v rfl)⟩
  simp [execOp, (hO x (by simp [Op.operands]) _ hx).vv, Op.unary]
theorem D.neg {x : Operand} {T : TypeId} {k : IntKind} {a r : Int} (hx : t.ev x = some (.v (.int k a))) (hr : k.wrap (0 - a) = r) : Det P ⟨dst, .unOp .neg T x, ty, pos, af, g⟩ t (.v (.int k r)) := by
  subst hr
  refine .of_run fun Φ w ρ hobj hO => ⟨_, ?_, .of1 (CR.v rfl)⟩
  simp [execOp, (hO x (by simp [Op.operands]) _ hx).vv, Op.unary, Op.intArith]
theorem D.xorU {x : Operand} {T : TypeId} {k : IntKind} {a r : Int} (hx : t.ev x = some (.v (.int k a))) (hs : k.signed = false) (hr : k.wrap (BitVec.ofInt k.bits k.max ^^^ BitVec.ofInt k.bits a).toNat = r) :
    Det P ⟨dst, .unOp .xor T x, ty, pos, af, g⟩ t (.v (.int k r)) := by
  subst hr
  refine .of_run fun Φ w ρ hobj hO => ⟨_, ?_, .of1 (CR.v rfl)⟩
  simp [execOp, (hO x (by simp [Op.operands]) _ hx).vv, Op.unary, Op.intBits, hs]

/-- The whole numbers' kind that is converted to. -/
def isInt (P : Program) (S T : TypeId) : Option IntKind :=
  match P.underlying S, P.underlying T with
  | some _, some (.int k) => some k
  | _, _ => none
theorem isInt_spec {S T : TypeId} {k : IntKind} (h : isInt P S T = some k) : ∃ d, P.underlying S = some d ∧ P.underlying T = some (.int k) := by
  unfold isInt at h
  split at h
  · rename_i d k' h1 h2; cases h; exact ⟨d, h1, h2⟩
  · cases h
theorem D.convI {x : Operand} {S T : TypeId} {k k' : IntKind} {a r : Int} (hx : t.ev x = some (.v (.int k a))) (hT : isInt P S T = some k') (hr : k'.wrap a = r) :
    Det P ⟨dst, .convert S T x, ty, pos, af, g⟩ t (.v (.int k' r)) := by
  subst hr
  obtain ⟨d, hS, hT⟩ := isInt_spec hT
  refine .of_run fun Φ w ρ hobj hO => ⟨_, ?_, .of1 (CR.v rfl)⟩
  simp [execOp, (hO x (by simp [Op.operands]) _ hx).vv, convert, run_und hS, run_und hT, Conv.intToInt]
theorem D.addS {x y : Operand} {xt yt : TypeId} {a b r : ByteArray} (hx : t.ev x = some (.v (.string a))) (hy : t.ev y = some (.v (.string b))) (hl : a.size + b.size ≤ 9223372036854775807) (hr : a ++ b = r) :
    Det P ⟨dst, .binOp .add xt x y yt, ty, pos, af, g⟩ t (.v (.string r)) :=
  D.bin2 hx hy (fun w => by
    subst hr
    have : (a.size : Int) + (b.size : Int) ≤ 9223372036854775807 := by omega
    simp [eqGuard, binOp, Op.stringOp, this]) rfl
theorem D.eqlS {x y : Operand} {xt yt : TypeId} {a b : ByteArray} {c : Bool} (hx : t.ev x = some (.v (.string a))) (hy : t.ev y = some (.v (.string b))) (hr : (a.toList == b.toList) = c) :
    Det P ⟨dst, .binOp .eql xt x y yt, ty, pos, af, g⟩ t (.v (.bool c)) :=
  D.bin2 hx hy (fun w => by subst hr; simp [eqGuard, binOp, Op.stringOp]) rfl
theorem D.neqS {x y : Operand} {xt yt : TypeId} {a b : ByteArray} {c : Bool} (hx : t.ev x = some (.v (.string a))) (hy : t.ev y = some (.v (.string b))) (hr : (a.toList != b.toList) = c) :
    Det P ⟨dst, .binOp .neq xt x y yt, ty, pos, af, g⟩ t (.v (.bool c)) :=
  D.bin2 hx hy (fun w => by subst hr; simp [eqGuard, binOp, Op.stringOp, bne]) rfl
theorem D.makeFunc {f : FuncId} : Det P ⟨dst, .makeFunc (.func f) #[] #[], ty, pos, af, g⟩ t (.fn (.func f) []) :=
  .of_run fun Φ w ρ hobj hO => ⟨.func (.func f) #[] #[], by simp [execOp, Instr.makeFunc], .of1 (CR.fn (us := []) rfl (fun i x h => by simp at h) (fun i x h => by simp at h))⟩
theorem D.makeFunc1 {f : FuncId} {x : Operand} {y : AV} (hx : t.ev x = some y) (hn : y.isAgg = false) (ht : ∀ vs, y ≠ .tup vs) : Det P ⟨dst, .makeFunc (.func f) #[] #[x], ty, pos, af, g⟩ t (.fn (.func f) [y]) := by
  refine .of_run fun Φ w ρ hobj hO => ⟨.func (.func f) #[] [ρ x].toArray, by simp [execOp, Instr.makeFunc], ?_⟩
  have h1 := (hO x (by simp [Op.operands]) _ hx).to1 ht
  have hn1 : y.n = 1 := by cases y <;> simp_all [AV.n, AV.isAgg]
  have h2 : CR Φ y [ρ x] := by
    cases y
    case agg fs => simp [AV.isAgg] at hn
    case tup vs => exact absurd rfl (ht vs)
    all_goals exact h1
  refine .of1 (CR.fn (us := [ρ x]) rfl (fun i z h => ?_) (fun i z h => ?_))
  · match i with
    | 0 => simp at h; subst h; exact hn1
    | _ + 1 => simp at h
  · match i with
    | 0 => simp at h; subst h; simpa using h2
    | _ + 1 => simp at h
end
end Go.Proofs.Al
