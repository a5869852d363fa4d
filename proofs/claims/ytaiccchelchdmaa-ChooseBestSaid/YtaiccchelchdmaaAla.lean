/- An abstract layer over the walk of Go code, part 1: values that cannot change told as trees, memory of one's own as named rows, and how both lie in the machine's memory. -/
import Derived.Orders
import Derived.RowKit
namespace Go.Proofs.Al
open Go

/-- What a value is told as. `list c k es`: a slice whose elements (k cells each) never change (c: its capacity is its length); `iptr e`: the address of a variable that never changes;
`ref b k off len`: a slice of the own row b (elements of k cells); `ptr b i path off`: the address of a part of element i of the own row b, off cells behind that element's first. -/
inductive AV where
  | v (x : Value)
  | list (c : Bool) (k : Nat) (es : List AV)
  | iptr (e : AV)
  | agg (fs : List AV)
  | tup (vs : List AV)
  | ref (b k off len : Nat)
  | ptr (b i : Nat) (path : List Nat) (off : Nat)
  | fn (f : Fn) (captured : List AV)
  | map (m : Nat)
  deriving Inhabited

mutual
/-- How many cells it takes. -/
def AV.n : AV → Nat
  | .agg fs => AV.nL fs
  | _ => 1
def AV.nL : List AV → Nat
  | [] => 0
  | e :: es => AV.n e + AV.nL es
end

theorem AV.nL_append (a b : List AV) : AV.nL (a ++ b) = AV.nL a + AV.nL b := by
  induction a with
  | nil => simp [AV.nL]
  | cons e a ih => simp [AV.nL, ih, Nat.add_assoc]

/-- Where an own row lies. -/
inductive Loc where
  | virt
  | row (β sz k : Nat)
  | map (r : Nat)

def Loc.blk? : Loc → Option Nat
  | .virt => none
  | .row β _ _ => some β
  | .map r => some r

structure Phi where
  obj : Nat → Option Obj
  own : Nat → Option Loc
  os : Os
  tape : Nat → Question → Nat
  output : Array (Nat × ByteArray)

structure Phi.le (A B : Phi) : Prop where
  obj : ∀ β o, A.obj β = some o → B.obj β = some o
  own : ∀ b l, A.own b = some l → B.own b = some l
  os : B.os = A.os
  tape : B.tape = A.tape
  output : B.output = A.output

theorem Phi.le.refl (A : Phi) : A.le A := ⟨fun _ _ h => h, fun _ _ h => h, rfl, rfl, rfl⟩
theorem Phi.le.trans {A B C : Phi} (h : A.le B) (k : B.le C) : A.le C :=
  ⟨fun _ _ x => k.obj _ _ (h.obj _ _ x), fun _ _ x => k.own _ _ (h.own _ _ x), k.os.trans h.os, k.tape.trans h.tape, k.output.trans h.output⟩

/-- The cells of the row from o on are us. -/
def At (cs : Array Value) (o : Nat) (us : List Value) : Prop := ∀ j u, us[j]? = some u → cs[o + j]? = some u

theorem At.drop {cs : Array Value} {o : Nat} {us : List Value} (h : At cs o us) (i : Nat) : At cs (o + i) (us.drop i) := by
  intro j u hj
  rw [List.getElem?_drop] at hj
  have := h _ _ hj
  rwa [← Nat.add_assoc] at this
theorem At.take {cs : Array Value} {o : Nat} {us : List Value} (h : At cs o us) (i : Nat) : At cs o (us.take i) := by
  intro j u hj
  rw [List.getElem?_take] at hj
  split at hj
  · exact h _ _ hj
  · cases hj

def plain : Value → Bool
  | .agg _ | .tuple _ => false
  | _ => true

/-- The cells us hold what a tells. -/
inductive CR (Φ : Phi) : AV → List Value → Prop
  | v {x : Value} (h : plain x = true) : CR Φ (.v x) [x]
  | nil {c : Bool} {k cap : Nat} {A : Option Addr} (h : c = true → cap = 0) : CR Φ (.list c k []) [.slice A 0 cap]
  | list {c : Bool} {k len cap β o : Nat} {es : List AV} {us : List Value} {cs : Array Value} {el : TypeId} {fz : Nat × Nat}
      (hne : es ≠ []) (hΦ : Φ.obj β = some (.cells cs el fz)) (hc : c = true → cap = len) (hcap : len ≤ cap) (hl : es.length = len)
      (hu : us.length = es.length * k) (hn : ∀ (i : Nat) x, es[i]? = some x → x.n = k)
      (hr : ∀ (i : Nat) x, es[i]? = some x → CR Φ x ((us.drop (i * k)).take k)) (hm : At cs o us) :
      CR Φ (.list c k es) [.slice (some ⟨β, o, none⟩) len cap]
  | iptr {e : AV} {β o : Nat} {us : List Value} {cs : Array Value} {el : TypeId} {fz : Nat × Nat}
      (hΦ : Φ.obj β = some (.cells cs el fz)) (hr : CR Φ e us) (hm : At cs o us) : CR Φ (.iptr e) [.pointer (some ⟨β, o, none⟩)]
  | agg {fs : List AV} {us : List Value} (hu : us.length = AV.nL fs) (hp : us.all plain = true)
      (hr : ∀ (i : Nat) x, fs[i]? = some x → CR Φ x ((us.drop (AV.nL (fs.take i))).take x.n)) : CR Φ (.agg fs) us
  | ref {b off len cap β sz k : Nat} (h : Φ.own b = some (.row β sz k)) (hcap : len ≤ cap) (hs : (off + cap) * k ≤ sz) :
      CR Φ (.ref b k off len) [.slice (some ⟨β, off * k, none⟩) len cap]
  | refz {b k off : Nat} {A : Option Addr} {l : Loc} (h : Φ.own b = some l) : CR Φ (.ref b k off 0) [.slice A 0 0]
  | ptr {b i off β sz k : Nat} {path : List Nat} (h : Φ.own b = some (.row β sz k)) : CR Φ (.ptr b i path off) [.pointer (some ⟨β, i * k + off, none⟩)]
  | fn {f : Fn} {captured : List AV} {us : List Value} (hu : us.length = captured.length) (hn : ∀ (i : Nat) x, captured[i]? = some x → x.n = 1)
      (hr : ∀ (i : Nat) x, captured[i]? = some x → CR Φ x ((us.drop i).take 1)) : CR Φ (.fn f captured) [.func f #[] us.toArray]
  | map {m r : Nat} (h : Φ.own m = some (.map r)) : CR Φ (.map m) [.map (some r)]

theorem CR.length {Φ : Phi} {a : AV} {us : List Value} (h : CR Φ a us) : us.length = a.n := by
  cases h <;> first | rfl | (simp only [AV.n]; assumption)

theorem CR.mono {Φ Φ' : Phi} (hle : Φ.le Φ') {a : AV} {us : List Value} (h : CR Φ a us) : CR Φ' a us := by
  induction h with
  | v h => exact .v h
  | nil h => exact .nil h
  | list hne hΦ hc hcap hl hu hn _ hm ih => exact .list hne (hle.obj _ _ hΦ) hc hcap hl hu hn ih hm
  | iptr hΦ _ hm ih => exact .iptr (hle.obj _ _ hΦ) ih hm
  | agg hu hp _ ih => exact .agg hu hp ih
  | ref h hcap hs => exact .ref (hle.own _ _ h) hcap hs
  | refz h => exact .refz (hle.own _ _ h)
  | ptr h => exact .ptr (hle.own _ _ h)
  | fn hu hn _ ih => exact .fn hu hn ih
  | map h => exact .map (hle.own _ _ h)

/-- The value u is what a tells (no tuple). -/
def VR1 (Φ : Phi) (a : AV) (u : Value) : Prop :=
  match a with
  | .agg fs => ∃ us : List Value, CR Φ (.agg fs) us ∧ u = .agg us.toArray
  | .tup _ => False
  | a => CR Φ a [u]

def VR (Φ : Phi) (a : AV) (u : Value) : Prop :=
  match a with
  | .tup vs => ∃ us : List Value, u = .tuple us.toArray ∧ us.length = vs.length ∧ ∀ (i : Nat) x y, vs[i]? = some x → us[i]? = some y → VR1 Φ x y
  | a => VR1 Φ a u

theorem VR1.mono {Φ Φ' : Phi} (hle : Φ.le Φ') {a : AV} {u : Value} (h : VR1 Φ a u) : VR1 Φ' a u := by
  cases a <;> simp only [VR1] at h ⊢ <;> try exact h.mono hle
  obtain ⟨us, h1, h2⟩ := h
  exact ⟨us, h1.mono hle, h2⟩
theorem VR.mono {Φ Φ' : Phi} (hle : Φ.le Φ') {a : AV} {u : Value} (h : VR Φ a u) : VR Φ' a u := by
  cases a <;> simp only [VR] at h ⊢ <;> try exact h.mono hle
  obtain ⟨us, h1, h2, h3⟩ := h
  exact ⟨us, h1, h2, fun i x y hx hy => (h3 i x y hx hy).mono hle⟩

theorem VR1.cells {Φ : Phi} {a : AV} {u : Value} (h : VR1 Φ a u) : CR Φ a u.cells.toList := by
  cases a <;> simp only [VR1] at h
  case agg fs => obtain ⟨us, h1, rfl⟩ := h; simpa [Value.cells] using h1
  case v y => cases h with | v h => cases u <;> simp_all [plain, Value.cells] <;> exact .v rfl
  all_goals (have h' := h; cases h <;> exact h')
theorem VR1.of_cells {Φ : Phi} {a : AV} {u : Value} (h : CR Φ a [u]) (ha : ∀ fs, a ≠ .agg fs) : VR1 Φ a u := by
  cases a <;> simp only [VR1] <;> try exact h
  · exact absurd rfl (ha _)
  · cases h

theorem VR.of1 {Φ : Phi} {a : AV} {u : Value} (h : VR1 Φ a u) : VR Φ a u := by
  cases a <;> try exact h
  exact h.elim
theorem VR.to1 {Φ : Phi} {a : AV} {u : Value} (h : VR Φ a u) (ha : ∀ vs, a ≠ .tup vs) : VR1 Φ a u := by
  cases a <;> try exact h
  exact absurd rfl (ha _)

/-- What an own row, or map, holds. -/
inductive Blk where
  | row (k : Nat) (es : List AV)
  | map (es : List (Value × AV))

abbrev AH := Nat → Option Blk
def AH.set (σ : AH) (b : Nat) (x : Blk) : AH := fun c => if c = b then some x else σ c
def AH.del (σ : AH) (b : Nat) : AH := fun c => if c = b then none else σ c

/-- The cells us are the elements es, k cells each. -/
def Row (Φ : Phi) (k : Nat) (es : List AV) (us : List Value) : Prop :=
  us.length = es.length * k ∧ (∀ (i : Nat) x, es[i]? = some x → x.n = k) ∧ ∀ (i : Nat) x, es[i]? = some x → CR Φ x ((us.drop (i * k)).take k)

theorem Row.mono {Φ Φ' : Phi} (hle : Φ.le Φ') {k : Nat} {es : List AV} {us : List Value} (h : Row Φ k es us) : Row Φ' k es us :=
  ⟨h.1, h.2.1, fun i x hx => (h.2.2 i x hx).mono hle⟩

def MapRow (Φ : Phi) (es : List (Value × AV)) (ents : List MapEntry) (clock : Nat) : Prop :=
  ents.length = es.length ∧ (∀ (i : Nat) e (p : Value × AV), ents[i]? = some e → es[i]? = some p → e.key = p.1 ∧ VR1 Φ p.2 e.val) ∧
  (∀ e ∈ ents, e.born < clock) ∧ ents.Pairwise (fun a b => a.born ≠ b.born)

/-- The own row b lies in the world as is told. -/
inductive OwnOK (Φ : Phi) (w : World) (b : Nat) : Blk → Prop
  | virt {k : Nat} (h : Φ.own b = some .virt) : OwnOK Φ w b (.row k [])
  | row {β sz k : Nat} {es : List AV} {cs : Array Value} {el : TypeId} {fz : Nat × Nat} {us : List Value}
      (h : Φ.own b = some (.row β sz k)) (hw : w.heap[β]? = some (.cells cs el fz)) (hsz : cs.size = sz) (hfz : ∀ i, i < sz → ¬ (fz.1 ≤ i ∧ i < fz.2)) (ho : Φ.obj β = none)
      (hr : Row Φ k es us) (hm : At cs 0 us) : OwnOK Φ w b (.row k es)
  | map {r : Nat} {es : List (Value × AV)} {ents : Array MapEntry} {clock : Nat} (h : Φ.own b = some (.map r)) (hw : w.heap[r]? = some (.map ents clock)) (ho : Φ.obj r = none)
      (hr : MapRow Φ es ents.toList clock) : OwnOK Φ w b (.map es)

structure WR (Φ : Phi) (σ : AH) (w : World) : Prop where
  obj : ∀ β o, Φ.obj β = some o → w.heap[β]? = some o
  own : ∀ b x, σ b = some x → OwnOK Φ w b x
  inj : ∀ b b' x x' l l' β, σ b = some x → σ b' = some x' → Φ.own b = some l → Φ.own b' = some l' → l.blk? = some β → l'.blk? = some β → b = b'
  fin : ∃ N, ∀ b, N ≤ b → Φ.own b = none
  os : w.os = Φ.os
  tape : w.tape = Φ.tape
  output : w.output = Φ.output

theorem OwnOK.loc {Φ : Phi} {w : World} {b : Nat} {x : Blk} (h : OwnOK Φ w b x) : ∃ l, Φ.own b = some l := by
  cases h <;> exact ⟨_, by assumption⟩

/-! The frame's slots that are known. -/
abbrev AT := List (Nat × AV)
def AT.get : AT → Nat → Option AV
  | [], _ => none
  | (d, x) :: r, e => bif Nat.beq d e then some x else AT.get r e

def AV.const0 : Value → AV
  | .slice none 0 0 => .list true 0 []
  | x => .v x
def AV.const : Value → AV
  | .agg cs => .agg (cs.toList.map AV.const0)
  | .tuple vs => .tup (vs.toList.map AV.const0)
  | x => AV.const0 x

def AT.ev (t : AT) : Operand → Option AV
  | .tmp d => t.get d
  | .const v => some (AV.const v)
  | .func f => some (.fn (.func f) [])
  | .global _ => none

/-- Known constants are flat. -/
def flat : Value → Bool
  | .agg cs => cs.toList.all plain
  | .tuple vs => vs.toList.all plain
  | _ => true

theorem CR.const0 {Φ : Phi} {x : Value} (h : plain x = true) : CR Φ (AV.const0 x) [x] := by
  unfold AV.const0
  split
  · exact .nil (fun _ => rfl)
  · exact .v h
theorem AV.const0_n (x : Value) : (AV.const0 x).n = 1 := by
  unfold AV.const0
  split <;> rfl
theorem AV.nL_ones : ∀ (l : List AV), (∀ x ∈ l, x.n = 1) → AV.nL l = l.length
  | [], _ => rfl
  | x :: l, h => by
    simp only [AV.nL, List.length_cons]
    rw [h x (by simp), AV.nL_ones l (fun y hy => h y (by simp [hy]))]
    omega
theorem CR.flat {Φ : Phi} {fs : List AV} {us : List Value} (hl : us.length = fs.length) (hn : ∀ x ∈ fs, x.n = 1)
    (hp : us.all plain = true) (h : ∀ (i : Nat) x u, fs[i]? = some x → us[i]? = some u → CR Φ x [u]) : CR Φ (.agg fs) us := by
  refine .agg (by rw [AV.nL_ones fs hn, hl]) hp fun i x hx => ?_
  have hlt : i < fs.length := (List.getElem?_eq_some_iff.1 hx).1
  have h1 : AV.nL (fs.take i) = i := by
    rw [AV.nL_ones _ (fun y hy => hn y (List.mem_of_mem_take hy))]; simp; omega
  rw [h1, hn x (List.mem_of_getElem? hx)]
  have hlu : i < us.length := by omega
  have : (us.drop i).take 1 = [us[i]] := by
    rw [List.drop_eq_getElem_cons hlu]; rfl
  rw [this]
  exact h i x _ hx (List.getElem?_eq_getElem hlu)
theorem VR1.const0 {Φ : Phi} {x : Value} (h : plain x = true) : VR1 Φ (AV.const0 x) x := by
  refine .of_cells (.const0 h) fun fs => ?_
  unfold AV.const0
  split <;> intro h <;> cases h
theorem VR.const {Φ : Phi} {x : Value} (h : flat x = true) : VR Φ (AV.const x) x := by
  cases x
  case agg cs =>
    simp only [flat, List.all_eq_true] at h
    refine ⟨cs.toList, CR.flat (by simp) (fun y hy => ?_) (List.all_eq_true.2 h) fun i y u hy hu => ?_, by simp⟩
    · obtain ⟨z, _, rfl⟩ := List.mem_map.1 hy; exact AV.const0_n z
    · simp only [List.getElem?_map, hu, Option.map_some, Option.some.injEq] at hy
      subst hy
      exact .const0 (h _ (List.mem_of_getElem? hu))
  case tuple cs =>
    simp only [flat, List.all_eq_true] at h
    refine ⟨cs.toList, by simp, by simp, fun i y u hy hu => ?_⟩
    simp only [List.getElem?_map, hu, Option.map_some, Option.some.injEq] at hy
    subst hy
    exact .const0 (h _ (List.mem_of_getElem? hu))
  all_goals (refine VR.of1 ?_; simp only [AV.const]; exact VR1.const0 rfl)

def TR (Φ : Phi) (n : Nat) (t : AT) (a : Act) : Prop := a.tmps.size = n ∧ ∀ d x, t.get d = some x → VR Φ x (a.tmps.getD d undef)

theorem AT.get_cons_self (d : Nat) (x : AV) (t : AT) : AT.get ((d, x) :: t) d = some x := by
  simp [AT.get]
theorem AT.get_cons_ne {d e : Nat} (h : d ≠ e) (x : AV) (t : AT) : AT.get ((d, x) :: t) e = t.get e := by
  have : Nat.beq d e = false := by
    cases hb : Nat.beq d e with
    | false => rfl
    | true => exact absurd (Nat.eq_of_beq_eq_true hb) h
  simp [AT.get, this]

theorem TR.mono {Φ Φ' : Phi} (hle : Φ.le Φ') {n : Nat} {t : AT} {a : Act} (h : TR Φ n t a) : TR Φ' n t a :=
  ⟨h.1, fun d x hx => (h.2 d x hx).mono hle⟩
theorem TR.put {Φ : Phi} {n : Nat} {t : AT} {a : Act} (h : TR Φ n t a) {d : Nat} (hd : d < n) {x : AV} {u : Value} (hx : VR Φ x u) : TR Φ n ((d, x) :: t) (a.put (some d) u) := by
  refine ⟨by simpa [Act.put] using h.1, fun e y hy => ?_⟩
  by_cases hde : d = e
  · subst hde
    rw [AT.get_cons_self] at hy
    cases hy
    have : d < a.tmps.size := by rw [h.1]; exact hd
    simpa [Act.put, this] using hx
  · rw [AT.get_cons_ne hde] at hy
    have := h.2 e y hy
    simpa [Act.put, Array.getElem?_setIfInBounds_ne hde] using this

theorem CR.plain {Φ : Phi} {a : AV} {us : List Value} (h : CR Φ a us) : us.all plain = true := by
  cases h <;> first | rfl | assumption | (simp; assumption)

theorem VR.vv {Φ : Phi} {x u : Value} (h : VR Φ (.v x) u) : u = x := by
  simp only [VR, VR1] at h
  cases h; rfl

#print axioms VR.const
end Go.Proofs.Al
