/- An abstract layer over the walk of Go code, part 5: the operations on memory of one's own, and calls. -/
import Derived.Test.YtaiccchelchdmaaAld
namespace Go.Proofs.Al
open Go

/-! Parts of a value. -/
def AV.part : AV → List Nat → Option (Nat × AV)
  | e, [] => some (0, e)
  | .agg fs, f :: p =>
    match fs[f]? with
    | some x => match AV.part x p with
      | some (o, y) => some (AV.nL (fs.take f) + o, y)
      | none => none
    | none => none
  | _, _ :: _ => none
def AV.upd : AV → List Nat → AV → AV
  | _, [], q => q
  | .agg fs, f :: p, q =>
    match fs[f]? with
    | some x => .agg (fs.set f (AV.upd x p q))
    | none => .agg fs
  | e, _ :: _, _ => e
def AV.notTup : AV → Bool
  | .tup _ => false
  | _ => true
theorem AV.notTup_spec {y : AV} (h : y.notTup = true) (vs : List AV) : y ≠ .tup vs := fun e => by subst e; cases h

theorem AV.nL_take_le (fs : List AV) {f : Nat} {x : AV} (h : fs[f]? = some x) : AV.nL (fs.take f) + x.n ≤ AV.nL fs := by
  have hlt := (List.getElem?_eq_some_iff.1 h).1
  have hx : fs[f] = x := (List.getElem?_eq_some_iff.1 h).2
  have : fs = fs.take f ++ x :: fs.drop (f + 1) := by rw [← hx, ← List.drop_eq_getElem_cons hlt, List.take_append_drop]
  rw [congrArg AV.nL this, AV.nL_append, AV.nL]
  omega
theorem AV.nL_set : ∀ (fs : List AV) {f : Nat} {x : AV} (q : AV), fs[f]? = some x → q.n = x.n → AV.nL (fs.set f q) = AV.nL fs
  | [], f, x, q, h, _ => by simp at h
  | e :: fs, 0, x, q, h, hn => by simp at h; subst h; simp [AV.nL, hn]
  | e :: fs, f + 1, x, q, h, hn => by
    simp only [List.getElem?_cons_succ] at h
    simp only [List.set_cons_succ, AV.nL, AV.nL_set fs q h hn]

theorem List.take_drop_take {α : Type} (us : List α) (a n b m : Nat) (h : b + m ≤ n) : (((us.drop a).take n).drop b).take m = (us.drop (a + b)).take m := by
  apply List.ext_getElem?
  intro i
  simp only [List.getElem?_take, List.getElem?_drop]
  by_cases hi : i < m
  · rw [if_pos hi, if_pos hi, if_pos (by omega), Nat.add_assoc]
  · rw [if_neg hi, if_neg hi]

theorem AV.part_le : ∀ (p : List Nat) {e x : AV} {o : Nat}, AV.part e p = some (o, x) → o + x.n ≤ e.n
  | [], e, x, o, h => by simp [AV.part] at h; obtain ⟨rfl, rfl⟩ := h; omega
  | f :: p, e, x, o, h => by
    cases e <;> simp only [AV.part] at h <;> try cases h
    rename_i fs
    split at h
    · rename_i y hy
      split at h
      · rename_i o' z hz
        simp only [Option.some.injEq, Prod.mk.injEq] at h
        obtain ⟨rfl, rfl⟩ := h
        have h1 := AV.part_le p hz
        have h2 := AV.nL_take_le fs hy
        simp only [AV.n]
        omega
      · cases h
    · cases h
theorem CR.partAt {Φ : Phi} : ∀ (p : List Nat) {e x : AV} {o : Nat} {us : List Value}, CR Φ e us → AV.part e p = some (o, x) → CR Φ x ((us.drop o).take x.n)
  | [], e, x, o, us, h, hp => by
    simp [AV.part] at hp; obtain ⟨rfl, rfl⟩ := hp
    have := h.length
    rw [List.drop_zero, List.take_of_length_le (by omega)]; exact h
  | f :: p, e, x, o, us, h, hp => by
    cases e <;> simp only [AV.part] at hp <;> try cases hp
    rename_i fs
    split at hp
    · rename_i y hy
      split at hp
      · rename_i o' z hz
        simp only [Option.some.injEq, Prod.mk.injEq] at hp
        obtain ⟨rfl, rfl⟩ := hp
        have h1 := CR.partAt p (h.part hy) hz
        rwa [List.take_drop_take _ _ _ _ _ (AV.part_le p hz)] at h1
      · cases hp
    · cases hp

/-- Some cells are others. -/
def splice (us : List Value) (o : Nat) (vs : List Value) : List Value := us.take o ++ vs ++ us.drop (o + vs.length)
theorem splice_length {us : List Value} {o : Nat} {vs : List Value} (h : o + vs.length ≤ us.length) : (splice us o vs).length = us.length := by
  simp [splice]; omega
theorem splice_get {us : List Value} {o : Nat} {vs : List Value} (h : o + vs.length ≤ us.length) (j : Nat) : (splice us o vs)[j]? = if o ≤ j ∧ j < o + vs.length then vs[j - o]? else us[j]? := by
  unfold splice
  have hl : (us.take o).length = o := by simp; omega
  by_cases h1 : j < o
  · rw [if_neg (by omega), List.append_assoc, List.getElem?_append_left (by omega), List.getElem?_take, if_pos h1]
  · by_cases h2 : j < o + vs.length
    · rw [if_pos ⟨by omega, h2⟩, List.append_assoc, List.getElem?_append_right (by omega), hl, List.getElem?_append_left (by omega)]
    · rw [if_neg (by omega), List.getElem?_append_right (by simp; omega)]
      simp only [List.length_append, hl, List.getElem?_drop]
      congr 1; omega
theorem splice_out {us : List Value} {o : Nat} {vs : List Value} (h : o + vs.length ≤ us.length) {a n : Nat} (hd : a + n ≤ o ∨ o + vs.length ≤ a) : ((splice us o vs).drop a).take n = (us.drop a).take n := by
  apply List.ext_getElem?
  intro i
  simp only [List.getElem?_take, List.getElem?_drop, splice_get h]
  by_cases hi : i < n
  · rw [if_pos hi, if_pos hi, if_neg (by omega)]
  · rw [if_neg hi, if_neg hi]
theorem splice_in {us : List Value} {o b : Nat} {vs : List Value} {a n : Nat} (hn : b + vs.length ≤ n) (ho : o = a + b) (h : a + n ≤ us.length) : ((splice us o vs).drop a).take n = splice ((us.drop a).take n) b vs := by
  subst ho
  apply List.ext_getElem?
  intro i
  rw [splice_get (by simp; omega)]
  simp only [List.getElem?_take, List.getElem?_drop]
  by_cases hi : i < n
  · rw [if_pos hi, splice_get (by omega), if_pos hi]
    by_cases h1 : b ≤ i ∧ i < b + vs.length
    · rw [if_pos h1, if_pos (by omega)]; congr 1; omega
    · rw [if_neg h1, if_neg (by omega)]
  · rw [if_neg hi, if_neg hi, if_neg (by omega)]
theorem splice_plain {us : List Value} {o : Nat} {vs : List Value} (h1 : us.all plain = true) (h2 : vs.all plain = true) : (splice us o vs).all plain = true := by
  simp only [splice, List.all_append, Bool.and_eq_true]
  refine ⟨⟨?_, h2⟩, ?_⟩
  · rw [List.all_eq_true] at h1 ⊢; exact fun x hx => h1 x (List.mem_of_mem_take hx)
  · rw [List.all_eq_true] at h1 ⊢; exact fun x hx => h1 x (List.mem_of_mem_drop hx)

theorem AV.upd_n : ∀ (p : List Nat) {e x q : AV} {o : Nat}, AV.part e p = some (o, x) → q.n = x.n → (AV.upd e p q).n = e.n
  | [], e, x, q, o, h, hn => by simp [AV.part] at h; obtain ⟨rfl, rfl⟩ := h; simp [AV.upd, hn]
  | f :: p, e, x, q, o, h, hn => by
    cases e <;> simp only [AV.part] at h <;> try cases h
    rename_i fs
    split at h
    · rename_i y hy
      split at h
      · rename_i o' z hz
        simp only [Option.some.injEq, Prod.mk.injEq] at h
        obtain ⟨rfl, rfl⟩ := h
        simp only [AV.upd, hy, AV.n]
        exact AV.nL_set fs _ hy (AV.upd_n p hz hn)
      · cases h
    · cases h
theorem AV.nL_take_set (fs : List AV) {f : Nat} {x q : AV} (h : fs[f]? = some x) (hn : q.n = x.n) (i : Nat) : AV.nL ((fs.set f q).take i) = AV.nL (fs.take i) := by
  rw [List.take_set]
  by_cases hi : f < i
  · exact AV.nL_set _ q (by rw [List.getElem?_take, if_pos hi]; exact h) hn
  · rw [List.set_eq_of_length_le (by simp; omega)]
theorem AV.nL_take_mono (fs : List AV) {i j : Nat} (h : i ≤ j) : AV.nL (fs.take i) ≤ AV.nL (fs.take j) := by
  have : fs.take j = fs.take i ++ (fs.drop i).take (j - i) := by
    rw [← List.take_add]; congr 1; omega
  rw [this, AV.nL_append]; omega
theorem AV.nL_take_succ (fs : List AV) {i : Nat} {x : AV} (h : fs[i]? = some x) : AV.nL (fs.take (i + 1)) = AV.nL (fs.take i) + x.n := by
  rw [List.take_add_one, h, AV.nL_append]; simp [AV.nL]
theorem CR.updAt {Φ : Phi} : ∀ (p : List Nat) {e x y' : AV} {o : Nat} {us vs : List Value}, CR Φ e us → AV.part e p = some (o, x) → CR Φ y' vs → y'.n = x.n → CR Φ (AV.upd e p y') (splice us o vs)
  | [], e, x, y', o, us, vs, h, hp, hv, hn => by
    simp [AV.part] at hp; obtain ⟨rfl, rfl⟩ := hp
    have h1 := h.length
    have h2 := hv.length
    have : splice us 0 vs = vs := by simp [splice]; omega
    rw [this]; exact hv
  | f :: p, e, x, y', o, us, vs, h, hp, hv, hn => by
    cases e <;> simp only [AV.part] at hp <;> try cases hp
    rename_i fs
    split at hp
    · rename_i y hy
      split at hp
      · rename_i o' z hz
        simp only [Option.some.injEq, Prod.mk.injEq] at hp
        obtain ⟨rfl, rfl⟩ := hp
        have hvl := hv.length
        have hlt := (List.getElem?_eq_some_iff.1 hy).1
        have hle := AV.part_le p hz
        have hfs := AV.nL_take_le fs hy
        have hun : (AV.upd y p y').n = y.n := AV.upd_n p hz hn
        have ih := CR.updAt p (h.part hy) hz hv hn
        cases h with
        | agg hu hpl hr =>
          simp only [AV.upd, hy]
          have hbound : AV.nL (fs.take f) + o' + vs.length ≤ us.length := by omega
          refine .agg (by rw [splice_length hbound, hu, AV.nL_set fs _ hy hun]) (splice_plain hpl hv.plain) fun i q hq => ?_
          rw [AV.nL_take_set fs hy hun]
          by_cases hif : i = f
          · subst hif
            have hqe : q = AV.upd y p y' := by
              rw [List.getElem?_set_self hlt] at hq; exact (Option.some.inj hq).symm
            subst hqe
            rw [hun, splice_in (b := o') (by omega) rfl (by omega)]
            exact ih
          · rw [List.getElem?_set_ne (Ne.symm hif)] at hq
            have hq1 := hr i q hq
            have hqs := AV.nL_take_succ fs hq
            rw [splice_out hbound]
            · exact hq1
            · rcases Nat.lt_or_gt_of_ne hif with h3 | h3
              · left
                have := AV.nL_take_mono fs (show i + 1 ≤ f from h3)
                omega
              · right
                have h4 := AV.nL_take_mono fs (show f + 1 ≤ i from h3)
                have h5 := AV.nL_take_succ fs hy
                omega
      · cases hp
    · cases hp

theorem Row.at {Φ : Phi} {k : Nat} {es : List AV} {us : List Value} (h : Row Φ k es us) {i : Nat} {e : AV} (he : es[i]? = some e) : i * k + k ≤ us.length ∧ e.n = k ∧ CR Φ e ((us.drop (i * k)).take k) := by
  obtain ⟨h1, h2, h3⟩ := h
  have hlt := (List.getElem?_eq_some_iff.1 he).1
  refine ⟨?_, h2 i e he, h3 i e he⟩
  rw [h1, ← Nat.succ_mul]
  exact Nat.mul_le_mul_right k hlt
theorem Row.set {Φ : Phi} {k : Nat} {es : List AV} {us vs : List Value} (h : Row Φ k es us) {i o : Nat} {e e' : AV} (he : es[i]? = some e) (ho : o + vs.length ≤ k) (hn : e'.n = k)
    (hc : CR Φ e' (splice ((us.drop (i * k)).take k) o vs)) : Row Φ k (es.set i e') (splice us (i * k + o) vs) := by
  obtain ⟨h1, h2, h3⟩ := h.at he
  have hb : i * k + o + vs.length ≤ us.length := by omega
  have hlt := (List.getElem?_eq_some_iff.1 he).1
  refine ⟨by rw [splice_length hb, List.length_set]; exact h.1, fun j x hx => ?_, fun j x hx => ?_⟩
  · by_cases hj : j = i
    · subst hj; rw [List.getElem?_set_self hlt] at hx; cases hx; exact hn
    · rw [List.getElem?_set_ne (Ne.symm hj)] at hx; exact h.2.1 j x hx
  · by_cases hj : j = i
    · subst hj
      rw [List.getElem?_set_self hlt] at hx; cases hx
      rw [splice_in (b := o) ho rfl h1]; exact hc
    · rw [List.getElem?_set_ne (Ne.symm hj)] at hx
      obtain ⟨k1, k2, k3⟩ := h.at hx
      rw [splice_out hb]
      · exact k3
      · rcases Nat.lt_or_gt_of_ne hj with h4 | h4
        · left
          have : j * k + k ≤ i * k := by rw [← Nat.succ_mul]; exact Nat.mul_le_mul_right k h4
          omega
        · right
          have : i * k + k ≤ j * k := by rw [← Nat.succ_mul]; exact Nat.mul_le_mul_right k h4
          omega
theorem At.setAll {cs : Array Value} {us vs : List Value} {o : Nat} (h : At cs 0 us) (hb : o + vs.length ≤ us.length) (hs : o + vs.length ≤ cs.size) : At (setAll cs o vs) 0 (splice us o vs) := by
  intro j u hj
  rw [Nat.zero_add, setAll_get _ _ _ _ hs]
  rw [splice_get hb] at hj
  split at hj
  · rename_i h1; rw [if_pos h1]; exact hj
  · rename_i h1; rw [if_neg h1]; have := h j u hj; rwa [Nat.zero_add] at this
theorem At.size {cs : Array Value} {o : Nat} {us : List Value} (h : At cs o us) : us = [] ∨ o + us.length ≤ cs.size := by
  rcases List.eq_nil_or_concat us with rfl | ⟨l, x, rfl⟩
  · exact .inl rfl
  · right
    have := h l.length x (by simp)
    have := (Array.getElem?_eq_some_iff.1 this).1
    simp; omega

/-- What is stored where. -/
theorem OwnOK.real {Φ : Phi} {w : World} {b k β sz k' : Nat} {es : List AV} (h : OwnOK Φ w b (.row k es)) (hb : Φ.own b = some (.row β sz k')) :
    ∃ cs el fz us, k' = k ∧ w.heap[β]? = some (.cells cs el fz) ∧ cs.size = sz ∧ (∀ i, i < sz → ¬ (fz.1 ≤ i ∧ i < fz.2)) ∧ Row Φ k es us ∧ At cs 0 us := by
  cases h with
  | virt h => rw [h] at hb; cases hb
  | row a hw c d e f g => rw [a] at hb; cases hb; exact ⟨_, _, _, _, rfl, hw, c, d, f, g⟩

section
variable {P : Program} {t : AT} {dst : Option Tmp} {ty : TypeId} {pos : String} {af : Array Edge} {g : Option (Nat × Bool)} {σ : AH} {K : AV → AH → Prop}

theorem D.load_p {x : Operand} {T : TypeId} {b i o k : Nat} {path : List Nat} {es : List AV} {e y : AV} (hx : t.ev x = some (.ptr b i path o)) (he : es[i]? = some e) (hp : AV.part e path = some (o, y))
    (hT : szT P T = some (y.isAgg, y.n)) : DetOn P b (.row k es) ⟨dst, .load T x, ty, pos, af, g⟩ t y := by
  intro σ hσ
  refine .of_value fun Φ w ρ hW hO => ?_
  obtain ⟨β, sz, k', h1, h2⟩ := (hO x (by simp [Op.operands]) _ hx).ptr
  obtain ⟨cs, el, fz, us, rfl, hw, hsz, hfz, hr, hm⟩ := (hW.own b _ hσ).real h2
  obtain ⟨r1, r2, r3⟩ := hr.at he
  have hc := CR.partAt path r3 hp
  have hle := AV.part_le path hp
  rw [List.take_drop_take _ _ _ _ _ (by omega)] at hc
  have hmm : At cs (i * k' + o) ((us.drop (i * k' + o)).take y.n) := by
    have := (hm.drop (i * k' + o)).take y.n
    rwa [Nat.zero_add] at this
  have hl := hc.length
  rw [← hl] at hT hmm
  refine ⟨_, w, Φ, y, σ, ?_, ⟨rfl, rfl⟩, .refl Φ, hW, .of1 (VR1.of_row hc)⟩
  rw [hl] at hmm
  simp [execOp, h1, Instr.loadAt, Instr.sureAddr, run_loadVar_at hw hmm hT hc.one_of]

theorem A.store {x v : Operand} {T : TypeId} {b i o k : Nat} {path : List Nat} {es : List AV} {e old y : AV} (hx : t.ev x = some (.ptr b i path o)) (hv : t.ev v = some y) (hσ : σ b = some (.row k es)) (he : es[i]? = some e)
    (hp : AV.part e path = some (o, old)) (hn : y.n = old.n) (ht : y.notTup = true) (hT : (P.info? T).map (·.size) = some y.n)
    (hk : K (.tup []) (σ.set b (.row k (es.set i (AV.upd e path y))))) : AOp P ⟨dst, .store T x v, ty, pos, af, g⟩ t σ K := by
  refine .of_skip fun Φ w ρ hW hO => ?_
  obtain ⟨β, sz, k', h1, h2⟩ := (hO x (by simp [Op.operands]) _ hx).ptr
  obtain ⟨cs, el, fz, us, rfl, hw, hsz, hfz, hr, hm⟩ := (hW.own b _ hσ).real h2
  obtain ⟨r1, r2, r3⟩ := hr.at he
  have hy := (hO v (by simp [Op.operands]) _ hv).to1 (AV.notTup_spec ht)
  have hyc := hy.cells
  have hyl := hyc.length
  have hle := AV.part_le path hp
  have hcs : us = [] ∨ us.length ≤ cs.size := by have := hm.size; simpa using this
  have hus : us.length ≤ cs.size := by rcases hcs with rfl | h; · simp
                                       · exact h
  have hst := run_storeCells_own (P := P) (o := i * k' + o) (ρ v).cells.toList 0 w cs hw (by omega) (by rw [hsz]; exact hfz) hyc.plain
  refine ⟨setBlk w β (.cells (setAll cs (i * k' + o + 0) (ρ v).cells.toList) el fz), Φ, _, ?_, hk, .refl Φ, ?_⟩
  · have hcell : (ρ v).cells.size = y.n := by simpa using hyl
    simp only [execOp, h1, Instr.storeAt, Instr.sureAddr, storeVar, Sem.run_bind, Sem.run_pure, Result.andThen_ok, run_size hT, hcell]
    simp only [ne_eq, not_true, if_false, hst, Result.andThen_ok]
  · have hup := CR.updAt path r3 hp hyc hn
    refine hW.write h2 hσ hfz (by rw [setAll_size]; exact hsz) (hr.set he (by omega) ?_ hup) ?_
    · rw [AV.upd_n path hp hn, r2]
    · rw [Nat.add_zero]; exact hm.setAll (by omega) (by omega)

/-- A type's zero. -/
def zT (P : Program) (T : TypeId) : Option Value := (P.info? T).bind (·.zero)
theorem run_zero {w : World} {T : TypeId} {z : Value} (h : zT P T = some z) : (zeroValue T).run P w = .ok z w := by
  unfold zT at h
  cases hi : P.info? T with
  | none => simp [hi] at h
  | some i => simp [hi] at h; simp [zeroValue, run_info hi, h]
def notTup : Value → Bool
  | .tuple _ => false
  | _ => true
theorem VR1.const {Φ : Phi} {z : Value} (hf : flat z = true) (ht : notTup z = true) : VR1 Φ (AV.const z) z :=
  (VR.const hf).to1 fun vs h => by
    cases z <;> simp only [AV.const] at h <;> first | (cases h; done) | (cases ht; done) | (unfold AV.const0 at h; split at h <;> cases h)
theorem Row.one {Φ : Phi} {y : AV} {us : List Value} (h : CR Φ y us) : Row Φ y.n [y] us := by
  have hl := h.length
  refine ⟨by simpa using hl, fun i x hx => ?_, fun i x hx => ?_⟩ <;> cases i <;> simp at hx
  · exact hx ▸ rfl
  · subst hx; simp [← hl]; exact h
theorem At.self (us : List Value) : At us.toArray 0 us := fun j u h => by simpa using h

theorem A.alloc {T : TypeId} {z : Value} (hz : zT P T = some z) (hf : flat z = true) (ht : notTup z = true) (hk : ∀ b, σ b = none → K (.ptr b 0 [] 0) (σ.set b (.row (AV.const z).n [AV.const z]))) :
    AOp P ⟨dst, .alloc T, ty, pos, af, g⟩ t σ K := by
  refine .of_value fun Φ w ρ hW hO => ?_
  obtain ⟨b, hb, hσ⟩ := hW.fresh
  have hc := (VR1.const (Φ := Φ) hf ht).cells
  obtain ⟨h1, h2⟩ := hW.newOwn hb z.cells T (Row.one hc) (fun j u h => by simpa using h)
  refine ⟨.pointer (some ⟨w.heap.size, 0, none⟩), _, _, _, _, ?_, hk b hσ, h1, h2, .of1 ?_⟩
  · simp [execOp, Instr.alloc, run_zero hz, newVar, newRow]
  · show CR _ _ _
    have := CR.ptr (Φ := Φ.addOwn b (.row w.heap.size z.cells.size (AV.const z).n)) (i := 0) (path := []) (off := 0) (Phi.addOwn_self ..)
    simpa using this

theorem A.box_o {T : TypeId} {x : Operand} {y : AV} (hx : t.ev x = some y) (ht : y.notTup = true) (hk : ∀ b, σ b = none → K (.ptr b 0 [] 0) (σ.set b (.row y.n [y]))) :
    AOp P ⟨dst, .box T x, ty, pos, af, g⟩ t σ K := by
  refine .of_value fun Φ w ρ hW hO => ?_
  obtain ⟨b, hb, hσ⟩ := hW.fresh
  have hc := ((hO x (by simp [Op.operands]) _ hx).to1 (AV.notTup_spec ht)).cells
  obtain ⟨h1, h2⟩ := hW.newOwn hb (ρ x).cells T (Row.one hc) (fun j u h => by simpa using h)
  refine ⟨.pointer (some ⟨w.heap.size, 0, none⟩), _, _, _, _, ?_, hk b hσ, h1, h2, .of1 ?_⟩
  · simp [execOp, Instr.box, newVar, newRow]
  · show CR _ _ _
    have := CR.ptr (Φ := Φ.addOwn b (.row w.heap.size (ρ x).cells.size y.n)) (i := 0) (path := []) (off := 0) (Phi.addOwn_self ..)
    simpa using this
theorem D.box_i {T : TypeId} {x : Operand} {y : AV} (hx : t.ev x = some y) (ht : y.notTup = true) : Det P ⟨dst, .box T x, ty, pos, af, g⟩ t (.iptr y) := by
  intro σ
  refine .of_value fun Φ w ρ hW hO => ?_
  have hc := ((hO x (by simp [Op.operands]) _ hx).to1 (AV.notTup_spec ht)).cells
  obtain ⟨h1, h2, h3⟩ := hW.newObj (.cells (ρ x).cells T)
  refine ⟨.pointer (some ⟨w.heap.size, 0, none⟩), _, _, _, _, ?_, ⟨rfl, rfl⟩, h1, h2, .of1 (CR.iptr h3 (hc.mono h1) (fun j u h => by simpa using h))⟩
  simp [execOp, Instr.box, newVar, newRow]

/-- A function that has a body. -/
def bodied (P : Program) (f : FuncId) : Bool :=
  match P.funcs[f]? with
  | some fn => !(fn.name == "runtime.NumGoroutine") && fn.body.isSome
  | none => false
theorem run_callFunc {w : World} {f : FuncId} {args : Array Value} (h : bodied P f = true) : (callFunc f args).run P w = .ok (.enter f args) w := by
  unfold bodied at h
  split at h
  · rename_i fn hf
    simp only [Bool.and_eq_true, Bool.not_eq_true'] at h
    have h1 : ¬ fn.name = "runtime.NumGoroutine" := by simpa using h.1
    have h2 : ¬ fn.body = none := by intro hb; simp [hb] at h
    simp [callFunc, hf, h1, h2]
  · cases h

/-- What the operands tell. -/
def AT.evs (t : AT) (xs : List Operand) (ys : List AV) : Prop :=
  match xs, ys with
  | [], [] => True
  | x :: xs, y :: ys => (∃ z, t.ev x = some z ∧ Wk z y) ∧ AT.evs t xs ys
  | _, _ => False
theorem ev0 : AT.evs t [] [] := trivial
theorem evc {x : Operand} {y : AV} {xs : List Operand} {ys : List AV} (h : t.ev x = some y) (k : AT.evs t xs ys) : AT.evs t (x :: xs) (y :: ys) := ⟨⟨y, h, .refl y⟩, k⟩
theorem evw {x : Operand} {y z : AV} {xs : List Operand} {ys : List AV} (h : t.ev x = some z) (hw : Wk z y) (k : AT.evs t xs ys) : AT.evs t (x :: xs) (y :: ys) := ⟨⟨z, h, hw⟩, k⟩
theorem AT.evs_spec : ∀ {xs : List Operand} {ys : List AV}, AT.evs t xs ys → xs.length = ys.length ∧ ∀ (i : Nat) (x : Operand) (y : AV), xs[i]? = some x → ys[i]? = some y → ∃ z, t.ev x = some z ∧ Wk z y
  | [], [], _ => ⟨rfl, fun i x y h => by simp at h⟩
  | x :: xs, y :: ys, h => by
    obtain ⟨h1, h2⟩ := AT.evs_spec h.2
    refine ⟨by simp [h1], fun i a b ha hb => ?_⟩
    cases i with
    | zero => simp at ha hb; subst ha; subst hb; exact h.1
    | succ i => simp only [List.getElem?_cons_succ] at ha hb; exact h2 i a b ha hb
  | [], _ :: _, h => h.elim
  | _ :: _, [], h => h.elim

theorem A.call {f : FuncId} {xs : List Operand} {ats : Array TypeId} {ys : List AV} {R : AV → AH → Prop} (hx : AT.evs t xs ys) (hb : bodied P f = true) (hc : ACalls P f ys σ R) (hk : ∀ y σ', R y σ' → K y σ') :
    AOp P ⟨dst, .call ⟨.value (.func f), xs.toArray, ats⟩, ty, pos, af, g⟩ t σ K := by
  intro Φ w a hW hO
  obtain ⟨hl, hev⟩ := AT.evs_spec hx
  have hrun : (execOp a.eval ⟨dst, .call ⟨.value (.func f), xs.toArray, ats⟩, ty, pos, af, g⟩).run P w = .ok (.enter f (xs.map a.eval).toArray) w := by
    have h1 : a.eval (.func f) = .func (.func f) #[] #[] := rfl
    simp [execOp, resolve, h1, Deferred.ofValue, invoke, run_callFunc hb]
  have := hc Φ w (xs.map a.eval) hW (by simp [hl]) fun i x u hx hu => by
    rw [List.getElem?_map] at hu
    cases hxi : xs[i]? with
    | none => simp [hxi] at hu
    | some z =>
      simp [hxi] at hu; subst hu
      obtain ⟨q, hq1, hq2⟩ := hev i z x hxi hx
      exact hq2 _ _ (hO z (by simp [Op.operands, Call.operands]; exact .inr (List.mem_of_getElem? hxi)) q hq1)
  unfold Oper.wp
  rw [hrun]
  refine Calls.mono this ?_
  rintro e w' ⟨y, σ', Φ', u, rfl, h2, h3, h4, h5⟩
  exact ⟨y, σ', Φ', u, rfl, hk _ _ h2, h3, h4, h5⟩
theorem A.callV {f : FuncId} {x : Operand} {xs : List Operand} {ats : Array TypeId} {ys cap : List AV} {R : AV → AH → Prop} (hf : t.ev x = some (.fn (.func f) cap)) (hx : AT.evs t xs ys) (hb : bodied P f = true)
    (hcap : cap.all (fun a => match a with | .agg _ => false | .tup _ => false | _ => true) = true) (hc : ACalls P f (ys ++ cap) σ R) (hk : ∀ y σ', R y σ' → K y σ') :
    AOp P ⟨dst, .call ⟨.value x, xs.toArray, ats⟩, ty, pos, af, g⟩ t σ K := by
  intro Φ w a hW hO
  obtain ⟨hl, hev⟩ := AT.evs_spec hx
  have hfv := hO x (by simp [Op.operands, Call.operands]) _ hf
  obtain ⟨us, hus, hu1, hu2⟩ : ∃ us : List Value, a.eval x = .func (.func f) #[] us.toArray ∧ us.length = cap.length ∧ ∀ (i : Nat) z, cap[i]? = some z → CR Φ z ((us.drop i).take 1) := by
    simp only [VR, VR1] at hfv
    generalize a.eval x = v at hfv
    cases hfv with
    | fn hu hn hr => exact ⟨_, rfl, hu, hr⟩
  have hrun : (execOp a.eval ⟨dst, .call ⟨.value x, xs.toArray, ats⟩, ty, pos, af, g⟩).run P w = .ok (.enter f (xs.map a.eval ++ us).toArray) w := by
    simp [execOp, resolve, hus, Deferred.ofValue, invoke, run_callFunc hb]
  have := hc Φ w (xs.map a.eval ++ us) hW (by simp [hl, hu1]) fun i z u hz hu => by
    by_cases hi : i < ys.length
    · rw [List.getElem?_append_left hi] at hz
      rw [List.getElem?_append_left (by simp; omega), List.getElem?_map] at hu
      cases hxi : xs[i]? with
      | none => simp [hxi] at hu
      | some q =>
        simp [hxi] at hu; subst hu
        obtain ⟨q', hq1, hq2⟩ := hev i q z hxi hz
        exact hq2 _ _ (hO q (by simp [Op.operands, Call.operands]; exact .inr (List.mem_of_getElem? hxi)) q' hq1)
    · rw [List.getElem?_append_right (by omega)] at hz
      rw [List.getElem?_append_right (by simp; omega)] at hu
      simp only [List.length_map, hl] at hu
      have h1 := hu2 _ _ hz
      have hlt := (List.getElem?_eq_some_iff.1 hu).1
      have h2 : (us.drop (i - ys.length)).take 1 = [u] := by
        rw [List.drop_eq_getElem_cons hlt, (List.getElem?_eq_some_iff.1 hu).2]; rfl
      rw [h2] at h1
      have hz' := List.all_eq_true.1 hcap z (List.mem_of_getElem? hz)
      refine .of1 (.of_cells h1 fun fs h => ?_)
      subst h; cases hz'
  unfold Oper.wp
  rw [hrun]
  refine Calls.mono this ?_
  rintro e w' ⟨y, σ', Φ', u, rfl, h2, h3, h4, h5⟩
  exact ⟨y, σ', Φ', u, rfl, hk _ _ h2, h3, h4, h5⟩

/-- A function that computes, and changes nothing that is known. -/
def Pure (P : Program) (f : FuncId) (args : List AV) (y : AV) : Prop := ∀ σ, ACalls P f args σ (fun y' σ' => y' = y ∧ σ' = σ)
theorem D.call {f : FuncId} {xs : List Operand} {ats : Array TypeId} {ys : List AV} {y : AV} (hx : AT.evs t xs ys) (hb : bodied P f = true) (hc : Pure P f ys y) :
    Det P ⟨dst, .call ⟨.value (.func f), xs.toArray, ats⟩, ty, pos, af, g⟩ t y := fun σ => A.call hx hb (hc σ) fun _ _ h => h
theorem D.callV {f : FuncId} {x : Operand} {xs : List Operand} {ats : Array TypeId} {ys cap : List AV} {y : AV} (hf : t.ev x = some (.fn (.func f) cap)) (hx : AT.evs t xs ys) (hb : bodied P f = true)
    (hcap : cap.all (fun a => match a with | .agg _ => false | .tup _ => false | _ => true) = true) (hc : Pure P f (ys ++ cap) y) :
    Det P ⟨dst, .call ⟨.value x, xs.toArray, ats⟩, ty, pos, af, g⟩ t y := fun σ => A.callV hf hx hb hcap (hc σ) fun _ _ h => h
end
#print axioms A.store
end Go.Proofs.Al
