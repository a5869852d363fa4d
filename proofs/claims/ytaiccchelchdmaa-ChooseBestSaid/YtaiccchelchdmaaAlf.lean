/- An abstract layer over the walk of Go code, part 6: slices made, cut, grown and copied; strings and bytes; structs built. -/
import Derived.Test.YtaiccchelchdmaaAle
namespace Go.Proofs.Al
open Go
set_option linter.unusedVariables false

section
variable {P : Program} {t : AT} {dst : Option Tmp} {ty : TypeId} {pos : String} {af : Array Edge} {g : Option (Nat × Bool)} {σ : AH} {K : AV → AH → Prop}

theorem drop_add_append (vs us : List Value) (n : Nat) : (vs ++ us).drop (vs.length + n) = us.drop n := by
  rw [List.drop_append, List.drop_of_length_le (by omega), List.nil_append]; congr 1; omega
theorem Row.nil (Φ : Phi) (k : Nat) : Row Φ k [] [] := ⟨by simp, fun i x h => by simp at h, fun i x h => by simp at h⟩
theorem Row.cons {Φ : Phi} {k : Nat} {e : AV} {es : List AV} {vs us : List Value} (he : CR Φ e vs) (hn : e.n = k) (h : Row Φ k es us) : Row Φ k (e :: es) (vs ++ us) := by
  have hl := he.length
  refine ⟨by simp [h.1, hl, hn, Nat.succ_mul]; omega, fun i x hx => ?_, fun i x hx => ?_⟩
  · cases i with
    | zero => simp at hx; exact hx ▸ hn
    | succ i => simp only [List.getElem?_cons_succ] at hx; exact h.2.1 i x hx
  · cases i with
    | zero =>
      simp at hx; subst hx
      rw [Nat.zero_mul, List.drop_zero, List.take_append_of_le_length (by omega), List.take_of_length_le (by omega)]; exact he
    | succ i =>
      simp only [List.getElem?_cons_succ] at hx
      rw [show (i + 1) * k = vs.length + i * k by rw [Nat.succ_mul]; omega, drop_add_append]; exact h.2.2 i x hx
theorem Row.append {Φ : Phi} {k : Nat} {es fs : List AV} {us vs : List Value} (h : Row Φ k es us) (h' : Row Φ k fs vs) : Row Φ k (es ++ fs) (us ++ vs) := by
  refine ⟨by simp [h.1, h'.1, Nat.add_mul], fun i x hx => ?_, fun i x hx => ?_⟩
  · by_cases hi : i < es.length
    · rw [List.getElem?_append_left hi] at hx; exact h.2.1 i x hx
    · rw [List.getElem?_append_right (by omega)] at hx; exact h'.2.1 _ x hx
  · by_cases hi : i < es.length
    · rw [List.getElem?_append_left hi] at hx
      obtain ⟨h1, h2, h3⟩ := h.at hx
      have : (((us ++ vs).drop (i * k)).take k) = (us.drop (i * k)).take k := by
        rw [List.drop_append_of_le_length (by omega), List.take_append_of_le_length (by simp; omega)]
      rw [this]; exact h3
    · rw [List.getElem?_append_right (by omega)] at hx
      obtain ⟨h1, h2, h3⟩ := h'.at hx
      have : (((us ++ vs).drop (i * k)).take k) = (vs.drop ((i - es.length) * k)).take k := by
        have he : i * k = us.length + (i - es.length) * k := by rw [h.1, ← Nat.add_mul]; congr 1; omega
        rw [he, drop_add_append]
      rw [this]; exact h3
theorem Row.take {Φ : Phi} {k : Nat} {es : List AV} {us : List Value} (h : Row Φ k es us) (m : Nat) : Row Φ k (es.take m) (us.take (m * k)) := by
  refine ⟨by simp only [List.length_take, h.1]; rw [Nat.mul_min_mul_right], fun i x hx => ?_, fun i x hx => ?_⟩
  · rw [List.getElem?_take] at hx; split at hx <;> first | exact h.2.1 i x hx | cases hx
  · rw [List.getElem?_take] at hx
    split at hx
    · rename_i him
      have h3 := h.2.2 i x hx
      have : i * k + k ≤ m * k := by rw [← Nat.succ_mul]; exact Nat.mul_le_mul_right k him
      have e : ((us.take (m * k)).drop (i * k)).take k = (us.drop (i * k)).take k := by
        have := List.take_drop_take us 0 (m * k) (i * k) k this
        simpa using this
      rw [e]; exact h3
    · cases hx
theorem Row.drop {Φ : Phi} {k : Nat} {es : List AV} {us : List Value} (h : Row Φ k es us) (m : Nat) : Row Φ k (es.drop m) (us.drop (m * k)) := by
  refine ⟨by simp only [List.length_drop, h.1, Nat.sub_mul], fun i x hx => ?_, fun i x hx => ?_⟩
  · rw [List.getElem?_drop] at hx; exact h.2.1 _ x hx
  · rw [List.getElem?_drop] at hx
    have h3 := h.2.2 _ x hx
    rw [List.drop_drop, ← Nat.add_mul]; exact h3
theorem Row.plain {Φ : Phi} {k : Nat} : ∀ {es : List AV} {us : List Value}, Row Φ k es us → us.all plain = true
  | [], us, h => by have := h.1; simp at this; subst this; rfl
  | e :: es, us, h => by
    have h1 := (h.at (i := 0) rfl).2.2.plain
    have h2 : (us.drop k).all Al.plain = true := by
      have h3 : Row Φ k es (us.drop (1 * k)) := h.drop 1
      rw [Nat.one_mul] at h3; exact Row.plain h3
    simp only [List.drop_zero, Nat.zero_mul] at h1
    rw [← List.take_append_drop k us, List.all_append, h1, h2]; rfl
theorem Row.rep {Φ : Phi} {e : AV} {vs : List Value} (he : CR Φ e vs) : ∀ m, ∃ us, Row Φ e.n (List.replicate m e) us ∧ us = (List.replicate m vs).flatten
  | 0 => ⟨[], Row.nil .., rfl⟩
  | m + 1 => by
    obtain ⟨us, h1, h2⟩ := Row.rep he m
    exact ⟨vs ++ us, by rw [List.replicate_succ]; exact Row.cons he rfl h1, by rw [List.replicate_succ, List.flatten_cons, h2]⟩

/-! Slices that are read. -/
def SrcOK (P : Program) (Φ : Phi) (w : World) (k : Nat) (xs : List AV) (u : Value) : Prop :=
  ∃ us, Row Φ k xs us ∧ (Builtin.lenOf u).run P w = .ok xs.length w ∧ (Builtin.firstCells k xs.length u).run P w = .ok us.toArray w
/-- What an operand's slice holds. -/
inductive Src (t : AT) (σ : AH) (x : Operand) (k : Nat) : List AV → Prop
  | list {c : Bool} {es : List AV} (h : t.ev x = some (.list c k es)) : Src t σ x k es
  | nil {c : Bool} {k' : Nat} (h : t.ev x = some (.list c k' [])) : Src t σ x k []
  | ref {b off len : Nat} {es xs : List AV} (h : t.ev x = some (.ref b k off len)) (hσ : σ b = some (.row k es)) (hl : off + len ≤ es.length) (hx : (es.drop off).take len = xs) : Src t σ x k xs
theorem run_firstCells {w : World} {β o k n cap : Nat} {cs : Array Value} {el : TypeId} {fz : Nat × Nat} {us : List Value} {l : Nat} (h : w.heap[β]? = some (.cells cs el fz)) (hm : At cs o us) (hl : us.length = n * k) :
    (Builtin.firstCells k n (.slice (some ⟨β, o, none⟩) l cap)).run P w = .ok us.toArray w := by
  simp only [Builtin.firstCells]
  exact run_loadCells_at h hm hl
theorem run_firstCells0 {w : World} {k cap l : Nat} {A : Option Addr} : (Builtin.firstCells k 0 (.slice A l cap)).run P w = .ok #[] w := by
  cases A with
  | none => rfl
  | some a => simp only [Builtin.firstCells, Nat.zero_mul, loadCells]; rfl
theorem Src.ok {x : Operand} {k : Nat} {xs : List AV} (h : Src t σ x k xs) {Φ : Phi} {w : World} {u : Value} (hW : WR Φ σ w) (hu : ∀ y, t.ev x = some y → VR Φ y u) : SrcOK P Φ w k xs u := by
  cases h with
  | list h =>
    rcases (hu _ h).list with ⟨rfl, A, cap, rfl, _⟩ | ⟨_, β, o, cap, us, cs, el, fz, rfl, _, _, hΦ, hr, hm⟩
    · exact ⟨[], Row.nil .., rfl, run_firstCells0⟩
    · exact ⟨us, hr, rfl, run_firstCells (hW.obj _ _ hΦ) hm hr.1⟩
  | nil h =>
    rcases (hu _ h).list with ⟨_, A, cap, rfl, _⟩ | ⟨hne, _⟩
    · exact ⟨[], Row.nil .., rfl, run_firstCells0⟩
    · exact absurd rfl hne
  | ref h hσ hl hx =>
    subst hx
    rename_i b off len es
    rcases (hu _ h).ref with ⟨l, A, _, rfl, rfl⟩ | ⟨β, sz, cap, h1, rfl, _, _⟩
    · simp only [List.take_zero]; exact ⟨[], Row.nil .., rfl, run_firstCells0⟩
    · obtain ⟨cs, el, fz, us, _, hw, _, _, hr, hm⟩ := (hW.own b _ hσ).real h1
      have hr' := (hr.drop off).take len
      have hlen : ((es.drop off).take len).length = len := by simp; omega
      refine ⟨_, hr', by rw [hlen]; rfl, ?_⟩
      rw [hlen]
      refine run_firstCells hw ?_ (by rw [hr'.1, hlen])
      have := (hm.drop (off * k)).take (len * k)
      rwa [Nat.zero_add] at this

/-- A slice type: its elements' cells, bytes, and zero. -/
def slT (P : Program) (T : TypeId) : Option (Nat × Nat × Value) :=
  match P.underlying T with
  | some (.slice e) =>
    match P.info? e with
    | some i => match i.zero with
      | some z => some (i.size, i.bytes, z)
      | none => none
    | none => none
  | _ => none
theorem slT_spec {T : TypeId} {k by_ : Nat} {z : Value} (h : slT P T = some (k, by_, z)) : ∃ e i, P.underlying T = some (.slice e) ∧ P.info? e = some i ∧ i.size = k ∧ i.bytes = by_ ∧ zT P e = some z := by
  unfold slT at h
  split at h
  · rename_i e he
    split at h
    · rename_i i hi
      split at h
      · rename_i z' hz
        simp only [Option.some.injEq, Prod.mk.injEq] at h
        obtain ⟨rfl, rfl, rfl⟩ := h
        exact ⟨e, i, he, hi, rfl, rfl, by simp [zT, hi, hz]⟩
      · cases h
    · cases h
  · cases h

theorem growBy_le (m : Nat) : ∀ (r c : Nat), c < m → Builtin.growBy m r c ≤ 2 * m + 768
  | 0, c, h => by simp [Builtin.growBy]; omega
  | r + 1, c, h => by
    simp only [Builtin.growBy]
    split
    · omega
    · by_cases h2 : c + (c + 768) / 4 < m
      · exact growBy_le m r _ h2
      · cases r with
        | zero => simp [Builtin.growBy]; omega
        | succ r => simp only [Builtin.growBy]; rw [if_pos (by omega)]; omega
theorem nextslicecap_le {m c : Nat} (h : c < m) : Builtin.nextslicecap m c ≤ 2 * m + 768 := by
  unfold Builtin.nextslicecap
  split
  · omega
  · split
    · omega
    · exact growBy_le m 4 c h

theorem run_askRoom {w : World} (m : Nat) : (askRoom m).run P w = .ok () w := by
  unfold askRoom
  split <;> rfl
theorem cut_appendCap {m c : Nat} {e : TypeId} {x : Nat} : m ≤ (Question.appendCap m c e).cut x := by simp [Question.cut]

/-- The append's run where there is no room. -/
theorem run_append_grow {w : World} {T T2 ty : TypeId} {k by_ : Nat} {z : Value} (hT : slT P T = some (k, by_, z)) (hT2 : (∃ e2, P.underlying T2 = some (.slice e2)) ∨ P.underlying T2 = some .string) {A : Option Addr} {len cap m : Nat} {x : Value}
    {os ns : List Value} (hx : (Builtin.lenOf x).run P w = .ok m w) (ho : (Builtin.firstCells k len (.slice A len cap)).run P w.drew = .ok os.toArray w.drew) (hn : (Builtin.firstCells k m x).run P w.drew = .ok ns.toArray w.drew)
    (hneed : cap < len + m) (hbig : (len + m) * by_ ≤ 70368744177664) (hb : 1 ≤ by_ ∧ by_ ≤ 1000) :
    ∃ (e : TypeId) (nc : Nat), len + m ≤ nc ∧
      (Builtin.append_ #[T, T2] ty #[.slice A len cap, x]).run P w = .ok (.slice (some ⟨w.heap.size, 0, none⟩) (len + m) nc) (w.drew.alloc (.cells (os.toArray ++ ns.toArray ++ Builtin.zeroCells z.cells (nc - (len + m))) e)) := by
  obtain ⟨e, i, he, hi, hs, hby, hz⟩ := slT_spec hT
  have hsz : (P.info? e).map (·.size) = some k := by simp [hi, hs]
  have hge : len + m ≤ 70368744177664 := by have := Nat.le_mul_of_pos_right (len + m) (show 0 < by_ by omega); omega
  have hnx := nextslicecap_le hneed
  have hcapb : ¬ (281474976710656 < Builtin.nextslicecap (len + m) cap * i.bytes) := by
    rw [hby]
    have h3 : Builtin.nextslicecap (len + m) cap * by_ ≤ (2 * (len + m) + 768) * by_ := Nat.mul_le_mul_right _ hnx
    have h4 : (2 * (len + m) + 768) * by_ = 2 * ((len + m) * by_) + 768 * by_ := by rw [Nat.add_mul, Nat.mul_assoc]
    omega
  have hbn : ¬ i.bytes = 0 := by omega
  have hgt : ¬ (len + m ≤ cap) := by omega
  refine ⟨e, (Question.appendCap (len + m) cap e).cut (w.tape w.drawn (.appendCap (len + m) cap e)), cut_appendCap, ?_⟩
  have hch : (choose (.appendCap (len + m) cap e)).run P w = .ok ((Question.appendCap (len + m) cap e).cut (w.tape w.drawn (.appendCap (len + m) cap e))) w.drew := rfl
  rcases hT2 with ⟨e2, hd2⟩ | hd2
  all_goals
    simp only [Builtin.append_, List.getElem?_toArray, List.getElem?_cons_zero, List.getElem?_cons_succ, Sem.run_bind, run_und he, Result.andThen_ok, run_size hsz, run_und hd2, Sem.run_pure, Bool.false_eq_true, if_false, hx, if_neg hgt, run_info hi,
      Bool.not_false, if_true, false_or, hbn, and_false, gt_iff_lt]
    rw [if_neg (by simpa using hcapb)]
    simp only [Sem.run_bind, hch, Result.andThen_ok, run_info hi, run_askRoom, ho, hn, run_zero hz, Sem.run_pure, newRow]
    rfl

/-- The append's run where there is room. -/
theorem run_append_fits {w w' : World} {T T2 ty : TypeId} {k by_ : Nat} {z : Value} (hT : slT P T = some (k, by_, z)) (hT2 : (∃ e2, P.underlying T2 = some (.slice e2)) ∨ P.underlying T2 = some .string) {A : Option Addr} {len cap m : Nat} {x : Value}
    {ns : List Value} (hx : (Builtin.lenOf x).run P w = .ok m w) (hn : (Builtin.firstCells k m x).run P w = .ok ns.toArray w) (hneed : len + m ≤ cap)
    (hst : (match A with | some a => storeCells (a.add (len * k)) ns | none => pure () : Sem Unit).run P w = .ok () w') :
    (Builtin.append_ #[T, T2] ty #[.slice A len cap, x]).run P w = .ok (.slice A (len + m) cap) w' := by
  obtain ⟨e, i, he, hi, hs, hby, hz⟩ := slT_spec hT
  have hsz : (P.info? e).map (·.size) = some k := by simp [hi, hs]
  rcases hT2 with ⟨e2, hd2⟩ | hd2
  all_goals
    simp only [Builtin.append_, List.getElem?_toArray, List.getElem?_cons_zero, List.getElem?_cons_succ, Sem.run_bind, run_und he, Result.andThen_ok, run_size hsz, run_und hd2, Sem.run_pure, Bool.false_eq_true, if_false, hx, if_pos hneed,
      Bool.not_false, if_true, hn]
    cases A with
    | none => simp only [Sem.run_pure] at hst ⊢; cases hst; rfl
    | some a => simp only [Sem.run_bind, hst, Result.andThen_ok, Sem.run_pure]

theorem execOp_builtin' (ρ : Operand → Value) (b : Builtin) (xs : Array Operand) (ats : Array TypeId) : ∃ cs, execOp ρ ⟨dst, .call ⟨.builtin b, xs, ats⟩, ty, pos, af, g⟩ = builtin b ats ty cs (xs.map ρ) := by
  exact ⟨_, rfl⟩

/-- Room in a row, behind what it holds. -/
theorem WR.shrink {Φ : Phi} {w : World} (h : WR Φ σ w) {b k : Nat} {es : List AV} (hb : σ b = some (.row k es)) (m : Nat) : WR Φ (σ.set b (.row k (es.take m))) w := by
  have hσ : ∀ c x, (σ.set b (.row k (es.take m))) c = some x → c ≠ b → σ c = some x := fun c x hx hc => by rw [AH.set_ne hc] at hx; exact hx
  have hany : ∀ c y, (σ.set b (.row k (es.take m))) c = some y → ∃ z, σ c = some z := fun c y hy => by
    by_cases hc : c = b
    · subst hc; exact ⟨_, hb⟩
    · exact ⟨y, hσ c y hy hc⟩
  refine ⟨h.obj, fun c y hy => ?_, ?_, h.fin, h.os, h.tape, h.output⟩
  · by_cases hc : c = b
    · subst hc
      rw [AH.set_self] at hy; cases hy
      cases h.own c _ hb with
      | virt h => rw [List.take_nil]; exact .virt h
      | row a hw c d e f g => exact .row a hw c d e (f.take m) (g.take _)
    · exact h.own c y (hσ c y hy hc)
  · intro c c' y y' l l' β' hy hy' hl hl' hβ hβ'
    obtain ⟨z, hz⟩ := hany c y hy
    obtain ⟨z', hz'⟩ := hany c' y' hy'
    exact h.inj c c' z z' l l' β' hz hz' hl hl' hβ hβ'
theorem AH.del_set {b b' : Nat} {x y : Blk} (h : b ≠ b') : ((σ.set b x).del b).set b' y = (σ.del b).set b' y := by
  funext c
  simp only [AH.set, AH.del]
  split
  · rfl
  · split <;> rfl
theorem zeroCells_at {os ns : List Value} {zs : Array Value} : At (os.toArray ++ ns.toArray ++ zs) 0 (os ++ ns) := by
  intro j u hj
  have hlt := (List.getElem?_eq_some_iff.1 hj).1
  rw [Nat.zero_add, Array.getElem?_append_left (by simpa using hlt)]
  simpa using hj

/-- What may be appended. -/
def srcT (P : Program) (T : TypeId) : Bool := isSl P T || isStr P T
theorem srcT_spec {T : TypeId} (h : srcT P T = true) : (∃ e2, P.underlying T = some (.slice e2)) ∨ P.underlying T = some .string := by
  simp only [srcT, Bool.or_eq_true] at h
  exact h.imp isSl_spec isStr_spec
/-- Growing an own row: it gets a new name. -/
theorem A.append {x s : Operand} {T T2 : TypeId} {b k by_ len : Nat} {es xs : List AV} {z : Value} (hs : t.ev s = some (.ref b k 0 len)) (hσ : σ b = some (.row k es)) (hlen : len ≤ es.length) (hx : Src t σ x k xs)
    (hT : slT P T = some (k, by_, z)) (hT2 : srcT P T2 = true) (hbig : (len + xs.length) * by_ ≤ 70368744177664) (hb : 1 ≤ by_ ∧ by_ ≤ 1000) (hzk : z.cells.size = k)
    (hk : ∀ b', σ b' = none → K (.ref b' k 0 (len + xs.length)) ((σ.del b).set b' (.row k (es.take len ++ xs)))) :
    AOp P ⟨dst, .call ⟨.builtin .append, #[s, x], #[T, T2]⟩, ty, pos, af, g⟩ t σ K := by
  have hT2 := srcT_spec hT2
  refine .of_value fun Φ w ρ hW hO => ?_
  obtain ⟨b', hb', hσ'⟩ := hW.fresh
  have hsv := hO s (by simp [Op.operands, Call.operands]) _ hs
  obtain ⟨l0, hl0⟩ := (hW.own b _ hσ).loc
  have hne : b ≠ b' := fun e => by subst e; rw [hl0] at hb'; cases hb'
  have hWd : WR Φ σ w.drew := hW.heapEq rfl rfl rfl rfl
  obtain ⟨us, hr, hl, hf⟩ := hx.ok (P := P) hW (hO x (by simp [Op.operands, Call.operands]))
  obtain ⟨us', hr', _, hf'⟩ := hx.ok (P := P) hWd (hO x (by simp [Op.operands, Call.operands]))
  have hrunop : ∀ u w', (Builtin.append_ #[T, T2] ty #[ρ s, ρ x]).run P w = .ok u w' → (execOp ρ ⟨dst, .call ⟨.builtin .append, #[s, x], #[T, T2]⟩, ty, pos, af, g⟩).run P w = .ok (.value u) w' := fun u w' h => by
    simp [execOp, resolve, invoke, builtin, h]
  -- what the row holds, and the ways
  have hgrow : ∀ (A : Option Addr) (cap : Nat) (os : List Value), ρ s = .slice A len cap → (Builtin.firstCells k len (.slice A len cap)).run P w.drew = .ok os.toArray w.drew → Row Φ k (es.take len) os → cap < len + xs.length →
      ∃ u w' Φ' y σ', (execOp ρ ⟨dst, .call ⟨.builtin .append, #[s, x], #[T, T2]⟩, ty, pos, af, g⟩).run P w = .ok (.value u) w' ∧ K y σ' ∧ Φ.le Φ' ∧ WR Φ' σ' w' ∧ VR Φ' y u := by
    intro A cap os hA ho hro hc
    obtain ⟨e, nc, hnc, hrun⟩ := run_append_grow (ty := ty) hT hT2 hl ho hf' hc hbig hb
    rw [← hA] at hrun
    have hWl : WR Φ (σ.del b) w.drew := hWd.less fun c y hy => by simp only [AH.del] at hy; split at hy <;> first | cases hy | exact hy
    obtain ⟨h1, h2⟩ := hWl.newOwn hb' (os.toArray ++ us'.toArray ++ Builtin.zeroCells z.cells (nc - (len + xs.length))) e (hro.append hr') zeroCells_at
    refine ⟨_, _, _, _, _, hrunop _ _ hrun, hk b' hσ', h1, h2, .of1 ?_⟩
    show CR _ _ _
    have := CR.ref (Φ := Φ.addOwn b' (.row w.drew.heap.size (os.toArray ++ us'.toArray ++ Builtin.zeroCells z.cells (nc - (len + xs.length))).size k)) (b := b') (off := 0) (len := len + xs.length) (cap := nc) (Phi.addOwn_self ..) hnc (by
      have h3 := (hro.append hr').1
      simp only [List.length_append, List.length_take, Nat.min_eq_left hlen] at h3
      simp only [Array.size_append, List.size_toArray, Builtin.zeroCells, Array.size_map, Array.size_range, hzk, h3, ← Nat.add_mul, Nat.zero_add]
      exact Nat.mul_le_mul_right k (by omega))
    rw [Nat.zero_mul] at this
    exact this
  have hname : ∀ (Φ : Phi) (w' : World) (ys : List AV), Φ.own b' = none → Φ.own b = some l0 → WR Φ (σ.set b (.row k ys)) w' → Φ.le (Φ.addOwn b' l0) ∧ WR (Φ.addOwn b' l0) ((σ.del b).set b' (.row k ys)) w' := fun Φ w' ys h1 h2 hw => by
    have := hw.rename (AH.set_self ..) h2 h1
    rw [AH.del_set hne] at this
    exact this
  rcases hsv.ref with ⟨l, A, hl1, rfl, hA⟩ | ⟨β, sz, cap, hown, hA, hcap, hsz⟩
  · by_cases hm : xs = []
    · subst hm
      have hrun : (Builtin.append_ #[T, T2] ty #[ρ s, ρ x]).run P w = .ok (.slice A 0 0) w := by
        have := run_append_fits (P := P) (w' := w) (ty := ty) (A := A) (len := 0) (cap := 0) (m := 0) (x := ρ x) (ns := us) hT hT2 hl hf (Nat.le_refl 0) (by
          have h0 : us = [] := by have := hr.1; simpa using this
          subst h0
          cases A <;> rfl)
        rw [hA]; exact this
      have hw1 := hname Φ w (es.take 0) hb' hl0 (hW.shrink hσ 0)
      refine ⟨_, _, _, _, _, hrunop _ _ hrun, hk b' hσ', hw1.1, ?_, .of1 ?_⟩
      · rw [List.append_nil]; exact hw1.2
      · exact CR.refz (Phi.addOwn_self ..)
    · refine hgrow A 0 [] hA run_firstCells0 (by rw [List.take_zero]; exact Row.nil ..) ?_
      have := List.length_pos_iff.2 hm
      omega
  · obtain ⟨cs, el, fz, us0, _, hw, hsz', hfz, hr0, hm0⟩ := (hW.own b _ hσ).real hown
    have hrt := hr0.take len
    have hlt : (es.take len).length = len := by simp; omega
    have hlt2 : (us0.take (len * k)).length = len * k := by rw [hrt.1, hlt]
    by_cases hc : cap < len + xs.length
    · refine hgrow _ cap (us0.take (len * k)) hA (run_firstCells (w := w.drew) hw ?_ hlt2) hrt hc
      rw [Nat.zero_mul]; exact hm0.take _
    · have hb1 : len * k + us.length ≤ cs.size := by
        rw [hr.1, ← Nat.add_mul, hsz']
        exact Nat.le_trans (Nat.mul_le_mul_right k (by omega)) hsz
      have hst := run_storeCells_own (P := P) (o := 0 * k + len * k) us 0 w cs hw (by omega) (by rw [hsz']; exact hfz) hr.plain
      have hrun := run_append_fits (P := P) (ty := ty) (x := ρ x) hT hT2 hl hf (show len + xs.length ≤ cap by omega) (A := some ⟨β, 0 * k, none⟩) (by show (storeCells (Addr.add ⟨β, 0 * k, none⟩ (len * k)) us).run P w = _; rw [add_addr]; exact hst)
      rw [← hA] at hrun
      have hw1 : WR Φ (σ.set b (.row k (es.take len ++ xs))) (setBlk w β (.cells (setAll cs (0 * k + len * k + 0) us) el fz)) := by
        refine hW.write hown hσ hfz (by rw [setAll_size]; exact hsz') (hrt.append hr) ?_
        intro j u hj
        rw [Nat.zero_add, setAll_get _ _ _ _ (by omega)]
        have hj' := (List.getElem?_eq_some_iff.1 hj).1
        rw [List.length_append, hlt2] at hj'
        by_cases h5 : j < len * k
        · rw [if_neg (by omega)]
          rw [List.getElem?_append_left (by omega), List.getElem?_take, if_pos h5] at hj
          have := hm0 j u hj
          rwa [Nat.zero_add] at this
        · rw [if_pos (by omega)]
          rw [List.getElem?_append_right (by omega), hlt2] at hj
          rw [← hj]; congr 1; omega
      rw [hown] at hl0; cases hl0
      have hw2 := hname Φ _ _ hb' hown hw1
      refine ⟨_, _, _, _, _, hrunop _ _ hrun, hk b' hσ', hw2.1, hw2.2, .of1 ?_⟩
      show CR _ _ _
      exact CR.ref (Phi.addOwn_self ..) (by omega) hsz
/-- Growing nothing. -/
theorem A.append_e {x s : Operand} {T T2 : TypeId} {k0 k by_ : Nat} {xs : List AV} {z : Value} (hs : t.ev s = some (.list true k0 [])) (hx : Src t σ x k xs)
    (hT : slT P T = some (k, by_, z)) (hT2 : srcT P T2 = true) (hbig : xs.length * by_ ≤ 70368744177664) (hb : 1 ≤ by_ ∧ by_ ≤ 1000) (hzk : z.cells.size = k)
    (hk0 : xs = [] → K (.list true k0 []) σ) (hk : xs ≠ [] → ∀ b', σ b' = none → K (.ref b' k 0 xs.length) (σ.set b' (.row k xs))) :
    AOp P ⟨dst, .call ⟨.builtin .append, #[s, x], #[T, T2]⟩, ty, pos, af, g⟩ t σ K := by
  have hT2 := srcT_spec hT2
  refine .of_value fun Φ w ρ hW hO => ?_
  obtain ⟨b', hb', hσ'⟩ := hW.fresh
  have hsv := hO s (by simp [Op.operands, Call.operands]) _ hs
  have hWd : WR Φ σ w.drew := hW.heapEq rfl rfl rfl rfl
  obtain ⟨us, hr, hl, hf⟩ := hx.ok (P := P) hW (hO x (by simp [Op.operands, Call.operands]))
  obtain ⟨us', hr', _, hf'⟩ := hx.ok (P := P) hWd (hO x (by simp [Op.operands, Call.operands]))
  have hrunop : ∀ u w', (Builtin.append_ #[T, T2] ty #[ρ s, ρ x]).run P w = .ok u w' → (execOp ρ ⟨dst, .call ⟨.builtin .append, #[s, x], #[T, T2]⟩, ty, pos, af, g⟩).run P w = .ok (.value u) w' := fun u w' h => by
    simp [execOp, resolve, invoke, builtin, h]
  rcases hsv.list with ⟨_, A, cap, hA, hc⟩ | ⟨hne, _⟩
  · have hc0 := hc rfl
    subst hc0
    by_cases hm : xs = []
    · subst hm
      have hrun : (Builtin.append_ #[T, T2] ty #[ρ s, ρ x]).run P w = .ok (.slice A 0 0) w := by
        have := run_append_fits (P := P) (w' := w) (ty := ty) (A := A) (len := 0) (cap := 0) (m := 0) (x := ρ x) (ns := us) hT hT2 hl hf (Nat.le_refl 0) (by
          have h0 : us = [] := by have := hr.1; simpa using this
          subst h0
          cases A <;> rfl)
        rw [hA]; exact this
      exact ⟨_, _, Φ, _, _, hrunop _ _ hrun, hk0 rfl, .refl Φ, hW, .of1 (CR.nil (fun _ => rfl))⟩
    · have hpos := List.length_pos_iff.2 hm
      obtain ⟨e, nc, hnc, hrun⟩ := run_append_grow (P := P) (w := w) (ty := ty) (A := A) (len := 0) (cap := 0) (x := ρ x) (os := []) (ns := us') hT hT2 hl run_firstCells0 hf' (by omega) (by rw [Nat.zero_add]; exact hbig) hb
      rw [← hA] at hrun
      obtain ⟨h1, h2⟩ := hWd.newOwn hb' (([] : List Value).toArray ++ us'.toArray ++ Builtin.zeroCells z.cells (nc - (0 + xs.length))) e hr' (by have := zeroCells_at (os := []) (ns := us') (zs := Builtin.zeroCells z.cells (nc - (0 + xs.length))); simpa using this)
      refine ⟨_, _, _, _, _, hrunop _ _ hrun, hk hm b' hσ', h1, h2, .of1 ?_⟩
      show CR _ _ _
      have := CR.ref (Φ := Φ.addOwn b' (.row w.drew.heap.size (([] : List Value).toArray ++ us'.toArray ++ Builtin.zeroCells z.cells (nc - (0 + xs.length))).size k)) (b := b') (off := 0) (len := xs.length) (cap := nc) (Phi.addOwn_self ..) (by omega) (by
        have h3 := hr'.1
        simp only [Array.size_append, List.size_toArray, List.length_nil, Builtin.zeroCells, Array.size_map, Array.size_range, hzk, h3, Nat.zero_add, ← Nat.add_mul]
        exact Nat.mul_le_mul_right k (by omega))
      rw [Nat.zero_mul] at this
      simp only [Nat.zero_add] at this ⊢
      exact this
  · exact absurd rfl hne

end
end Go.Proofs.Al
