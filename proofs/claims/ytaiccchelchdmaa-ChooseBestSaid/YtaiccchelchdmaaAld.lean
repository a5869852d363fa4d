/- An abstract layer over the walk of Go code, part 4: memory of one's own: made, written, grown; and calls. -/
import Derived.Test.YtaiccchelchdmaaAlc
namespace Go.Proofs.Al
open Go

def setAll (cs : Array Value) : Nat → List Value → Array Value
  | _, [] => cs
  | o, v :: r => setAll (cs.setIfInBounds o v) (o + 1) r
theorem setAll_size : ∀ (vs : List Value) (cs : Array Value) (o : Nat), (setAll cs o vs).size = cs.size
  | [], _, _ => rfl
  | v :: r, cs, o => by rw [setAll, setAll_size r]; simp
theorem setAll_get : ∀ (vs : List Value) (cs : Array Value) (o j : Nat), o + vs.length ≤ cs.size →
    (setAll cs o vs)[j]? = if o ≤ j ∧ j < o + vs.length then vs[j - o]? else cs[j]?
  | [], cs, o, j, h => by simp [setAll]; omega
  | v :: r, cs, o, j, h => by
    simp only [List.length_cons] at h
    rw [setAll, setAll_get r _ _ _ (by simp; omega)]
    by_cases hj : j = o
    · subst hj
      simp only [List.length_cons, Nat.sub_self, List.getElem?_cons_zero]
      rw [if_neg (by omega), if_pos (by omega)]
      have : j < cs.size := by omega
      simp [this]
    · by_cases h1 : o + 1 ≤ j ∧ j < o + 1 + r.length
      · rw [if_pos h1, if_pos (by simp only [List.length_cons]; omega)]
        rw [show j - o = (j - (o + 1)) + 1 by omega, List.getElem?_cons_succ]
      · rw [if_neg h1, if_neg (by simp only [List.length_cons]; omega), Array.getElem?_setIfInBounds_ne (Ne.symm hj)]

def setBlk (w : World) (β : Nat) (o : Obj) : World := { w with heap := w.heap.setIfInBounds β o }
theorem setBlk_self {w : World} {β : Nat} {o : Obj} (h : w.heap[β]? = some o) : setBlk w β o = w := by
  have hlt : β < w.heap.size := (Array.getElem?_eq_some_iff.1 h).1
  have : w.heap.setIfInBounds β o = w.heap := by
    apply Array.ext_getElem?
    intro i
    by_cases hi : β = i
    · subst hi; simp [hlt]; rw [Array.getElem?_eq_getElem hlt] at h; exact (Option.some.inj h).symm
    · rw [Array.getElem?_setIfInBounds_ne hi]
  simp [setBlk, this]
theorem setBlk_setBlk (w : World) (β : Nat) (o o' : Obj) : setBlk (setBlk w β o) β o' = setBlk w β o' := by
  have : (w.heap.setIfInBounds β o).setIfInBounds β o' = w.heap.setIfInBounds β o' := by
    apply Array.ext_getElem?
    intro i
    by_cases hi : β = i
    · subst hi
      by_cases hlt : β < w.heap.size
      · simp [hlt]
      · simp [hlt]
    · simp [Array.getElem?_setIfInBounds_ne hi]
  simp [setBlk, this]
theorem setBlk_get {w : World} {β : Nat} {o o' : Obj} (h : w.heap[β]? = some o) : (setBlk w β o').heap[β]? = some o' := by
  have hlt : β < w.heap.size := (Array.getElem?_eq_some_iff.1 h).1
  simp [setBlk, hlt]
theorem setBlk_ne {w : World} {β β' : Nat} (h : β ≠ β') (o : Obj) : (setBlk w β o).heap[β']? = w.heap[β']? := by
  simp [setBlk, Array.getElem?_setIfInBounds_ne h]

theorem run_store1 {P : Program} {w : World} {β o : Nat} {cs : Array Value} {el : TypeId} {fz : Nat × Nat} {v : Value} (h : w.heap[β]? = some (.cells cs el fz)) (ho : o < cs.size)
    (hfz : ¬ (fz.1 ≤ o ∧ o < fz.2)) (hv : plain v = true) : (store ⟨β, o, none⟩ v).run P w = .ok () (setBlk w β (.cells (cs.setIfInBounds o v) el fz)) := by
  have hc : w.cell? ⟨β, o, none⟩ = some cs[o] := by rw [cell_at h]; exact Array.getElem?_eq_getElem ho
  have hf : w.frozen? ⟨β, o, none⟩ = false := by
    simp only [World.frozen?, h]
    by_cases h1 : fz.1 ≤ o <;> by_cases h2 : o < fz.2 <;> simp_all
  have hs : w.setCell ⟨β, o, none⟩ v = setBlk w β (.cells (cs.setIfInBounds o v) el fz) := by
    simp only [World.setCell, setBlk]
    congr 1
    apply Array.ext_getElem?
    intro i
    by_cases hi : β = i
    · subst hi
      have hlt : β < w.heap.size := (Array.getElem?_eq_some_iff.1 h).1
      rw [Array.getElem?_modify, if_pos rfl, h]; simp [hlt]
    · rw [Array.getElem?_modify, if_neg hi, Array.getElem?_setIfInBounds_ne hi]
  rw [← hs]
  cases v <;> simp_all [plain, store, Sem.run]

theorem run_storeCells_own {P : Program} {β o : Nat} {el : TypeId} {fz : Nat × Nat} : ∀ (vs : List Value) (i : Nat) (w : World) (cs : Array Value), w.heap[β]? = some (.cells cs el fz) → o + i + vs.length ≤ cs.size →
    (∀ j, j < cs.size → ¬ (fz.1 ≤ j ∧ j < fz.2)) → vs.all plain = true → (storeCells ⟨β, o, none⟩ vs i).run P w = .ok () (setBlk w β (.cells (setAll cs (o + i) vs) el fz))
  | [], i, w, cs, h, _, _, _ => by simp [storeCells, setAll, setBlk_self h]
  | v :: r, i, w, cs, h, hl, hfz, hp => by
    simp only [List.length_cons] at hl
    simp only [List.all_cons, Bool.and_eq_true] at hp
    have h1 := run_store1 (P := P) h (show o + i < cs.size by omega) (hfz _ (by omega)) hp.1
    have h2 := run_storeCells_own (P := P) (o := o) r (i + 1) (setBlk w β (.cells (cs.setIfInBounds (o + i) v) el fz)) _ (setBlk_get h) (by simp; omega) (by simpa using hfz) hp.2
    simp only [storeCells, Sem.run_bind, add_addr, h1, Result.andThen_ok, h2, setAll, setBlk_setBlk]
    rw [show o + (i + 1) = o + i + 1 by omega]

/-! What is known of the world stays known. -/
theorem WR.fresh {Φ : Phi} {σ : AH} {w : World} (h : WR Φ σ w) : ∃ b, Φ.own b = none ∧ σ b = none := by
  obtain ⟨N, hN⟩ := h.fin
  refine ⟨N, hN N (Nat.le_refl _), ?_⟩
  cases hs : σ N with
  | none => rfl
  | some x => obtain ⟨l, hl⟩ := (h.own N x hs).loc; rw [hN N (Nat.le_refl _)] at hl; cases hl

theorem WR.heapEq {Φ : Phi} {σ : AH} {w w' : World} (h : WR Φ σ w) (hh : w'.heap = w.heap) (h1 : w'.os = w.os) (h2 : w'.tape = w.tape) (h3 : w'.output = w.output) : WR Φ σ w' := by
  refine ⟨fun β o ho => by rw [hh]; exact h.obj β o ho, fun b x hx => ?_, h.inj, h.fin, h1.trans h.os, h2.trans h.tape, h3.trans h.output⟩
  cases h.own b x hx with
  | virt h => exact .virt h
  | row a hw c d e f g => exact .row a (by rw [hh]; exact hw) c d e f g
  | map a hw c d => exact .map a (by rw [hh]; exact hw) c d

def Phi.addOwn (Φ : Phi) (b : Nat) (l : Loc) : Phi := { Φ with own := fun c => if c = b then some l else Φ.own c }
def Phi.addObj (Φ : Phi) (β : Nat) (o : Obj) : Phi := { Φ with obj := fun c => if c = β then some o else Φ.obj c }
theorem Phi.le_addOwn {Φ : Phi} {b : Nat} {l : Loc} (h : Φ.own b = none) : Φ.le (Φ.addOwn b l) :=
  ⟨fun _ _ h => h, fun c l' hc => by simp only [Phi.addOwn]; rw [if_neg (fun e => by subst e; rw [h] at hc; cases hc)]; exact hc, rfl, rfl, rfl⟩
theorem Phi.le_addObj {Φ : Phi} {β : Nat} {o : Obj} (h : Φ.obj β = none) : Φ.le (Φ.addObj β o) :=
  ⟨fun c o' hc => by simp only [Phi.addObj]; rw [if_neg (fun e => by subst e; rw [h] at hc; cases hc)]; exact hc, fun _ _ h => h, rfl, rfl, rfl⟩
theorem Phi.addOwn_self (Φ : Phi) (b : Nat) (l : Loc) : (Φ.addOwn b l).own b = some l := by simp [Phi.addOwn]
theorem AH.set_self (σ : AH) (b : Nat) (x : Blk) : (σ.set b x) b = some x := by simp [AH.set]
theorem AH.set_ne {σ : AH} {b c : Nat} (h : c ≠ b) (x : Blk) : (σ.set b x) c = σ c := by simp [AH.set, h]

theorem OwnOK.mono {Φ Φ' : Phi} {w w' : World} {b : Nat} {x : Blk} (h : OwnOK Φ w b x) (hle : Φ.le Φ') (hw : ∀ l β o, Φ.own b = some l → l.blk? = some β → w.heap[β]? = some o → w'.heap[β]? = some o)
    (ho : ∀ l β, Φ.own b = some l → l.blk? = some β → Φ.obj β = none → Φ'.obj β = none) : OwnOK Φ' w' b x := by
  cases h with
  | virt h => exact .virt (hle.own _ _ h)
  | row a hw' c d e f g => exact .row (hle.own _ _ a) (hw _ _ _ a rfl hw') c d (ho _ _ a rfl e) (f.mono hle) g
  | map a hw' c d => exact .map (hle.own _ _ a) (hw _ _ _ a rfl hw') (ho _ _ a rfl c) ⟨d.1, fun i e p h1 h2 => ⟨(d.2.1 i e p h1 h2).1, (d.2.1 i e p h1 h2).2.mono hle⟩, d.2.2⟩

theorem OwnOK.there {Φ : Phi} {w : World} {b : Nat} {x : Blk} (h : OwnOK Φ w b x) {l : Loc} {β : Nat} (hl : Φ.own b = some l) (hb : l.blk? = some β) : β < w.heap.size ∧ Φ.obj β = none := by
  cases h with
  | virt h => rw [h] at hl; cases hl; cases hb
  | row a hw c d e f g => rw [a] at hl; cases hl; cases hb; exact ⟨(Array.getElem?_eq_some_iff.1 hw).1, e⟩
  | map a hw c d => rw [a] at hl; cases hl; cases hb; exact ⟨(Array.getElem?_eq_some_iff.1 hw).1, c⟩

theorem push_get {w : World} {o : Obj} {β : Nat} (h : β < w.heap.size) : (w.alloc o).heap[β]? = w.heap[β]? := by
  show (w.heap.push o)[β]? = _
  rw [Array.getElem?_push, if_neg (by omega)]
theorem push_new (w : World) (o : Obj) : (w.alloc o).heap[w.heap.size]? = some o := by
  show (w.heap.push o)[w.heap.size]? = _
  rw [Array.getElem?_push, if_pos rfl]
theorem lt_of_some {w : World} {β : Nat} {o : Obj} (h : w.heap[β]? = some o) : β < w.heap.size := (Array.getElem?_eq_some_iff.1 h).1

/-- New memory that is never written. -/
theorem WR.newObj {Φ : Phi} {σ : AH} {w : World} (h : WR Φ σ w) (o : Obj) : Φ.le (Φ.addObj w.heap.size o) ∧ WR (Φ.addObj w.heap.size o) σ (w.alloc o) ∧ (Φ.addObj w.heap.size o).obj w.heap.size = some o := by
  have hn : Φ.obj w.heap.size = none := by
    cases hx : Φ.obj w.heap.size with
    | none => rfl
    | some x => have := lt_of_some (h.obj _ _ hx); omega
  have hle := Phi.le_addObj (o := o) hn
  refine ⟨hle, ⟨fun β x hx => ?_, fun b x hx => ?_, h.inj, h.fin, h.os, h.tape, h.output⟩, by simp [Phi.addObj]⟩
  · simp only [Phi.addObj] at hx
    split at hx
    · subst_vars; cases hx; exact push_new w o
    · have := h.obj _ _ hx; rw [push_get (lt_of_some this)]; exact this
  · have hb := h.own b x hx
    refine hb.mono hle (fun l β y hl hbl hy => by rw [push_get (lt_of_some hy)]; exact hy) (fun l β hl hbl ho => ?_)
    have := (hb.there hl hbl).1
    simp only [Phi.addObj]
    rw [if_neg (by omega)]; exact ho
/-- New memory of one's own. -/
theorem WR.newOwn {Φ : Phi} {σ : AH} {w : World} (h : WR Φ σ w) {b k : Nat} (hb : Φ.own b = none) (cs : Array Value) (el : TypeId) {es : List AV} {us : List Value} (hr : Row Φ k es us) (hm : At cs 0 us) :
    Φ.le (Φ.addOwn b (.row w.heap.size cs.size k)) ∧ WR (Φ.addOwn b (.row w.heap.size cs.size k)) (σ.set b (.row k es)) (w.alloc (.cells cs el)) := by
  have hle := Phi.le_addOwn (l := .row w.heap.size cs.size k) hb
  have hn : Φ.obj w.heap.size = none := by
    cases hx : Φ.obj w.heap.size with
    | none => rfl
    | some x => have := lt_of_some (h.obj _ _ hx); omega
  have hσ : ∀ c x, (σ.set b (.row k es)) c = some x → c ≠ b → σ c = some x ∧ (Φ.addOwn b (.row w.heap.size cs.size k)).own c = Φ.own c := fun c x hx hc => by
    rw [AH.set_ne hc] at hx; exact ⟨hx, by simp [Phi.addOwn, hc]⟩
  refine ⟨hle, ⟨fun β x hx => ?_, fun c x hx => ?_, ?_, ?_, h.os, h.tape, h.output⟩⟩
  · have := h.obj _ _ hx; rw [push_get (lt_of_some this)]; exact this
  · by_cases hc : c = b
    · subst hc
      rw [AH.set_self] at hx
      cases hx
      exact .row (Phi.addOwn_self ..) (push_new w _) rfl (fun i _ => by simp) hn (hr.mono hle) hm
    · obtain ⟨h1, h2⟩ := hσ c x hx hc
      exact (h.own c x h1).mono hle (fun l β y hl hbl hy => by rw [push_get (lt_of_some hy)]; exact hy) (fun _ _ _ _ ho => ho)
  · intro c c' x x' l l' β hx hx' hl hl' hβ hβ'
    by_cases hc : c = b <;> by_cases hc' : c' = b
    · rw [hc, hc']
    · exfalso
      subst hc
      obtain ⟨h1, h2⟩ := hσ c' x' hx' hc'
      rw [Phi.addOwn_self] at hl; cases hl; cases hβ
      rw [h2] at hl'
      have := ((h.own c' x' h1).there hl' hβ').1; omega
    · exfalso
      subst hc'
      obtain ⟨h1, h2⟩ := hσ c x hx hc
      rw [Phi.addOwn_self] at hl'; cases hl'; cases hβ'
      rw [h2] at hl
      have := ((h.own c x h1).there hl hβ).1; omega
    · obtain ⟨h1, h2⟩ := hσ c x hx hc
      obtain ⟨h3, h4⟩ := hσ c' x' hx' hc'
      rw [h2] at hl; rw [h4] at hl'
      exact h.inj c c' x x' l l' β h1 h3 hl hl' hβ hβ'
  · obtain ⟨N, hN⟩ := h.fin
    exact ⟨max N (b + 1), fun c hc => by simp only [Phi.addOwn]; rw [if_neg (by omega)]; exact hN c (by omega)⟩
/-- An own row is written. -/
theorem WR.write {Φ : Phi} {σ : AH} {w : World} (h : WR Φ σ w) {b β sz k : Nat} {x : Blk} {es : List AV} {us : List Value} {cs : Array Value} {el : TypeId} {fz : Nat × Nat} (hb : Φ.own b = some (.row β sz k)) (hx : σ b = some x)
    (hfz : ∀ i, i < sz → ¬ (fz.1 ≤ i ∧ i < fz.2)) (hsz : cs.size = sz) (hr : Row Φ k es us) (hm : At cs 0 us) : WR Φ (σ.set b (.row k es)) (setBlk w β (.cells cs el fz)) := by
  have ht := (h.own b x hx).there hb rfl
  have hin : w.heap[β]? = some w.heap[β] := Array.getElem?_eq_getElem ht.1
  have hσ : ∀ c x, (σ.set b (.row k es)) c = some x → c ≠ b → σ c = some x := fun c x hx hc => by rw [AH.set_ne hc] at hx; exact hx
  have hany : ∀ c y, (σ.set b (.row k es)) c = some y → ∃ z, σ c = some z := fun c y hy => by
    by_cases hc : c = b
    · subst hc; exact ⟨x, hx⟩
    · exact ⟨y, hσ c y hy hc⟩
  refine ⟨fun β' o ho => ?_, fun c y hy => ?_, ?_, h.fin, h.os, h.tape, h.output⟩
  · rw [setBlk_ne (fun e => by subst e; rw [ht.2] at ho; cases ho)]; exact h.obj _ _ ho
  · by_cases hc : c = b
    · subst hc
      rw [AH.set_self] at hy
      cases hy
      exact .row hb (setBlk_get hin) hsz hfz ht.2 hr hm
    · have hy' := hσ c y hy hc
      refine (h.own c y hy').mono (.refl Φ) (fun l β' o hl hβ ho => ?_) (fun _ _ _ _ ho => ho)
      rw [setBlk_ne (fun e => hc (h.inj c b y x l _ β' hy' hx hl hb hβ (by rw [← e]; rfl)))]
      exact ho
  · intro c c' y y' l l' β' hy hy' hl hl' hβ hβ'
    obtain ⟨z, hz⟩ := hany c y hy
    obtain ⟨z', hz'⟩ := hany c' y' hy'
    exact h.inj c c' z z' l l' β' hz hz' hl hl' hβ hβ'
/-- Less is known. -/
theorem WR.less {Φ : Phi} {σ ρ : AH} {w : World} (h : WR Φ σ w) (hs : ∀ b x, ρ b = some x → σ b = some x) : WR Φ ρ w :=
  ⟨h.obj, fun b x hx => h.own b x (hs b x hx), fun b b' x x' l l' β hx hx' => h.inj b b' x x' l l' β (hs _ _ hx) (hs _ _ hx'), h.fin, h.os, h.tape, h.output⟩
/-- An own row gets another name. -/
theorem WR.rename {Φ : Phi} {σ : AH} {w : World} (h : WR Φ σ w) {b b' : Nat} {x : Blk} {l : Loc} (hx : σ b = some x) (hl : Φ.own b = some l) (hb' : Φ.own b' = none) :
    Φ.le (Φ.addOwn b' l) ∧ WR (Φ.addOwn b' l) ((σ.del b).set b' x) w := by
  have hle := Phi.le_addOwn (l := l) hb'
  have hne : b ≠ b' := fun e => by subst e; rw [hl] at hb'; cases hb'
  have key : ∀ c y, ((σ.del b).set b' x) c = some y → (c = b' ∧ y = x) ∨ (c ≠ b' ∧ c ≠ b ∧ σ c = some y ∧ (Φ.addOwn b' l).own c = Φ.own c) := fun c y hy => by
    by_cases hc : c = b'
    · subst hc; rw [AH.set_self] at hy; cases hy; exact .inl ⟨rfl, rfl⟩
    · rw [AH.set_ne hc] at hy
      by_cases hcb : c = b
      · simp [AH.del, hcb] at hy
      · simp only [AH.del, hcb, if_false] at hy; exact .inr ⟨hc, hcb, hy, by simp [Phi.addOwn, hc]⟩
  refine ⟨hle, ⟨h.obj, fun c y hy => ?_, ?_, ?_, h.os, h.tape, h.output⟩⟩
  · rcases key c y hy with ⟨rfl, rfl⟩ | ⟨h1, h2, h3, h4⟩
    · cases h.own b y hx with
      | virt h => rw [h] at hl; cases hl; exact .virt (Phi.addOwn_self ..)
      | row a hw c d e f g => rw [a] at hl; cases hl; exact .row (Phi.addOwn_self ..) hw c d e (f.mono hle) g
      | map a hw c d => rw [a] at hl; cases hl; exact .map (Phi.addOwn_self ..) hw c ⟨d.1, fun i e p h1 h2 => ⟨(d.2.1 i e p h1 h2).1, (d.2.1 i e p h1 h2).2.mono hle⟩, d.2.2⟩
    · exact (h.own c y h3).mono hle (fun _ _ _ _ _ h => h) (fun _ _ _ _ h => h)
  · intro c c' y y' m m' β hy hy' hm hm' hβ hβ'
    rcases key c y hy with ⟨rfl, rfl⟩ | ⟨h1, h2, h3, h4⟩ <;> rcases key c' y' hy' with ⟨rfl, rfl⟩ | ⟨k1, k2, k3, k4⟩
    · rfl
    · exfalso
      rw [Phi.addOwn_self] at hm; cases hm
      rw [k4] at hm'
      exact k2 (h.inj c' b y' y m' l β k3 hx hm' hl hβ' hβ)
    · exfalso
      rw [Phi.addOwn_self] at hm'; cases hm'
      rw [h4] at hm
      exact h2 (h.inj c b y y' m l β h3 hx hm hl hβ hβ')
    · rw [h4] at hm; rw [k4] at hm'
      exact h.inj c c' y y' m m' β h3 k3 hm hm' hβ hβ'
  · obtain ⟨N, hN⟩ := h.fin
    exact ⟨max N (b' + 1), fun c hc => by simp only [Phi.addOwn]; rw [if_neg (by omega)]; exact hN c (by omega)⟩
/-- Nothing yet, of one's own. -/
theorem WR.newVirt {Φ : Phi} {σ : AH} {w : World} (h : WR Φ σ w) {b k : Nat} (hb : Φ.own b = none) : Φ.le (Φ.addOwn b .virt) ∧ WR (Φ.addOwn b .virt) (σ.set b (.row k [])) w := by
  have hle := Phi.le_addOwn (l := .virt) hb
  have hσ : ∀ c x, (σ.set b (.row k [])) c = some x → c ≠ b → σ c = some x ∧ (Φ.addOwn b .virt).own c = Φ.own c := fun c x hx hc => by
    rw [AH.set_ne hc] at hx; exact ⟨hx, by simp [Phi.addOwn, hc]⟩
  refine ⟨hle, ⟨h.obj, fun c x hx => ?_, ?_, ?_, h.os, h.tape, h.output⟩⟩
  · by_cases hc : c = b
    · subst hc; rw [AH.set_self] at hx; cases hx; exact .virt (Phi.addOwn_self ..)
    · obtain ⟨h1, h2⟩ := hσ c x hx hc
      exact (h.own c x h1).mono hle (fun _ _ _ _ _ h => h) (fun _ _ _ _ ho => ho)
  · intro c c' x x' l l' β hx hx' hl hl' hβ hβ'
    by_cases hc : c = b
    · subst hc; rw [Phi.addOwn_self] at hl; cases hl; cases hβ
    · by_cases hc' : c' = b
      · subst hc'; rw [Phi.addOwn_self] at hl'; cases hl'; cases hβ'
      · obtain ⟨h1, h2⟩ := hσ c x hx hc
        obtain ⟨h3, h4⟩ := hσ c' x' hx' hc'
        rw [h2] at hl; rw [h4] at hl'
        exact h.inj c c' x x' l l' β h1 h3 hl hl' hβ hβ'
  · obtain ⟨N, hN⟩ := h.fin
    exact ⟨max N (b + 1), fun c hc => by simp only [Phi.addOwn]; rw [if_neg (by omega)]; exact hN c (by omega)⟩

#print axioms WR.rename
end Go.Proofs.Al
