/- An abstract layer over the walk of Go code, part 10: regions whose order is open, told by one order. -/
import Derived.Test.YtaiccchelchdmaaAli
namespace Go.Proofs.Al
open Go

/-- A step of the order that is told: an operation that yields the same whenever it comes up; one that comes up alone; new variables, in any order. -/
inductive Stp where
  | det (i : Nat)
  | act (i : Nat)
  | alloc2 (i j : Nat)
  | alloc3 (i j k : Nat)
  | two (i j : Nat)

def isAlloc (ops : Array Oper) (i : Nat) : Bool :=
  match ops[i]? with
  | some ⟨some _, .alloc _, _, _, _, none⟩ => true
  | _ => false
def dstOf (ops : Array Oper) (i : Nat) : Option Nat := (ops[i]?).bind (·.dst)
def rdy (ops : Array Oper) (L : Array Bool) (l : List Nat) : Bool := Region.ready .any ops L == l
def stepsOK (ops : Array Oper) : List Stp → Array Bool → Bool
  | [], L => rdy ops L []
  | .det i :: r, L => (Region.ready .any ops L).contains i && Region.free .any ops L i && stepsOK ops r (L.setIfInBounds i true)
  | .act i :: r, L => rdy ops L [i] && stepsOK ops r (L.setIfInBounds i true)
  | .alloc2 i j :: r, L => rdy ops L [i, j] && rdy ops (L.setIfInBounds i true) [j] && rdy ops (L.setIfInBounds j true) [i] && Nat.blt i j && (dstOf ops i != dstOf ops j) && stepsOK ops r ((L.setIfInBounds i true).setIfInBounds j true)
  | .alloc3 i j k :: r, L => rdy ops L [i, j, k] && rdy ops (L.setIfInBounds i true) [j, k] && rdy ops (L.setIfInBounds j true) [i, k] && rdy ops (L.setIfInBounds k true) [i, j] &&
      rdy ops ((L.setIfInBounds i true).setIfInBounds j true) [k] && rdy ops ((L.setIfInBounds i true).setIfInBounds k true) [j] && rdy ops ((L.setIfInBounds j true).setIfInBounds k true) [i] && Nat.blt i j && Nat.blt j k &&
      (dstOf ops i != dstOf ops j) && (dstOf ops i != dstOf ops k) && (dstOf ops j != dstOf ops k) && stepsOK ops r (((L.setIfInBounds i true).setIfInBounds j true).setIfInBounds k true)
  | .two i j :: r, L => rdy ops L [i, j] && rdy ops (L.setIfInBounds i true) [j] && rdy ops (L.setIfInBounds j true) [i] && Nat.blt i j && stepsOK ops r ((L.setIfInBounds i true).setIfInBounds j true)
def Stp.cnt : List Stp → Nat
  | [] => 0
  | .det _ :: r => Stp.cnt r + 1
  | .act _ :: r => Stp.cnt r + 1
  | .alloc2 _ _ :: r => Stp.cnt r + 2
  | .alloc3 _ _ _ :: r => Stp.cnt r + 3
  | .two _ _ :: r => Stp.cnt r + 2

section
variable {P : Program} {n : Nat} {ops : Array Oper} {Q : AT → AH → Prop}

/-- A new variable. -/
def IsNew (P : Program) (n : Nat) (ops : Array Oper) (i d : Nat) (z : Value) : Prop :=
  ∃ T ty pos af, ops[i]? = some ⟨some d, .alloc T, ty, pos, af, none⟩ ∧ Nat.blt d n = true ∧ zT P T = some z ∧ flat z = true ∧ notTup z = true
def newRow1 (z : Value) : Blk := .row (AV.const z).n [AV.const z]

def ADr (P : Program) (n : Nat) (ops : Array Oper) (Q : AT → AH → Prop) : Fr → List Stp → AT → AH → Prop
  | _, [], t, σ => Q t σ
  | F, .det i :: r, t, σ => ∃ o B y, ops[i]? = some o ∧ dstOk o.dst n = true ∧ YI P ops B o t y ∧ (∀ b x, B = some (b, x) → σ b = some x) ∧ ADr P n ops Q (addF i B F) r (putT t o.dst y) σ
  | F, .act i :: r, t, σ => ∃ o, ops[i]? = some o ∧ AOpI P n ops o t σ (fun t' σ' => Keep (keepF o F) σ' ∧ ADr P n ops Q (keepF o F) r t' σ')
  | F, .alloc2 i j :: r, t, σ => ∃ d z d' z', IsNew P n ops i d z ∧ IsNew P n ops j d' z' ∧ ∀ b, σ b = none → ∀ b', σ b' = none → b' ≠ b →
      ADr P n ops Q F r ((d', .ptr b' 0 [] 0) :: (d, .ptr b 0 [] 0) :: t) ((σ.set b (newRow1 z)).set b' (newRow1 z'))
  | F, .alloc3 i j k :: r, t, σ => ∃ d z d' z' d'' z'', IsNew P n ops i d z ∧ IsNew P n ops j d' z' ∧ IsNew P n ops k d'' z'' ∧ ∀ b, σ b = none → ∀ b', σ b' = none → b' ≠ b → ∀ b'', σ b'' = none → b'' ≠ b → b'' ≠ b' →
      ADr P n ops Q F r ((d'', .ptr b'' 0 [] 0) :: (d', .ptr b' 0 [] 0) :: (d, .ptr b 0 [] 0) :: t) (((σ.set b (newRow1 z)).set b' (newRow1 z')).set b'' (newRow1 z''))
  | F, .two i j :: r, t, σ => ∃ o o', ops[i]? = some o ∧ ops[j]? = some o' ∧
      AOpI P n ops o t σ (fun t' σ' => Keep (keepF o F) σ' ∧ AOpI P n ops o' t' σ' (fun t'' σ'' => Keep (keepF o' (keepF o F)) σ'' ∧ ADr P n ops Q (keepF o' (keepF o F)) r t'' σ'')) ∧
      AOpI P n ops o' t σ (fun t' σ' => Keep (keepF o' F) σ' ∧ AOpI P n ops o t' σ' (fun t'' σ'' => Keep (keepF o (keepF o' F)) σ'' ∧ ADr P n ops Q (keepF o (keepF o' F)) r t'' σ''))

theorem Keep.set {F : Fr} {σ : AH} (h : Keep F σ) {b : Nat} (hb : σ b = none) (x : Blk) : Keep F (σ.set b x) := fun f hf => by
  rw [AH.set_ne (fun e => by have := h f hf; rw [e, hb] at this; cases this)]; exact h f hf
theorem Keep.fewer {F : Fr} {σ : AH} (h : Keep F σ) (o : Oper) : Keep (keepF o F) σ := fun f hf => h f (List.mem_filter.1 hf).1
theorem keepF_fewer {F : Fr} {o : Oper} : ∀ f ∈ keepF o F, f ∈ F := fun _ hf => (List.mem_filter.1 hf).1
theorem rdy_spec {L : Array Bool} {l : List Nat} (h : rdy ops L l = true) : Region.ready .any ops L = l := by simpa [rdy] using h
theorem AH.set_comm (σ : AH) {b b' : Nat} (h : b' ≠ b) (x y : Blk) : (σ.set b x).set b' y = (σ.set b' y).set b x := by
  funext c
  simp only [AH.set]
  by_cases h1 : c = b'
  · subst h1; simp [h]
  · simp [h1]
theorem AH.set_none {σ : AH} {b b' : Nat} {x : Blk} (h : (σ.set b x) b' = none) : σ b' = none ∧ b' ≠ b := by
  simp only [AH.set] at h
  split at h
  · cases h
  · exact ⟨h, by assumption⟩
theorem cons_swap {d d' : Nat} (h : d ≠ d') (x y : AV) (t : AT) : AT.le ((d', y) :: (d, x) :: t) ((d, x) :: (d', y) :: t) :=
  putT_comm (a := some d) (b := some d') (fun e he => by cases he; exact fun h' => h (by cases h'; rfl))
theorem cons_le {s t : AT} (h : s.le t) (d : Nat) (x : AV) : AT.le ((d, x) :: s) ((d, x) :: t) := h.put (some d) x

theorem IsNew.op {i d : Nat} {z : Value} (h : IsNew P n ops i d z) {t : AT} {σ : AH} {K : AT → AH → Prop} (hk : ∀ b, σ b = none → K ((d, .ptr b 0 [] 0) :: t) (σ.set b (newRow1 z))) : ∃ o, ops[i]? = some o ∧ AOpI P n ops o t σ K := by
  obtain ⟨T, ty, pos, af, h1, h2, h3, h4, h5⟩ := h
  exact ⟨_, h1, h2, .inl ⟨rfl, A.alloc h3 h4 h5 hk⟩⟩
theorem IsNew.dst {i d : Nat} {z : Value} (h : IsNew P n ops i d z) : dstOf ops i = some d := by
  obtain ⟨T, ty, pos, af, h1, _⟩ := h
  simp [dstOf, h1]

/-- One new variable, alone. -/
theorem alloc1_any {i d : Nat} {z : Value} (hi : IsNew P n ops i d z) {f : Nat} {F : Fr} {L : Array Bool} {t : AT} {σ : AH} (r0 : Region.ready .any ops L = [i]) (hk : Keep F σ)
    (h : ∀ b, σ b = none → AAny P n ops Q f F (L.setIfInBounds i true) ((d, .ptr b 0 [] 0) :: t) (σ.set b (newRow1 z))) : AAny P n ops Q (f + 1) F L t σ := by
  refine ⟨fun h0 => (by rw [r0] at h0; cases h0), fun m hm => ?_⟩
  rw [r0] at hm
  simp only [List.mem_singleton] at hm
  subst hm
  obtain ⟨o, ho, hop⟩ := hi.op (t := t) (σ := σ) (K := fun t' σ' => Keep F σ' ∧ AAny P n ops Q f F (L.setIfInBounds m true) t' σ') fun b hb => ⟨hk.set hb _, h b hb⟩
  exact ⟨o, ho, hop.mono fun t' σ' ⟨k1, k2⟩ => ⟨k1.fewer o, AAny.fewer f keepF_fewer k2⟩⟩
/-- Two new variables, in either order. -/
theorem alloc2_any {i j d d' : Nat} {z z' : Value} (hi : IsNew P n ops i d z) (hj : IsNew P n ops j d' z') {f : Nat} {F : Fr} {L : Array Bool} {t : AT} {σ : AH} (hij : i ≠ j) (hd : dstOf ops i ≠ dstOf ops j) (r0 : Region.ready .any ops L = [i, j])
    (r1 : Region.ready .any ops (L.setIfInBounds i true) = [j]) (r2 : Region.ready .any ops (L.setIfInBounds j true) = [i]) (hk : Keep F σ)
    (h : ∀ b, σ b = none → ∀ b', σ b' = none → b' ≠ b → AAny P n ops Q f F ((L.setIfInBounds i true).setIfInBounds j true) ((d', .ptr b' 0 [] 0) :: (d, .ptr b 0 [] 0) :: t) ((σ.set b (newRow1 z)).set b' (newRow1 z'))) :
    AAny P n ops Q (f + 2) F L t σ := by
  have hdd : d ≠ d' := fun e => hd (by rw [hi.dst, hj.dst, e])
  refine ⟨fun h0 => (by rw [r0] at h0; cases h0), fun m hm => ?_⟩
  rw [r0] at hm
  simp only [List.mem_cons, List.not_mem_nil, or_false] at hm
  have fin : ∀ o t' σ', Keep F σ' ∧ AAny P n ops Q (f + 1) F (L.setIfInBounds m true) t' σ' → Keep (keepF o F) σ' ∧ AAny P n ops Q (f + 1) (keepF o F) (L.setIfInBounds m true) t' σ' :=
    fun o t' σ' ⟨k1, k2⟩ => ⟨k1.fewer o, AAny.fewer (f + 1) keepF_fewer k2⟩
  rcases hm with rfl | rfl
  · obtain ⟨o, ho, hop⟩ := hi.op (t := t) (σ := σ) (K := fun t' σ' => Keep F σ' ∧ AAny P n ops Q (f + 1) F (L.setIfInBounds m true) t' σ') fun b hb => ⟨hk.set hb _, alloc1_any hj r1 (hk.set hb _) fun b' hb' => by
      obtain ⟨e1, e2⟩ := AH.set_none hb'
      exact h b hb b' e1 e2⟩
    exact ⟨o, ho, hop.mono (fin o)⟩
  · obtain ⟨o, ho, hop⟩ := hj.op (t := t) (σ := σ) (K := fun t' σ' => Keep F σ' ∧ AAny P n ops Q (f + 1) F (L.setIfInBounds m true) t' σ') fun b' hb' => ⟨hk.set hb' _, alloc1_any hi r2 (hk.set hb' _) fun b hb => by
      obtain ⟨e1, e2⟩ := AH.set_none hb
      rw [← AH.set_comm σ (Ne.symm e2), Array.setIfInBounds_comm _ _ (Ne.symm hij)]
      exact AAny.le f (cons_swap hdd _ _ _) (h b e1 b' hb' (Ne.symm e2))⟩
    exact ⟨o, ho, hop.mono (fin o)⟩
theorem alloc3_any {i j k d d' d'' : Nat} {z z' z'' : Value} (hi : IsNew P n ops i d z) (hj : IsNew P n ops j d' z') (hkk : IsNew P n ops k d'' z'') {f : Nat} {F : Fr} {L : Array Bool} {t : AT} {σ : AH} (hij : i ≠ j) (hik : i ≠ k) (hjk : j ≠ k)
    (e1 : dstOf ops i ≠ dstOf ops j) (e2 : dstOf ops i ≠ dstOf ops k) (e3 : dstOf ops j ≠ dstOf ops k) (r0 : Region.ready .any ops L = [i, j, k])
    (r1 : Region.ready .any ops (L.setIfInBounds i true) = [j, k]) (r2 : Region.ready .any ops (L.setIfInBounds j true) = [i, k]) (r3 : Region.ready .any ops (L.setIfInBounds k true) = [i, j])
    (r4 : Region.ready .any ops ((L.setIfInBounds i true).setIfInBounds j true) = [k]) (r5 : Region.ready .any ops ((L.setIfInBounds i true).setIfInBounds k true) = [j]) (r6 : Region.ready .any ops ((L.setIfInBounds j true).setIfInBounds k true) = [i]) (hk : Keep F σ)
    (h : ∀ b, σ b = none → ∀ b', σ b' = none → b' ≠ b → ∀ b'', σ b'' = none → b'' ≠ b → b'' ≠ b' → AAny P n ops Q f F (((L.setIfInBounds i true).setIfInBounds j true).setIfInBounds k true) ((d'', .ptr b'' 0 [] 0) :: (d', .ptr b' 0 [] 0) :: (d, .ptr b 0 [] 0) :: t) (((σ.set b (newRow1 z)).set b' (newRow1 z')).set b'' (newRow1 z''))) :
    AAny P n ops Q (f + 3) F L t σ := by
  have d1 : d ≠ d' := fun e => e1 (by rw [hi.dst, hj.dst, e])
  have d2 : d ≠ d'' := fun e => e2 (by rw [hi.dst, hkk.dst, e])
  have d3 : d' ≠ d'' := fun e => e3 (by rw [hj.dst, hkk.dst, e])
  refine ⟨fun h0 => (by rw [r0] at h0; cases h0), fun m hm => ?_⟩
  rw [r0] at hm
  simp only [List.mem_cons, List.not_mem_nil, or_false] at hm
  have fin : ∀ o t' σ', Keep F σ' ∧ AAny P n ops Q (f + 2) F (L.setIfInBounds m true) t' σ' → Keep (keepF o F) σ' ∧ AAny P n ops Q (f + 2) (keepF o F) (L.setIfInBounds m true) t' σ' :=
    fun o t' σ' ⟨k1, k2⟩ => ⟨k1.fewer o, AAny.fewer (f + 2) keepF_fewer k2⟩
  rcases hm with rfl | rfl | rfl
  · obtain ⟨o, ho, hop⟩ := hi.op (t := t) (σ := σ) (K := fun t' σ' => Keep F σ' ∧ AAny P n ops Q (f + 2) F (L.setIfInBounds m true) t' σ') fun b hb => ⟨hk.set hb _, alloc2_any hj hkk hjk e3 r1 r4 r5 (hk.set hb _) fun b' hb' b'' hb'' hne => by
      obtain ⟨a1, a2⟩ := AH.set_none hb'
      obtain ⟨a3, a4⟩ := AH.set_none hb''
      exact h b hb b' a1 a2 b'' a3 a4 hne⟩
    exact ⟨o, ho, hop.mono (fin o)⟩
  · obtain ⟨o, ho, hop⟩ := hj.op (t := t) (σ := σ) (K := fun t' σ' => Keep F σ' ∧ AAny P n ops Q (f + 2) F (L.setIfInBounds m true) t' σ') fun b' hb' => ⟨hk.set hb' _, alloc2_any hi hkk hik e2 r2 (by rw [Array.setIfInBounds_comm _ _ (Ne.symm hij)]; exact r4) r6 (hk.set hb' _) fun b hb b'' hb'' hne => by
      obtain ⟨a1, a2⟩ := AH.set_none hb
      obtain ⟨a3, a4⟩ := AH.set_none hb''
      rw [← AH.set_comm σ (Ne.symm a2), Array.setIfInBounds_comm (xs := L) _ _ (Ne.symm hij)]
      exact AAny.le f (cons_le (cons_swap d1 _ _ _) _ _) (h b a1 b' hb' (Ne.symm a2) b'' a3 hne a4)⟩
    exact ⟨o, ho, hop.mono (fin o)⟩
  · obtain ⟨o, ho, hop⟩ := hkk.op (t := t) (σ := σ) (K := fun t' σ' => Keep F σ' ∧ AAny P n ops Q (f + 2) F (L.setIfInBounds m true) t' σ') fun b'' hb'' => ⟨hk.set hb'' _, alloc2_any hi hj hij e1 r3 (by rw [Array.setIfInBounds_comm _ _ (Ne.symm hik)]; exact r5) (by rw [Array.setIfInBounds_comm _ _ (Ne.symm hjk)]; exact r6) (hk.set hb'' _) fun b hb b' hb' hne => by
      obtain ⟨a1, a2⟩ := AH.set_none hb
      obtain ⟨a3, a4⟩ := AH.set_none hb'
      have hL : ((L.setIfInBounds m true).setIfInBounds i true).setIfInBounds j true = ((L.setIfInBounds i true).setIfInBounds j true).setIfInBounds m true := by
        rw [Array.setIfInBounds_comm (xs := L) _ _ (Ne.symm hik), Array.setIfInBounds_comm (xs := L.setIfInBounds i true) _ _ (Ne.symm hjk)]
      have hσ : ((σ.set b'' (newRow1 z'')).set b (newRow1 z)).set b' (newRow1 z') = ((σ.set b (newRow1 z)).set b' (newRow1 z')).set b'' (newRow1 z'') := by
        rw [AH.set_comm σ a2, AH.set_comm (σ.set b (newRow1 z)) a4]
      rw [hL, hσ]
      refine AAny.le f ?_ (h b a1 b' a3 hne b'' hb'' (Ne.symm a2) (Ne.symm a4))
      exact (cons_swap d3 _ _ _).trans (cons_le (cons_swap d2 _ _ _) _ _)⟩
    exact ⟨o, ho, hop.mono (fin o)⟩

theorem ADr.any : ∀ (s : List Stp) (f : Nat) (F : Fr) (L : Array Bool) (t : AT) (σ : AH), stepsOK ops s L = true → Stp.cnt s ≤ f → Keep F σ → ADr P n ops Q F s t σ → AAny P n ops Q f F L t σ
  | [], f, F, L, t, σ, hok, _, _, h => by
    have h0 := rdy_spec hok
    cases f with
    | zero => exact ⟨h0, t, .refl t, h⟩
    | succ f => exact ⟨fun _ => ⟨t, .refl t, h⟩, fun i hi => by rw [h0] at hi; cases hi⟩
  | .det i :: r, f, F, L, t, σ, hok, hf, hk, h => by
    simp only [stepsOK, Bool.and_eq_true] at hok
    obtain ⟨⟨h1, h2⟩, h3⟩ := hok
    obtain ⟨o, B, y, g1, g2, g3, g4, g5⟩ := h
    obtain ⟨f, rfl⟩ : ∃ m, f = m + 1 := ⟨f - 1, by simp only [Stp.cnt] at hf; omega⟩
    refine AAny.first g1 g2 f F L t σ (Region.free_spec g1 h2) (by simpa using h1) g3 g4 hk (ADr.any r f _ _ _ _ h3 (by simp only [Stp.cnt] at hf; omega) ?_ g5)
    cases B with
    | none => exact hk
    | some bx =>
      intro x hx
      simp only [addF, List.mem_cons] at hx
      rcases hx with rfl | hx
      · exact g4 _ _ rfl
      · exact hk x hx
  | .act i :: r, f, F, L, t, σ, hok, hf, hk, h => by
    simp only [stepsOK, Bool.and_eq_true] at hok
    obtain ⟨h1, h3⟩ := hok
    obtain ⟨o, g1, g2⟩ := h
    have h0 := rdy_spec h1
    obtain ⟨f, rfl⟩ : ∃ m, f = m + 1 := ⟨f - 1, by simp only [Stp.cnt] at hf; omega⟩
    refine ⟨fun e => (by rw [h0] at e; cases e), fun j hj => ?_⟩
    rw [h0] at hj
    simp only [List.mem_singleton] at hj
    subst hj
    exact ⟨o, g1, g2.mono fun t' σ' ⟨k1, k2⟩ => ⟨k1, ADr.any r f _ _ _ _ h3 (by simp only [Stp.cnt] at hf; omega) k1 k2⟩⟩
  | .alloc2 i j :: r, f, F, L, t, σ, hok, hf, hk, h => by
    simp only [stepsOK, Bool.and_eq_true, bne_iff_ne, ne_eq] at hok
    obtain ⟨⟨⟨⟨⟨r0, r1⟩, r2⟩, hij⟩, hd⟩, h3⟩ := hok
    obtain ⟨d, z, d', z', hi, hj, H⟩ := h
    obtain ⟨f, rfl⟩ : ∃ m, f = m + 2 := ⟨f - 2, by simp only [Stp.cnt] at hf; omega⟩
    have hij' : i ≠ j := fun e => by subst e; exact absurd (Nat.le_of_ble_eq_true hij) (by omega)
    exact alloc2_any hi hj hij' hd (rdy_spec r0) (rdy_spec r1) (rdy_spec r2) hk fun b hb b' hb' hne => ADr.any r f _ _ _ _ h3 (by simp only [Stp.cnt] at hf; omega) ((hk.set hb _).set (by rw [AH.set_ne hne]; exact hb') _) (H b hb b' hb' hne)
  | .alloc3 i j k :: r, f, F, L, t, σ, hok, hf, hk, h => by
    simp only [stepsOK, Bool.and_eq_true, bne_iff_ne, ne_eq] at hok
    obtain ⟨⟨⟨⟨⟨⟨⟨⟨⟨⟨⟨⟨r0, r1⟩, r2⟩, r3⟩, r4⟩, r5⟩, r6⟩, hij⟩, hjk⟩, e1⟩, e2⟩, e3⟩, h3⟩ := hok
    obtain ⟨d, z, d', z', d'', z'', hi, hj, hkk, H⟩ := h
    obtain ⟨f, rfl⟩ : ∃ m, f = m + 3 := ⟨f - 3, by simp only [Stp.cnt] at hf; omega⟩
    have hij' : i < j := Nat.le_of_ble_eq_true hij
    have hjk' : j < k := Nat.le_of_ble_eq_true hjk
    exact alloc3_any hi hj hkk (by omega) (by omega) (by omega) e1 e2 e3 (rdy_spec r0) (rdy_spec r1) (rdy_spec r2) (rdy_spec r3) (rdy_spec r4) (rdy_spec r5) (rdy_spec r6) hk fun b hb b' hb' hne b'' hb'' hn1 hn2 =>
      ADr.any r f _ _ _ _ h3 (by simp only [Stp.cnt] at hf; omega) (((hk.set hb _).set (by rw [AH.set_ne hne]; exact hb') _).set (by rw [AH.set_ne hn2, AH.set_ne hn1]; exact hb'') _) (H b hb b' hb' hne b'' hb'' hn1 hn2)
  | .two i j :: r, f, F, L, t, σ, hok, hf, hk, h => by
    simp only [stepsOK, Bool.and_eq_true] at hok
    obtain ⟨⟨⟨⟨r0, r1⟩, r2⟩, hij⟩, h3⟩ := hok
    obtain ⟨o, o', ho, ho', H1, H2⟩ := h
    have q0 := rdy_spec r0
    have q1 := rdy_spec r1
    have q2 := rdy_spec r2
    have hij' : i ≠ j := fun e => by subst e; exact absurd (Nat.le_of_ble_eq_true hij) (by omega)
    obtain ⟨f, rfl⟩ : ∃ m, f = m + 2 := ⟨f - 2, by simp only [Stp.cnt] at hf; omega⟩
    have hcnt : Stp.cnt r ≤ f := by simp only [Stp.cnt] at hf; omega
    refine ⟨fun h0 => (by rw [q0] at h0; cases h0), fun m hm => ?_⟩
    rw [q0] at hm
    simp only [List.mem_cons, List.not_mem_nil, or_false] at hm
    rcases hm with rfl | rfl
    · refine ⟨o, ho, H1.mono fun t' σ' ⟨k1, k2⟩ => ⟨k1, fun h0 => (by rw [q1] at h0; cases h0), fun m' hm' => ?_⟩⟩
      rw [q1] at hm'
      simp only [List.mem_singleton] at hm'
      subst hm'
      exact ⟨o', ho', k2.mono fun t'' σ'' ⟨k3, k4⟩ => ⟨k3, ADr.any r f _ _ _ _ h3 hcnt k3 k4⟩⟩
    · refine ⟨o', ho', H2.mono fun t' σ' ⟨k1, k2⟩ => ⟨k1, fun h0 => (by rw [q2] at h0; cases h0), fun m' hm' => ?_⟩⟩
      rw [q2] at hm'
      simp only [List.mem_singleton] at hm'
      subst hm'
      exact ⟨o, ho, k2.mono fun t'' σ'' ⟨k3, k4⟩ => ⟨k3, ADr.any r f _ _ _ _ (by rw [Array.setIfInBounds_comm _ _ (Ne.symm hij')]; exact h3) hcnt k3 k4⟩⟩
end

/-- A region whose order is open. -/
theorem adraw {P : Program} {n id : Nat} {ops : Array Oper} {Q : Exit → AT → AH → Prop} {t : AT} {σ : AH} (s : List Stp) (hm : P.follows .mixedOrders = true)
    (hok : (ops.toList.all flatOp && stepsOK ops s (Array.replicate ops.size false) && Nat.ble (Stp.cnt s) ops.size) = true) (h : ADr P n ops (Q .normal) [] s t σ) : AWp P n (.region id ops true) Q t σ := by
  simp only [Bool.and_eq_true] at hok
  intro Φ w a hW ht hd
  refine wp_region_any hm ?_
  exact AAny.sound Φ hok.1.1 ops.size [] _ t σ (ADr.any s _ _ _ _ _ hok.1.2 (Nat.le_of_ble_eq_true hok.2) (fun f hf => by simp at hf) h) Φ _ a (.refl Φ) (hW.heapEq rfl rfl rfl rfl) ht hd

/-! Steps of the order that is told. -/
section
variable {P : Program} {n : Nat} {ops : Array Oper} {Q : AT → AH → Prop} {t : AT} {σ : AH} {i d : Nat} {op : Op} {ty : TypeId} {pos : String} {af : Array Edge} {r : List Stp} {F : Fr}
def nth : List Oper → Nat → Option Oper
  | [], _ => none
  | o :: _, 0 => some o
  | _ :: l, i + 1 => nth l i
theorem nth_eq : ∀ (l : List Oper) (i : Nat), nth l i = l[i]?
  | [], _ => rfl
  | _ :: _, 0 => rfl
  | _ :: l, i + 1 => by simp [nth, nth_eq l i]
theorem nth_ops {o : Oper} (h : nth ops.toList i = some o) : ops[i]? = some o := by rw [nth_eq] at h; simpa using h
theorem d_nil (h : Q t σ) : ADr P n ops Q F [] t σ := h
theorem d_det {y : AV} (ho : nth ops.toList i = some ⟨some d, op, ty, pos, af, none⟩) (h : Det P ⟨some d, op, ty, pos, af, none⟩ t y) (hd : Nat.blt d n = true) (k : ADr P n ops Q F r ((d, y) :: t) σ) : ADr P n ops Q F (.det i :: r) t σ :=
  ⟨_, none, y, nth_ops ho, hd, .inl ⟨rfl, h⟩, (fun b x h => by cases h), k⟩
theorem d_own {y : AV} {b : Nat} {x : Blk} (hσ : σ b = some x) (ho : nth ops.toList i = some ⟨some d, op, ty, pos, af, none⟩) (h : DetOn P b x ⟨some d, op, ty, pos, af, none⟩ t y) (hd : Nat.blt d n = true) (k : ADr P n ops Q ((i, b, x) :: F) r ((d, y) :: t) σ) :
    ADr P n ops Q F (.det i :: r) t σ :=
  ⟨_, some (b, x), y, nth_ops ho, hd, .inl ⟨rfl, h⟩, (fun b x h => by cases h; exact hσ), k⟩
theorem d_cmp {c : Bool} (ho : nth ops.toList i = some ⟨some d, op, ty, pos, af, none⟩) (h : Det P ⟨some d, op, ty, pos, af, none⟩ t (.v (.bool c))) (hd : Nat.blt d n = true) (k1 : c = true → ADr P n ops Q F r ((d, .v (.bool true)) :: t) σ)
    (k2 : c = false → ADr P n ops Q F r ((d, .v (.bool false)) :: t) σ) : ADr P n ops Q F (.det i :: r) t σ := by
  cases c
  · exact d_det ho h hd (k2 rfl)
  · exact d_det ho h hd (k1 rfl)
theorem d_yes {y : AV} {g dg : Nat} {want : Bool} (ho : nth ops.toList i = some ⟨some d, op, ty, pos, af, some (g, want)⟩) (hg : (nth ops.toList g).bind (·.dst) = some dg) (hb : t.get dg = some (.v (.bool want)))
    (h : Det P ⟨some d, op, ty, pos, af, some (g, want)⟩ t y) (hd : Nat.blt d n = true) (k : ADr P n ops Q F r ((d, y) :: t) σ) : ADr P n ops Q F (.det i :: r) t σ :=
  ⟨_, none, y, nth_ops ho, hd, .inl ⟨⟨dg, _, by rw [nth_eq] at hg; simpa using hg, hb, by simp [gval]⟩, h⟩, (fun b x h => by cases h), k⟩
theorem d_yesO {y : AV} {g dg b : Nat} {x : Blk} {want : Bool} (ho : nth ops.toList i = some ⟨some d, op, ty, pos, af, some (g, want)⟩) (hg : (nth ops.toList g).bind (·.dst) = some dg) (hb : t.get dg = some (.v (.bool want)))
    (h : DetOn P b x ⟨some d, op, ty, pos, af, some (g, want)⟩ t y) (hσ : σ b = some x) (hd : Nat.blt d n = true) (k : ADr P n ops Q ((i, b, x) :: F) r ((d, y) :: t) σ) : ADr P n ops Q F (.det i :: r) t σ :=
  ⟨_, some (b, x), y, nth_ops ho, hd, .inl ⟨⟨dg, _, by rw [nth_eq] at hg; simpa using hg, hb, by simp [gval]⟩, h⟩, (fun b x h => by cases h; exact hσ), k⟩
theorem d_no {g dg : Nat} {want b : Bool} (ho : nth ops.toList i = some ⟨some d, op, ty, pos, af, some (g, want)⟩) (hg : (nth ops.toList g).bind (·.dst) = some dg) (hb : t.get dg = some (.v (.bool b))) (hne : (b == want) = false)
    (hd : Nat.blt d n = true) (k : ADr P n ops Q F r ((d, .tup []) :: t) σ) : ADr P n ops Q F (.det i :: r) t σ :=
  ⟨_, none, .tup [], nth_ops ho, hd, .inr ⟨⟨dg, _, by rw [nth_eq] at hg; simpa using hg, hb, congrArg some hne⟩, rfl⟩, (fun b x h => by cases h), k⟩
theorem d_noU {g dg : Nat} {want : Bool} (ho : nth ops.toList i = some ⟨some d, op, ty, pos, af, some (g, want)⟩) (hg : (nth ops.toList g).bind (·.dst) = some dg) (hb : t.get dg = some (.tup []))
    (hd : Nat.blt d n = true) (k : ADr P n ops Q F r ((d, .tup []) :: t) σ) : ADr P n ops Q F (.det i :: r) t σ :=
  ⟨_, none, .tup [], nth_ops ho, hd, .inr ⟨⟨dg, _, by rw [nth_eq] at hg; simpa using hg, hb, rfl⟩, rfl⟩, (fun b x h => by cases h), k⟩
theorem d_act (ho : nth ops.toList i = some ⟨some d, op, ty, pos, af, none⟩) (hd : Nat.blt d n = true) (hF : keepF ⟨some d, op, ty, pos, af, none⟩ F = []) (h : AOp P ⟨some d, op, ty, pos, af, none⟩ t σ (fun y σ' => ADr P n ops Q [] r ((d, y) :: t) σ')) :
    ADr P n ops Q F (.act i :: r) t σ :=
  ⟨_, nth_ops ho, hd, .inl ⟨rfl, h.mono fun y σ' hk => by rw [hF]; exact ⟨fun f hf => by simp at hf, hk⟩⟩⟩
theorem d_actF {F' : Fr} (ho : nth ops.toList i = some ⟨some d, op, ty, pos, af, none⟩) (hd : Nat.blt d n = true) (hF : keepF ⟨some d, op, ty, pos, af, none⟩ F = F') (h : AOp P ⟨some d, op, ty, pos, af, none⟩ t σ (fun y σ' => Keep F' σ' ∧ ADr P n ops Q F' r ((d, y) :: t) σ')) :
    ADr P n ops Q F (.act i :: r) t σ :=
  ⟨_, nth_ops ho, hd, .inl ⟨rfl, h.mono fun y σ' hk => by rw [hF]; exact hk⟩⟩
theorem d_do (ho : nth ops.toList i = some ⟨none, op, ty, pos, af, none⟩) (hF : keepF ⟨none, op, ty, pos, af, none⟩ F = []) (h : AOp P ⟨none, op, ty, pos, af, none⟩ t σ (fun _ σ' => ADr P n ops Q [] r t σ')) : ADr P n ops Q F (.act i :: r) t σ :=
  ⟨_, nth_ops ho, rfl, .inl ⟨rfl, h.mono fun y σ' hk => by rw [hF]; exact ⟨fun f hf => by simp at hf, hk⟩⟩⟩
theorem d_doF {F' : Fr} (ho : nth ops.toList i = some ⟨none, op, ty, pos, af, none⟩) (hF : keepF ⟨none, op, ty, pos, af, none⟩ F = F') (h : AOp P ⟨none, op, ty, pos, af, none⟩ t σ (fun _ σ' => Keep F' σ' ∧ ADr P n ops Q F' r t σ')) : ADr P n ops Q F (.act i :: r) t σ :=
  ⟨_, nth_ops ho, rfl, .inl ⟨rfl, h.mono fun y σ' hk => by rw [hF]; exact hk⟩⟩
theorem d_new2 {j d1 d2 : Nat} {T1 T2 ty1 ty2 : TypeId} {p1 p2 : String} {a1 a2 : Array Edge} {z1 z2 : Value} (h1 : nth ops.toList i = some ⟨some d1, .alloc T1, ty1, p1, a1, none⟩) (h2 : nth ops.toList j = some ⟨some d2, .alloc T2, ty2, p2, a2, none⟩)
    (b1 : Nat.blt d1 n = true) (b2 : Nat.blt d2 n = true) (hz1 : zT P T1 = some z1) (hz2 : zT P T2 = some z2) (f1 : flat z1 = true) (f2 : flat z2 = true) (g1 : notTup z1 = true) (g2 : notTup z2 = true)
    (k : ∀ b, σ b = none → ∀ b', σ b' = none → b' ≠ b → ADr P n ops Q F r ((d2, .ptr b' 0 [] 0) :: (d1, .ptr b 0 [] 0) :: t) ((σ.set b (newRow1 z1)).set b' (newRow1 z2))) : ADr P n ops Q F (.alloc2 i j :: r) t σ :=
  ⟨d1, z1, d2, z2, ⟨T1, ty1, p1, a1, nth_ops h1, b1, hz1, f1, g1⟩, ⟨T2, ty2, p2, a2, nth_ops h2, b2, hz2, f2, g2⟩, k⟩
theorem d_new3 {j m d1 d2 d3 : Nat} {T1 T2 T3 ty1 ty2 ty3 : TypeId} {p1 p2 p3 : String} {a1 a2 a3 : Array Edge} {z1 z2 z3 : Value} (h1 : nth ops.toList i = some ⟨some d1, .alloc T1, ty1, p1, a1, none⟩) (h2 : nth ops.toList j = some ⟨some d2, .alloc T2, ty2, p2, a2, none⟩)
    (h3 : nth ops.toList m = some ⟨some d3, .alloc T3, ty3, p3, a3, none⟩) (b1 : Nat.blt d1 n = true) (b2 : Nat.blt d2 n = true) (b3 : Nat.blt d3 n = true) (hz1 : zT P T1 = some z1) (hz2 : zT P T2 = some z2) (hz3 : zT P T3 = some z3)
    (f1 : flat z1 = true) (f2 : flat z2 = true) (f3 : flat z3 = true) (g1 : notTup z1 = true) (g2 : notTup z2 = true) (g3 : notTup z3 = true)
    (k : ∀ b, σ b = none → ∀ b', σ b' = none → b' ≠ b → ∀ b'', σ b'' = none → b'' ≠ b → b'' ≠ b' → ADr P n ops Q F r ((d3, .ptr b'' 0 [] 0) :: (d2, .ptr b' 0 [] 0) :: (d1, .ptr b 0 [] 0) :: t) (((σ.set b (newRow1 z1)).set b' (newRow1 z2)).set b'' (newRow1 z3))) :
    ADr P n ops Q F (.alloc3 i j m :: r) t σ :=
  ⟨d1, z1, d2, z2, d3, z3, ⟨T1, ty1, p1, a1, nth_ops h1, b1, hz1, f1, g1⟩, ⟨T2, ty2, p2, a2, nth_ops h2, b2, hz2, f2, g2⟩, ⟨T3, ty3, p3, a3, nth_ops h3, b3, hz3, f3, g3⟩, k⟩
/-- Two operations in either order; F: what was read of one's own, and may still be changed, is none. -/
theorem d_two {i j d d' : Nat} {op op' : Op} {ty ty' : TypeId} {pos pos' : String} {af af' : Array Edge} {r : List Stp} {F : Fr} (ho : nth ops.toList i = some ⟨some d, op, ty, pos, af, none⟩) (ho' : nth ops.toList j = some ⟨some d', op', ty', pos', af', none⟩)
    (hd : Nat.blt d n = true) (hd' : Nat.blt d' n = true) (hF : F = [])
    (h1 : AOp P ⟨some d, op, ty, pos, af, none⟩ t σ (fun y σ' => AOp P ⟨some d', op', ty', pos', af', none⟩ ((d, y) :: t) σ' (fun y' σ'' => ADr P n ops Q [] r ((d', y') :: (d, y) :: t) σ'')))
    (h2 : AOp P ⟨some d', op', ty', pos', af', none⟩ t σ (fun y σ' => AOp P ⟨some d, op, ty, pos, af, none⟩ ((d', y) :: t) σ' (fun y' σ'' => ADr P n ops Q [] r ((d, y') :: (d', y) :: t) σ''))) :
    ADr P n ops Q F (.two i j :: r) t σ := by
  subst hF
  exact ⟨_, _, nth_ops ho, nth_ops ho', ⟨hd, .inl ⟨rfl, h1.mono fun y σ' hk => ⟨fun f hf => by simp [keepF] at hf, hd', .inl ⟨rfl, hk.mono fun y' σ'' hk' => ⟨fun f hf => by simp [keepF] at hf, hk'⟩⟩⟩⟩⟩,
    ⟨hd', .inl ⟨rfl, h2.mono fun y σ' hk => ⟨fun f hf => by simp [keepF] at hf, hd, .inl ⟨rfl, hk.mono fun y' σ'' hk' => ⟨fun f hf => by simp [keepF] at hf, hk'⟩⟩⟩⟩⟩⟩
end
#print axioms adraw
end Go.Proofs.Al
