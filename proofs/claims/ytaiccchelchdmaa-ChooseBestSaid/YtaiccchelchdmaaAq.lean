/- Tensors as results: of one's own, or never written any more. -/
import Derived.Test.YtaiccchelchdmaaAln
import Derived.Test.YtaiccchelchdmaaAm
namespace Go.Proofs.Al
open Go
set_option linter.unusedVariables false
theorem AH.set_set (σ : AH) (b : Nat) (x y : Blk) : (σ.set b x).set b y = σ.set b y := by
  funext c; simp only [AH.set]; split <;> rfl
theorem fix2 {σ : AH} {b b' : Nat} {z z' x y : Blk} (h : b' ≠ b) : (((σ.set b z).set b' z').set b x).set b' y = (σ.set b x).set b' y := by
  funext c; simp only [AH.set]; by_cases h1 : c = b' <;> by_cases h2 : c = b <;> simp [h1, h2]
theorem fix3 {σ : AH} {b b' b'' : Nat} {z z' z'' x y w : Blk} (h : b' ≠ b) (h1 : b'' ≠ b) (h2 : b'' ≠ b') : (((((σ.set b z).set b' z').set b'' z'').set b x).set b' y).set b'' w = ((σ.set b x).set b' y).set b'' w := by
  funext c; simp only [AH.set]; by_cases k1 : c = b'' <;> by_cases k2 : c = b' <;> by_cases k3 : c = b <;> simp [k1, k2, k3]
abbrev nilT0 : AV := .agg [.list true 0 [], .list true 0 []]
/-- A tensor's two rows. -/
def AH.ten (σ : AH) (b b' : Nat) (d x : List Int) : AH := (σ.set b (rowI d)).set b' (rowI x)
theorem AH.get_set {σ : AH} {b c : Nat} {x y : Blk} (hb : σ b = none) (hc : σ c = some y) : (σ.set b x) c = some y := by
  rw [AH.set_ne (fun e => by subst e; rw [hb] at hc; cases hc)]; exact hc
section
variable {σ : AH} {b b' c : Nat} {d x : List Int} {Z W : Blk}
theorem ten_get {y : Blk} (hb : σ b = none) (hb' : σ b' = none) (hc : σ c = some y) : (σ.ten b b' d x) c = some y := by
  have n1 : c ≠ b := fun e => by subst e; rw [hb] at hc; cases hc
  have n2 : c ≠ b' := fun e => by subst e; rw [hb'] at hc; cases hc
  rw [AH.ten, AH.set_ne n2, AH.set_ne n1]; exact hc
theorem ten_cell (hb : (σ.set c Z) b = none) (hb' : (σ.set c Z) b' = none) : ((σ.set c Z).ten b b' d x) c = some Z := ten_get hb hb' (AH.set_self ..)
theorem ten_x : (σ.ten b b' d x) b' = some (rowI x) := AH.set_self ..
theorem ten_d (hn : b' ≠ b) : (σ.ten b b' d x) b = some (rowI d) := by rw [AH.ten, AH.set_ne (Ne.symm hn), AH.set_self]
theorem ten_upd (y : List Int) : (σ.ten b b' d x).set b' (rowI y) = σ.ten b b' d y := AH.set_set ..
theorem ten_fresh {k : Nat} (h : (σ.ten b b' d x) k = none) : σ k = none ∧ k ≠ b ∧ k ≠ b' := ⟨(AH.set_none (AH.set_none h).1).1, (AH.set_none (AH.set_none h).1).2, (AH.set_none h).2⟩
theorem ten_sub {ρ : AH} (h : Sub ρ σ) (hb : ρ b = none) (hb' : ρ b' = none) : Sub ρ (σ.ten b b' d x) := (h.set hb _).set hb' _
end
section
variable {P : Program} {t : AT} {dst : Option Tmp} {ty : TypeId} {pos : String} {af : Array Edge} {g : Option (Nat × Bool)} {σ : AH} {K : AV → AH → Prop}
theorem D.load_x {x : Operand} {T : TypeId} {b j : Nat} {l : List Int} {v : Int} (hx : t.ev x = some (.ptr b j [] 0)) (hv : l[j]? = some v) (hT : szT P T = some (false, 1)) : DetOn P b (rowI l) ⟨dst, .load T x, ty, pos, af, g⟩ t (iv v) :=
  D.load_m (f := iv) hx hv rfl hT
theorem D.cut_lo {α : Type} {f : α → AV} {l : List α} {x lo : Operand} {T : TypeId} {c : Bool} {k n : Nat} {kd : IntKind} (hx : t.ev x = some (.list c k (l.map f))) (hlo : t.ev lo = some (.v (.int kd (n : Int)))) (hn : n ≤ l.length) (hT : elT P T = some k) :
    Det P ⟨dst, .slice T x (some lo) none none, ty, pos, af, g⟩ t (.list false k ((l.drop n).map f)) :=
  D.cut_i hx ⟨kd, hlo⟩ rfl (by simpa using hn) (Nat.le_refl _) (by rw [List.take_of_length_le (by simp), List.map_drop]) hT
theorem D.cut_lh {α : Type} {f : α → AV} {l : List α} {x lo hi : Operand} {T : TypeId} {c : Bool} {k n m : Nat} {kd kd' : IntKind} (hx : t.ev x = some (.list c k (l.map f))) (hlo : t.ev lo = some (.v (.int kd (n : Int)))) (hhi : t.ev hi = some (.v (.int kd' (m : Int))))
    (hn : n ≤ m) (hm : m ≤ l.length) (hT : elT P T = some k) : Det P ⟨dst, .slice T x (some lo) (some hi) none, ty, pos, af, g⟩ t (.list false k (((l.drop n).take (m - n)).map f)) :=
  D.cut_i hx ⟨kd, hlo⟩ ⟨kd', hhi⟩ hn (by simpa using hm) (by rw [List.map_take, List.map_drop]) hT
theorem D.cut_hi {α : Type} {f : α → AV} {l : List α} {x hi : Operand} {T : TypeId} {c : Bool} {k m : Nat} {kd : IntKind} (hx : t.ev x = some (.list c k (l.map f))) (hhi : t.ev hi = some (.v (.int kd (m : Int))))
    (hm : m ≤ l.length) (hT : elT P T = some k) : Det P ⟨dst, .slice T x none (some hi) none, ty, pos, af, g⟩ t (.list false k ((l.take m).map f)) :=
  D.cut_i hx rfl ⟨kd, hhi⟩ (Nat.zero_le _) (by simpa using hm) (by rw [List.map_take]; simp) hT
theorem A.make_x {x : Operand} {T : TypeId} {m : Nat} (hx : t.ev x = some (iv (m : Int))) (hT : slT P T = some (1, 8, .int .i64 0)) (hm : m ≤ 4398046511104) (hk : ∀ b, σ b = none → K (.ref b 1 0 m) (σ.set b (rowI (List.replicate m 0)))) :
    AOp P ⟨dst, .makeSlice T x x, ty, pos, af, g⟩ t σ K :=
  A.make_m (f := iv) (v := 0) hx hT (by omega) (by decide) rfl rfl rfl (by decide) rfl hk
theorem A.store_x {x q : Operand} {T : TypeId} {b j : Nat} {l : List Int} {v : Int} (hσ : σ b = some (rowI l)) (hx : t.ev x = some (.ptr b j [] 0)) (hq : t.ev q = some (iv v)) (hj : j < l.length) (hT : (P.info? T).map (·.size) = some 1)
    (hk : K (.tup []) (σ.set b (rowI (l.set j v)))) : AOp P ⟨dst, .store T x q, ty, pos, af, g⟩ t σ K :=
  A.store_m (f := iv) hx hq hσ hj (fun _ _ => rfl) rfl hT hk
theorem A.store_r {x q : Operand} {T : TypeId} {b j : Nat} {l : List Int} {v : Int} (hx : t.ev x = some (.ptr b j [] 0)) (hq : t.ev q = some (iv v)) (hj : j < l.length) (hT : (P.info? T).map (·.size) = some 1)
    (hk : K (.tup []) (σ.set b (rowI (l.set j v)))) : AOp P ⟨dst, .store T x q, ty, pos, af, g⟩ t (σ.set b (rowI l)) K :=
  A.store_x (AH.set_self ..) hx hq hj hT (by rw [AH.set_set]; exact hk)
theorem A.store_t {x q : Operand} {T : TypeId} {b b' j : Nat} {d l : List Int} {v : Int} (hx : t.ev x = some (.ptr b' j [] 0)) (hq : t.ev q = some (iv v)) (hj : j < l.length) (hT : (P.info? T).map (·.size) = some 1)
    (hk : K (.tup []) (σ.ten b b' d (l.set j v))) : AOp P ⟨dst, .store T x q, ty, pos, af, g⟩ t (σ.ten b b' d l) K :=
  A.store_x ten_x hx hq hj hT (by rw [ten_upd]; exact hk)
end
section
variable {P : Program} {f : FuncId} {args : List AV} {σ : AH} {R R' : AV → AH → Prop}
theorem pure_of_sub {y : AV} (h : ∀ σ, ACalls P f args σ (fun y' σ' => y' = y ∧ Sub σ σ')) : Pure P f args y := fun σ =>
  (h σ).freeze fun y' σ' ⟨h1, h2⟩ => ⟨y', σ, h2, .refl _, h1, rfl⟩
theorem pure_of_subw {y : AV} (h : ∀ σ, ACalls P f args σ (fun y' σ' => Wk y' y ∧ Sub σ σ')) : Pure P f args y :=
  pure_wk fun σ => (h σ).freeze fun y' σ' ⟨h1, h2⟩ => ⟨y', σ, h2, .refl _, h1, rfl⟩
theorem Pure.toT {p : Prop} [Decidable p] (h : Pure P f args (bv (decide p))) (hp : p) : Pure P f args (bv true) := by rw [decide_eq_true hp] at h; exact h
theorem Pure.toF {p : Prop} [Decidable p] (h : Pure P f args (bv (decide p))) (hp : ¬ p) : Pure P f args (bv false) := by rw [decide_eq_false hp] at h; exact h
theorem Pure.to {y y' : AV} (h : Pure P f args y) (e : y = y') : Pure P f args y' := e ▸ h
/-- A new slice of numbers of one's own; and more, that nobody knows. -/
def OwnSs (l : List Int) (σ : AH) (y : AV) (σ' : AH) : Prop := ∃ b, σ b = none ∧ y = .ref b 1 0 l.length ∧ σ' b = some (rowI l) ∧ Sub σ σ'
theorem sub_one {σ σ' : AH} {b : Nat} {x : Blk} (hb : σ' b = some x) (hs : Sub σ σ') : Sub (σ.set b x) σ' := fun c z h => by
  by_cases hc : c = b
  · subst hc; rw [AH.set_self] at h; cases h; exact hb
  · rw [AH.set_ne hc] at h; exact hs c z h
theorem ACalls.ownS {l : List Int} (h : ACalls P f args σ (OwnSs l σ)) : ACalls P f args σ (OwnS iv 1 l σ) :=
  h.freeze fun y σ' ⟨b, hb, hy, hs, hsub⟩ => ⟨y, σ.set b (rowI l), sub_one hs hsub, .refl y, b, hb, hy, rfl⟩
theorem wkT {c c' : Bool} {es fs : List AV} {t : Tn} (h1 : es = t.d.map iv) (h2 : fs = t.x.map iv) : Wk (.agg [.list c 1 es, .list c' 1 fs]) (tv t) := by
  subst h1; subst h2
  exact Wk.one (Wk1.agg ⟨WkC.less, WkC.less, trivial⟩) rfl rfl
theorem wkN {t : Tn} (h : t = ⟨[], []⟩) : Wk nilT0 (tv t) := by
  subst h
  exact Wk.one (Wk1.agg ⟨WkC.nil, WkC.nil, trivial⟩) rfl rfl
/-- A new tensor of one's own. -/
def OwnT (t : Tn) (σ : AH) (y : AV) (σ' : AH) : Prop := ∃ b b', σ b = none ∧ σ b' = none ∧ b' ≠ b ∧ y = .agg [.ref b 1 0 t.d.length, .ref b' 1 0 t.x.length] ∧ σ' = σ.ten b b' t.d t.x
def OwnTs (t : Tn) (σ : AH) (y : AV) (σ' : AH) : Prop := ∃ b b', σ b = none ∧ σ b' = none ∧ b' ≠ b ∧ y = .agg [.ref b 1 0 t.d.length, .ref b' 1 0 t.x.length] ∧ σ' b = some (rowI t.d) ∧ σ' b' = some (rowI t.x) ∧ Sub σ σ'
theorem ACalls.ownT {t : Tn} (h : ACalls P f args σ (OwnTs t σ)) : ACalls P f args σ (OwnT t σ) :=
  h.freeze fun y σ' ⟨b, b', hb, hb', hn, hy, h1, h2, hs⟩ => ⟨y, _, sub_one h2 (sub_one h1 hs), .refl y, b, b', hb, hb', hn, hy, rfl⟩
theorem Pz.ownT {t : Tn} {y : AV} {σ' : AH} (h : OwnT t σ y σ') : Sub σ σ' ∧ Pz σ' σ y (tv t) := by
  obtain ⟨b, b', hb, hb', hn, rfl, rfl⟩ := h
  refine ⟨((Sub.refl σ).set hb _).set hb' _, .agg rfl fun i x y hx hy => ?_⟩
  match i with
  | 0 => simp at hx hy; subst hx; subst hy; exact Pz.whole (ten_d hn) hb (by simp)
  | 1 => simp at hx hy; subst hx; subst hy; exact Pz.whole ten_x hb' (by simp)
  | i + 2 => simp at hx
theorem pure_of_ownT {t : Tn} (h : ∀ σ, ACalls P f args σ (OwnT t σ)) : Pure P f args (tv t) := fun σ =>
  (h σ).freeze fun y σ' hy => ⟨_, σ, (Pz.ownT hy).1, (Pz.ownT hy).2, rfl, rfl⟩
/-- A new tensor of one's own, and an error. -/
def OwnTE (t : Tn) (e : Int) (σ : AH) (y : AV) (σ' : AH) : Prop := ∃ z, y = .tup [z, iv e] ∧ OwnT t σ z σ'
def nilT : AV := .agg [.list true 0 [], .list true 0 []]
def OwnTEs (t : Tn) (e : Int) (σ : AH) (y : AV) (σ' : AH) : Prop := (t = ⟨[], []⟩ ∧ y = .tup [nilT, iv e] ∧ Sub σ σ') ∨ ∃ z, y = .tup [z, iv e] ∧ OwnTs t σ z σ'
theorem ACalls.ownTE {t : Tn} {e : Int} (h : ACalls P f args σ (OwnTEs t e σ)) : ACalls P f args σ (OwnTE t e σ) := by
  have h1 : ACalls P f args σ (fun y σ' => (t = ⟨[], []⟩ ∧ y = .tup [nilT, iv e] ∧ σ' = σ) ∨ OwnTE t e σ y σ') := by
    refine h.freeze fun y σ' hy => ?_
    rcases hy with ⟨ht, hy, hs⟩ | ⟨z, hy, b, b', hb, hb', hn, hz, h1, h2, hs⟩
    · exact ⟨y, σ, hs, .refl y, .inl ⟨ht, hy, rfl⟩⟩
    · exact ⟨y, _, sub_one h2 (sub_one h1 hs), .refl y, .inr ⟨z, hy, b, b', hb, hb', hn, hz, rfl⟩⟩
  refine h1.own2 fun y σ' hy => ?_
  rcases hy with ⟨rfl, rfl, rfl⟩ | hy
  · refine .inr ⟨0, 0, 1, 1, iv e, rfl, fun b b' hb hb' hn => ⟨_, rfl, b, b', hb, hb', hn, rfl, rfl⟩⟩
  · exact .inl hy
theorem pure_of_ownTE {t : Tn} {e : Int} (h : ∀ σ, ACalls P f args σ (OwnTE t e σ)) : Pure P f args (.tup [tv t, iv e]) := fun σ =>
  (h σ).freeze fun y σ' ⟨z, hy, hz⟩ => ⟨_, σ, (Pz.ownT hz).1, by
    subst hy
    refine .tup rfl fun i x y hx hy => ?_
    match i with
    | 0 => simp at hx hy; subst hx; subst hy; exact (Pz.ownT hz).2
    | 1 => simp at hx hy; subst hx; subst hy; exact .refl _
    | i + 2 => simp at hx, rfl, rfl⟩
theorem ten_done {t : Tn} {b b' c n1 n2 : Nat} {Z W : Blk} {d' x' : List Int} (hd : d' = t.d) (hx : x' = t.x) (h1 : n1 = t.d.length) (h2 : n2 = t.x.length) (hc : σ c = none) (hb : (σ.set c Z) b = none) (hb' : (σ.set c Z) b' = none) (hn : b' ≠ b) :
    OwnTs t σ (.agg [.ref b 1 0 n1, .ref b' 1 0 n2]) (((σ.set c Z).ten b b' d' x').set c W) := by
  subst hd; subst hx; subst h1; subst h2
  exact ⟨b, b', (AH.set_none hb).1, (AH.set_none hb').1, hn, rfl, by rw [AH.set_ne (AH.set_none hb).2]; exact ten_d hn, by rw [AH.set_ne (AH.set_none hb').2]; exact ten_x,
    (ten_sub ((Sub.refl σ).set hc _) (AH.set_none hb).1 (AH.set_none hb').1).set hc _⟩
theorem nil_done {t : Tn} {e : Int} {c : Nat} {Z W : Blk} (ht : t = ⟨[], []⟩) (hc : σ c = none) : OwnTEs t e σ (.tup [nilT, iv e]) ((σ.set c Z).set c W) :=
  .inl ⟨ht, rfl, ((Sub.refl σ).set hc _).set hc _⟩
/-- A new slice of one's own, and an error. -/
def OwnSE (l : List Int) (e : AV) (σ : AH) (y : AV) (σ' : AH) : Prop := ∃ z, y = .tup [z, e] ∧ OwnS iv 1 l σ z σ'
def OwnSEs (l : List Int) (e : AV) (σ : AH) (y : AV) (σ' : AH) : Prop := (l = [] ∧ y = .tup [.list true 0 [], e] ∧ Sub σ σ') ∨ ∃ z, y = .tup [z, e] ∧ OwnSs l σ z σ'
theorem ACalls.ownSE {l : List Int} {e : AV} (h : ACalls P f args σ (OwnSEs l e σ)) : ACalls P f args σ (OwnSE l e σ) := by
  have h1 : ACalls P f args σ (fun y σ' => (l = [] ∧ y = .tup [.list true 0 [], e] ∧ σ' = σ) ∨ OwnSE l e σ y σ') := by
    refine h.freeze fun y σ' hy => ?_
    rcases hy with ⟨ht, hy, hs⟩ | ⟨z, hy, b, hb, hz, h1, hs⟩
    · exact ⟨y, σ, hs, .refl y, .inl ⟨ht, hy, rfl⟩⟩
    · exact ⟨y, _, sub_one h1 hs, .refl y, .inr ⟨z, hy, b, hb, hz, rfl⟩⟩
  refine h1.own1 fun y σ' hy => ?_
  rcases hy with ⟨rfl, rfl, rfl⟩ | hy
  · exact .inr ⟨0, 1, e, rfl, fun b hb => ⟨_, rfl, b, hb, rfl, rfl⟩⟩
  · exact .inl hy
theorem pure_of_ownSE {l : List Int} {e : AV} (h : ∀ σ, ACalls P f args σ (OwnSE l e σ)) : Pure P f args (.tup [ints l, e]) := fun σ =>
  (h σ).freeze fun y σ' ⟨z, hy, b, hb, hz, hs⟩ => ⟨_, σ, by subst hs; exact Sub.set (Sub.refl σ) hb _, by
    subst hy; subst hz; subst hs
    refine .tup rfl fun i x y hx hy => ?_
    match i with
    | 0 => simp at hx hy; subst hx; subst hy; exact Pz.whole (AH.set_self ..) hb (by simp)
    | 1 => simp at hx hy; subst hx; subst hy; exact .refl _
    | i + 2 => simp at hx, rfl, rfl⟩
end
#print axioms pure_of_ownTE
end Go.Proofs.Al
