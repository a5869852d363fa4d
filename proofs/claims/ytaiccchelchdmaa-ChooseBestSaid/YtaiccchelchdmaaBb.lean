/- An abstract layer over the walk of Go code, part 22: choices: what the search for the best ones computes, in plain Lean. -/
import Derived.Test.YtaiccchelchdmaaAr
namespace Go.Proofs.Al
open Go
section
variable {P : Program} {t : AT} {σ : AH} {dst : Option Tmp} {ty : TypeId} {pos : String} {af : Array Edge} {g : Option (Nat × Bool)} {K : AV → AH → Prop}
theorem A.eqlNilr {x : Operand} {T yt : TypeId} {b k off len : Nat} (hx : t.ev x = some (.ref b k off len)) (hT : isSl P T = true) (hk : ∀ b, (b = true → len = 0) → K (bv b) σ) :
    AOp P ⟨dst, .binOp .eql T x (.const (.slice none 0 0)) yt, ty, pos, af, g⟩ t σ K := by
  intro Φ w a hW hO
  obtain ⟨e, he⟩ := isSl_spec hT
  have hv := hO x (by simp [Op.operands]) _ hx
  obtain ⟨A, l, cap, hA, hn⟩ : ∃ A l cap, a.eval x = .slice A l cap ∧ (A = none → len = 0) := by
    rcases hv.ref with ⟨l, A, _, h1, h2⟩ | ⟨β, sz, cap, h1, h2, h3, h4⟩
    · exact ⟨A, 0, 0, h2, fun _ => h1⟩
    · exact ⟨_, _, _, by assumption, fun h => by cases h⟩
  have hc : a.eval (.const (.slice none 0 0)) = .slice none 0 0 := rfl
  have hr : (Op.equal T (.slice A l cap) (.slice none 0 0)).run P w = .ok A.isNone w := by
    have h : ∀ m, (Op.equalIn (m + 1) T (.slice A l cap) (.slice none 0 0)).run P w = .ok A.isNone w := fun m => by
      cases A <;> simp only [Op.equalIn, Sem.run_bind, run_und he, Result.andThen_ok, Sem.run_pure] <;> rfl
    exact h 9999
  have h1 : (execOp a.eval ⟨dst, .binOp .eql T x (.const (.slice none 0 0)) yt, ty, pos, af, g⟩).run P w = .ok (.value (.bool A.isNone)) w := by
    simp [execOp, hA, hc, eqGuard, binOp, hr]
  unfold Oper.wp
  rw [h1]
  exact ⟨_, σ, Φ, _, rfl, hk A.isNone (fun h => hn (by cases A <;> simp_all)), .refl Φ, hW, .of1 (CR.v rfl)⟩
end
structure It where
  s : Int
  a : Int
  m : Int
abbrev itv (x : It) : AV := .agg [iv x.s, iv x.a, iv x.m]
abbrev items (L : List It) : AV := .list false 3 (L.map itv)
def okIt (x : It) : Prop := (0 ≤ x.s ∧ x.s ≤ 4096) ∧ (0 ≤ x.a ∧ x.a ≤ 1048576) ∧ 0 ≤ x.m ∧ x.m ≤ 1048576
instance (x : It) : Decidable (okIt x) := by unfold okIt; infer_instance
instance : DecidableEq It := fun x y => by
  cases x; cases y; rw [It.mk.injEq]; infer_instance
def okL (L : List It) : Prop := L.length ≤ 12 ∧ ∀ x ∈ L, okIt x
instance (L : List It) : Decidable (okL L) := by unfold okL; infer_instance
def inC (k : Int) : Prop := 0 ≤ k ∧ k ≤ 2
instance (k : Int) : Decidable (inC k) := by unfold inC; infer_instance
def okC (L : List It) (c : List Int) : Prop := c.length = L.length ∧ ∀ k ∈ c, inC k
instance (L : List It) (c : List Int) : Decidable (okC L c) := by unfold okC; infer_instance
structure Sm where
  c : Int
  k : Int
  m : Int
abbrev smv (s : Sm) : AV := .agg [iv s.c, iv s.k, iv s.m]
theorem Sm.ext' {a b : Sm} : a = b ↔ a.c = b.c ∧ a.k = b.k ∧ a.m = b.m := by cases a; cases b; simp
def plusS (s : Sm) (x : It) (k : Int) : Sm :=
  if k = 0 then ⟨s.c, s.k + x.s, s.m⟩ else if k = 1 then ⟨s.c + x.a, s.k, s.m⟩ else ⟨s.c + x.m, s.k, s.m + x.s⟩
def smOk (i : Nat) (s : Sm) : Prop := (0 ≤ s.c ∧ s.c ≤ i * 1048576) ∧ (0 ≤ s.k ∧ s.k ≤ i * 4096) ∧ 0 ≤ s.m ∧ s.m ≤ i * 4096
theorem plusS_ok {i : Nat} {s : Sm} {x : It} {k : Int} (h : smOk i s) (hx : okIt x) : smOk (i + 1) (plusS s x k) := by
  obtain ⟨⟨h1, h2⟩, ⟨h3, h4⟩, h5, h6⟩ := h
  obtain ⟨⟨g1, g2⟩, ⟨g3, g4⟩, g5, g6⟩ := hx
  unfold plusS
  split
  · exact ⟨⟨by simp only; omega, by simp only; omega⟩, ⟨by simp only; omega, by simp only; omega⟩, by simp only; omega, by simp only; omega⟩
  · split
    · exact ⟨⟨by simp only; omega, by simp only; omega⟩, ⟨by simp only; omega, by simp only; omega⟩, by simp only; omega, by simp only; omega⟩
    · exact ⟨⟨by simp only; omega, by simp only; omega⟩, ⟨by simp only; omega, by simp only; omega⟩, by simp only; omega, by simp only; omega⟩
/-- The sums of choices, behind others. -/
def sums (s : Sm) : List It → List Int → Sm
  | x :: L, k :: c => sums (plusS s x k) L c
  | _, _ => s
theorem sums_ok : ∀ {L : List It} {c : List Int} {s : Sm} {i : Nat}, smOk i s → (∀ x ∈ L, okIt x) → smOk (i + L.length) (sums s L c)
  | [], c, s, i, h, _ => by cases c <;> exact h
  | x :: L, [], s, i, h, _ => by
    show smOk _ s
    obtain ⟨⟨h1, h2⟩, ⟨h3, h4⟩, h5, h6⟩ := h
    exact ⟨⟨h1, by simp only [List.length_cons]; omega⟩, ⟨h3, by simp only [List.length_cons]; omega⟩, h5, by simp only [List.length_cons]; omega⟩
  | x :: L, k :: c, s, i, h, hx => by
    have := sums_ok (c := c) (plusS_ok (k := k) h (hx x (by simp))) (fun y hy => hx y (List.mem_cons_of_mem _ hy))
    rw [List.length_cons, show i + (L.length + 1) = i + 1 + L.length by omega]
    exact this
abbrev sum0 (L : List It) (c : List Int) : Sm := sums ⟨0, 0, 0⟩ L c
theorem smOk0 : smOk 0 ⟨0, 0, 0⟩ := ⟨⟨by simp, by simp⟩, ⟨by simp, by simp⟩, by simp, by simp⟩
theorem sum0_ok {L : List It} (h : ∀ x ∈ L, okIt x) (c : List Int) : smOk L.length (sum0 L c) := by
  have := sums_ok (c := c) smOk0 h
  rwa [Nat.zero_add] at this
theorem sums_take : ∀ {L : List It} {c : List Int} {s : Sm} {i : Nat} (h : i < L.length) (h' : i < c.length), sums s (L.take (i + 1)) (c.take (i + 1)) = plusS (sums s (L.take i) (c.take i)) L[i] c[i]
  | x :: L, k :: c, s, 0, _, _ => by simp [sums]
  | x :: L, k :: c, s, i + 1, h, h' => by
    simp only [List.take_succ_cons, sums, List.getElem_cons_succ]
    exact sums_take (by simpa using h) (by simpa using h')
/-- The search. -/
abbrev Acc := Option (List Int) × Int
abbrev bestV (o : Option (List Int)) : AV := .list o.isNone (match o with | none => 0 | some _ => 1) ((o.getD []).map iv)
def cutS (room host : Int) (s : Sm) (a : Acc) : Prop := s.k > room ∨ s.m > host ∨ (0 ≤ a.2 ∧ a.2 ≤ s.c)
instance (room host : Int) (s : Sm) (a : Acc) : Decidable (cutS room host s a) := by unfold cutS; infer_instance
def srch (room host : Int) : List It → List Int → Sm → Acc → Acc
  | [], pre, s, a => if cutS room host s a then a else (some pre, s.c)
  | x :: L, pre, s, a => if cutS room host s a then a else (List.range 3).foldl (fun (a : Acc) (k : Nat) => srch room host L (pre ++ [(k : Int)]) (plusS s x (k : Int)) a) a
def kidsS (room host : Int) (L : List It) (pre : List Int) (s : Sm) (x : It) (k : Nat) (a : Acc) : Acc := (List.range k).foldl (fun (a : Acc) (k : Nat) => srch room host L (pre ++ [(k : Int)]) (plusS s x (k : Int)) a) a
theorem kidsS_step (room host : Int) (L : List It) (pre : List Int) (s : Sm) (x : It) (k : Nat) (a : Acc) :
    kidsS room host L pre s x (k + 1) a = srch room host L (pre ++ [(k : Int)]) (plusS s x (k : Int)) (kidsS room host L pre s x k a) := by
  simp [kidsS, List.range_succ, List.foldl_append]
theorem srch_cut {room host : Int} {L : List It} {pre : List Int} {s : Sm} {a : Acc} (h : cutS room host s a) : srch room host L pre s a = a := by
  cases L <;> simp [srch, h]
theorem srch_end {room host : Int} {pre : List Int} {s : Sm} {a : Acc} (h : ¬ cutS room host s a) : srch room host [] pre s a = (some pre, s.c) := by simp [srch, h]
theorem srch_go {room host : Int} {x : It} {L : List It} {pre : List Int} {s : Sm} {a : Acc} (h : ¬ cutS room host s a) : srch room host (x :: L) pre s a = kidsS room host L pre s x 3 a := by
  simp only [srch, if_neg h, kidsS]
def bestS (L : List It) (room host : Int) : Acc := srch room host L [] ⟨0, 0, 0⟩ (none, -1)
/-- What costs, what fits. -/
def costS (L : List It) (c : List Int) : Sm × Int := if okL L ∧ okC L c then (sum0 L c, 0) else (⟨0, 0, 0⟩, 1)
abbrev costV (r : Sm × Int) : AV := .tup [iv r.1.c, iv r.1.k, iv r.1.m, iv r.2]
def askC (L : List It) (room host : Int) : Prop := okL L ∧ (0 ≤ room ∧ room ≤ 1073741824) ∧ 0 ≤ host ∧ host ≤ 1073741824
instance (L : List It) (room host : Int) : Decidable (askC L room host) := by unfold askC; infer_instance
def fits (room host : Int) (s : Sm) : Prop := s.k ≤ room ∧ s.m ≤ host
instance (room host : Int) (s : Sm) : Decidable (fits room host s) := by unfold fits; infer_instance
def fitS (L : List It) (c : List Int) (room host : Int) : Bool × Int := if askC L room host ∧ okC L c then (decide (fits room host (sum0 L c)), 0) else (false, 1)
theorem fitS_k {L : List It} {c : List Int} {room host : Int} (h : askC L room host) (h' : okC L c) : fitS L c room host = (decide (fits room host (sum0 L c)), 0) := by rw [fitS, if_pos ⟨h, h'⟩]
theorem fitS_f {L : List It} {c : List Int} {room host : Int} (h : ¬ (askC L room host ∧ okC L c)) : fitS L c room host = (false, 1) := by rw [fitS, if_neg h]
def bestR (L : List It) (room host : Int) : List Int × Int := if askC L room host then ((bestS L room host).1.getD [], 0) else ([], 1)
def leastR (L : List It) (room host : Int) : Int × Int := if askC L room host then ((bestS L room host).2, 0) else (0, 1)
/-- The row of the state. -/
abbrev srow (L : List It) (room host : Int) (bn : Nat) (a : Acc) : Blk := .row 6 [.agg [items L, iv room, iv host, .ref bn 1 0 L.length, bestV a.1, iv a.2]]
theorem AH.set_id {σ : AH} {b : Nat} {x : Blk} (h : σ b = some x) : σ.set b x = σ := by
  funext c
  by_cases hc : c = b
  · subst hc; rw [AH.set_self, h]
  · rw [AH.set_ne hc]
theorem wk_best (o : Option (List Int)) : Wk1 (bestV o) (ints (o.getD [])) := by
  cases o with
  | none => exact Wk1.nil
  | some l => exact Wk1.refl _
end Go.Proofs.Al
