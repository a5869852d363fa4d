/- An abstract layer over the walk of Go code, part 26: structures of numbers compared. -/
import Derived.Test.YtaiccchelchdmaaAr
import Derived.Laws.StructEq
namespace Go.Proofs.Al
open Go
def isI64 (P : Program) (T : TypeId) : Bool :=
  match P.underlying T with
  | some (.int .i64) => true
  | _ => false
theorem isI64_spec {P : Program} {T : TypeId} (h : isI64 P T = true) : P.underlying T = some (.int .i64) := by
  unfold isI64 at h
  split at h
  · assumption
  · cases h
/-- Fields that are all numbers, one behind the other from the j-th cell on. -/
def intFs (P : Program) : Nat → List Field → Bool
  | _, [] => true
  | j, f :: fs => decide (f.name ≠ "_") && f.offset == j && isI64 P f.type && intFs P (j + 1) fs
def intStruct (P : Program) (T : TypeId) (n : Nat) : Bool :=
  (match P.underlying T with | some (.struct _) => true | _ => false) && !P.stoodInHeld T && !P.eqGuardType P.depth T && intFs P 0 (P.fieldsOf T).toList && (P.fieldsOf T).size == n
theorem run_part_int {P : Program} {T : TypeId} (h : isI64 P T = true) {xs : Array Value} {off : Nat} {v : Value} (hx : xs[off]? = some v) (w : World) : (part T xs off).run P w = .ok v w := by
  simp [part, isAgg, run_underlying (isI64_spec h), hx]
theorem run_fields {P : Program} {d : Nat} : ∀ (fs : List Field) (j : Nat) (a b : List Int) (xs ys : Array Value) (w : World), intFs P j fs = true → a.length = fs.length → b.length = fs.length →
    (∀ (i : Nat) x, a[i]? = some x → xs[j + i]? = some (.int .i64 x)) → (∀ (i : Nat) x, b[i]? = some x → ys[j + i]? = some (.int .i64 x)) → (Op.eqFields (d + 1) xs ys fs).run P w = .ok (decide (a = b)) w
  | [], j, a, b, xs, ys, w, _, ha, hb, _, _ => by
    have h1 : a = [] := List.length_eq_zero_iff.1 ha
    have h2 : b = [] := List.length_eq_zero_iff.1 hb
    subst h1 h2
    simp [Op.eqFields]
  | f :: fs, j, a, b, xs, ys, w, h, ha, hb, hx, hy => by
    simp only [intFs, Bool.and_eq_true, decide_eq_true_eq, beq_iff_eq] at h
    obtain ⟨⟨⟨h1, h2⟩, h3⟩, h4⟩ := h
    obtain ⟨x, a, rfl⟩ : ∃ x a', a = x :: a' := by cases a with | nil => simp at ha | cons x a => exact ⟨x, a, rfl⟩
    obtain ⟨y, b, rfl⟩ : ∃ x a', b = x :: a' := by cases b with | nil => simp at hb | cons x a => exact ⟨x, a, rfl⟩
    have e1 : (part f.type xs f.offset).run P w = .ok (.int .i64 x) w := run_part_int h3 (by rw [h2]; exact hx 0 x rfl) w
    have e2 : (part f.type ys f.offset).run P w = .ok (.int .i64 y) w := run_part_int h3 (by rw [h2]; exact hy 0 y rfl) w
    have e3 := run_equalIn_int (P := P) w d f.type .i64 .i64 x y (isI64_spec h3)
    simp only [Op.eqFields, if_pos h1, Sem.run_bind, e1, e2, e3, Result.andThen_ok, Sem.run_ite]
    by_cases hxy : x = y
    · subst hxy
      rw [if_neg (by simp), run_fields fs (j + 1) a b xs ys w h4 (by simpa using ha) (by simpa using hb) (fun i z hz => by rw [show j + 1 + i = j + (i + 1) by omega]; exact hx (i + 1) z hz) (fun i z hz => by rw [show j + 1 + i = j + (i + 1) by omega]; exact hy (i + 1) z hz)]
      congr 1
      rw [decide_eq_decide]
      simp
    · rw [if_pos (by simp [hxy])]
      simp [hxy]
section
variable {P : Program} {t : AT} {σ : AH} {dst : Option Tmp} {ty : TypeId} {pos : String} {af : Array Edge} {g : Option (Nat × Bool)}
theorem CR.ints {Φ : Phi} : ∀ {a : List Int} {us : List Value}, CR Φ (.agg (a.map iv)) us → us = a.map fun x => Value.int .i64 x := by
  intro a us h
  cases h with
  | agg hu hp hr =>
    have hn : ∀ l : List Int, AV.nL (l.map iv) = l.length := fun l => by
      induction l with
      | nil => rfl
      | cons x l ih => simp only [List.map_cons, AV.nL, ih, AV.n, List.length_cons]; omega
    have hl : us.length = a.length := by rw [hu, hn]
    apply List.ext_getElem? 
    intro i
    by_cases hi : i < a.length
    · have hv : (a.map iv)[i]? = some (iv a[i]) := by simp [hi]
      have := hr i _ hv
      rw [← List.map_take, hn, List.length_take, Nat.min_eq_left (Nat.le_of_lt hi)] at this
      have h1 : (us.drop i).take 1 = [us[i]'(by omega)] := by
        rw [List.take_one]; simp [List.head?_drop, hl, hi]
      simp only [AV.n, h1] at this
      rw [List.getElem?_eq_getElem (by omega)]
      generalize us[i]'(by omega) = z at this ⊢
      cases this with | v _ => simp [hi]
    · rw [List.getElem?_eq_none (by omega), List.getElem?_eq_none (by simp; omega)]
theorem run_eqI {T : TypeId} {a b : List Int} (hT : intStruct P T a.length = true) (hb : b.length = a.length) (w : World) :
    (Op.equalIn 10000 T (.agg (a.map fun x => Value.int .i64 x).toArray) (.agg (b.map fun x => Value.int .i64 x).toArray)).run P w = .ok (decide (a = b)) w := by
  simp only [intStruct, Bool.and_eq_true, Bool.not_eq_true', beq_iff_eq] at hT
  obtain ⟨⟨⟨⟨h1, h2⟩, h3⟩, h4⟩, h5⟩ := hT
  have hu : P.underlying T = some (.struct (P.fieldsOf T)) := by
    unfold Program.fieldsOf
    split at h1
    · rename_i fs h; rw [h]
    · cases h1
  rw [run_equalIn_agg w 9999 T _ _ hu h2]
  exact run_fields _ 0 a b _ _ w h4 (by simp [h5]) (by simp [h5, hb]) (fun i x hx => by simp [hx]) (fun i x hx => by simp [hx])
theorem D.neqI {xt yt : TypeId} {x y : Operand} {a b : List Int} {c : Bool} (hx : t.ev x = some (.agg (a.map iv))) (hy : t.ev y = some (.agg (b.map iv))) (hT : intStruct P xt a.length = true) (hb : b.length = a.length) (hc : decide (a ≠ b) = c) :
    Det P ⟨dst, .binOp .neq xt x y yt, ty, pos, af, g⟩ t (.v (.bool c)) := by
  subst hc
  refine .of_run fun Φ w ρ _ hO => ⟨_, ?_, .of1 (CR.v rfl)⟩
  obtain ⟨us, h1, e1⟩ := (hO x (by simp [Op.operands]) _ hx).to1 (by simp)
  obtain ⟨vs, h2, e2⟩ := (hO y (by simp [Op.operands]) _ hy).to1 (by simp)
  have hu := CR.ints h1
  have hv := CR.ints h2
  subst hu hv
  have hT' := hT
  simp only [intStruct, Bool.and_eq_true, Bool.not_eq_true', beq_iff_eq] at hT'
  simp [execOp, e1, e2, run_eqGuard_agg w _ _ _ _ _ _ hT'.1.1.2, run_neq_struct, run_eqI hT hb]
end
end Go.Proofs.Al
