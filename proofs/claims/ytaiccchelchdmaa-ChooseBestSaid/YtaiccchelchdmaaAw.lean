/- Results that are told of less; rows cut; the dims that go with a tensor's. -/
import Derived.Test.YtaiccchelchdmaaAv
import Derived.Test.YtaiccchelchdmaaAlt
namespace Go.Proofs.Al
open Go
set_option linter.unusedVariables false
set_option linter.unusedSimpArgs false
theorem D.wk {P : Program} {o : Oper} {t : AT} {y y' : AV} (h : Det P o t y) (w : Wk y y') : Det P o t y' := fun σ Φ wd a hW hO =>
  Oper.wp_mono (fun a' w' ⟨z, σ', Φ', u, h1, ⟨h2, h3⟩, h4, h5, h6⟩ => ⟨y', σ', Φ', u, h1, ⟨rfl, h3⟩, h4, h5, w _ _ (h2 ▸ h6)⟩) (h σ Φ wd a hW hO)
/-- What a slot's truth is: both ways. -/
theorem acase {P : Program} {n : Nat} {Q : Exit → AT → AH → Prop} {t : AT} {σ : AH} {c : Code} {d : Nat} {b : Bool} (hd : t.get d = some (bv b)) (h1 : b = true → AWp P n c Q ((d, bv true) :: t) σ) (h2 : b = false → AWp P n c Q ((d, bv false) :: t) σ) : AWp P n c Q t σ := by
  have hle : ∀ x, t.get d = some x → AT.le ((d, x) :: t) t := fun x hx e y hy => by
    by_cases hde : d = e
    · subst hde; rw [AT.get_cons_self] at hy; cases hy; exact hx
    · rw [AT.get_cons_ne hde] at hy; exact hy
  cases b
  · exact (h2 rfl).le (hle _ hd)
  · exact (h1 rfl).le (hle _ hd)
theorem sub2 {τ : AH} {b c : Nat} {y z : Blk} (hb : τ b = none) (n : c ≠ b) : Sub (τ.set c y) ((τ.set b z).set c y) := by
  rw [AH.set_comm τ n]
  exact (Sub.refl _).set (by rw [AH.set_ne (Ne.symm n)]; exact hb) _
theorem sub3 {τ : AH} {b c d : Nat} {x y z : Blk} (hb : τ b = none) (n : c ≠ b) (n' : d ≠ b) : Sub ((τ.set c x).set d y) (((τ.set b z).set c x).set d y) := by
  rw [AH.set_comm τ n, AH.set_comm _ n']
  exact (Sub.refl _).set (by rw [AH.set_ne (Ne.symm n'), AH.set_ne (Ne.symm n)]; exact hb) _
theorem D.cut_rhi {P : Program} {t : AT} {dst : Option Tmp} {ty : TypeId} {pos : String} {af : Array Edge} {g : Option (Nat × Bool)} {x hi : Operand} {T : TypeId} {b k len h : Nat} {kd : IntKind} (hx : t.ev x = some (.ref b k 0 len)) (hhi : t.ev hi = some (.v (.int kd (h : Int)))) (hh : h ≤ len) (hT : elT P T = some k) :
    Det P ⟨dst, .slice T x none (some hi) none, ty, pos, af, g⟩ t (.ref b k 0 h) := D.cut_r (lo := none) (hi := some hi) (l := 0) hx rfl ⟨kd, hhi⟩ (Nat.zero_le _) hh hT rfl rfl
theorem Pz.upto {σ ρ : AH} {b k n : Nat} {es : List AV} (hσ : σ b = some (.row k es)) (hρ : ρ b = none) (hn : n ≤ es.length) : Pz σ ρ (.ref b k 0 n) (.list false k (es.take n)) := by
  refine .ref hσ hρ (by omega) (by simp; omega) fun i x y hx hy => ?_
  rw [List.drop_zero] at hx
  rw [hx] at hy; cases hy
  exact .refl _
theorem del_self {ρ : AH} {b : Nat} {x : Blk} (h : ρ b = none) : (ρ.set b x).del b = ρ := AH.del_set_self h x
def dimY (d : List Int) (i : Nat) : List Int := if d.getD i 0 = 1 then d.set i 3 else d
def dimL (B : List (List Int)) (d : List Int) : Nat → List (List Int)
  | 0 => B
  | i + 1 => dimL B d i ++ [d.set i 1, dimY d i]
abbrev dL (ds : List (List Int)) : List (List Int) := [[1], [1, 1], []] ++ ds
def dimB (ds : List (List Int)) (t : Tn) : List (List Int) := (dL ds).take 8 ++ [[1, ((t.x.length % 9 : Nat) : Int)], t.d]
def dimsS (ds : List (List Int)) (t : Tn) : List (List Int) := if okTn t then dimL (dimB ds t) t.d t.d.length else (dL ds).take 8
theorem dimL_len (B : List (List Int)) (d : List Int) : ∀ i, (dimL B d i).length = B.length + 2 * i
  | 0 => rfl
  | i + 1 => by rw [dimL, List.length_append, dimL_len B d i]; simp; omega
theorem dimY_len (d : List Int) (i : Nat) : (dimY d i).length = d.length := by rw [dimY]; split <;> simp
theorem dimL_sm {B : List (List Int)} {d : List Int} {m : Nat} (hB : ∀ x ∈ B, x.length ≤ m) (hd : d.length ≤ m) : ∀ i, ∀ x ∈ dimL B d i, x.length ≤ m
  | 0, x, hx => hB x hx
  | i + 1, x, hx => by
    rw [dimL] at hx
    rcases List.mem_append.1 hx with h | h
    · exact dimL_sm hB hd i x h
    · simp at h
      rcases h with rfl | rfl
      · simpa using hd
      · rw [dimY_len]; exact hd
theorem dimsS_len (ds : List (List Int)) (t : Tn) : (dimsS ds t).length ≤ 10 + 2 * t.d.length := by
  rw [dimsS]
  split
  · rw [dimL_len]; simp only [dimB, List.length_append, List.length_take]; simp; omega
  · simp only [List.length_take]; omega
theorem dL_sm {ds : List (List Int)} (h : ∀ x ∈ ds, x.length ≤ 1000) : ∀ x ∈ (dL ds).take 8, x.length ≤ 1000 := fun x hx => by
  rcases List.mem_append.1 (List.mem_of_mem_take hx) with h' | h'
  · simp at h'; rcases h' with rfl | rfl | rfl <;> simp
  · exact h x h'
theorem dimsS_sm {ds : List (List Int)} {t : Tn} (h : ∀ x ∈ ds, x.length ≤ 1000) : ∀ x ∈ dimsS ds t, x.length ≤ 1000 := by
  rw [dimsS]
  split
  · rename_i ht
    have h3 := ht.1.2.1
    refine dimL_sm (fun x hx => ?_) (by omega) _
    rcases List.mem_append.1 hx with h' | h'
    · exact dL_sm h x h'
    · simp at h'; rcases h' with rfl | rfl
      · simp
      · omega
  · exact dL_sm h
theorem take_map_len {l : List (List Int)} (n : Nat) : (l.map (fun x => ints x)).take ((l.take n).length) = (l.take n).map (fun x => ints x) := by
  rw [List.length_take, ← List.map_take]
  congr 1
  by_cases h : n ≤ l.length
  · rw [Nat.min_eq_left h]
  · rw [Nat.min_eq_right (by omega), List.take_length, List.take_of_length_le (by omega)]
end Go.Proofs.Al
