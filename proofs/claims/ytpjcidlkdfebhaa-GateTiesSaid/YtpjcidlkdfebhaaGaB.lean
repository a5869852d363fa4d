/- What picking computes: numbers laid where the greatest of so many stand. About lists and numbers alone. No memory and no program here: the printed functions alone. -/
import Derived.Test.YtpjcidlkdfebhaaPTx30
import Derived.Test.YtpjcidlkdfebhaaPTx10
import Derived.Test.YtpjcidlkdfebhaaGaA
set_option linter.unusedVariables false
set_option linter.unusedSimpArgs false
namespace Go.Proofs.Ytpjcidlkdfebhaa.ShEv
open Go.RowKit Go.Proofs.EvW Go.Proofs.Ytpjcidlkdfebhaa.PT Go.Proofs.YtpjcidlkdfebhaaW.PrintWords Go.Proofs.YtpjcidlkdfebhaaW.PrintLast Go.Proofs.YtpjcidlkdfebhaaW.PrintMore
theorem equal_loop (a b : List Int) (hl : a.length = b.length) (hm : a.length ≤ 9223372036854775807) (m : Nat) : ∀ (i : Nat), i + m = a.length → a.take i = b.take i → Ev (fun k => slices_Equal_int_int.l0 k a b (a.length : Int) (i : Int)) (decide (a = b)) := by
  induction m with
  | zero =>
    intro i hi he
    rw [List.take_of_length_le (by omega), List.take_of_length_le (by omega)] at he
    rw [decide_eq_true he]
    refine Ev.step (f := fun _ => some true) (fun k => ?_) (Ev.now _)
    simp only [slices_Equal_int_int.l0]
    rw [if_neg (by omega)]
  | succ m ih =>
    intro i hi he
    have hlt : i < a.length := by omega
    have hlt2 : i < b.length := by omega
    by_cases c : a[i] = b[i]
    · refine Ev.step (fun k => ?_) (ih (i + 1) (by omega) ?_)
      · simp only [slices_Equal_int_int.l0]
        rw [if_pos (by omega), if_pos (by omega), if_pos (by omega), if_pos (by omega), rdI hlt, rdI hlt2, if_pos c, w64s (by omega)]
      · rw [← List.take_append_getElem hlt, ← List.take_append_getElem hlt2, he, c]
    · rw [decide_eq_false (fun e => c (by subst e; rfl))]
      refine Ev.step (f := fun _ => some false) (fun k => ?_) (Ev.now _)
      simp only [slices_Equal_int_int.l0]
      rw [if_pos (by omega), if_pos (by omega), if_pos (by omega), if_pos (by omega), rdI hlt, rdI hlt2, if_neg c]
theorem equal_ev (a b : List Int) (hm : a.length ≤ 9223372036854775807) : Ev (fun k => slices_Equal_int_int.f k a b) (decide (a = b)) := by
  unfold slices_Equal_int_int.f
  by_cases h : a.length = b.length
  · exact pos (by omega) (equal_loop a b h hm a.length 0 (by omega) rfl)
  · rw [decide_eq_false (fun e => h (by rw [e]))]
    exact neg (by omega) (Ev.now _)
/-- The numbers b, from i on, laid where the greatest stand. -/
def pickG (l : List Int) (n : Nat) : List Int → Nat → List Int → List Int
  | [], _, acc => acc
  | x :: b, i, acc => pickG l n b (i + 1) (acc.set (i * n + best (blk l n i)) x)
theorem pick_loop (d : List Int) {l b e : List Int} {n q : Nat} (hn : 1 ≤ n) (hl : l.length = q * n) (h64 : l.length ≤ 64) (hb : b.length = q) (m : Nat) : ∀ (i : Nat) (acc : List Int), i + m = q → acc.length = l.length →
    Ev (fun k => gate_Pick.l0 k (n : Int) b (q : Int) (i : Int) d l e acc) (e, pickG l n (b.drop i) i acc, 0) := by
  induction m with
  | zero =>
    intro i acc hi ha
    rw [List.drop_of_length_le (by omega)]
    refine Ev.step (f := fun _ => some (e, acc, 0)) (fun k => ?_) (Ev.now _)
    simp only [gate_Pick.l0]
    rw [if_neg (by omega)]
  | succ m ih =>
    intro i acc hi ha
    have hiq : i < q := by omega
    have hbd : (i + 1) * n ≤ q * n := Nat.mul_le_mul_right n hiq
    rw [Nat.add_mul, Nat.one_mul] at hbd
    have hbl := blk_length hl hiq
    have hq : q ≤ q * n := Nat.le_mul_of_pos_right q (by omega)
    have hbest := best_lt (l := blk l n i) (by omega)
    have e1 : (i : Int) * (n : Int) = ((i * n : Nat) : Int) := by simp
    have key := ih (i + 1) (acc.set (i * n + best (blk l n i)) (b[i]'(by omega))) (by omega) (by rw [List.length_set]; exact ha)
    rw [show b.drop i = b[i]'(by omega) :: b.drop (i + 1) from List.drop_eq_getElem_cons (by omega)]
    refine Ev.step (f := fun k => (gate_greatest.f k (blk l n i)).bind fun t => if 0 ≤ (wrap64 (((i * n : Nat) : Int) + t)) then (if (wrap64 (((i * n : Nat) : Int) + t)) < (acc.length : Int) then gate_Pick.l0 k (n : Int) b (q : Int) ((i + 1 : Nat) : Int) d l e (acc.set (wrap64 (((i * n : Nat) : Int) + t)).toNat (b[i]'(by omega))) else none) else none) (fun k => ?_) (Ev.bind (greatest_ev (by omega) (by omega)) ?_)
    · simp only [gate_Pick.l0]
      rw [if_pos (by omega), if_pos (by omega), if_pos (by omega), e1, w64 (i := ((i * n : Nat) : Int)) (by omega) (by omega), w64 (i := ((i * n : Nat) : Int) + (n : Int)) (by omega) (by omega), if_pos (by omega), if_pos (by omega), if_pos (by omega),
        show (((i * n : Nat) : Int) + (n : Int)).toNat = i * n + n by omega, show (((i * n : Nat) : Int)).toNat = i * n by omega, blk_eq, w64s (by omega), rdI (show i < b.length by omega)]
    · rw [w64 (by omega) (by omega)]
      refine pos (by omega) (pos (by omega) ?_)
      rw [show (((i * n : Nat) : Int) + ((best (blk l n i) : Nat) : Int)).toNat = i * n + best (blk l n i) by omega]
      exact key
theorem pick_ev (da la db lb : List Int) {n : Int} (hn : n ≤ 9223372036854775807) : Ev (fun k => gate_Pick.f k da la db lb n)
    (if okT db lb then (if okT da la ∧ 1 ≤ n ∧ n ≤ 8 then (if lastI da % n = 0 then (if lessD da n = db then (da, pickG la n.toNat lb 0 (List.replicate (prod da).toNat 0), 0) else ([], [], 4)) else ([], [], 4)) else ([], [], 1)) else ([], [], 1)) := by
  unfold gate_Pick.f
  refine Ev.bind (is_ev db lb) ?_
  by_cases hb : okT db lb
  · rw [if_pos hb]
    refine pos (by simpa using hb) (Ev.bind (asked_ev da la hn) ?_)
    by_cases h : okT da la ∧ 1 ≤ n ∧ n ≤ 8
    · rw [if_pos h, if_pos h]
      by_cases c : lastI da % n = 0
      · rw [if_pos c, if_pos c]
        obtain ⟨h1, h2⟩ := lessD_ok h.1.1 h.2.1 c
        have hl3 := h1.2.1
        refine pos rfl (Ev.bind (equal_ev (lessD da n) db (by omega)) ?_)
        by_cases e : lessD da n = db
        · rw [if_pos e]
          refine pos (by simpa using e) (Ev.bind (new_ev h.1.1) ?_)
          have hp := prod_pos h1.2.2.1
          have h64 := h.1.1.2.2.2
          have hl := h.1.2
          have hlb := hb.2
          rw [← e] at hlb
          have hl2 : la.length = lb.length * n.toNat := by
            have : ((la.length : Nat) : Int) = ((lb.length * n.toNat : Nat) : Int) := by
              rw [Int.natCast_mul, hlb, Int.toNat_of_nonneg (by omega), h2, hl]
            exact_mod_cast this
          have := pick_loop da (l := la) (b := lb) (e := da) (n := n.toNat) (q := lb.length) (by omega) hl2 (by omega) rfl lb.length 0 (List.replicate (prod da).toNat 0) (by omega) (by simp; omega)
          rw [show ((n.toNat : Nat) : Int) = n by omega] at this
          exact this
        · rw [if_neg e]
          exact neg (by simpa using e) (Ev.now _)
      · rw [if_neg c, if_neg c]
        exact neg (by decide) (Ev.now _)
    · rw [if_neg h, if_neg h]
      exact neg (by decide) (Ev.now _)
  · rw [if_neg hb]
    exact neg (by simpa using hb) (Ev.now _)
end Go.Proofs.Ytpjcidlkdfebhaa.ShEv
