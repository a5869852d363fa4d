/- An abstract layer over the walk of Go code, part 25: choices: more room never costs more. -/
import Derived.Test.YtaiccchelchdmaaBd
namespace Go.Proofs.Al
open Go
def szL (L : List It) : Int := L.foldl (fun a x => a + x.s) 0
def agL (L : List It) : Int := L.foldl (fun a x => a + x.a) 0
theorem sums_rep0 : ∀ (L : List It) (s : Sm), sums s L (List.replicate L.length 0) = ⟨s.c, L.foldl (fun a x => a + x.s) s.k, s.m⟩
  | [], s => rfl
  | x :: L, s => sums_rep0 L (plusS s x 0)
theorem sums_rep1 : ∀ (L : List It) (s : Sm), sums s L (List.replicate L.length 1) = ⟨L.foldl (fun a x => a + x.a) s.c, s.k, s.m⟩
  | [], s => rfl
  | x :: L, s => sums_rep1 L (plusS s x 1)
theorem szL_ok {L : List It} (h : ∀ x ∈ L, okIt x) : 0 ≤ szL L ∧ szL L ≤ L.length * 4096 := by
  have := (sum0_ok h (List.replicate L.length 0)).2.1
  rw [sum0, sums_rep0] at this
  exact this
theorem agL_ok {L : List It} (h : ∀ x ∈ L, okIt x) : 0 ≤ agL L ∧ agL L ≤ L.length * 1048576 := by
  have := (sum0_ok h (List.replicate L.length 1)).1
  rw [sum0, sums_rep1] at this
  exact this
theorem okC_rep {L : List It} {v : Int} (h : inC v) : okC L (List.replicate L.length v) := ⟨by simp, fun x hx => by rw [List.eq_of_mem_replicate hx]; exact h⟩
theorem opt2 {L : List It} {room host : Int} (h : ∀ x ∈ L, okIt x) (hr : 0 ≤ room) (hh : 0 ≤ host) :
    ∃ c, okC L c ∧ bestS L room host = (some c, (sum0 L c).c) ∧ fits room host (sum0 L c) ∧ ∀ c', okC L c' → fits room host (sum0 L c') → (sum0 L c).c ≤ (sum0 L c').c :=
  let ⟨j, o⟩ := opt h hr hh
  ⟨dig L.length j, ⟨dig_len _ _, dig_in _ _⟩, o.eq, o.fit, o.least⟩
theorem best_mono {L : List It} {room host room' host' : Int} (h : ∀ x ∈ L, okIt x) (hr : 0 ≤ room) (hh : 0 ≤ host) (h1 : room ≤ room') (h2 : host ≤ host') : (bestS L room' host').2 ≤ (bestS L room host).2 := by
  obtain ⟨c, k1, k2, k3, _⟩ := opt2 h hr hh
  obtain ⟨c', l1, l2, _, l4⟩ := opt2 (room := room') (host := host') h (by omega) (by omega)
  rw [k2, l2]
  exact l4 c k1 ⟨by have := k3.1; omega, by have := k3.2; omega⟩
theorem best_again {L : List It} {room host : Int} (h : ∀ x ∈ L, okIt x) (hr : 0 ≤ room) (hh : 0 ≤ host) : (bestS L room host).2 ≤ agL L := by
  obtain ⟨c', l1, l2, _, l4⟩ := opt2 h hr hh
  rw [l2]
  have := l4 (List.replicate L.length 1) (okC_rep (by decide)) (by rw [sum0, sums_rep1]; exact ⟨hr, hh⟩)
  rw [show sum0 L (List.replicate L.length 1) = _ from sums_rep1 L _] at this
  exact this
theorem best_all {L : List It} {room host : Int} (h : ∀ x ∈ L, okIt x) (hr : szL L ≤ room) (hh : 0 ≤ host) : (bestS L room host).2 = 0 := by
  have h0 := (szL_ok h).1
  obtain ⟨c', l1, l2, _, l4⟩ := opt2 h (Int.le_trans h0 hr) hh
  rw [l2]
  have := l4 (List.replicate L.length 0) (okC_rep (by decide)) (by rw [sum0, sums_rep0]; exact ⟨hr, hh⟩)
  rw [show sum0 L (List.replicate L.length 0) = _ from sums_rep0 L _] at this
  have h1 := (sum0_ok h c').1.1
  show (sum0 L c').c = 0
  simp only at this
  omega
def roomV (L : List It) (k : Nat) : Int := szL L * (k : Int) / 7
def lastV (L : List It) : Nat → Int
  | 0 => agL L
  | k + 1 => (bestS L (roomV L k) 0).2
theorem roomV_ok {L : List It} (h : ∀ x ∈ L, okIt x) {k : Nat} (hk : k ≤ 7) : 0 ≤ roomV L k ∧ roomV L k ≤ szL L := by
  have h0 := (szL_ok h).1
  have h1 : 0 ≤ szL L * (k : Int) := Int.mul_nonneg h0 (by omega)
  have h2 : szL L * (k : Int) ≤ szL L * 7 := Int.mul_le_mul_of_nonneg_left (by omega) h0
  unfold roomV
  omega
theorem last_le {L : List It} (h : ∀ x ∈ L, okIt x) {k : Nat} (hk : k ≤ 7) : (bestS L (roomV L k) 0).2 ≤ lastV L k := by
  cases k with
  | zero => exact best_again h (roomV_ok h hk).1 (Int.le_refl _)
  | succ k =>
    refine best_mono h (roomV_ok h (by omega)).1 (Int.le_refl _) ?_ (Int.le_refl _)
    have h0 := (szL_ok h).1
    have h2 : szL L * (k : Int) ≤ szL L * ((k + 1 : Nat) : Int) := Int.mul_le_mul_of_nonneg_left (by omega) h0
    unfold roomV
    omega
theorem last_end {L : List It} (h : ∀ x ∈ L, okIt x) : lastV L 8 = 0 := best_all h (by show szL L ≤ szL L * ((7 : Nat) : Int) / 7; rw [show ((7 : Nat) : Int) = 7 from rfl]; omega) (Int.le_refl _)
theorem leastR_k {L : List It} {room host : Int} (h : askC L room host) : leastR L room host = ((bestS L room host).2, 0) := by rw [leastR, if_pos h]
theorem bestR_k {L : List It} {room host v : Int} {c : List Int} (h : askC L room host) (hb : bestS L room host = (some c, v)) : bestR L room host = (c, 0) := by rw [bestR, if_pos h, hb]; rfl
theorem costS_k {L : List It} {c : List Int} (h : okL L) (h' : okC L c) : costS L c = (sum0 L c, 0) := by rw [costS, if_pos ⟨h, h'⟩]
end Go.Proofs.Al
