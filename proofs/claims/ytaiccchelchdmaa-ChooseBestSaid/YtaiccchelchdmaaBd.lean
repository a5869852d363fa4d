/- An abstract layer over the walk of Go code, part 24: choices: the search finds the first of the cheapest of all choices in order. -/
import Derived.Test.YtaiccchelchdmaaBb
namespace Go.Proofs.Al
open Go
/-- The j-th choices of n items, in order. -/
def dig : Nat → Nat → List Int
  | 0, _ => []
  | n + 1, j => ((j / 3 ^ n % 3 : Nat) : Int) :: dig n j
theorem dig_len : ∀ n j, (dig n j).length = n
  | 0, _ => rfl
  | n + 1, j => by simp [dig, dig_len n j]
theorem pow3 (n : Nat) : 0 < 3 ^ n := Nat.pow_pos (by decide)
theorem dig_per : ∀ (n k r : Nat), dig n (k * 3 ^ n + r) = dig n r
  | 0, _, _ => rfl
  | n + 1, k, r => by
    have e : k * 3 ^ (n + 1) + r = (3 * k) * 3 ^ n + r := by rw [Nat.pow_succ]; congr 1; rw [Nat.mul_comm 3 k, Nat.mul_assoc, Nat.mul_comm 3]
    simp only [dig]
    rw [e, dig_per n (3 * k) r, show (3 * k * 3 ^ n + r) / 3 ^ n % 3 = r / 3 ^ n % 3 by
      rw [Nat.mul_comm (3 * k), Nat.mul_add_div (pow3 n)]; omega]
theorem dig_zero (n : Nat) : dig n 0 = List.replicate n 0 := by
  induction n with
  | zero => rfl
  | succ n ih => simp [dig, ih, List.replicate_succ]
theorem dig_mul (n k : Nat) : dig n (k * 3 ^ n) = List.replicate n 0 := by
  have := dig_per n k 0
  rw [Nat.add_zero] at this
  rw [this, dig_zero]
theorem dig_cons {n k r : Nat} (hk : k < 3) (hr : r < 3 ^ n) : dig (n + 1) (k * 3 ^ n + r) = (k : Int) :: dig n r := by
  simp only [dig]
  rw [dig_per, Nat.mul_comm k, Nat.mul_add_div (pow3 n), Nat.div_eq_of_lt hr, Nat.add_zero, Nat.mod_eq_of_lt hk]
theorem dig_snoc : ∀ (n j : Nat), dig (n + 1) j = dig n (j / 3) ++ [((j % 3 : Nat) : Int)]
  | 0, j => by simp [dig]
  | n + 1, j => by
    rw [dig, dig_snoc n j, dig]
    simp only [List.cons_append]
    congr 3
    rw [Nat.div_div_eq_div_mul, Nat.pow_succ, Nat.mul_comm]
theorem dig_add : ∀ (m a j : Nat), dig (a + m) j = dig a (j / 3 ^ m) ++ dig m j
  | 0, a, j => by simp [dig]
  | m + 1, a, j => by
    rw [← Nat.add_assoc, dig_snoc, dig_add m a, dig_snoc m j, List.append_assoc, Nat.div_div_eq_div_mul, Nat.pow_succ, Nat.mul_comm]
theorem dig_in : ∀ (n j : Nat), ∀ x ∈ dig n j, inC x
  | 0, _, x, h => by simp [dig] at h
  | n + 1, j, x, h => by
    simp only [dig, List.mem_cons] at h
    rcases h with rfl | h
    · exact ⟨by omega, by omega⟩
    · exact dig_in n j x h
theorem dig_all : ∀ {c : List Int}, (∀ x ∈ c, inC x) → ∃ j, j < 3 ^ c.length ∧ dig c.length j = c
  | [], _ => ⟨0, by simp, rfl⟩
  | x :: c, h => by
    obtain ⟨r, hr, e⟩ := dig_all (c := c) fun y hy => h y (List.mem_cons_of_mem _ hy)
    obtain ⟨h1, h2⟩ := h x (List.mem_cons_self ..)
    refine ⟨x.toNat * 3 ^ c.length + r, ?_, ?_⟩
    · rw [List.length_cons, Nat.pow_succ]
      have : x.toNat * 3 ^ c.length ≤ 2 * 3 ^ c.length := Nat.mul_le_mul_right _ (by omega)
      omega
    · rw [List.length_cons, dig_cons (by omega) hr, e]; congr 1; omega
/-- One more of the choices is looked at. -/
def updS (room host : Int) (c : List Int) (s : Sm) (a : Acc) : Acc := if fits room host s ∧ (a.2 < 0 ∨ s.c < a.2) then (some c, s.c) else a
theorem foldl_same {α β : Type} {g : β → α → β} {a : β} : ∀ {l : List α}, (∀ x ∈ l, g a x = a) → l.foldl g a = a
  | [], _ => rfl
  | x :: l, h => by rw [List.foldl_cons, h x (List.mem_cons_self ..)]; exact foldl_same fun y hy => h y (List.mem_cons_of_mem _ hy)
theorem foldl_same' {α β : Type} {g g' : β → α → β} : ∀ {l : List α} {a : β}, (∀ x ∈ l, ∀ a, g a x = g' a x) → l.foldl g a = l.foldl g' a
  | [], _, _ => rfl
  | x :: l, a, h => by rw [List.foldl_cons, List.foldl_cons, h x (List.mem_cons_self ..)]; exact foldl_same' fun y hy => h y (List.mem_cons_of_mem _ hy)
theorem fold_range_mul {β : Type} (m : Nat) (g : β → Nat → β) : ∀ (q : Nat) (a : β), (List.range (q * m)).foldl g a = (List.range q).foldl (fun a k => (List.range m).foldl (fun a r => g a (k * m + r)) a) a
  | 0, a => by simp
  | q + 1, a => by
    rw [Nat.succ_mul, List.range_add, List.foldl_append, fold_range_mul m g q a, List.range_succ, List.foldl_append, List.foldl_map]
    rfl
theorem plusS_mono {s : Sm} {x : It} (k : Int) (hx : okIt x) : s.c ≤ (plusS s x k).c ∧ s.k ≤ (plusS s x k).k ∧ s.m ≤ (plusS s x k).m := by
  obtain ⟨⟨h1, _⟩, ⟨h2, _⟩, h3, _⟩ := hx
  unfold plusS
  split
  · exact ⟨by simp, by simp only; omega, by simp⟩
  · split
    · exact ⟨by simp only; omega, by simp, by simp⟩
    · exact ⟨by simp only; omega, by simp, by simp only; omega⟩
theorem sums_mono : ∀ {L : List It} {c : List Int} {s : Sm}, (∀ x ∈ L, okIt x) → s.c ≤ (sums s L c).c ∧ s.k ≤ (sums s L c).k ∧ s.m ≤ (sums s L c).m
  | [], c, s, _ => by cases c <;> simp [sums]
  | x :: L, [], s, _ => by simp [sums]
  | x :: L, k :: c, s, h => by
    have h1 := plusS_mono (s := s) k (h x (List.mem_cons_self ..))
    have h2 := sums_mono (c := c) (s := plusS s x k) fun y hy => h y (List.mem_cons_of_mem _ hy)
    show s.c ≤ (sums (plusS s x k) L c).c ∧ s.k ≤ (sums (plusS s x k) L c).k ∧ s.m ≤ (sums (plusS s x k) L c).m
    exact ⟨by omega, by omega, by omega⟩
theorem srch_all {room host : Int} : ∀ (L : List It) (pre : List Int) (s : Sm) (a : Acc), (∀ x ∈ L, okIt x) →
    srch room host L pre s a = (List.range (3 ^ L.length)).foldl (fun a j => updS room host (pre ++ dig L.length j) (sums s L (dig L.length j)) a) a
  | [], pre, s, a, _ => by
    simp only [List.length_nil, Nat.pow_zero, List.range_one, List.foldl_cons, List.foldl_nil, dig, List.append_nil, sums, srch, updS]
    by_cases hc : cutS room host s a
    · rw [if_pos hc, if_neg]; unfold cutS at hc; unfold fits; omega
    · rw [if_neg hc, if_pos]; unfold cutS at hc; unfold fits; omega
  | x :: L, pre, s, a, h => by
    have hx := h x (List.mem_cons_self ..)
    have hL : ∀ y ∈ L, okIt y := fun y hy => h y (List.mem_cons_of_mem _ hy)
    by_cases hc : cutS room host s a
    · rw [srch_cut hc, foldl_same]
      intro j _
      have hm := sums_mono (c := dig (x :: L).length j) (s := s) h
      rw [updS, if_neg]
      unfold cutS at hc
      unfold fits
      omega
    · rw [srch_go hc, kidsS, List.length_cons, Nat.pow_succ, Nat.mul_comm, fold_range_mul]
      refine foldl_same' fun k hk a => ?_
      rw [srch_all L _ _ a hL]
      refine foldl_same' fun r hr a => ?_
      rw [dig_cons (List.mem_range.1 hk) (List.mem_range.1 hr), List.append_assoc]
      rfl
/-- The first of the cheapest among the first m choices. -/
def upTo (L : List It) (room host : Int) (m : Nat) : Acc := (List.range m).foldl (fun a j => updS room host (dig L.length j) (sum0 L (dig L.length j)) a) (none, -1)
theorem upTo_succ (L : List It) (room host : Int) (m : Nat) : upTo L room host (m + 1) = updS room host (dig L.length m) (sum0 L (dig L.length m)) (upTo L room host m) := by
  simp [upTo, List.range_succ, List.foldl_append]
theorem bestS_all {L : List It} {room host : Int} (h : ∀ x ∈ L, okIt x) : bestS L room host = upTo L room host (3 ^ L.length) := by
  rw [bestS, srch_all L _ _ _ h]; rfl
theorem upTo_spec {L : List It} {room host : Int} (h : ∀ x ∈ L, okIt x) : ∀ m,
    (upTo L room host m = (none, -1) ∧ ∀ i, i < m → ¬ fits room host (sum0 L (dig L.length i))) ∨
    ∃ j, j < m ∧ upTo L room host m = (some (dig L.length j), (sum0 L (dig L.length j)).c) ∧ fits room host (sum0 L (dig L.length j)) ∧
      (∀ i, i < m → fits room host (sum0 L (dig L.length i)) → (sum0 L (dig L.length j)).c ≤ (sum0 L (dig L.length i)).c) ∧
      ∀ i, i < j → fits room host (sum0 L (dig L.length i)) → (sum0 L (dig L.length j)).c < (sum0 L (dig L.length i)).c
  | 0 => .inl ⟨rfl, fun i hi => by omega⟩
  | m + 1 => by
    rw [upTo_succ]
    rcases upTo_spec h m with ⟨h1, h2⟩ | ⟨j, h0, h1, h2, h3, h4⟩
    · by_cases hf : fits room host (sum0 L (dig L.length m))
      · refine .inr ⟨m, by omega, by rw [updS, if_pos ⟨hf, .inl (by rw [h1]; simp)⟩], hf, fun i hi hfi => ?_, fun i hi hfi => absurd hfi (h2 i hi)⟩
        rcases Nat.lt_or_ge i m with h' | h'
        · exact absurd hfi (h2 i h')
        · rw [show i = m by omega]; exact Int.le_refl _
      · refine .inl ⟨by rw [updS, if_neg (fun e => hf e.1), h1], fun i hi => ?_⟩
        rcases Nat.lt_or_ge i m with h' | h'
        · exact h2 i h'
        · rw [show i = m by omega]; exact hf
    · have hp : 0 ≤ (sum0 L (dig L.length j)).c := (sum0_ok h _).1.1
      by_cases hf : fits room host (sum0 L (dig L.length m)) ∧ (sum0 L (dig L.length m)).c < (sum0 L (dig L.length j)).c
      · refine .inr ⟨m, by omega, by rw [updS, if_pos ⟨hf.1, .inr (by rw [h1]; exact hf.2)⟩], hf.1, fun i hi hfi => ?_, fun i hi hfi => ?_⟩
        · rcases Nat.lt_or_ge i m with h' | h'
          · have := h3 i h' hfi; have := hf.2; omega
          · rw [show i = m by omega]; exact Int.le_refl _
        · have := h3 i hi hfi; have := hf.2; omega
      · refine .inr ⟨j, by omega, ?_, h2, fun i hi hfi => ?_, h4⟩
        · rw [updS, if_neg, h1]
          rintro ⟨e1, e2⟩
          rw [h1] at e2
          exact hf ⟨e1, by simp only at e2; omega⟩
        · rcases Nat.lt_or_ge i m with h' | h'
          · exact h3 i h' hfi
          · rw [show i = m by omega] at hfi ⊢
            exact Int.not_lt.1 fun e => hf ⟨hfi, e⟩
/-- Made again, all of them: that fits always. -/
theorem again_fits : ∀ (L : List It) (s : Sm), (sums s L (List.replicate L.length 1)).k = s.k ∧ (sums s L (List.replicate L.length 1)).m = s.m
  | [], s => ⟨rfl, rfl⟩
  | x :: L, s => by
    show (sums (plusS s x 1) L (List.replicate L.length 1)).k = s.k ∧ (sums (plusS s x 1) L (List.replicate L.length 1)).m = s.m
    have h := again_fits L (plusS s x 1)
    exact ⟨h.1, h.2⟩
structure Opt (L : List It) (room host : Int) (j : Nat) : Prop where
  lt : j < 3 ^ L.length
  eq : bestS L room host = (some (dig L.length j), (sum0 L (dig L.length j)).c)
  fit : fits room host (sum0 L (dig L.length j))
  least : ∀ c, okC L c → fits room host (sum0 L c) → (sum0 L (dig L.length j)).c ≤ (sum0 L c).c
  first : ∀ i, i < j → fits room host (sum0 L (dig L.length i)) → (sum0 L (dig L.length j)).c < (sum0 L (dig L.length i)).c
theorem opt {L : List It} {room host : Int} (h : ∀ x ∈ L, okIt x) (hr : 0 ≤ room) (hh : 0 ≤ host) : ∃ j, Opt L room host j := by
  rcases upTo_spec (room := room) (host := host) h (3 ^ L.length) with ⟨_, h2⟩ | ⟨j, h0, h1, h2, h3, h4⟩
  · obtain ⟨i, hi, e⟩ := dig_all (c := List.replicate L.length 1) fun x hx => by rw [List.eq_of_mem_replicate hx]; decide
    rw [List.length_replicate] at hi e
    refine absurd ?_ (h2 i hi)
    rw [e]
    have := again_fits L ⟨0, 0, 0⟩
    exact ⟨by rw [this.1]; exact hr, by rw [this.2]; exact hh⟩
  · refine ⟨j, h0, by rw [bestS_all h, h1], h2, fun c hc hf => ?_, h4⟩
    obtain ⟨i, hi, e⟩ := dig_all hc.2
    rw [hc.1] at hi e
    have := h3 i hi (by rw [e]; exact hf)
    rwa [e] at this
end Go.Proofs.Al
