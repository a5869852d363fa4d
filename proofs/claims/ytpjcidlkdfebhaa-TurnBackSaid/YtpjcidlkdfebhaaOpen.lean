/- What a law's argument reads as, brought into the printed walks' words: from the reading of a datum ('DataW.trod') to the kind that tells its cells ('Kd'), with what the row's reach says of each length. -/
import Derived.ChangeArms
import Derived.ChangeSlices
import Derived.SizedLaws
import Derived.Deep.Slices
import Derived.OpenShut
import Derived.Test.YtpjcidlkdfebhaaWWords
import Derived.Test.YtpjcidlkdfebhaaWMore
namespace Go.Proofs.OpenW
open Go.RowKit Go.Proofs.YtpjcidlkdfebhaaW.PrintWords Go.ChangeShapes Go.WideShapes
section
variable {H : Type} {enc : TypeId × Value → H} {P : Program} {W : World}

/-- Whatever reads at type t has cells of kind d, and is as G says. -/
def Opens (enc : TypeId × Value → H) (P : Program) (W : World) (t : TypeId) {α : Type} (d : Kd α) (G : α → Prop) : Prop :=
  ∀ n cs y, DataW.trod enc P W 0 (fun _ => true) true n t cs = some y → (∀ m ∈ y.1.weights P t, m ≤ reachBytes) → ∃ x, d.K W x cs ∧ G x

theorem Opens.int {t : TypeId} {k : IntKind} (ht : P.underlying t = some (.int k)) : Opens enc P W t (Kd.int k) (fun x => (Lit.int k x).wf = true) := by
  intro n cs y h _
  obtain ⟨x, rfl, rfl, hw⟩ := DataW.trod_int ht h
  exact ⟨x, rfl, hw⟩
theorem Opens.bool {t : TypeId} (ht : P.underlying t = some .bool) : Opens enc P W t Kd.bool (fun _ => True) := by
  intro n cs y h _
  obtain ⟨x, rfl, rfl⟩ := DataW.trod_bool ht h
  exact ⟨x, rfl, trivial⟩
theorem Opens.string {t : TypeId} (ht : P.underlying t = some .string) : Opens enc P W t Kd.string (fun s => s.size ≤ 140737488351232) := by
  intro n cs y h hw
  obtain ⟨s, rfl, rfl, _⟩ := DataW.trod_string ht h
  refine ⟨s, rfl, ?_⟩
  have := hw s.data.toList.length (by simp [DataW.weights])
  simpa [reachBytes] using this
theorem weightsAll_mem {e : TypeId} {d : DataW H} {m : Nat} : ∀ {l : List (DataW H)}, d ∈ l → m ∈ d.weights P e → m ∈ DataW.weightsAll P e l
  | a :: l, hd, hm => by
    rw [DataW.weightsAll, List.mem_append]
    rcases List.mem_cons.1 hd with rfl | hd
    · exact Or.inl hm
    · exact Or.inr (weightsAll_mem hd hm)
theorem Opens.slice {t e B : Nat} {α : Type} {d : Kd α} {G : α → Prop} (ht : P.underlying t = some (.slice e)) (hz : P.cellsOf e = d.sz) (hB : P.bytesOf e = B) (h : Opens enc P W e d G) (z : α) :
    Opens enc P W t (Kd.slice e d) (fun xs => xs.length * B ≤ 140737488351232 ∧ xs.length ≤ 9223372036854775807 ∧ ∀ x ∈ xs, G x) := by
  subst hB
  intro n cs y hy hw
  rcases Go.Deep.open_slice ht hy with ⟨rfl, rfl⟩ | ⟨a, len, cap, m, n', D, Pl, rfl, _, hl, hm, hmm, rfl, hx⟩
  · exact ⟨[], ⟨none, 0, rfl, Nat.le_refl _, rfl, by simp, fun h => absurd h (by simp)⟩, by simp, by simp, by simp⟩
  · simp only [if_true] at hmm
    subst hmm
    have hD : ∀ i, i < len → ∀ k ∈ (D i).weights P e, k ≤ reachBytes := by
      intro i hi k hk
      refine hw k ?_
      simp only [DataW.weights, ht]
      refine List.mem_cons_of_mem _ (List.mem_append_left _ (weightsAll_mem (d := D i) ?_ hk))
      exact List.mem_map.2 ⟨i, List.mem_range.2 hi, rfl⟩
    have hex : ∀ i, i < len → ∃ x, ∃ cs', W.cells? 0 (a.add (i * P.cellsOf e)) (P.cellsOf e) = some cs' ∧ d.K W x cs' ∧ G x := by
      intro i hi
      obtain ⟨cs', h1, h2⟩ := hx i (by omega)
      obtain ⟨x, h3, h4⟩ := h n' cs' _ h2 (hD i hi)
      exact ⟨x, cs', h1, h3, h4⟩
    have hlen : len * P.bytesOf e ≤ 140737488351232 := by
      have := hw ((((List.range len).map D).length + ((List.range (m - len)).map fun j => D (len + j)).length) * P.bytesOf e) (by simp [DataW.weights, ht])
      simp only [List.length_map, List.length_range] at this
      refine Nat.le_trans (Nat.mul_le_mul_right _ (show len ≤ len + (m - len) by omega)) ?_
      simpa [reachBytes] using this
    have hch : ∃ f : Nat → α, ∀ i, i < len → ∃ cs', W.cells? 0 (a.add (i * P.cellsOf e)) (P.cellsOf e) = some cs' ∧ d.K W (f i) cs' ∧ G (f i) := by
      haveI : Inhabited α := ⟨z⟩
      exact Go.Deep.choose_lt hex
    obtain ⟨f, hf⟩ := hch
    have hlm : ((List.range len).map f).length = len := by simp
    have hml : len ≤ 9223372036854775807 := by unfold maxLen at hm; omega
    refine ⟨(List.range len).map f, ⟨some a, m, by rw [hlm], by rw [hlm]; exact hl, by simp, by rw [hlm]; exact hml, fun _ => ⟨a, rfl, fun j p hj => ?_⟩⟩, by rw [hlm]; exact hlen, by rw [hlm]; exact hml, ?_⟩
    · rw [List.getElem?_map] at hj
      obtain ⟨i, hi, rfl⟩ := Option.map_eq_some_iff.1 hj
      have hjl : j < len := by
        have := (List.getElem?_eq_some_iff.1 hi).1
        simpa using this
      obtain rfl : j = i := by
        rw [List.getElem?_range hjl] at hi
        exact Option.some.inj hi
      obtain ⟨cs', h1, h2, _⟩ := hf j hjl
      obtain ⟨_, h3, h4⟩ := World.cells?_some h1
      refine ⟨cs', by rw [h3, hz], h2, fun i u hu => ?_⟩
      have hil : i < P.cellsOf e := by rw [← h3]; exact (List.getElem?_eq_some_iff.1 hu).1
      have := h4 i hil
      rw [Go.Deep.add_add, hz] at this
      rw [this]
      exact hu
    · intro x hxm
      obtain ⟨i, hi, rfl⟩ := List.mem_map.1 hxm
      obtain ⟨_, _, _, hg⟩ := hf i (List.mem_range.1 hi)
      exact hg

/-- The fields (type and place) from place 'off' on. -/
def OpensF (enc : TypeId × Value → H) (P : Program) (W : World) (fs : List (TypeId × Nat)) (off : Nat) {α : Type} (d : Kd α) (G : α → Prop) : Prop :=
  ∀ n (cs : List Value) (xs : List (DataW H × List MemPlace)), xs.length = fs.length → (∀ (i : Nat) (f : TypeId × Nat), fs[i]? = some f → DataW.trod enc P W 0 (fun _ => true) true n f.1 ((cs.drop f.2).take (P.cellsOf f.1)) = xs[i]?) →
    cs.length = off + d.sz → (∀ m ∈ DataW.weightsEach P (fs.map (·.1)) (xs.map (·.1)), m ≤ reachBytes) → ∃ x, d.K W x (cs.drop off) ∧ G x
theorem OpensF.one {t : TypeId} {off : Nat} {α : Type} {d : Kd α} {G : α → Prop} (hz : P.cellsOf t = d.sz) (h : Opens enc P W t d G) : OpensF enc P W [(t, off)] off d G := by
  intro n cs xs hl hx hc hw
  match xs, hl with
  | [x], _ =>
    have h0 := hx 0 (t, off) rfl
    simp only at h0
    rw [hz, List.take_of_length_le (by simp; omega)] at h0
    exact h n _ x h0 (fun m hm => hw m (by simp [DataW.weightsEach, hm]))
theorem OpensF.cons {t : TypeId} {fs : List (TypeId × Nat)} {off o2 : Nat} {α β : Type} {d : Kd α} {d' : Kd β} {G : α → Prop} {G' : β → Prop} (hz : P.cellsOf t = d.sz) (ho : o2 = off + d.sz) (h : Opens enc P W t d G) (h' : OpensF enc P W fs o2 d' G') :
    OpensF enc P W ((t, off) :: fs) off (Kd.pair d d') (fun x => G x.1 ∧ G' x.2) := by
  subst ho
  intro n cs xs hl hx hc hw
  match xs, hl with
  | x :: xs, hl =>
    have hc2 : cs.length = off + (d.sz + d'.sz) := hc
    have h0 := hx 0 (t, off) rfl
    simp only at h0
    rw [hz] at h0
    obtain ⟨y, k0, g0⟩ := h n _ x h0 (fun m hm => hw m (by simp [DataW.weightsEach, hm]))
    obtain ⟨y', k1, g1⟩ := h' n cs xs (by simpa using hl) (fun i f' hf => by simpa using hx (i + 1) f' (by simpa using hf)) (by omega) (fun m hm => hw m (by
      simp only [List.map_cons, DataW.weightsEach, List.mem_append]
      exact Or.inr hm))
    refine ⟨(y, y'), ⟨_, _, ?_, k0, k1⟩, g0, g1⟩
    rw [← List.drop_drop, List.take_append_drop]
theorem Opens.struct {t : TypeId} {fs : Array Field} {ts : List (TypeId × Nat)} {α : Type} {d : Kd α} {G : α → Prop} (ht : P.underlying t = some (.struct fs)) (hts : fs.toList.map (fun f => (f.type, f.offset)) = ts) (hz : P.cellsOf t = d.sz) (h : OpensF enc P W ts 0 d G) : Opens enc P W t d G := by
  subst hts
  intro n cs y hy hw
  obtain ⟨xs, n', rfl, rfl, hl, hn, hx⟩ := DataW.trod_struct ht hy
  have := h n' cs xs (by simpa using hn) (fun i f hf => by
    rw [List.getElem?_map] at hf
    obtain ⟨f', hf', rfl⟩ := Option.map_eq_some_iff.1 hf
    exact hx i f' (by simpa using hf')) (by rw [hl, hz, Nat.zero_add]) (fun m hm => hw m (by simpa [DataW.weights, ht, Function.comp_def] using hm))
  simpa using this
theorem Opens.iso {t : TypeId} {α β : Type} {d : Kd α} {G : α → Prop} {G' : β → Prop} (f : β → α) (g : α → β) (hfg : ∀ x, f (g x) = x) (hG : ∀ x, G x → G' (g x)) (h : Opens enc P W t d G) : Opens enc P W t (Kd.iso d f) G' := by
  intro n cs y hy hw
  obtain ⟨x, k, hx⟩ := h n cs y hy hw
  exact ⟨g x, by show d.K W (f (g x)) cs; rw [hfg]; exact k, hG x hx⟩
end
end Go.Proofs.OpenW
