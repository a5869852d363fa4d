/- An abstract layer over the walk of Go code: what a law's argument reads as, told as a tree; and the row of a law whose contract is known. -/
import Derived.ChangeArms
import Derived.ChangeSlices
import Derived.SizedLaws
import Derived.Deep.Slices
import Derived.OpenShut
import Derived.Below
import Derived.Test.YtaiccchelchdmaaAlk
namespace Go.Proofs.Al
open Go Go.RowKit Go.ChangeShapes Go.WideShapes
section
variable {H : Type} {enc : TypeId × Value → H} {P : Program} {W : World}

/-- All that is there stays as it is. -/
def Phi.all (W : World) : Phi := { obj := fun β => W.heap[β]?, own := fun _ => none, os := W.os, tape := W.tape, output := W.output }
theorem WR.all (W : World) : WR (Phi.all W) (fun _ => none) W := ⟨fun _ _ h => h, fun b x h => by (cases h), fun b b' x x' l l' β h => by (cases h), ⟨0, fun _ _ => rfl⟩, rfl, rfl, rfl⟩
theorem WR.below {Φ : Phi} {σ : AH} {w : World} (h : WR Φ σ w) (hle : (Phi.all W).le Φ) : Below W.heap.size W w := by
  have hb : ∀ k, k < W.heap.size → w.heap[k]? = W.heap[k]? := fun k hk => by
    have h1 : W.heap[k]? = some W.heap[k] := Array.getElem?_eq_getElem hk
    rw [h1]
    exact h.obj k _ (hle.obj k _ h1)
  refine ⟨h.os.trans hle.os, h.tape.trans hle.tape, h.output.trans hle.output, ?_, hb⟩
  rcases Nat.eq_zero_or_pos W.heap.size with h0 | h0
  · omega
  · have := hb (W.heap.size - 1) (by omega)
    rw [Array.getElem?_eq_getElem (show W.heap.size - 1 < W.heap.size by omega)] at this
    have := (Array.getElem?_eq_some_iff.1 this).1
    omega

/-- Whatever reads at type t is what f tells, for some x that is as G says. -/
def Opens (enc : TypeId × Value → H) (P : Program) (W : World) (t : TypeId) {α : Type} (f : α → AV) (k : Nat) (G : α → Prop) : Prop :=
  ∀ n cs y, DataW.trod enc P W 0 (fun _ => true) true n t cs = some y → (∀ m ∈ y.1.weights P t, m ≤ reachBytes) → ∃ x, CR (Phi.all W) (f x) cs ∧ (f x).n = k ∧ G x

theorem Opens.int {t : TypeId} {k : IntKind} (ht : P.underlying t = some (.int k)) : Opens enc P W t (fun x => .v (.int k x)) 1 (fun x => (Lit.int k x).wf = true) := by
  intro n cs y h _
  obtain ⟨x, rfl, rfl, hw⟩ := DataW.trod_int ht h
  exact ⟨x, .v rfl, rfl, hw⟩
theorem Opens.string {t : TypeId} (ht : P.underlying t = some .string) : Opens enc P W t sv 1 (fun s => s.size ≤ 140737488351232) := by
  intro n cs y h hw
  obtain ⟨s, rfl, rfl, _⟩ := DataW.trod_string ht h
  refine ⟨s, .v rfl, rfl, ?_⟩
  have := hw s.data.toList.length (by simp [DataW.weights])
  simpa [reachBytes] using this
theorem weightsAll_mem {e : TypeId} {d : DataW H} {m : Nat} : ∀ {l : List (DataW H)}, d ∈ l → m ∈ d.weights P e → m ∈ DataW.weightsAll P e l
  | a :: l, hd, hm => by
    rw [DataW.weightsAll, List.mem_append]
    rcases List.mem_cons.1 hd with rfl | hd
    · exact Or.inl hm
    · exact Or.inr (weightsAll_mem hd hm)
theorem Opens.slice {t e B k : Nat} {α : Type} {f : α → AV} {G : α → Prop} (ht : P.underlying t = some (.slice e)) (hz : P.cellsOf e = k) (hk : 0 < k) (hB : P.bytesOf e = B) (h : Opens enc P W e f k G) (z : α) :
    Opens enc P W t (fun xs : List α => .list false k (xs.map f)) 1 (fun xs => xs.length * B ≤ 140737488351232 ∧ ∀ x ∈ xs, G x) := by
  subst hB
  intro n cs y hy hw
  rcases Go.Deep.open_slice ht hy with ⟨rfl, rfl⟩ | ⟨a, len, cap, m, n', D, Pl, rfl, _, hl, hm, hmm, rfl, hx⟩
  · exact ⟨[], .nil (fun h => by cases h), rfl, by simp, by simp⟩
  · simp only [if_true] at hmm
    subst hmm
    have hD : ∀ i, i < len → ∀ k ∈ (D i).weights P e, k ≤ reachBytes := by
      intro i hi k hk
      refine hw k ?_
      simp only [DataW.weights, ht]
      refine List.mem_cons_of_mem _ (List.mem_append_left _ (weightsAll_mem (d := D i) ?_ hk))
      exact List.mem_map.2 ⟨i, List.mem_range.2 hi, rfl⟩
    have hex : ∀ i, i < len → ∃ x, ∃ cs', W.cells? 0 (a.add (i * P.cellsOf e)) (P.cellsOf e) = some cs' ∧ CR (Phi.all W) (f x) cs' ∧ (f x).n = k ∧ G x := by
      intro i hi
      obtain ⟨cs', h1, h2⟩ := hx i (by omega)
      obtain ⟨x, h3, h4, h5⟩ := h n' cs' _ h2 (hD i hi)
      exact ⟨x, cs', h1, h3, h4, h5⟩
    have hlen : len * P.bytesOf e ≤ 140737488351232 := by
      have := hw ((((List.range len).map D).length + ((List.range (m - len)).map fun j => D (len + j)).length) * P.bytesOf e) (by simp [DataW.weights, ht])
      simp only [List.length_map, List.length_range] at this
      refine Nat.le_trans (Nat.mul_le_mul_right _ (show len ≤ len + (m - len) by omega)) ?_
      simpa [reachBytes] using this
    have hch : ∃ x : Nat → α, ∀ i, i < len → ∃ cs', W.cells? 0 (a.add (i * P.cellsOf e)) (P.cellsOf e) = some cs' ∧ CR (Phi.all W) (f (x i)) cs' ∧ (f (x i)).n = k ∧ G (x i) := by
      haveI : Inhabited α := ⟨z⟩
      exact Go.Deep.choose_lt hex
    obtain ⟨x, hf⟩ := hch
    rw [hz] at hf
    have hlm : ((List.range len).map x).length = len := by simp
    have hxg : ∀ i, i < len → ((List.range len).map x)[i]? = some (x i) := fun i hi => by simp [hi]
    refine ⟨(List.range len).map x, ?_, rfl, by rw [hlm]; exact hlen, fun q hq => ?_⟩
    · by_cases h0 : len = 0
      · subst h0; exact .nil (fun h => by cases h)
      · -- the row that the slice lies in
        obtain ⟨c0, hc0, hcr0, _⟩ := hf 0 (by omega)
        obtain ⟨_, l0, g0⟩ := World.cells?_some hc0
        have hcell := g0 0 (by omega)
        rw [Nat.zero_mul] at hcell
        obtain ⟨hsp, cc, el, fz, hblk⟩ : a.spot = none ∧ ∃ cc el fz, W.heap[a.block]? = some (.cells cc el fz) := by
          have hc : ∃ v, W.cell? a = some v := by
            have hl0 : 0 < c0.length := by omega
            refine ⟨c0[0], ?_⟩
            have e1 : (a.add 0).add 0 = a := by simp [Addr.add]
            rw [e1] at hcell
            rw [hcell]
            exact List.getElem?_eq_getElem hl0
          obtain ⟨v, hv⟩ := hc
          simp only [World.cell?] at hv
          split at hv
          · rename_i cc el fz hb
            split at hv
            · cases hv
            · rename_i hs
              refine ⟨by simpa using hs, cc, el, fz, hb⟩
          · cases hv
        obtain ⟨β, o, sp⟩ := a
        simp only at hsp hblk
        subst hsp
        have hread : ∀ i, i < len → ∀ cs', W.cells? 0 (Addr.add ⟨β, o, none⟩ (i * k)) k = some cs' → cs'.length = k ∧ ∀ j, j < k → cc[o + i * k + j]? = cs'[j]? := by
          intro i hi cs' hcs'
          obtain ⟨_, h3, h4⟩ := World.cells?_some hcs'
          refine ⟨h3, fun j hj => ?_⟩
          have := h4 j hj
          rw [add_addr, add_addr, cell_at hblk] at this
          exact this
        let us : List Value := (cc.toList.drop o).take (len * k)
        have hus : ∀ j, j < len * k → us[j]? = cc[o + j]? := fun j hj => by
          simp only [us, List.getElem?_take, if_pos hj, List.getElem?_drop, Array.getElem?_toList]
        have hdiv : ∀ j, j < len * k → j / k < len := fun j hj => (Nat.div_lt_iff_lt_mul hk).2 hj
        have hull : us.length = len * k := by
          have hle : us.length ≤ len * k := by simp only [us, List.length_take]; omega
          by_cases hlt : us.length < len * k
          · exfalso
            obtain ⟨cs', q1, _⟩ := hf (us.length / k) (hdiv _ hlt)
            obtain ⟨q2, q3⟩ := hread _ (hdiv _ hlt) cs' q1
            have hmod := Nat.mod_lt us.length hk
            have := q3 (us.length % k) hmod
            have e : o + us.length / k * k + us.length % k = o + us.length := by
              have := Nat.div_add_mod us.length k
              rw [Nat.mul_comm] at this; omega
            rw [e, ← hus _ hlt, List.getElem?_eq_none (Nat.le_refl _)] at this
            rw [List.getElem?_eq_getElem (by omega)] at this
            cases this
          · omega
        have helem : ∀ i, i < len → ∀ cs', W.cells? 0 (Addr.add ⟨β, o, none⟩ (i * k)) k = some cs' → (us.drop (i * k)).take k = cs' := by
          intro i hi cs' hcs'
          obtain ⟨q2, q3⟩ := hread i hi cs' hcs'
          have hik : i * k + k ≤ len * k := by rw [← Nat.succ_mul]; exact Nat.mul_le_mul_right k hi
          apply List.ext_getElem?
          intro j
          simp only [List.getElem?_take, List.getElem?_drop]
          by_cases hj : j < k
          · rw [if_pos hj, hus _ (by omega), ← Nat.add_assoc]; exact q3 j hj
          · rw [if_neg hj, List.getElem?_eq_none (by omega)]
        refine .list (by simp; omega) (show (Phi.all W).obj β = _ from hblk) (fun h => by cases h) hl (by simp) (by simp [hull]) (fun i q hq => ?_) (fun i q hq => ?_) (us := us) (fun j u hj => ?_)
        · rw [List.getElem?_map] at hq
          have hi : i < len := by
            have := (List.getElem?_eq_some_iff.1 (show (((List.range len).map x).map f)[i]? = some q by rw [List.getElem?_map]; exact hq)).1
            simpa using this
          rw [hxg i hi] at hq; simp at hq; subst hq
          exact (hf i hi).choose_spec.2.2.1
        · rw [List.getElem?_map] at hq
          have hi : i < len := by
            have := (List.getElem?_eq_some_iff.1 (show (((List.range len).map x).map f)[i]? = some q by rw [List.getElem?_map]; exact hq)).1
            simpa using this
          rw [hxg i hi] at hq; simp at hq; subst hq
          obtain ⟨cs', q1, q2, _⟩ := hf i hi
          rw [helem i hi cs' q1]; exact q2
        · have hlt := (List.getElem?_eq_some_iff.1 hj).1
          rw [hus j (by omega)] at hj
          exact hj
    · obtain ⟨i, hi, rfl⟩ := List.mem_map.1 hq
      obtain ⟨_, _, _, _, hg⟩ := hf i (List.mem_range.1 hi)
      exact hg

/-- The fields (type and place) from place 'off' on. -/
def OpensF (enc : TypeId × Value → H) (P : Program) (W : World) (fs : List (TypeId × Nat)) (off : Nat) {α : Type} (f : α → List AV) (k : Nat) (G : α → Prop) : Prop :=
  ∀ n (cs : List Value) (xs : List (DataW H × List MemPlace)), xs.length = fs.length → (∀ (i : Nat) (g : TypeId × Nat), fs[i]? = some g → DataW.trod enc P W 0 (fun _ => true) true n g.1 ((cs.drop g.2).take (P.cellsOf g.1)) = xs[i]?) →
    cs.length = off + k → (∀ m ∈ DataW.weightsEach P (fs.map (·.1)) (xs.map (·.1)), m ≤ reachBytes) → ∃ x, CR (Phi.all W) (.agg (f x)) (cs.drop off) ∧ AV.nL (f x) = k ∧ G x
theorem CR.agg_cons {Φ : Phi} {e : AV} {fs : List AV} {us vs : List Value} (h : CR Φ e us) (h' : CR Φ (.agg fs) vs) : CR Φ (.agg (e :: fs)) (us ++ vs) := by
  have hl := h.length
  have hp := h.plain
  cases h' with
  | agg hu hpp hr =>
    refine .agg (by simp [AV.nL, hu, hl]) (by rw [List.all_append, hp, hpp]; rfl) fun i x hx => ?_
    cases i with
    | zero =>
      simp at hx; subst hx
      simp only [List.take_zero, AV.nL, List.drop_zero]
      rw [List.take_append_of_le_length (by omega), List.take_of_length_le (by omega)]; exact h
    | succ i =>
      simp only [List.getElem?_cons_succ] at hx
      simp only [List.take_succ_cons, AV.nL]
      rw [← hl, drop_add_append]; exact hr i x hx
theorem CR.agg_nil {Φ : Phi} : CR Φ (.agg []) [] := .agg rfl rfl (fun i x h => by simp at h)
theorem OpensF.one {t : TypeId} {off k : Nat} {α : Type} {f : α → AV} {G : α → Prop} (hz : P.cellsOf t = k) (h : Opens enc P W t f k G) : OpensF enc P W [(t, off)] off (fun x => [f x]) k G := by
  intro n cs xs hl hx hc hw
  match xs, hl with
  | [x], _ =>
    have h0 := hx 0 (t, off) rfl
    simp only at h0
    rw [hz, List.take_of_length_le (by simp; omega)] at h0
    obtain ⟨y, h1, h2, h3⟩ := h n _ x h0 (fun m hm => hw m (by simp [DataW.weightsEach, hm]))
    refine ⟨y, ?_, by simp [AV.nL, h2], h3⟩
    have := CR.agg_cons h1 CR.agg_nil
    rwa [List.append_nil] at this
theorem OpensF.cons {t : TypeId} {fs : List (TypeId × Nat)} {off o2 k k' : Nat} {α β : Type} {f : α → AV} {f' : β → List AV} {G : α → Prop} {G' : β → Prop} (hz : P.cellsOf t = k) (ho : o2 = off + k) (h : Opens enc P W t f k G) (h' : OpensF enc P W fs o2 f' k' G') :
    OpensF enc P W ((t, off) :: fs) off (fun x : α × β => f x.1 :: f' x.2) (k + k') (fun x => G x.1 ∧ G' x.2) := by
  subst ho
  intro n cs xs hl hx hc hw
  match xs, hl with
  | x :: xs, hl =>
    have h0 := hx 0 (t, off) rfl
    simp only at h0
    rw [hz] at h0
    obtain ⟨y, c0, n0, g0⟩ := h n _ x h0 (fun m hm => hw m (by simp [DataW.weightsEach, hm]))
    obtain ⟨y', c1, n1, g1⟩ := h' n cs xs (by simpa using hl) (fun i f' hf => by simpa using hx (i + 1) f' (by simpa using hf)) (by omega) (fun m hm => hw m (by
      simp only [List.map_cons, DataW.weightsEach, List.mem_append]
      exact Or.inr hm))
    refine ⟨(y, y'), ?_, by simp [AV.nL, n0, n1], g0, g1⟩
    have := CR.agg_cons c0 c1
    rwa [← List.drop_drop, List.take_append_drop] at this
theorem Opens.struct {t k : TypeId} {fs : Array Field} {ts : List (TypeId × Nat)} {α : Type} {f : α → List AV} {G : α → Prop} (ht : P.underlying t = some (.struct fs)) (hts : fs.toList.map (fun f => (f.type, f.offset)) = ts) (hz : P.cellsOf t = k) (h : OpensF enc P W ts 0 f k G) :
    Opens enc P W t (fun x => .agg (f x)) k G := by
  subst hts
  intro n cs y hy hw
  obtain ⟨xs, n', rfl, rfl, hl, hn, hx⟩ := DataW.trod_struct ht hy
  have := h n' cs xs (by simpa using hn) (fun i f hf => by
    rw [List.getElem?_map] at hf
    obtain ⟨f', hf', rfl⟩ := Option.map_eq_some_iff.1 hf
    exact hx i f' (by simpa using hf')) (by rw [hl, hz, Nat.zero_add]) (fun m hm => hw m (by simpa [DataW.weights, ht, Function.comp_def] using hm))
  simpa [AV.n] using this
theorem Opens.iso {t k : TypeId} {α β : Type} {f : α → AV} {f' : β → AV} {G : α → Prop} {G' : β → Prop} (g : α → β) (hfg : ∀ x, f' (g x) = f x) (hG : ∀ x, G x → G' (g x)) (h : Opens enc P W t f k G) : Opens enc P W t f' k G' := by
  intro n cs y hy hw
  obtain ⟨x, c, hn, hx⟩ := h n cs y hy hw
  exact ⟨g x, by rw [hfg]; exact c, by rw [hfg]; exact hn, hG x hx⟩
/-- A law's call, of an argument that can be read. -/
theorem law_calls {f : FuncId} {fs : List AV} {cs : Array Value} (h : Pure P f [.agg fs] (bv true)) (hc : CR (Phi.all W) (.agg fs) cs.toList) : Calls P f #[.agg cs] W fun e w' => e = .returned (.bool true) ∧ Below W.heap.size W w' := by
  refine Calls.mono (h (fun _ => none) (Phi.all W) W [.agg cs] (WR.all W) rfl fun i x u hx hu => ?_) ?_
  · cases i with
    | zero => simp at hx hu; subst hx; subst hu; exact ⟨cs.toList, hc, by simp⟩
    | succ i => simp at hx
  · rintro e w' ⟨y, σ', Φ', u, rfl, ⟨rfl, rfl⟩, hle, hW, hv⟩
    exact ⟨by rw [hv.vv], hW.below hle⟩
end
#print axioms law_calls
end Go.Proofs.Al
