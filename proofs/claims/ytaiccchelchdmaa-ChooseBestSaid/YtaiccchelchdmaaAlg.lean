/- An abstract layer over the walk of Go code, part 7: slices made and cut, strings and bytes, structs built. -/
import Derived.Test.YtaiccchelchdmaaAlf
namespace Go.Proofs.Al
open Go

theorem rep_get {zs : List Value} (hk : 0 < zs.length) : ∀ (m j : Nat), j < m * zs.length → ((List.replicate m zs).flatten)[j]? = zs[j % zs.length]?
  | 0, j, h => by simp at h
  | m + 1, j, h => by
    rw [List.replicate_succ, List.flatten_cons]
    by_cases hj : j < zs.length
    · rw [List.getElem?_append_left hj, Nat.mod_eq_of_lt hj]
    · rw [List.getElem?_append_right (by omega), rep_get hk m _ (by rw [Nat.succ_mul] at h; omega)]
      conv => rhs; rw [show j = (j - zs.length) + zs.length by omega, Nat.add_mod_right]
theorem zeros_at {z : Array Value} {m k : Nat} (hk : z.size = k) (h0 : 0 < k) : At ((Array.range (m * k)).map (z[· % z.size]!)) 0 (List.replicate m z.toList).flatten := by
  intro j u hj
  have hl : z.toList.length = k := by simpa using hk
  have hlen : (List.replicate m z.toList).flatten.length = m * k := by simp [hl]
  have hlt : j < m * k := by rw [← hlen]; exact (List.getElem?_eq_some_iff.1 hj).1
  rw [rep_get (by omega) m j (by rw [hl]; exact hlt)] at hj
  rw [Nat.zero_add]
  have h2 : j % k < z.size := by rw [hk]; exact Nat.mod_lt _ h0
  simp only [Array.getElem?_map, Array.getElem?_range, hlt, if_true, Option.map_some]
  rw [hl] at hj
  simp only [Array.getElem?_toList] at hj
  rw [hk, getElem!_pos z (j % k) h2, ← Array.getElem?_eq_getElem h2, hj]

section
variable {P : Program} {t : AT} {dst : Option Tmp} {ty : TypeId} {pos : String} {af : Array Edge} {g : Option (Nat × Bool)} {σ : AH} {K : AV → AH → Prop}

theorem A.makeSlice {x : Operand} {T : TypeId} {n : Int} {k by_ : Nat} {z : Value} (hx : t.ev x = some (.v (.int .i64 n))) (hT : slT P T = some (k, by_, z)) (h0 : 0 ≤ n) (hbig : n * by_ ≤ 70368744177664) (hb : 1 ≤ by_)
    (hf : flat z = true) (ht : notTup z = true) (hzk : z.cells.size = k) (hk0 : 0 < k) (hk : ∀ b, σ b = none → K (.ref b k 0 n.toNat) (σ.set b (.row k (List.replicate n.toNat (AV.const z))))) :
    AOp P ⟨dst, .makeSlice T x x, ty, pos, af, g⟩ t σ K := by
  refine .of_value fun Φ w ρ hW hO => ?_
  obtain ⟨b, hbn, hσ⟩ := hW.fresh
  have hxv := (hO x (by simp [Op.operands]) _ hx).vv
  obtain ⟨e, i, he, hi, hs, hby, hz⟩ := slT_spec hT
  have hsz : (P.info? e).map (·.size) = some k := by simp [hi, hs]
  have hnb : n ≤ 70368744177664 := by
    have : n * 1 ≤ n * by_ := Int.mul_le_mul_of_nonneg_left (by omega) h0
    omega
  have hwr : IntKind.i64.wrap n = n := by unfold IntKind.wrap; simp [IntKind.signed, IntKind.bits]; omega
  have htl : ¬ ((i.bytes : Int) * n > 2 ^ 48) := by rw [hby, Int.mul_comm]; omega
  have hc := (VR1.const (Φ := Φ) hf ht).cells
  obtain ⟨us, hr, hus⟩ := Row.rep hc n.toNat
  have hcn : (AV.const z).n = k := by rw [← hc.length]; simpa using hzk
  rw [hcn] at hr
  have hm : At ((Array.range (n.toNat * k)).map (z.cells[· % z.cells.size]!)) 0 us := by rw [hus]; exact zeros_at hzk hk0
  obtain ⟨h1, h2⟩ := hW.newOwn hbn _ e hr hm
  refine ⟨.slice (some ⟨w.heap.size, 0, none⟩) n.toNat n.toNat, _, _, _, _, ?_, hk b hσ, h1, h2, .of1 ?_⟩
  · have hneg : ¬ (n < 0) := by omega
    have hrun : (Instr.makeSlice T (.int .i64 n) (.int .i64 n)).run P w = .ok (.slice (some ⟨w.heap.size, 0, none⟩) n.toNat n.toNat) (w.alloc (.cells ((Array.range (n.toNat * k)).map (z.cells[· % z.cells.size]!)) e)) := by
      have hc1 : decide ((i.bytes : Int) * n > 2 ^ 48) = false := decide_eq_false htl
      have hc2 : decide (n > n) = false := decide_eq_false (by omega)
      simp only [Instr.makeSlice, Sem.run_bind, run_und he, Result.andThen_ok, asInt, asIntOf, Sem.run_pure, run_info hi, hwr, hc1, hc2, decide_eq_false hneg, Bool.or_self, Bool.false_or, Bool.or_false, Bool.false_eq_true, if_false, run_askRoom, run_size hsz]
      by_cases hn0 : n.toNat * k = 0
      · rw [if_pos hn0]
        have e1 : ∀ f : Nat → Value, (Array.range (n.toNat * k)).map f = #[] := fun f => by rw [hn0]; simp
        simp only [Sem.run_pure, Result.andThen_ok, newRow, Sem.run_bind, e1]
        rfl
      · rw [if_neg hn0]
        simp only [Sem.run_bind, run_zero hz, Sem.run_pure, Result.andThen_ok, newRow]
        rfl
    simp [execOp, hxv, hrun]
  · show CR _ _ _
    have := CR.ref (Φ := Φ.addOwn b (.row w.heap.size ((Array.range (n.toNat * k)).map (z.cells[· % z.cells.size]!)).size k)) (b := b) (off := 0) (len := n.toNat) (cap := n.toNat) (Phi.addOwn_self ..) (Nat.le_refl _) (by simp)
    rw [Nat.zero_mul] at this
    exact this

/-! Literals. -/
/-- The parts of a literal, one behind the other from i on. -/
def AT.parts (t : AT) : Nat → List (Nat × Operand) → List AV → Prop
  | _, [], [] => True
  | i, (j, x) :: r, y :: ys => j = i ∧ t.ev x = some y ∧ y.notTup = true ∧ AT.parts t (i + 1) r ys
  | _, _, _ => False
def cellsOf (ρ : Operand → Value) (ps : List (Nat × Operand)) : List Value := (ps.map fun p => (ρ p.2).cells.toList).flatten
theorem foldl_set (v : List Value) (off : Nat) : ∀ (j : Nat) (cs : Array Value), (v.zipIdx j).foldl (fun cs p => cs.setIfInBounds (off + p.2) p.1) cs = setAll cs (off + j) v := by
  induction v with
  | nil => intro j cs; rfl
  | cons x r ih => intro j cs; simp only [List.zipIdx_cons, List.foldl_cons, setAll]; rw [ih]; congr 1
theorem fill_parts {Φ : Phi} {ρ : Operand → Value} {k n : Nat} : ∀ (ps : List (Nat × Operand)) (ys : List AV) (i : Nat) (cs : Array Value), AT.parts t i ps ys → (∀ p ∈ ps, ∀ y, t.ev p.2 = some y → VR Φ y (ρ p.2)) → (∀ y ∈ ys, y.n = k) → cs.size = n → (i + ps.length) * k ≤ n →
    ∃ cs', Instr.fill (fun i => some (i * k, k)) cs (ps.map fun p => (p.1, ρ p.2)) = some cs' ∧ cs'.size = n ∧ Row Φ k ys (cellsOf ρ ps) ∧ At cs' (i * k) (cellsOf ρ ps) ∧ ∀ j, j < i * k → cs'[j]? = cs[j]?
  | [], [], i, cs, _, _, _, hs, _ => ⟨cs, rfl, hs, Row.nil .., fun j u h => by simp [cellsOf] at h, fun _ _ => rfl⟩
  | (j, x) :: r, y :: ys, i, cs, h, hv, hn, hs, hb => by
    obtain ⟨rfl, h1, h2, h3⟩ := h
    have hy := (hv (j, x) (by simp) y h1).to1 (AV.notTup_spec h2)
    have hc := hy.cells
    have hl := hc.length
    have hyn := hn y (by simp)
    have hsz : (ρ x).cells.size = k := by rw [← hyn, ← hl]; simp
    simp only [List.length_cons] at hb
    have hjk : j * k + k ≤ n := by
      have : (j + 1) * k ≤ (j + (r.length + 1)) * k := Nat.mul_le_mul_right k (by omega)
      rw [Nat.succ_mul] at this; omega
    obtain ⟨cs', f1, f2, f3, f4, f5⟩ := fill_parts (Φ := Φ) (ρ := ρ) (k := k) (n := n) r ys (j + 1) (setAll cs (j * k) (ρ x).cells.toList) h3 (fun p hp => hv p (by simp [hp])) (fun y hy => hn y (by simp [hy])) (by rw [setAll_size]; exact hs) (by rw [show j + 1 + r.length = j + (r.length + 1) by omega]; exact hb)
    refine ⟨cs', ?_, f2, ?_, ?_, fun q hq => ?_⟩
    · simp only [List.map_cons, Instr.fill, hsz]
      rw [if_neg (by simp; omega)]
      rw [← Array.foldl_toList, Array.toList_zipIdx, foldl_set, Nat.add_zero]
      exact f1
    · exact Row.cons hc hyn f3
    · intro q u hq
      rw [cellsOf, List.map_cons, List.flatten_cons] at hq
      have hkl : (ρ x).cells.toList.length = k := by simpa using hsz
      by_cases hqk : q < k
      · rw [List.getElem?_append_left (by omega)] at hq
        rw [f5 _ (by rw [Nat.succ_mul]; omega), setAll_get _ _ _ _ (by omega), if_pos (by omega)]
        rw [← hq]; congr 1; omega
      · rw [List.getElem?_append_right (by omega), hkl] at hq
        have := f4 _ _ hq
        rwa [Nat.succ_mul, show j * k + k + (q - k) = j * k + q by omega] at this
    · rw [f5 q (by rw [Nat.succ_mul]; omega), setAll_get _ _ _ _ (by simp; omega), if_neg (by omega)]
  | [], _ :: _, _, _, h, _, _, _, _ => h.elim
  | (_, _) :: _, [], _, _, h, _, _, _, _ => h.elim
theorem parts_len : ∀ (ps : List (Nat × Operand)) (ys : List AV) (i : Nat), AT.parts t i ps ys → ps.length = ys.length
  | [], [], _, _ => rfl
  | (_, _) :: r, _ :: ys, i, h => by simp [parts_len r ys _ h.2.2.2]
  | [], _ :: _, _, h => h.elim
  | (_, _) :: _, [], _, h => h.elim
theorem run_buildSlice {Φ : Phi} {w : World} {ρ : Operand → Value} {T : TypeId} {k by_ len : Nat} {z : Value} {ps : List (Nat × Operand)} {ys : List AV} (hT : slT P T = some (k, by_, z)) (hp : AT.parts t 0 ps ys) (hv : ∀ p ∈ ps, ∀ y, t.ev p.2 = some y → VR Φ y (ρ p.2))
    (hn : ∀ y ∈ ys, y.n = k) (hlen : ys.length = len) (hk : len * k ≤ 16777216) : ∃ e cs us, (Instr.buildSlice T len ((ps.map fun p => (p.1, ρ p.2)).toArray)).run P w = .ok (.slice (some ⟨w.heap.size, 0, none⟩) len len) (w.alloc (.cells cs e)) ∧ cs.size = len * k ∧ Row Φ k ys us ∧ At cs 0 us := by
  obtain ⟨e, i, he, hi, hs, hby, hz⟩ := slT_spec hT
  have hsz : (P.info? e).map (·.size) = some k := by simp [hi, hs]
  have hpl := parts_len _ _ _ hp
  have hk' : ¬ (16777216 < len * k) := by omega
  have main : ∀ zero : Array Value, ∃ cs', Instr.fill (fun i => some (i * k, k)) ((Array.range (len * k)).map (zero[· % zero.size]!)) (ps.map fun p => (p.1, ρ p.2)) = some cs' ∧ cs'.size = len * k ∧ Row Φ k ys (cellsOf ρ ps) ∧ At cs' 0 (cellsOf ρ ps) := fun zero => by
    obtain ⟨cs', f1, f2, f3, f4, _⟩ := fill_parts (Φ := Φ) (ρ := ρ) (k := k) (n := len * k) ps ys 0 ((Array.range (len * k)).map (zero[· % zero.size]!)) hp hv hn (by simp) (by rw [hpl, hlen]; simp)
    rw [Nat.zero_mul] at f4
    exact ⟨cs', f1, f2, f3, f4⟩
  by_cases h0 : len * k = 0
  · obtain ⟨cs', f1, f2, f3, f4⟩ := main #[]
    refine ⟨e, cs', _, ?_, f2, f3, f4⟩
    simp only [Instr.buildSlice, Sem.run_bind, run_und he, Result.andThen_ok, run_size hsz, gt_iff_lt]
    rw [if_neg (by simpa using hk'), if_pos h0]
    simp only [Sem.run_bind, Sem.run_pure, Result.andThen_ok, f1, newRow]
    rfl
  · obtain ⟨cs', f1, f2, f3, f4⟩ := main z.cells
    refine ⟨e, cs', _, ?_, f2, f3, f4⟩
    simp only [Instr.buildSlice, Sem.run_bind, run_und he, Result.andThen_ok, run_size hsz, gt_iff_lt]
    rw [if_neg (by simpa using hk'), if_neg h0]
    simp only [Sem.run_bind, run_zero hz, Sem.run_pure, Result.andThen_ok, f1, newRow]
    rfl
theorem D.lit {T : TypeId} {k by_ len : Nat} {z : Value} {ps : List (Nat × Operand)} {ys : List AV} (hT : slT P T = some (k, by_, z)) (hp : AT.parts t 0 ps ys) (hn : ys.all (fun y => y.n == k) = true) (hlen : ys.length = len) (hk : len * k ≤ 16777216) :
    Det P ⟨dst, .buildSlice T len ps.toArray, ty, pos, af, g⟩ t (.list true k ys) := by
  intro σ
  refine .of_value fun Φ w ρ hW hO => ?_
  obtain ⟨e, cs, us, h1, h2, h3, h4⟩ := run_buildSlice (P := P) (Φ := Φ) (w := w) (ρ := ρ) hT hp (fun p hp' y hy => hO p.2 (by simp [Op.operands]; exact ⟨p.1, hp'⟩) y hy) (fun y hy => by simpa using List.all_eq_true.1 hn y hy) hlen hk
  obtain ⟨k1, k2, k3⟩ := hW.newObj (.cells cs e)
  refine ⟨_, _, _, _, _, ?_, ⟨rfl, rfl⟩, k1, k2, .of1 (u := .slice (some ⟨w.heap.size, 0, none⟩) len len) ?_⟩
  · simp only [execOp, Sem.run_bind, List.map_toArray]
    rw [h1]; rfl
  · show CR _ _ _
    cases ys with
    | nil => simp at hlen; subst hlen; exact CR.nil (fun _ => rfl)
    | cons y ys => exact CR.list (by simp) k3 (fun _ => rfl) (Nat.le_refl _) hlen (h3.mono k1).1 (h3.mono k1).2.1 (h3.mono k1).2.2 h4
theorem A.lit {T : TypeId} {k by_ len : Nat} {z : Value} {ps : List (Nat × Operand)} {ys : List AV} (hT : slT P T = some (k, by_, z)) (hp : AT.parts t 0 ps ys) (hn : ys.all (fun y => y.n == k) = true) (hlen : ys.length = len) (hk : len * k ≤ 16777216)
    (hK : ∀ b, σ b = none → K (.ref b k 0 len) (σ.set b (.row k ys))) : AOp P ⟨dst, .buildSlice T len ps.toArray, ty, pos, af, g⟩ t σ K := by
  refine .of_value fun Φ w ρ hW hO => ?_
  obtain ⟨b, hbn, hσ⟩ := hW.fresh
  obtain ⟨e, cs, us, h1, h2, h3, h4⟩ := run_buildSlice (P := P) (Φ := Φ) (w := w) (ρ := ρ) hT hp (fun p hp' y hy => hO p.2 (by simp [Op.operands]; exact ⟨p.1, hp'⟩) y hy) (fun y hy => by simpa using List.all_eq_true.1 hn y hy) hlen hk
  obtain ⟨k1, k2⟩ := hW.newOwn hbn cs e h3 h4
  refine ⟨_, _, _, _, _, ?_, hK b hσ, k1, k2, .of1 (u := .slice (some ⟨w.heap.size, 0, none⟩) len len) ?_⟩
  · simp only [execOp, Sem.run_bind, List.map_toArray]
    rw [h1]; rfl
  · show CR _ _ _
    have := CR.ref (Φ := Φ.addOwn b (.row w.heap.size cs.size k)) (b := b) (off := 0) (len := len) (cap := len) (Phi.addOwn_self ..) (Nat.le_refl _) (by rw [h2, Nat.zero_add]; exact Nat.le_refl _)
    rw [Nat.zero_mul] at this
    exact this

/-! Slices cut. -/
def optInt (t : AT) : Option Operand → Nat → Nat → Prop
  | none, d, n => n = d
  | some x, _, n => ∃ k, t.ev x = some (.v (.int k (n : Int)))
theorem run_bounds {w : World} {Φ : Phi} {ρ : Operand → Value} {isS : Bool} {len cap l h : Nat} {lo hi : Option Operand} (hlo : optInt t lo 0 l) (hhi : optInt t hi len h) (hlh : l ≤ h) (hhc : h ≤ len) (hlen : len ≤ cap)
    (hv : ∀ x, lo = some x ∨ hi = some x → ∀ y, t.ev x = some y → VR Φ y (ρ x)) : (Instr.sliceBounds isS len cap (lo.map ρ) (hi.map ρ) none).run P w = .ok (l, h, cap) w := by
  have h1 : ∀ (x : Operand) (k : IntKind) (n c : Nat) (cd : BoundsCode), t.ev x = some (.v (.int k (n : Int))) → (lo = some x ∨ hi = some x) → n ≤ c → (Instr.sliceBound (ρ x) c cd).run P w = .ok n w := fun x k n c cd hx ho hn => by
    have := (hv x ho _ hx).vv
    simp [Instr.sliceBound, this, asIntOf, hn]
  cases lo with
  | none =>
    cases hi with
    | none => simp only [optInt] at hlo hhi; subst hlo; subst hhi; simp [Instr.sliceBounds]
    | some y =>
      obtain ⟨k, hy⟩ := hhi
      simp only [optInt] at hlo; subst hlo
      simp [Instr.sliceBounds, h1 y k h cap _ hy (.inr rfl) (by omega)]
  | some x =>
    obtain ⟨k, hx⟩ := hlo
    cases hi with
    | none => simp only [optInt] at hhi; subst hhi; simp [Instr.sliceBounds, h1 x k l h _ hx (.inl rfl) hlh]
    | some y =>
      obtain ⟨k', hy⟩ := hhi
      simp [Instr.sliceBounds, h1 y k' h cap _ hy (.inr rfl) (by omega), h1 x k l h _ hx (.inl rfl) hlh]
theorem cut_ops {x : Operand} {lo hi : Option Operand} {T : TypeId} (y : Operand) (h : lo = some y ∨ hi = some y) : y ∈ (Op.slice T x lo hi none).operands := by
  cases lo <;> cases hi <;> simp_all [Op.operands]
  rcases h with h | h <;> simp [h]
theorem D.cut_i {x : Operand} {T : TypeId} {lo hi : Option Operand} {c : Bool} {k l h : Nat} {es xs : List AV} (hx : t.ev x = some (.list c k es)) (hlo : optInt t lo 0 l) (hhi : optInt t hi es.length h) (hlh : l ≤ h) (hh : h ≤ es.length)
    (hxs : (es.drop l).take (h - l) = xs) (hT : elT P T = some k) : Det P ⟨dst, .slice T x lo hi none, ty, pos, af, g⟩ t (.list false k xs) := by
  subst hxs
  refine .of_run fun Φ w ρ hobj hO => ?_
  obtain ⟨e, he, hk⟩ := elT_spec hT
  have hv : ∀ y, lo = some y ∨ hi = some y → ∀ z, t.ev y = some z → VR Φ z (ρ y) := fun y hy z hz => hO y (cut_ops y hy) z hz
  rcases (hO x (by simp [Op.operands]) _ hx).list with ⟨rfl, A, cap, hA, _⟩ | ⟨hne, β, o, cap, us, cs, el, fz, hA, _, hcap, hΦ, hr, hm⟩
  · have hl0 : l = 0 := by simp at hh; omega
    have hh0 : h = 0 := by simpa using hh
    subst hl0; subst hh0
    have hb : (Instr.sliceBounds true 0 cap (lo.map ρ) (hi.map ρ) none).run P w = .ok (0, 0, cap) w := run_bounds (P := P) (w := w) (isS := true) (cap := cap) hlo hhi hlh hh (by simp) hv
    refine ⟨.slice (if cap = 0 then A else A.map (·.add (0 * k))) 0 cap, ?_, .of1 ?_⟩
    · have : (Instr.sliceAt T (ρ x) (lo.map ρ) (hi.map ρ) none).run P w = .ok (.slice (if cap = 0 then A else A.map (·.add (0 * k))) 0 cap) w := by
        simp only [Instr.sliceAt, Sem.run_bind, run_und he, Result.andThen_ok, Instr.slice, hA, hb, run_size hk, Sem.run_pure]
        simp
      simp only [execOp, Option.map_none, Sem.run_bind, this]; rfl
    · show CR _ _ _
      simp only [List.drop_nil, List.take_nil]
      exact CR.nil (fun h => by cases h)
  · have hb := run_bounds (P := P) (w := w) (isS := true) (cap := cap) hlo hhi hlh hh hcap hv
    have hrun : (Instr.sliceAt T (ρ x) (lo.map ρ) (hi.map ρ) none).run P w = .ok (.slice (if cap = l then some ⟨β, o, none⟩ else some ⟨β, o + l * k, none⟩) (h - l) (cap - l)) w := by
      simp only [Instr.sliceAt, Sem.run_bind, run_und he, Result.andThen_ok, Instr.slice, hA, hb, run_size hk, Sem.run_pure, Option.map_some, add_addr]
    refine ⟨_, by simp only [execOp, Option.map_none, Sem.run_bind, hrun]; rfl, .of1 ?_⟩
    show CR _ _ _
    have hr' := (hr.drop l).take (h - l)
    have hlen : ((es.drop l).take (h - l)).length = h - l := by simp; omega
    by_cases hxs : (es.drop l).take (h - l) = []
    · rw [hxs] at hlen ⊢
      rw [← hlen]
      exact CR.nil (fun h => by cases h)
    · have hpos : 0 < h - l := by have := List.length_pos_iff.2 hxs; omega
      rw [if_neg (by omega)]
      have hmm := (hm.drop (l * k)).take ((h - l) * k)
      exact CR.list hxs hΦ (fun h => by cases h) (by omega) hlen hr'.1 hr'.2.1 hr'.2.2 hmm
theorem D.cut_r {x : Operand} {T : TypeId} {lo hi : Option Operand} {b k off len l h : Nat} (hx : t.ev x = some (.ref b k off len)) (hlo : optInt t lo 0 l) (hhi : optInt t hi len h) (hlh : l ≤ h) (hh : h ≤ len)
    (hT : elT P T = some k) {o' n' : Nat} (ho : off + l = o') (hn : h - l = n') : Det P ⟨dst, .slice T x lo hi none, ty, pos, af, g⟩ t (.ref b k o' n') := by
  subst ho; subst hn
  refine .of_run fun Φ w ρ hobj hO => ?_
  obtain ⟨e, he, hk⟩ := elT_spec hT
  have hv : ∀ y, lo = some y ∨ hi = some y → ∀ z, t.ev y = some z → VR Φ z (ρ y) := fun y hy z hz => hO y (cut_ops y hy) z hz
  rcases (hO x (by simp [Op.operands]) _ hx).ref with ⟨l0, A, hown, rfl, hA⟩ | ⟨β, sz, cap, hown, hA, hcap, hsz⟩
  · have hl0 : l = 0 := by omega
    have hh0 : h = 0 := by omega
    subst hl0; subst hh0
    have hb := run_bounds (P := P) (w := w) (isS := true) (cap := 0) hlo hhi hlh hh (by simp) hv
    refine ⟨.slice A 0 0, ?_, .of1 (CR.refz hown)⟩
    have : (Instr.sliceAt T (ρ x) (lo.map ρ) (hi.map ρ) none).run P w = .ok (.slice A 0 0) w := by
      simp only [Instr.sliceAt, Sem.run_bind, run_und he, Result.andThen_ok, Instr.slice, hA, hb, run_size hk, Sem.run_pure]
      simp
    simp only [execOp, Option.map_none, Sem.run_bind, this]; rfl
  · have hb := run_bounds (P := P) (w := w) (isS := true) (cap := cap) hlo hhi hlh hh hcap hv
    have hrun : (Instr.sliceAt T (ρ x) (lo.map ρ) (hi.map ρ) none).run P w = .ok (.slice (if cap = l then some ⟨β, off * k, none⟩ else some ⟨β, off * k + l * k, none⟩) (h - l) (cap - l)) w := by
      simp only [Instr.sliceAt, Sem.run_bind, run_und he, Result.andThen_ok, Instr.slice, hA, hb, run_size hk, Sem.run_pure, Option.map_some, add_addr]
    refine ⟨_, by simp only [execOp, Option.map_none, Sem.run_bind, hrun]; rfl, .of1 ?_⟩
    show CR _ _ _
    by_cases hcl : cap = l
    · rw [if_pos hcl, show h - l = 0 by omega, show cap - l = 0 by omega]
      exact CR.refz hown
    · rw [if_neg hcl, ← Nat.add_mul]
      exact CR.ref hown (by omega) (by rw [show off + l + (cap - l) = off + cap by omega]; exact hsz)
theorem D.cut_s {x : Operand} {T : TypeId} {lo hi : Option Operand} {l h : Nat} {s r : ByteArray} (hx : t.ev x = some (.v (.string s))) (hlo : optInt t lo 0 l) (hhi : optInt t hi s.size h) (hlh : l ≤ h) (hh : h ≤ s.size)
    (hr : s.extract l h = r) (hT : isStr P T = true) : Det P ⟨dst, .slice T x lo hi none, ty, pos, af, g⟩ t (.v (.string r)) := by
  subst hr
  refine .of_run fun Φ w ρ hobj hO => ?_
  have hv : ∀ y, lo = some y ∨ hi = some y → ∀ z, t.ev y = some z → VR Φ z (ρ y) := fun y hy z hz => hO y (cut_ops y hy) z hz
  have hA := (hO x (by simp [Op.operands]) _ hx).vv
  have hb := run_bounds (P := P) (w := w) (isS := false) (cap := s.size) hlo hhi hlh hh (Nat.le_refl _) hv
  have hrun : (Instr.sliceAt T (ρ x) (lo.map ρ) (hi.map ρ) none).run P w = .ok (.string (s.extract l h)) w := by
    simp [Instr.sliceAt, run_und (isStr_spec hT), Instr.slice, hA, hb]
  exact ⟨_, by simp only [execOp, Option.map_none, Sem.run_bind, hrun]; rfl, .of1 (CR.v rfl)⟩
/-- s[:0:0] of a slice. -/
theorem D.cut0 {x a b : Operand} {T : TypeId} {c : Bool} {k : Nat} {es : List AV} {ka kb : IntKind} (hx : t.ev x = some (.list c k es)) (ha : t.ev a = some (.v (.int ka 0))) (hb : t.ev b = some (.v (.int kb 0))) (hT : elT P T = some k) :
    Det P ⟨dst, .slice T x none (some a) (some b), ty, pos, af, g⟩ t (.list true k []) := by
  refine .of_run fun Φ w ρ hobj hO => ?_
  obtain ⟨e, he, hk⟩ := elT_spec hT
  have h1 := (hO a (by simp [Op.operands]) _ ha).vv
  have h2 := (hO b (by simp [Op.operands]) _ hb).vv
  obtain ⟨A, len, cap, hA⟩ : ∃ A len cap, ρ x = .slice A len cap := by
    rcases (hO x (by simp [Op.operands]) _ hx).list with ⟨_, A, cap, hA, _⟩ | ⟨_, β, o, cap, _, _, _, _, hA, _⟩ <;> exact ⟨_, _, _, hA⟩
  have hrun : ∃ B, (Instr.sliceAt T (ρ x) none (some (ρ a)) (some (ρ b))).run P w = .ok (.slice B 0 0) w := by
    exact ⟨A, by simp [Instr.sliceAt, run_und he, Instr.slice, hA, Instr.sliceBounds, Instr.sliceBound, h1, h2, asIntOf, run_size hk]⟩
  obtain ⟨B, hB⟩ := hrun
  exact ⟨_, by simp only [execOp, Option.map_none, Option.map_some, Sem.run_bind, hB]; rfl, .of1 (CR.nil (fun _ => rfl))⟩

/-! Strings and bytes. -/
theorem D.index_s {x i : Operand} {T : TypeId} {s : ByteArray} {k : IntKind} {iv : Int} {c : UInt8} (hx : t.ev x = some (.v (.string s))) (hi : t.ev i = some (.v (.int k iv))) (h0 : 0 ≤ iv) (hc : s[iv.toNat]? = some c) (hT : isStr P T = true) :
    Det P ⟨dst, .index T x i, ty, pos, af, g⟩ t (.v (.int .u8 c.toNat)) := by
  refine .of_run fun Φ w ρ hobj hO => ⟨.int .u8 c.toNat, ?_, .of1 (CR.v rfl)⟩
  have h1 := (hO x (by simp [Op.operands]) _ hx).vv
  have h2 := (hO i (by simp [Op.operands]) _ hi).vv
  have : (Instr.index T (.string s) (.int k iv)).run P w = .ok (.int .u8 c.toNat) w := by
    simp [Instr.index, asIntOf, run_und (isStr_spec hT), h0, hc]
  simp [execOp, h1, h2, this]
def avBytes (l : List UInt8) : List AV := l.map fun c => .v (.int .u8 c.toNat)
theorem Row.ints {Φ : Phi} {α : Type} (f : α → Value) (hf : ∀ a, Al.plain (f a) = true) : ∀ l : List α, Row Φ 1 (l.map fun a => .v (f a)) (l.map f)
  | [] => Row.nil ..
  | a :: l => by
    exact Row.cons (k := 1) (CR.v (Φ := Φ) (hf a)) rfl (Row.ints f hf l)
/-- A slice of bytes. -/
def isBs (P : Program) (T : TypeId) : Bool :=
  match P.underlying T with
  | some (.slice e) => match P.underlying e with
    | some (.int .u8) => true
    | _ => false
  | _ => false
theorem isBs_spec {T : TypeId} (h : isBs P T = true) : ∃ e, P.underlying T = some (.slice e) ∧ P.underlying e = some (.int .u8) := by
  unfold isBs at h
  split at h
  · rename_i e he
    split at h
    · exact ⟨e, he, by assumption⟩
    · cases h
  · cases h
theorem A.conv_sb {x : Operand} {S T : TypeId} {s : ByteArray} (hx : t.ev x = some (.v (.string s))) (hS : isStr P S = true) (hT : isBs P T = true)
    (hk : ∀ b, σ b = none → K (.ref b 1 0 s.size) (σ.set b (.row 1 (avBytes s.data.toList)))) : AOp P ⟨dst, .convert S T x, ty, pos, af, g⟩ t σ K := by
  refine .of_value fun Φ w ρ hW hO => ?_
  have hS := isStr_spec hS
  obtain ⟨e, hT, he⟩ := isBs_spec hT
  have h1 := (hO x (by simp [Op.operands]) _ hx).vv
  obtain ⟨b, hbn, hσ⟩ := hW.fresh
  have hWd : WR Φ σ w.drew := hW.heapEq rfl rfl rfl rfl
  obtain ⟨nc, hnc, hcut⟩ : ∃ nc, s.size ≤ nc ∧ (choose (.appendCap s.size 0 e)).run P w = .ok nc w.drew := ⟨_, cut_appendCap, rfl⟩
  let cells : Array Value := (s.data.map fun b => Value.int .u8 b.toNat) ++ Array.replicate (nc - s.size) (.int .u8 0)
  have hsz : s.data.size = s.size := rfl
  have hcs : cells.size = nc := by simp only [cells, Array.size_append, Array.size_map, Array.size_replicate, hsz]; omega
  have hr : Row Φ 1 (avBytes s.data.toList) (s.data.toList.map fun b => Value.int .u8 b.toNat) := Row.ints _ (fun _ => rfl) _
  have hm : At cells 0 (s.data.toList.map fun b => Value.int .u8 b.toNat) := by
    intro j u hj
    have hlt := (List.getElem?_eq_some_iff.1 hj).1
    rw [Nat.zero_add, Array.getElem?_append_left (by simpa using hlt)]
    simpa using hj
  obtain ⟨k1, k2⟩ := hWd.newOwn hbn cells e hr hm
  have hown : (Φ.addOwn b (.row w.drew.heap.size cells.size 1)).own b = some (.row w.drew.heap.size cells.size 1) := Phi.addOwn_self ..
  have hσb : (σ.set b (.row 1 (avBytes s.data.toList))) b = some (.row 1 (avBytes s.data.toList)) := AH.set_self ..
  have hfz : ∀ i, i < cells.size → ¬ (((cells.size, cells.size + 1) : Nat × Nat).1 ≤ i ∧ i < ((cells.size, cells.size + 1) : Nat × Nat).2) := fun i hi => by simp; omega
  have hw2 := k2.write (fz := (cells.size, cells.size + 1)) (el := e) hown hσb hfz rfl (hr.mono k1) hm
  have hset : (σ.set b (.row 1 (avBytes s.data.toList))).set b (.row 1 (avBytes s.data.toList)) = σ.set b (.row 1 (avBytes s.data.toList)) := by
    funext c; simp only [AH.set]; split <;> rfl
  rw [hset] at hw2
  refine ⟨.slice (some ⟨w.drew.heap.size, 0, none⟩) s.size nc, _, _, _, _, ?_, hk b hσ, k1, hw2, .of1 ?_⟩
  · have hfr : (markStringish ⟨w.drew.heap.size, 0, none⟩).run P (w.drew.alloc (.cells cells e)) = .ok () (setBlk (w.drew.alloc (.cells cells e)) w.drew.heap.size (.cells cells e (cells.size, cells.size + 1))) := by
      have hsh : (w.drew.alloc (.cells cells e)).shape? w.drew.heap.size = some (e, cells.size) := by
        simp only [World.shape?, push_new]
      have hfreeze : (w.drew.alloc (.cells cells e)).freeze ⟨w.drew.heap.size, cells.size, none⟩ 1 = setBlk (w.drew.alloc (.cells cells e)) w.drew.heap.size (.cells cells e (cells.size, cells.size + 1)) := by
        simp only [World.freeze, setBlk]
        rw [if_neg (by decide)]
        congr 1
        apply Array.ext_getElem?
        intro i
        have hlt : w.drew.heap.size < (w.drew.alloc (.cells cells e)).heap.size := by show _ < (w.drew.heap.push _).size; simp
        by_cases hi : w.drew.heap.size = i
        · subst hi
          rw [Array.getElem?_modify, if_pos rfl, push_new, Array.getElem?_setIfInBounds_self_of_lt hlt]
          rfl
        · rw [Array.getElem?_modify, if_neg hi, Array.getElem?_setIfInBounds_ne hi]
      simp only [markStringish, shape, Sem.run_bind, Sem.run, hsh, Result.andThen_ok, freeze, hfreeze]
    have : (Conv.stringToBytes e s).run P w = .ok (.slice (some ⟨w.drew.heap.size, 0, none⟩) s.size nc) (setBlk (w.drew.alloc (.cells cells e)) w.drew.heap.size (.cells cells e (cells.size, cells.size + 1))) := by
      simp only [Conv.stringToBytes, Sem.run_bind, hcut, Result.andThen_ok, newRow, Sem.run_pure]
      show ((markStringish ⟨w.drew.heap.size, 0, none⟩).run P (w.drew.alloc (.cells cells e))).andThen _ = _
      rw [hfr]; rfl
    simp [execOp, h1, convert, run_und hS, run_und hT, run_und he, this]
  · show CR _ _ _
    have := CR.ref (Φ := Φ.addOwn b (.row w.drew.heap.size cells.size 1)) (b := b) (off := 0) (len := s.size) (cap := nc) hown hnc (by rw [hcs]; omega)
    rw [Nat.zero_mul] at this
    exact this
end
#print axioms A.conv_sb
end Go.Proofs.Al
