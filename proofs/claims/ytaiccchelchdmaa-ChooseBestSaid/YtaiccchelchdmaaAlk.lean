/- An abstract layer over the walk of Go code, part 11: rows of things of one kind; what is left of the operations. -/
import Derived.Test.YtaiccchelchdmaaAlj
namespace Go.Proofs.Al
open Go

abbrev iv (x : Int) : AV := .v (.int .i64 x)
abbrev bv (x : Bool) : AV := .v (.bool x)
abbrev sv (x : ByteArray) : AV := .v (.string x)
abbrev ints (l : List Int) : AV := .list false 1 (l.map iv)
abbrev rowI (l : List Int) : Blk := .row 1 (l.map iv)

theorem w64 {x : Int} (h : -9223372036854775808 ≤ x) (h' : x ≤ 9223372036854775807) : IntKind.i64.wrap x = x := by
  unfold IntKind.wrap; simp [IntKind.signed, IntKind.bits]; omega

section
variable {P : Program} {t : AT} {dst : Option Tmp} {ty : TypeId} {pos : String} {af : Array Edge} {g : Option (Nat × Bool)} {σ : AH} {K : AV → AH → Prop} {α : Type} {f : α → AV}

theorem D.len_m {x : Operand} {T : TypeId} {c : Bool} {k : Nat} {l : List α} (hx : t.ev x = some (.list c k (l.map f))) (hT : isSl P T = true) :
    Det P ⟨dst, .call ⟨.builtin .len, #[x], #[T]⟩, ty, pos, af, g⟩ t (.v (.int .i64 l.length)) := D.len_i hx (List.length_map _) hT
theorem D.idx_m {x i : Operand} {T : TypeId} {c : Bool} {k : Nat} {l : List α} {kd : IntKind} {j : Int} {v : α} (hx : t.ev x = some (.list c k (l.map f))) (hi : t.ev i = some (.v (.int kd j))) (h0 : 0 ≤ j) (hv : l[j.toNat]? = some v)
    (hT : elT P T = some k) : Det P ⟨dst, .indexAddr T x i, ty, pos, af, g⟩ t (.iptr (f v)) := D.index_i hx hi h0 (by rw [List.getElem?_map, hv]; rfl) hT
theorem D.load_m {x : Operand} {T : TypeId} {b j o k : Nat} {path : List Nat} {l : List α} {v : α} {y : AV} (hx : t.ev x = some (.ptr b j path o)) (hv : l[j]? = some v) (hp : AV.part (f v) path = some (o, y))
    (hT : szT P T = some (y.isAgg, y.n)) : DetOn P b (.row k (l.map f)) ⟨dst, .load T x, ty, pos, af, g⟩ t y := D.load_p hx (by rw [List.getElem?_map, hv]; rfl) hp hT
theorem A.store_m {x q : Operand} {T : TypeId} {b j k : Nat} {l : List α} {v : α} (hx : t.ev x = some (.ptr b j [] 0)) (hq : t.ev q = some (f v)) (hσ : σ b = some (.row k (l.map f))) (hj : j < l.length) (hn : ∀ a ∈ l, (f v).n = (f a).n)
    (ht : (f v).notTup = true) (hT : (P.info? T).map (·.size) = some (f v).n) (hk : K (.tup []) (σ.set b (.row k ((l.set j v).map f)))) : AOp P ⟨dst, .store T x q, ty, pos, af, g⟩ t σ K := by
  refine A.store (old := f l[j]) (e := f l[j]) hx hq hσ (by rw [List.getElem?_map, List.getElem?_eq_getElem hj]; rfl) rfl (hn _ (List.getElem_mem hj)) ht hT ?_
  simp only [AV.upd, ← List.map_set]
  exact hk
/-- An element of an own row. -/
theorem D.idx_r {x i : Operand} {T : TypeId} {b k len : Nat} {kd : IntKind} {j : Nat} (hx : t.ev x = some (.ref b k 0 len)) (hi : t.ev i = some (.v (.int kd (j : Int)))) (h1 : j < len) (hT : elT P T = some k) :
    Det P ⟨dst, .indexAddr T x i, ty, pos, af, g⟩ t (.ptr b j [] 0) := D.index_r hx hi (by omega) (by omega) (by simp) hT
theorem A.append_m {x s : Operand} {T T2 : TypeId} {b k by_ : Nat} {l l' : List α} {z : Value} (hs : t.ev s = some (.ref b k 0 l.length)) (hσ : σ b = some (.row k (l.map f))) (hx : Src t σ x k (l'.map f))
    (hT : slT P T = some (k, by_, z)) (hT2 : srcT P T2 = true) (hbig : (l.length + l'.length) * by_ ≤ 70368744177664) (hb : 1 ≤ by_ ∧ by_ ≤ 1000) (hzk : z.cells.size = k)
    (hk : ∀ b', σ b' = none → K (.ref b' k 0 (l ++ l').length) ((σ.del b).set b' (.row k ((l ++ l').map f)))) : AOp P ⟨dst, .call ⟨.builtin .append, #[s, x], #[T, T2]⟩, ty, pos, af, g⟩ t σ K := by
  refine A.append hs hσ (by simp) hx hT hT2 (by simpa using hbig) hb hzk fun b' hb' => ?_
  have := hk b' hb'
  simp only [List.length_append, List.length_map, List.map_append] at this ⊢
  rw [List.take_of_length_le (by simp)]
  exact this
theorem A.append1 {x s : Operand} {T T2 : TypeId} {b k by_ : Nat} {c : Bool} {l : List α} {v : α} {z : Value} (hs : t.ev s = some (.ref b k 0 l.length)) (hσ : σ b = some (.row k (l.map f))) (hx : t.ev x = some (.list c k [f v]))
    (hT : slT P T = some (k, by_, z)) (hT2 : srcT P T2 = true) (hbig : (l.length + 1) * by_ ≤ 70368744177664) (hb : 1 ≤ by_ ∧ by_ ≤ 1000) (hzk : z.cells.size = k)
    (hk : ∀ b', σ b' = none → K (.ref b' k 0 (l ++ [v]).length) ((σ.del b).set b' (.row k ((l ++ [v]).map f)))) : AOp P ⟨dst, .call ⟨.builtin .append, #[s, x], #[T, T2]⟩, ty, pos, af, g⟩ t σ K :=
  A.append_m (l' := [v]) hs hσ (.list hx) hT hT2 hbig hb hzk hk
theorem A.make_m {x : Operand} {T : TypeId} {m k by_ : Nat} {z : Value} {v : α} (hx : t.ev x = some (.v (.int .i64 (m : Int)))) (hT : slT P T = some (k, by_, z)) (hbig : m * by_ ≤ 70368744177664) (hb : 1 ≤ by_)
    (hf : flat z = true) (ht : notTup z = true) (hzk : z.cells.size = k) (hk0 : 0 < k) (hv : f v = AV.const z) (hk : ∀ b, σ b = none → K (.ref b k 0 m) (σ.set b (.row k ((List.replicate m v).map f)))) :
    AOp P ⟨dst, .makeSlice T x x, ty, pos, af, g⟩ t σ K := by
  refine A.makeSlice hx hT (by omega) ?_ hb hf ht hzk hk0 fun b hbn => ?_
  · have : ((m * by_ : Nat) : Int) ≤ 70368744177664 := by omega
    simpa using this
  · have := hk b hbn
    rw [List.map_replicate, hv] at this
    simpa using this

theorem p0 {i : Nat} : AT.parts t i [] [] := trivial
theorem pc {i : Nat} {x : Operand} {y : AV} {r : List (Nat × Operand)} {ys : List AV} (h : t.ev x = some y) (hn : y.notTup = true) (k : AT.parts t (i + 1) r ys) : AT.parts t i ((i, x) :: r) (y :: ys) := ⟨rfl, h, hn, k⟩

/-! Bools. -/
theorem run_eqB {w : World} {xt : TypeId} (hu : P.underlying xt = some .bool) (a b : Bool) : (Op.equal xt (.bool a) (.bool b)).run P w = .ok (a == b) w := by
  have h : ∀ m, (Op.equalIn (m + 1) xt (.bool a) (.bool b)).run P w = .ok (a == b) w := fun m => by
    simp only [Op.equalIn, Sem.run_bind, run_und hu, Result.andThen_ok, Sem.run_pure]
  exact h 9999
def isBool (P : Program) (T : TypeId) : Bool :=
  match P.underlying T with
  | some .bool => true
  | _ => false
theorem isBool_spec {T : TypeId} (h : isBool P T = true) : P.underlying T = some .bool := by
  unfold isBool at h
  split at h
  · assumption
  · cases h
theorem D.eqlB {x y : Operand} {xt yt : TypeId} {a b c : Bool} (hx : t.ev x = some (.v (.bool a))) (hy : t.ev y = some (.v (.bool b))) (hr : (a == b) = c) (hT : isBool P xt = true) :
    Det P ⟨dst, .binOp .eql xt x y yt, ty, pos, af, g⟩ t (.v (.bool c)) := by
  subst hr
  exact D.bin2 hx hy (fun w => ⟨rfl, by simp only [binOp, Sem.run_bind, run_eqB (isBool_spec hT), Result.andThen_ok, Sem.run_pure]⟩) rfl
theorem D.neqB {x y : Operand} {xt yt : TypeId} {a b c : Bool} (hx : t.ev x = some (.v (.bool a))) (hy : t.ev y = some (.v (.bool b))) (hr : (a != b) = c) (hT : isBool P xt = true) :
    Det P ⟨dst, .binOp .neq xt x y yt, ty, pos, af, g⟩ t (.v (.bool c)) := by
  subst hr
  exact D.bin2 hx hy (fun w => ⟨rfl, by simp only [binOp, Sem.run_bind, run_eqB (isBool_spec hT), Result.andThen_ok, Sem.run_pure]; rfl⟩) rfl
theorem D.max2 {x y : Operand} {ats : Array TypeId} {k : IntKind} {a b r : Int} (hx : t.ev x = some (.v (.int k a))) (hy : t.ev y = some (.v (.int k b))) (hr : (if b > a then b else a) = r) :
    Det P ⟨dst, .call ⟨.builtin .max, #[x, y], ats⟩, ty, pos, af, g⟩ t (.v (.int k r)) := by
  subst hr
  refine .of_run fun Φ w ρ _ hO => ⟨_, ?_, .of1 (CR.v rfl)⟩
  have h1 := (hO x (by simp [Op.operands, Call.operands]) _ hx).vv
  have h2 := (hO y (by simp [Op.operands, Call.operands]) _ hy).vv
  simp [execOp, resolve, invoke, builtin, Builtin.max_, h1, h2, Builtin.max2]

/-! Structs built. -/
/-- A struct of fields of one cell each: its zeros. -/
def flatS (P : Program) (T : TypeId) : Option (List Value) :=
  match P.underlying T, (P.info? T).bind (·.zero) with
  | some (.struct fields), some (.agg zs) =>
    if fields.size == zs.size && (fields.toList.zipIdx.all fun (f, i) => f.offset == i && (P.info? f.type).map (·.size) == some 1) then some zs.toList else none
  | _, _ => none
/-- The fields, some of them set. -/
def AT.puts (t : AT) : List (Nat × Operand) → List AV → List AV → Prop
  | [], fs, gs => gs = fs
  | (i, x) :: r, fs, gs => ∃ y, t.ev x = some y ∧ y.notTup = true ∧ y.isAgg = false ∧ i < fs.length ∧ AT.puts t r (fs.set i y) gs
theorem run_places {w : World} : ∀ (l : List Field) (i : Nat), (l.zipIdx i).all (fun p => p.1.offset == p.2 && (P.info? p.1.type).map (·.size) == some 1) = true →
    (l.mapM fun f => (do pure (f.offset, ← sizeOf f.type) : Sem (Nat × Nat))).run P w = .ok ((List.range' i l.length).map fun j => (j, 1)) w
  | [], i, _ => rfl
  | fd :: l, i, h => by
    simp only [List.zipIdx_cons, List.all_cons, Bool.and_eq_true, beq_iff_eq] at h
    have h2 : (P.info? fd.type).map (·.size) = some 1 := h.1.2
    simp only [List.mapM_cons, Sem.run_bind, run_size h2, Result.andThen_ok, Sem.run_pure, run_places l (i + 1) h.2, h.1.1, List.length_cons, List.range'_succ, List.map_cons]
theorem fill_flat {Φ : Phi} {ρ : Operand → Value} {m : Nat} : ∀ (ps : List (Nat × Operand)) (fs gs : List AV) (cs : Array Value), AT.puts t ps fs gs → (∀ p ∈ ps, ∀ y, t.ev p.2 = some y → VR Φ y (ρ p.2)) → cs.size = m → fs.length = m → (∀ x ∈ fs, x.n = 1) → cs.toList.all plain = true →
    (∀ (i : Nat) x u, fs[i]? = some x → cs[i]? = some u → CR Φ x [u]) →
    ∃ cs', Instr.fill (((List.range' 0 m).map fun j => (j, 1)).toArray[·]?) cs (ps.map fun p => (p.1, ρ p.2)) = some cs' ∧ cs'.size = m ∧ gs.length = m ∧ (∀ x ∈ gs, x.n = 1) ∧ cs'.toList.all plain = true ∧ (∀ (i : Nat) x u, gs[i]? = some x → cs'[i]? = some u → CR Φ x [u])
  | [], fs, gs, cs, h, _, hs, hl, hn, hp, hc => by cases h; exact ⟨cs, rfl, hs, hl, hn, hp, hc⟩
  | (i, x) :: r, fs, gs, cs, h, hv, hs, hl, hn, hp, hc => by
    obtain ⟨y, h1, h2, h3, h4, h5⟩ := h
    have hy := (hv (i, x) (by simp) y h1).to1 (AV.notTup_spec h2)
    have hyc := hy.cells
    have hone := hyc.one_of h3
    obtain ⟨u, hu⟩ := List.length_eq_one_iff.1 hone
    have hsz : (ρ x).cells.size = 1 := by simpa using hone
    rw [hu] at hyc
    obtain ⟨cs', f1, f2, f3, f4, f5, f6⟩ := fill_flat (Φ := Φ) (ρ := ρ) (m := m) r (fs.set i y) gs (cs.setIfInBounds i u) h5 (fun p hp => hv p (by simp [hp])) (by simpa using hs) (by simpa using hl)
      (fun z hz => by
        rcases List.mem_or_eq_of_mem_set hz with h | h
        · exact hn z h
        · subst h; exact hyc.length.symm)
      (by
        rw [List.all_eq_true] at hp ⊢
        intro z hz
        rw [Array.toList_setIfInBounds] at hz
        rcases List.mem_or_eq_of_mem_set hz with h | h
        · exact hp z h
        · subst h; have := hyc.plain; simpa using this)
      (fun j z q hz hq => by
        by_cases hj : i = j
        · subst hj
          rw [List.getElem?_set_self h4] at hz; cases hz
          have hi' : i < cs.size := by omega
          rw [Array.getElem?_setIfInBounds_self_of_lt hi'] at hq; cases hq
          exact hyc
        · rw [List.getElem?_set_ne hj] at hz
          rw [Array.getElem?_setIfInBounds_ne hj] at hq
          exact hc j z q hz hq)
    refine ⟨cs', ?_, f2, f3, f4, f5, f6⟩
    have hpl : ((List.range' 0 m).map fun j => (j, 1)).toArray[i]? = some (i, 1) := by
      have : i < m := by omega
      simp [this]
    simp only [List.map_cons, Instr.fill, hpl, hsz]
    rw [if_neg (by simp; omega)]
    rw [← Array.foldl_toList, Array.toList_zipIdx, hu]
    simpa using f1
theorem D.build {T : TypeId} {ps : List (Nat × Operand)} {zs : List Value} {gs : List AV} (hT : flatS P T = some zs) (hz : zs.all plain = true) (hp : AT.puts t ps (zs.map AV.const0) gs) : Det P ⟨dst, .build T ps.toArray, ty, pos, af, g⟩ t (.agg gs) := by
  refine .of_run fun Φ w ρ _ hO => ?_
  unfold flatS at hT
  split at hT
  · rename_i fields zs' hu hzz
    split at hT
    · rename_i hok
      cases hT
      simp only [Bool.and_eq_true, beq_iff_eq] at hok
      obtain ⟨hsz, hall⟩ := hok
      obtain ⟨cs', f1, f2, f3, f4, f5, f6⟩ := fill_flat (Φ := Φ) (ρ := ρ) (m := zs'.size) ps _ gs zs' hp (fun p hp' y hy => hO p.2 (by simp [Op.operands]; exact ⟨p.1, hp'⟩) y hy) rfl (by simp) (fun x hx => by obtain ⟨z, _, rfl⟩ := List.mem_map.1 hx; exact AV.const0_n z) hz
        (fun i x u hx hu => by
          simp only [List.getElem?_map, Array.getElem?_toList, hu, Option.map_some, Option.some.injEq] at hx
          subst hx
          exact .const0 (List.all_eq_true.1 hz u (by simpa using Array.mem_of_getElem? hu)))
      refine ⟨.agg cs', ?_, .of1 ⟨cs'.toList, CR.flat (by simp [f2, f3]) f4 f5 (fun i x u hx hu => f6 i x u hx (by simpa using hu)), by simp⟩⟩
      have hzr : zT P T = some (.agg zs') := hzz
      have hpl : (fields.mapM fun f => (do pure (f.offset, ← sizeOf f.type) : Sem (Nat × Nat))).run P w = .ok ((List.range' 0 fields.size).map fun j => (j, 1)).toArray w := by
        have := run_places (P := P) (w := w) fields.toList 0 hall
        rw [← Array.toArray_toList (xs := fields), List.mapM_toArray]
        simp only [map_eq_pure_bind, Sem.run_bind, this, Result.andThen_ok, Sem.run_pure, Array.length_toList, List.size_toArray]
      have : (Instr.build T ((ps.map fun p => (p.1, ρ p.2)).toArray)).run P w = .ok (.agg cs') w := by
        simp only [Instr.build, Sem.run_bind, run_zero hzr, Result.andThen_ok, run_und hu, hpl, Value.cells, hsz, f1, Sem.run_pure]
      simp only [execOp, Sem.run_bind, List.map_toArray]
      rw [this]; rfl
    · cases hT
  · cases hT
end

/-! A call's results, of one's own and not. -/
/-- A new slice of one's own. -/
def OwnS {α : Type} (f : α → AV) (k : Nat) (l : List α) (σ : AH) (y : AV) (σ' : AH) : Prop := ∃ b, σ b = none ∧ y = .ref b k 0 l.length ∧ σ' = σ.set b (.row k (l.map f))
theorem Pz.whole {σ ρ : AH} {b k n : Nat} {es : List AV} (hσ : σ b = some (.row k es)) (hρ : ρ b = none) (hn : n = es.length) : Pz σ ρ (.ref b k 0 n) (.list false k es) := by
  subst hn
  refine .ref hσ hρ (by omega) rfl fun i x y hx hy => ?_
  rw [List.drop_zero, List.take_length] at hx
  rw [hx] at hy; cases hy
  exact .refl x
theorem pure_of_own {P : Program} {g : FuncId} {args : List AV} {α : Type} {f : α → AV} {k : Nat} {l : List α} (h : ∀ σ, ACalls P g args σ (OwnS f k l σ)) : Pure P g args (.list false k (l.map f)) := fun σ =>
  (h σ).freeze fun y σ' ⟨b, hb, hy, hs⟩ => ⟨_, σ, by subst hs; exact Sub.set (Sub.refl σ) hb _, by subst hs; subst hy; exact Pz.whole (AH.set_self ..) hb (by simp), rfl, rfl⟩
theorem take_snoc {α : Type} {l : List α} {i : Nat} (h : i < l.length) : l.take i ++ [l[i]] = l.take (i + 1) := (List.take_succ_eq_append_getElem h).symm
theorem get_lt {α : Type} {l : List α} {i : Nat} (h : i < l.length) : l[i]? = some l[i] := List.getElem?_eq_getElem h
#print axioms D.build
end Go.Proofs.Al
