/- Small words of this session's own for the printed walks: which kinds of numbers are unsigned; a call through a slot that holds a known function. -/
import Derived.WalkKit
import Derived.Lib.SliceRun
import Derived.Test.YtpjcidlkdfebhaaWLast
import Derived.Test.YtpjcidlkdfebhaaWWords
import Derived.Test.YtpjcidlkdfebhaaWMore
namespace Go.Proofs.XW
open Go.RowKit
theorem sg8 : IntKind.u8.signed = false := rfl
theorem sg16 : IntKind.u16.signed = false := rfl
theorem sg32 : IntKind.u32.signed = false := rfl
theorem sg64 : IntKind.u64.signed = false := rfl
section
variable {P : Program} {ops : Array Oper} {o : Oper} {a : Act} {w : World} {Q : Exit → Act → World → Prop} {rest : List Oper}
/-- The operation is a call through this slot. -/
theorem gate_slot {N : Tmp} {as : Array Operand} {ts : Array TypeId} (_ho : o.op = .call { callee := .value (.tmp N), args := as, argTypes := ts }) (h : wpList P ops Q (o :: rest) a w) : wpList P ops Q (o :: rest) a w := h
/-- A call through a slot that holds a known function. -/
theorem goesT_ (N : Option Tmp) (hd : o.dst = N) (hg : o.guard = none) {f : FuncId} {fn : Func} {c : Tmp} {as : Array Operand} {ts : Array TypeId} (hf : P.funcs[f]? = some fn) (hname : (fn.name == "runtime.NumGoroutine") = false) (hb : fn.body.isSome = true) (args : Array Value)
    (hop : o.op = .call { callee := .value (.tmp c), args := as, argTypes := ts }) (hargs : as.map a.eval = args) (h : Calls P f args w fun e w' => ∃ v, e = .returned v ∧ wpList P ops Q rest (a.put N v) w') (hc : a.eval (.tmp c) = .func (.func f) #[] #[] := by rfl) : wpList P ops Q (o :: rest) a w := by
  refine wpList_plain hg fun K hK => ?_
  have he := Go.Proofs.YtpjcidlkdfebhaaW.PrintLast.enters_ hf hname hb args w
  have hrun : (execOp a.eval o).run P w = .ok (.enter f args) w := by
    unfold execOp
    simp [hop, resolve, Deferred.ofValue, invoke, hc, hargs, he]
  unfold Oper.wp
  rw [hrun, Oper.upon_enter]
  refine h.mono fun e w'' hh => ?_
  obtain ⟨v, rfl, hk⟩ := hh
  subst hd
  exact hK _ _ hk
/-- A literal of two elements, as the walk lays it: its cells, and that nothing else has changed. -/
theorem lit_now {N : Tmp} (hd : o.dst = some N) (hg : o.guard = none) {e : TypeId} {c0 c1 : List Value} {m : Nat} (hm : m = 2) (hrun : (execOp a.eval o).run P w = .ok (.value (.slice (some ⟨w.heap.size, 0, none⟩) 2 2)) (w.alloc (.cells (c0 ++ c1).toArray e)))
    (h : ∀ g w1, (∀ i u, (c0 ++ c1)[i]? = some u → w1.cell? ⟨g, i, none⟩ = some u) → Below w.heap.size w w1 → wpList P ops Q rest (a.put (some N) (.slice (some ⟨g, 0, none⟩) m 2)) w1) : wpList P ops Q (o :: rest) a w := by
  subst hm
  refine wpList_plain hg fun K hK => ?_
  unfold Oper.wp
  rw [hrun]
  refine hK _ _ ?_
  rw [hd]
  refine h w.heap.size _ (fun i u hu => ?_) ((Below.refl _ w).alloc (Nat.le_refl _) _)
  have : (w.alloc (.cells (c0 ++ c1).toArray e)).heap[w.heap.size]? = some (.cells (c0 ++ c1).toArray e (0, 0)) := by simp [World.alloc, -World.alloc_eq]
  unfold World.cell?
  rw [this]
  simpa using hu
/-- What is read of such a literal. -/
theorem lit_C2 {α : Type} {d : Go.Proofs.YtpjcidlkdfebhaaW.PrintWords.Kd α} {x0 x1 : α} {g : Nat} {c0 c1 : List Value} (h0 : d.K w x0 c0) (h1 : d.K w x1 c1) (hcell : ∀ i u, (c0 ++ c1)[i]? = some u → w.cell? ⟨g, i, none⟩ = some u) : Go.Proofs.YtpjcidlkdfebhaaW.PrintWords.Kd.C d w (some ⟨g, 0, none⟩) ([x0, x1] : List α).length [x0, x1] := by
  have l0 := d.K_len h0
  have l1 := d.K_len h1
  refine ⟨rfl, by simp, fun _ => ⟨_, rfl, fun j p hj => ?_⟩⟩
  have hadd : ∀ k, (⟨g, 0, none⟩ : Addr).add k = ⟨g, k, none⟩ := Go.Proofs.YtpjcidlkdfebhaaW.PrintWords.add_plain g
  match j, hj with
  | 0, hj =>
    obtain rfl : x0 = p := by simpa using hj
    refine ⟨c0, l0, h0, fun i u hu => ?_⟩
    rw [hadd, Nat.zero_mul, Nat.zero_add]
    refine hcell i u ?_
    rw [List.getElem?_append_left (List.getElem?_eq_some_iff.1 hu).1]
    exact hu
  | 1, hj =>
    obtain rfl : x1 = p := by simpa using hj
    refine ⟨c1, l1, h1, fun i u hu => ?_⟩
    rw [hadd, Nat.one_mul]
    refine hcell _ u ?_
    rw [← l0, List.getElem?_append_right (Nat.le_add_right _ _), Nat.add_sub_cancel_left]
    exact hu
  | j + 2, hj => simp at hj
/-- The same in a region that draws its order. -/
theorem goesS_ {N : Option Tmp} {K : Act → World → Prop} {f : FuncId} {fn : Func} {c : Tmp} {as : Array Operand} {ts : Array TypeId} (hf : P.funcs[f]? = some fn) (hname : (fn.name == "runtime.NumGoroutine") = false) (hb : fn.body.isSome = true) (args : Array Value)
    (hw : Region.wanted o (yielded ops a.tmps) = true) (hN : o.dst = N) (hop : o.op = .call { callee := .value (.tmp c), args := as, argTypes := ts }) (hargs : as.map a.eval = args)
    (h : Calls P f args w fun e w' => ∃ v, e = .returned v ∧ K (a.put N v) w') (hc : a.eval (.tmp c) = .func (.func f) #[] #[] := by rfl) : if Region.wanted o (yielded ops a.tmps) = true then Oper.wp P o a w K Q else K (a.put N undef) w := by
  refine Go.Proofs.YtpjcidlkdfebhaaW.PrintLast.call_ f args hw hN ?_ h
  have he := Go.Proofs.YtpjcidlkdfebhaaW.PrintLast.enters_ hf hname hb args w
  unfold execOp
  simp [hop, resolve, Deferred.ofValue, invoke, hc, hargs, he]
end
/-- A row of one's own, told as one that may be shared: its blocks are among the new ones. -/
theorem R_V_mono {α : Type} {d : Go.Proofs.YtpjcidlkdfebhaaW.PrintWords.Kd α} {e : TypeId} {W : World} {base base' : Nat} {v : Value} {xs : List α} {M M' P : Nat → Prop} (h : Go.Proofs.YtpjcidlkdfebhaaW.PrintWords.Kd.R d e W base (fun k => M k ∧ P k) v xs) (hM : ∀ k, M k → M' k) : Go.Proofs.YtpjcidlkdfebhaaW.PrintWords.Kd.V d e W base' (fun k => M' k ∧ P k) v xs :=
  Go.Proofs.YtpjcidlkdfebhaaW.PrintWords.Kd.V_mono (Go.Proofs.YtpjcidlkdfebhaaW.PrintWords.Kd.R_V h) (fun k hk => ⟨hM k hk.1, hk.2⟩)
theorem R_V_mono0 {α : Type} {d : Go.Proofs.YtpjcidlkdfebhaaW.PrintWords.Kd α} {e : TypeId} {W : World} {base base' : Nat} {v : Value} {xs : List α} {M M' : Nat → Prop} (h : Go.Proofs.YtpjcidlkdfebhaaW.PrintWords.Kd.R d e W base M v xs) (hM : ∀ k, M k → M' k) : Go.Proofs.YtpjcidlkdfebhaaW.PrintWords.Kd.V d e W base' M' v xs :=
  Go.Proofs.YtpjcidlkdfebhaaW.PrintWords.Kd.V_mono (Go.Proofs.YtpjcidlkdfebhaaW.PrintWords.Kd.R_V h) hM
/-- Which block a cut lies in does not hang on how long it is. -/
theorem ob_len (A : Option Addr) (n m c : Nat) : (Value.slice A n c).ownBlock = (Value.slice A m c).ownBlock := by cases A <;> rfl
theorem FK_of_R {α : Type} {d : Go.Proofs.YtpjcidlkdfebhaaW.PrintWords.Kd α} {e e' base : Nat} {W : World} {ok : Nat → Prop} {A : Option Addr} {n c : Nat} {l : List α} (h : Go.Proofs.YtpjcidlkdfebhaaW.PrintWords.Kd.R d e W base ok (.slice A n c) l) : Go.Proofs.YtpjcidlkdfebhaaW.PrintWords.Kd.FK (Go.Proofs.YtpjcidlkdfebhaaW.PrintWords.Kd.slice e' d) W ok l [.slice A n c] := by
  have h1 := (Go.Proofs.YtpjcidlkdfebhaaW.PrintWords.Kd.R_reads' h).1
  have h2 := (Go.Proofs.YtpjcidlkdfebhaaW.PrintWords.Kd.R_reads' h).2.1
  have h3 := Go.Proofs.YtpjcidlkdfebhaaW.PrintWords.Kd.R_F h
  subst h1
  exact Go.Proofs.YtpjcidlkdfebhaaW.PrintWords.Kd.FK_slice_mk h2 h3
end Go.Proofs.XW
