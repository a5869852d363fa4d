/- What 'CrcAdds' computes is true: any text with its check, and what any text holds, are the reference's. -/
import Derived.Test.YtadbpjohcmakpaaQCrcAdds
import Derived.Test.YtadbpjohcmakpaaCrcAddEv
namespace Go.Proofs.Ytadbpjohcmakpaa.Pure
open Go.RowKit Go.Proofs.Ytadbpjohcmakpaa.PC Go.Proofs.YtadbpjohcmakpaaW.PrintWords Go.Proofs.YtadbpjohcmakpaaW.PrintLast Go.Proofs.YtadbpjohcmakpaaW.PrintMore Go.Proofs.Ytadbpjohcmakpaa.CrcEv
set_option linter.unusedVariables false
set_option linter.unusedSimpArgs false
theorem adds_in (l : List ByteArray) (i : Nat) (m : List ByteArray) (hm : m.length ≤ 4) (hs : ∀ s ∈ m, s.size ≤ 9223372036854775000) (next : Ev (fun k => graduslaw17_CrcAdds.l0 k l (wrap64 ((i : Int) + 1))) true) (d : Nat) :
    ∀ j : Nat, j + d = m.length → Ev (fun k => graduslaw17_CrcAdds.l1 k l (i : Int) m (j : Int)) true := by
  induction d with
  | zero =>
    intro j hj
    refine Ev.step (fun k => by rw [graduslaw17_CrcAdds.l1]) (EvW.neg (by omega) next)
  | succ d ih =>
    intro j hj
    have hlt : j < m.length := by omega
    have hrd := EvW.rdS hlt
    have hw : wrap64 ((j : Int) + 1) = ((j + 1 : Nat) : Int) := EvW.w64s (by omega)
    have hz := hs _ (List.getElem_mem hlt)
    refine Ev.step (fun k => by rw [graduslaw17_CrcAdds.l1]) ?_
    simp only [hrd, hw]
    refine EvW.pos (by omega) (EvW.pos (by omega) (Ev.bind (take_ev m[j] hz) (Ev.bind (reftake_ev m[j] hz) ?_)))
    cases h : (takeS m[j]).2 with
    | true => exact EvW.pos rfl (EvW.pos rfl (EvW.pos rfl (ih (j + 1) (by omega))))
    | false => exact EvW.neg (by decide) (EvW.neg (by decide) (EvW.pos rfl (ih (j + 1) (by omega))))
theorem adds_loop (l : List ByteArray) (hs : ∀ s ∈ l, s.size ≤ 140737488351232) (d : Nat) : ∀ i : Nat, i + d = l.length → Ev (fun k => graduslaw17_CrcAdds.l0 k l (i : Int)) true := by
  induction d with
  | zero =>
    intro i hi
    refine Ev.step (fun k => by rw [graduslaw17_CrcAdds.l0]) (EvW.neg (by omega) ?_)
    refine Ev.step (fun k => by rw [graduslaw17_CrcAdds.j1]) (EvW.neg (by decide) (Ev.bind wakes_ev (Ev.now _)))
  | succ d ih =>
    intro i hi
    have hlt : i < l.length := by omega
    refine Ev.step (fun k => by rw [graduslaw17_CrcAdds.l0]) (EvW.pos (by omega) ?_)
    by_cases h9 : i < 9
    · have hrd := EvW.rdS hlt
      have hw : wrap64 ((i : Int) + 1) = ((i + 1 : Nat) : Int) := EvW.w64s (by omega)
      have hz := hs _ (List.getElem_mem hlt)
      have hsz := addS_size l[i]
      have hw2 : wrap64 (((addS l[i]).size : Int) - 1) = ((addS l[i]).size : Int) - 1 := w64 (by omega) (by omega)
      rw [show decide ((i : Int) < 9) = true from decide_eq_true (by omega)]
      refine Ev.step (fun k => by rw [graduslaw17_CrcAdds.j1]) ?_
      simp only [hrd]
      refine EvW.pos trivial (EvW.pos (by omega) (EvW.pos (by omega) (Ev.bind (add_ev' l[i] (by omega)) (Ev.bind (refadd_ev l[i] (by omega)) (EvW.pos rfl (EvW.pos (by omega) ?_))))))
      rw [hw2]
      refine EvW.pos (by omega) (EvW.pos (by omega) ?_)
      refine adds_in l i _ (by simp) (fun s h => ?_) (by rw [hw]; exact ih (i + 1) (by omega)) 4 0 (by simp)
      simp only [List.mem_cons, List.not_mem_nil, or_false] at h
      rcases h with rfl | rfl | rfl | rfl
      · omega
      · omega
      · rw [ByteArray.size_append]
        show _ + 1 ≤ _
        omega
      · rw [ByteArray.size_extract]
        omega
    · rw [show decide ((i : Int) < 9) = false from decide_eq_false (by omega)]
      refine Ev.step (fun k => by rw [graduslaw17_CrcAdds.j1]) (EvW.neg (by decide) (Ev.bind wakes_ev (Ev.now _)))
theorem CrcAdds : crcAddsQ.Pure := by
  intro x hx
  obtain ⟨⟨h1, h2, h3⟩, _⟩ := hx
  obtain ⟨b, hb⟩ := heavy7_ev x.f0 x.f1 (by omega)
  refine Ev.rounds (g := fun k => graduslaw17_CrcAdds.f k x.f0 x.f1) (Ev.bind hb ?_)
  cases b with
  | true => exact EvW.pos rfl (Ev.now _)
  | false =>
    refine EvW.neg (by decide) (EvW.some_ (EvW.pos (by simp; omega) ?_))
    refine adds_loop _ (fun s h => ?_) _ 0 (Nat.zero_add _)
    rcases List.mem_append.1 h with h | h
    · simp only [List.mem_cons, List.not_mem_nil, or_false] at h
      rcases h with rfl | rfl | rfl <;> decide
    · exact h3 s h
end Go.Proofs.Ytadbpjohcmakpaa.Pure
