/- What 'CrcOf' computes is true: the program's check of texts, whole, in pieces, and behind any other check, is the reference's. -/
import Derived.Test.YtadbpjohcmakpaaQCrcOf
import Derived.Test.YtadbpjohcmakpaaCrcEv
import Derived.Test.YtadbpjohcmakpaaEvW
namespace Go.Proofs.Ytadbpjohcmakpaa.Pure
set_option linter.unusedVariables false
set_option linter.unusedSimpArgs false
open Go.RowKit Go.Proofs.Ytadbpjohcmakpaa.PC Go.Proofs.YtadbpjohcmakpaaW.PrintWords Go.Proofs.YtadbpjohcmakpaaW.PrintLast Go.Proofs.YtadbpjohcmakpaaW.PrintMore Go.Proofs.Ytadbpjohcmakpaa.CrcEv

/-- What has been joined behind i texts. -/
def join : List ByteArray → ByteArray → ByteArray
  | [], a => a
  | s :: l, a => join l (a ++ s)
theorem bs_join (l : List ByteArray) : ∀ a, bs (join l a) = bs a ++ bsAll l := by
  induction l with
  | nil => intro a; simp [join, bsAll]
  | cons s l ih => intro a; simp [join, ih, bs_append, bsAll]
theorem crc_loop (l : List ByteArray) (n : List Int) (hl : l.length ≤ 140737488351232) (hs : ∀ s ∈ l, s.size ≤ 140737488351232) (d : Nat) : ∀ (i : Nat) (a : ByteArray), i + d = l.length → (i ≤ 6 → a.size ≤ i * 140737488351232 ∧ bs a = bsAll (l.take i)) →
    Ev (fun k => graduslaw17_CrcOf.l0 k a (i : Int) l n) true := by
  induction d with
  | zero =>
    intro i a hi ha
    refine Ev.step (f := fun k => graduslaw17_CrcOf.j1 k a (i : Int) false l n) (fun k => ?_) ?_
    · simp only [graduslaw17_CrcOf.l0]
      rw [if_neg (by omega)]
    · refine Ev.step (f := fun k => (graduslaw17_wakes.f k).bind fun t => some t) (fun k => ?_) (Ev.bind wakes_ev (Ev.now _))
      simp only [graduslaw17_CrcOf.j1]
      rw [if_neg (by decide)]
  | succ d ih =>
    intro i a hi ha
    have hlt : i < l.length := by omega
    by_cases h6 : i < 6
    · obtain ⟨ha1, ha2⟩ := ha (by omega)
      have hsi := hs _ (List.getElem_mem hlt)
      have hsz : a.size + l[i].size ≤ 9223372036854775807 := by omega
      have hcat : (a ++ l[i]).size = a.size + l[i].size := ByteArray.size_append ..
      have htake : l.take (i + 1) = l.take i ++ [l[i]] := by rw [List.take_succ_eq_append_getElem hlt]
      have hb : bs (a ++ l[i]) = bsAll (l.take (i + 1)) := by
        rw [bs_append, ha2, htake]
        simp only [bsAll, List.flatMap_append, List.flatMap_cons, List.flatMap_nil, List.append_nil]
      have o1 := of_ev (l.take (i + 1)) (by rw [List.length_take]; omega) (fun s h => by have := hs s (List.mem_of_mem_take h); omega)
      have o2 := refof_ev (a ++ l[i]) (by omega)
      have o3 := of_ev [a ++ l[i]] (by simp) (fun s h => by rw [List.mem_singleton.1 h]; omega)
      have o4 := refof_ev l[i] (by omega)
      have hx : crcN 0 (bs l[i]) < 4294967296 := crcN_lt (by decide) _
      have o5 := more_ev hx (a ++ l[i]) (by omega)
      have o6 := refmore_ev hx (a ++ l[i]) (by omega)
      have o7 := refof_ev (l[i] ++ (a ++ l[i])) (by rw [ByteArray.size_append]; omega)
      have o8 := more_ev (M_lt hx) l[i] (by omega)
      have o9 := refmore_ev (M_lt hx) l[i] (by omega)
      have e3 : bsAll [a ++ l[i]] = bs (a ++ l[i]) := by simp [bsAll]
      have next := ih (i + 1) (a ++ l[i]) (by omega) (fun _ => ⟨by omega, hb⟩)
      have hrd := EvW.rdS hlt
      have hw : wrap64 ((i : Int) + 1) = ((i + 1 : Nat) : Int) := EvW.w64s (by omega)
      have half : Ev (fun k => graduslaw17_CrcOf.j2 k (a ++ l[i]) (i : Int) false l n) true := by
        refine Ev.step (fun k => by rw [graduslaw17_CrcOf.j2]) ?_
        simp only [hrd, hw]
        refine EvW.neg (by decide) (EvW.pos (by omega) (EvW.pos (by omega) (Ev.bind o4 (Ev.bind o5 (Ev.bind o6 (EvW.pos rfl (Ev.bind o5 (EvW.pos (by omega) (Ev.bind o7 (EvW.pos ?_ ?_))))))))))
        · rw [crcN_append, ← bs_append]
        · rw [maxM, bx (by decide) hx]
          exact Ev.bind o8 (Ev.bind o9 (EvW.pos rfl next))
      refine Ev.step (fun k => by rw [graduslaw17_CrcOf.l0]) (EvW.pos (by omega) ?_)
      rw [show decide ((i : Int) < 6) = true from decide_eq_true (by omega)]
      refine Ev.step (fun k => by rw [graduslaw17_CrcOf.j1]) ?_
      simp only [hrd, hw]
      refine EvW.pos trivial (EvW.pos (by omega) (EvW.pos (by omega) (EvW.pos (by omega) (EvW.pos (by omega) (EvW.pos (by omega) (Ev.bind o1 (Ev.bind o2 (EvW.pos (by rw [hb]) (Ev.bind o3 (Ev.bind o2 ?_))))))))))
      rw [e3, show ((((crcN 0 (bs (a ++ l[i])) : Nat) : Int) != ((crcN 0 (bs (a ++ l[i])) : Nat) : Int)) = false) from bne_self_eq_false _]
      exact half
    · refine Ev.step (f := fun k => graduslaw17_CrcOf.j1 k a (i : Int) false l n) (fun k => ?_) ?_
      · simp only [graduslaw17_CrcOf.l0]
        rw [if_pos (by omega), show decide ((i : Int) < 6) = false from decide_eq_false (by omega)]
      · refine Ev.step (f := fun k => (graduslaw17_wakes.f k).bind fun t => some t) (fun k => ?_) (Ev.bind wakes_ev (Ev.now _))
        simp only [graduslaw17_CrcOf.j1]
        rw [if_neg (by decide)]
theorem CrcOf : crcOfQ.Pure := by
  intro x hx
  obtain ⟨⟨h1, h2, h3⟩, _⟩ := hx
  obtain ⟨b, hb⟩ := heavy7_ev x.f0 x.f1 (by omega)
  refine Ev.rounds (g := fun k => graduslaw17_CrcOf.f k x.f0 x.f1) (Ev.bind hb ?_)
  cases b with
  | true => exact Ev.congr (fun _ => if_pos rfl) (Ev.now _)
  | false => exact Ev.congr (fun _ => if_neg (by decide)) (crc_loop x.f0 x.f1 (by omega) h3 x.f0.length 0 _ (by omega) (fun _ => ⟨by decide, rfl⟩))
end Go.Proofs.Ytadbpjohcmakpaa.Pure
