/- What the check's Add and Take compute, the program's and the reference's: the same functions of a text. The printed functions alone. -/
import Derived.Test.YtadbpjohcmakpaaCrcEv
import Derived.Test.YtadbpjohcmakpaaEvW
import Derived.Test.YtadbpjohcmakpaaPCx5
import Derived.Laws.Strings2
namespace Go.Proofs.Ytadbpjohcmakpaa.CrcEv
open Go.RowKit Go.Proofs.Ytadbpjohcmakpaa.PC Go.Proofs.YtadbpjohcmakpaaW.PrintWords Go.Proofs.YtadbpjohcmakpaaW.PrintLast Go.Proofs.YtadbpjohcmakpaaW.PrintMore
set_option linter.unusedVariables false
set_option linter.unusedSimpArgs false

theorem bs_inj {a b : ByteArray} (h : bs a = bs b) : a = b := Go.WideShapes.bytes_inj h
theorem toList_bs (a : ByteArray) : a.toList = bs a := ByteArray.toList_eq a
theorem bs_extract (s : ByteArray) (i j : Nat) : bs (s.extract i j) = ((bs s).take j).drop i := by
  obtain ⟨⟨l⟩⟩ := s
  show bs ((ByteArray.mk l.toArray).extract i j) = _
  rw [ByteArray.extract_mk]
  simp [bs, List.drop_take]
/-- A check's four bytes, the lowest first. -/
def le4 (x : Nat) : ByteArray := strOfNums [(x : Int) % 256, ((x : Int) / 256) % 256, ((x : Int) / 65536) % 256, ((x : Int) / 16777216) % 256]
theorem le4_size (x : Nat) : (le4 x).size = 4 := strOfNums_size _
def addS (s : ByteArray) : ByteArray := s ++ le4 (crcN 0 (bs s))
theorem addS_size (s : ByteArray) : (addS s).size = s.size + 4 := by
  unfold addS
  rw [ByteArray.size_append, le4_size]
def takeS (s : ByteArray) : ByteArray × Bool :=
  if s.size < 4 then (⟨#[]⟩, false) else if addS (s.extract 0 (s.size - 4)) = s then (s.extract 0 (s.size - 4), true) else (⟨#[]⟩, false)
theorem add_ev' (s : ByteArray) (hs : s.size ≤ 9223372036854775000) : Ev (fun k => crc_Add.f k s) (addS s) := by
  have o1 := of_ev [s] (by simp) (fun t h => by rw [List.mem_singleton.1 h]; omega)
  rw [show bsAll [s] = bs s by simp [bsAll]] at o1
  refine Ev.bind (g := fun k => crc_Of.f k [s]) o1 (EvW.call (a := le4 (crcN 0 (bs s))) rfl (EvW.pos ?_ (Ev.now _)))
  rw [le4_size]
  omega
theorem refadd_ev (s : ByteArray) (hs : s.size ≤ 9223372036854775000) : Ev (fun k => gradusref17_Add.f k s) (addS s) := by
  have o1 := refof_ev s (by omega)
  refine Ev.bind (g := fun k => gradusref17_Of.f k s) o1 (EvW.some_ (EvW.pos ?_ (Ev.now _)))
  show s.size + (le4 (crcN 0 (bs s))).size ≤ _
  rw [le4_size]
  omega
theorem take_iff (s : ByteArray) (h : 4 ≤ s.size) : (le4 (crcN 0 (bs (s.extract 0 (s.size - 4))))).toList = (s.extract (s.size - 4) s.size).toList ↔ addS (s.extract 0 (s.size - 4)) = s := by
  rw [toList_bs, toList_bs]
  have e : bs (s.extract 0 (s.size - 4)) ++ bs (s.extract (s.size - 4) s.size) = bs s := by
    rw [bs_extract, bs_extract, List.drop_zero, List.take_of_length_le (i := s.size) (by rw [bs_length]; omega), List.take_append_drop]
  constructor
  · intro h1
    refine bs_inj ?_
    unfold addS
    rw [bs_append, h1, e]
  · intro h1
    have h2 : bs (addS (s.extract 0 (s.size - 4))) = bs s := by rw [h1]
    unfold addS at h2
    rw [bs_append, ← e] at h2
    exact List.append_cancel_left h2
theorem take_ev (s : ByteArray) (hs : s.size ≤ 9223372036854775000) : Ev (fun k => crc_Take.f k s) (takeS s) := by
  have hw : wrap64 ((s.size : Int) - 4) = (s.size : Int) - 4 := w64 (by omega) (by omega)
  unfold crc_Take.f takeS
  simp only [hw]
  by_cases h : s.size < 4
  · rw [if_pos h]
    exact EvW.pos (by omega) (Ev.now _)
  · rw [if_neg h, show ((s.size : Int) - 4).toNat = s.size - 4 by omega]
    have hle : (s.extract 0 (s.size - 4)).size ≤ s.size := by
      rw [ByteArray.size_extract]
      omega
    have o1 := of_ev [s.extract 0 (s.size - 4)] (by simp) (fun t h => by rw [List.mem_singleton.1 h]; omega)
    rw [show bsAll [s.extract 0 (s.size - 4)] = bs (s.extract 0 (s.size - 4)) by simp [bsAll]] at o1
    refine EvW.neg (by omega) (EvW.pos (by omega) (EvW.pos (by omega) (Ev.bind o1 (EvW.call (a := le4 (crcN 0 (bs (s.extract 0 (s.size - 4))))) rfl ?_))))
    by_cases hc : addS (s.extract 0 (s.size - 4)) = s
    · rw [if_pos hc]
      exact EvW.pos ((take_iff s (by omega)).2 hc) (Ev.now _)
    · rw [if_neg hc]
      exact EvW.neg (fun h1 => hc ((take_iff s (by omega)).1 h1)) (Ev.now _)
theorem reftake_ev (s : ByteArray) (hs : s.size ≤ 9223372036854775000) : Ev (fun k => gradusref17_Take.f k s) (takeS s) := by
  have hw : wrap64 ((s.size : Int) - 4) = (s.size : Int) - 4 := w64 (by omega) (by omega)
  unfold gradusref17_Take.f takeS
  simp only [hw]
  by_cases h : s.size < 4
  · rw [if_pos h]
    exact EvW.pos (by omega) (Ev.now _)
  · rw [if_neg h, show ((s.size : Int) - 4).toNat = s.size - 4 by omega]
    have hle : (s.extract 0 (s.size - 4)).size ≤ s.size := by
      rw [ByteArray.size_extract]
      omega
    refine EvW.neg (by omega) (EvW.pos (by omega) (EvW.pos (by omega) (Ev.bind (refadd_ev _ (by omega)) ?_)))
    by_cases hc : addS (s.extract 0 (s.size - 4)) = s
    · rw [if_pos hc]
      exact EvW.pos (by rw [hc]) (Ev.now _)
    · rw [if_neg hc]
      exact EvW.neg (fun h1 => hc (bs_inj (by rw [← toList_bs, ← toList_bs, h1]))) (Ev.now _)
/-- With its check it is taken. -/
theorem takeS_addS (s : ByteArray) : takeS (addS s) = (s, true) := by
  have h4 : (addS s).size - 4 = s.size := by rw [addS_size]; omega
  have he : (addS s).extract 0 s.size = s := by
    refine bs_inj ?_
    rw [bs_extract, addS, bs_append, List.drop_zero, List.take_left' (bs_length s)]
  unfold takeS
  rw [if_neg (by rw [addS_size]; omega), h4, he, if_pos rfl]
end Go.Proofs.Ytadbpjohcmakpaa.CrcEv
