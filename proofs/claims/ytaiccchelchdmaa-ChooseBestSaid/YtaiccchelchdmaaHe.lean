/- Functions of the program and of the references: what they compute, by the layer Al. Made by a program of this session (wip/al/alfill.py) out of wip/al/specs. -/
import Derived.Test.YtaiccchelchdmaaHd
import Derived.Test.YtaiccchelchdmaaAskCho
import Derived.Test.YtaiccchelchdmaaAw
import Derived.Test.YtaiccchelchdmaaBd
import Derived.Test.YtaiccchelchdmaaProg
namespace Go.Proofs.Ytaiccchelchdmaa.F
open Go Go.Proofs.Al
set_option linter.unusedVariables false
set_option linter.unusedSimpArgs false
theorem take_ok {L : List It} {i : Nat} (h : i < L.length) (ht : ∀ x ∈ L.take i, okIt x) (hx : okIt L[i]) : ∀ x ∈ L.take (i + 1), okIt x := fun x hm => by
  rw [← take_snoc h] at hm
  rcases List.mem_append.1 hm with hm | hm
  · exact ht x hm
  · rw [List.mem_singleton.1 hm]; exact hx
theorem take_okC {L : List Int} {i : Nat} (h : i < L.length) (ht : ∀ x ∈ L.take i, inC x) (hx : inC L[i]) : ∀ x ∈ L.take (i + 1), inC x := fun x hm => by
  rw [← take_snoc h] at hm
  rcases List.mem_append.1 hm with hm | hm
  · exact ht x hm
  · rw [List.mem_singleton.1 hm]; exact hx
def hvC (x : AskC) : Prop := (8 < x.1.length ∧ x.1.length ≤ 12) ∨ 100 < x.1.length ∨ 100 < x.2.1.length + x.2.2.length
instance (x : AskC) : Decidable (hvC x) := by unfold hvC; infer_instance

set_option maxRecDepth 10000 in
theorem gradusref14_Items (L : List It) (hl : L.length ≤ 4398046511104) : Pure Try.prog 12 [items L] (bv (decide (okL L))) := by
  intro σ
  refine acalls Try.func12 rfl rfl (by decide) rfl rfl ?_
  refine aseq ?_
  refine areg rfl ?_
  refine s_det (D.assign rfl) rfl ?_
  refine s_nil ?_
  refine aseq ?_
  refine aseq ?_
  refine areg rfl ?_
  refine s_det (D.move rfl) rfl ?_
  refine s_det (D.len_m rfl rfl) rfl ?_
  refine s_cmp (D.gtr rfl rfl rfl) rfl (fun h6 => ?_) (fun h6 => ?_)
  · replace h6 := of_decide_eq_true h6
    refine s_nil ?_
    refine acond_t rfl ?_
    refine aseq ?_
    refine areg rfl ?_
    refine s_det (D.assign rfl) rfl ?_
    refine s_nil ?_
    refine aret ?_
    exact ⟨[_], ⟨⟨rfl, rfl⟩, trivial⟩, bvF (fun h => by have := h.1; omega), rfl⟩
  · replace h6 := of_decide_eq_false h6
    refine s_nil ?_
    refine acond_f rfl ?_
    refine askip ?_
    refine aseq ?_
    refine aseq ?_
    refine areg rfl ?_
    refine s_det (D.assign rfl) rfl ?_
    refine s_nil ?_
    refine ablock ?_
    -- LOOP writes [3] keeps [0]
    refine aloop (ι := Nat) (fun i => i ≤ L.length ∧ ∀ x ∈ L.take i, okIt x) (fun i => L.length - i) (fun i => [(0, items L), (3, iv i)]) (fun i => σ) 0 ⟨by omega, by simp⟩ ?_ rfl fun i hi => ?_
    · exact (.cons rfl (.cons rfl .nil))
    obtain ⟨hi, hok⟩ := hi
    refine aseq ?_
    refine aseq ?_
    refine areg rfl ?_
    refine s_det (D.move rfl) rfl ?_
    refine s_det (D.move rfl) rfl ?_
    refine s_det (D.len_m rfl rfl) rfl ?_
    refine s_cmp (D.lss rfl rfl rfl) rfl (fun h10 => ?_) (fun h10 => ?_)
    · replace h10 := of_decide_eq_true h10
      refine s_nil ?_
      have hlt : i < L.length := by omega
      refine acond_t rfl ?_
      refine askip ?_
      refine aseq ?_
      refine ablock ?_
      refine aseq ?_
      refine areg rfl ?_
      refine s_det (D.move rfl) rfl ?_
      refine s_det (D.move rfl) rfl ?_
      refine s_det (D.idx_m rfl rfl (by omega) (get_lt (i := i) hlt) rfl) rfl ?_
      refine s_det (D.field_i rfl rfl rfl) rfl ?_
      refine s_det (D.load_i rfl rfl) rfl ?_
      refine s_cmp (D.call (evc rfl (evc rfl ev0)) b_gradusref0_Num (gradusref0_Num _ _)) rfl (fun h18 => ?_) (fun h18 => ?_)
      · replace h18 := of_decide_eq_true h18
        refine s_det (D.not rfl rfl) rfl ?_
        refine s_det (D.move rfl) rfl ?_
        refine s_yes rfl rfl ?_
        refine s_det (D.move rfl) rfl ?_
        refine s_yes rfl rfl ?_
        refine s_det (D.move rfl) rfl ?_
        refine s_yes rfl rfl ?_
        refine s_det (D.idx_m rfl rfl (by omega) (get_lt (i := i) hlt) rfl) rfl ?_
        refine s_yes rfl rfl ?_
        refine s_det (D.field_i rfl rfl rfl) rfl ?_
        refine s_yes rfl rfl ?_
        refine s_det (D.load_i rfl rfl) rfl ?_
        refine s_yes rfl rfl ?_
        refine s_cmp (D.call (evc rfl (evc rfl ev0)) b_gradusref0_Num (gradusref0_Num _ _)) rfl (fun h26 => ?_) (fun h26 => ?_)
        · replace h26 := of_decide_eq_true h26
          refine s_yes rfl rfl ?_
          refine s_det (D.not rfl rfl) rfl ?_
          refine s_det (D.pick rfl rfl rfl rfl) rfl ?_
          refine s_det (D.move rfl) rfl ?_
          refine s_yes rfl rfl ?_
          refine s_det (D.move rfl) rfl ?_
          refine s_yes rfl rfl ?_
          refine s_det (D.move rfl) rfl ?_
          refine s_yes rfl rfl ?_
          refine s_det (D.idx_m rfl rfl (by omega) (get_lt (i := i) hlt) rfl) rfl ?_
          refine s_yes rfl rfl ?_
          refine s_det (D.field_i rfl rfl rfl) rfl ?_
          refine s_yes rfl rfl ?_
          refine s_det (D.load_i rfl rfl) rfl ?_
          refine s_yes rfl rfl ?_
          refine s_cmp (D.call (evc rfl (evc rfl ev0)) b_gradusref0_Num (gradusref0_Num _ _)) rfl (fun h35 => ?_) (fun h35 => ?_)
          · replace h35 := of_decide_eq_true h35
            refine s_yes rfl rfl ?_
            refine s_det (D.not rfl rfl) rfl ?_
            refine s_det (D.pick rfl rfl rfl rfl) rfl ?_
            refine s_nil ?_
            refine acond_f rfl ?_
            refine askip ?_
            refine areg rfl ?_
            refine s_det (D.move rfl) rfl ?_
            refine s_det (D.add rfl rfl (w64 (by omega) (by omega))) rfl ?_
            refine s_det (D.assign rfl) rfl ?_
            refine s_nil ?_
            exact ⟨i + 1, ⟨by omega, take_ok hlt hok ⟨h18, h26, h35⟩⟩, by omega, (.cons rfl (.cons rfl .nil)), rfl⟩
          · replace h35 := of_decide_eq_false h35
            refine s_yes rfl rfl ?_
            refine s_det (D.not rfl rfl) rfl ?_
            refine s_det (D.pick rfl rfl rfl rfl) rfl ?_
            refine s_nil ?_
            refine acond_t rfl ?_
            refine aseq ?_
            refine areg rfl ?_
            refine s_det (D.assign rfl) rfl ?_
            refine s_nil ?_
            refine aret ?_
            exact ⟨[_], ⟨⟨rfl, rfl⟩, trivial⟩, bvF (fun h => h35 (h.2 _ (List.getElem_mem hlt)).2.2), rfl⟩
        · replace h26 := of_decide_eq_false h26
          refine s_yes rfl rfl ?_
          refine s_det (D.not rfl rfl) rfl ?_
          refine s_det (D.pick rfl rfl rfl rfl) rfl ?_
          refine s_det (D.move rfl) rfl ?_
          refine s_no rfl rfl rfl rfl ?_
          refine s_no rfl rfl rfl rfl ?_
          refine s_no rfl rfl rfl rfl ?_
          refine s_no rfl rfl rfl rfl ?_
          refine s_no rfl rfl rfl rfl ?_
          refine s_no rfl rfl rfl rfl ?_
          refine s_no rfl rfl rfl rfl ?_
          refine s_det (D.pick rfl rfl rfl rfl) rfl ?_
          refine s_nil ?_
          refine acond_t rfl ?_
          refine aseq ?_
          refine areg rfl ?_
          refine s_det (D.assign rfl) rfl ?_
          refine s_nil ?_
          refine aret ?_
          exact ⟨[_], ⟨⟨rfl, rfl⟩, trivial⟩, bvF (fun h => h26 (h.2 _ (List.getElem_mem hlt)).2.1), rfl⟩
      · replace h18 := of_decide_eq_false h18
        refine s_det (D.not rfl rfl) rfl ?_
        refine s_det (D.move rfl) rfl ?_
        refine s_no rfl rfl rfl rfl ?_
        refine s_no rfl rfl rfl rfl ?_
        refine s_no rfl rfl rfl rfl ?_
        refine s_no rfl rfl rfl rfl ?_
        refine s_no rfl rfl rfl rfl ?_
        refine s_no rfl rfl rfl rfl ?_
        refine s_no rfl rfl rfl rfl ?_
        refine s_det (D.pick rfl rfl rfl rfl) rfl ?_
        refine s_det (D.move rfl) rfl ?_
        refine s_no rfl rfl rfl rfl ?_
        refine s_no rfl rfl rfl rfl ?_
        refine s_no rfl rfl rfl rfl ?_
        refine s_no rfl rfl rfl rfl ?_
        refine s_no rfl rfl rfl rfl ?_
        refine s_no rfl rfl rfl rfl ?_
        refine s_no rfl rfl rfl rfl ?_
        refine s_det (D.pick rfl rfl rfl rfl) rfl ?_
        refine s_nil ?_
        refine acond_t rfl ?_
        refine aseq ?_
        refine areg rfl ?_
        refine s_det (D.assign rfl) rfl ?_
        refine s_nil ?_
        refine aret ?_
        exact ⟨[_], ⟨⟨rfl, rfl⟩, trivial⟩, bvF (fun h => h18 (h.2 _ (List.getElem_mem hlt)).1), rfl⟩
    · replace h10 := of_decide_eq_false h10
      refine s_nil ?_
      refine acond_f rfl ?_
      refine aexit ?_
      refine aseq ?_
      refine areg rfl ?_
      refine s_det (D.assign rfl) rfl ?_
      refine s_nil ?_
      refine aret ?_
      exact ⟨[_], ⟨⟨rfl, rfl⟩, trivial⟩, bvT ⟨by omega, by rw [List.take_of_length_le (by omega)] at hok; exact hok⟩, rfl⟩

set_option maxRecDepth 10000 in
theorem graduslaw15_Heavy (x : AskC) (h1 : x.1.length ≤ 17592186044416) (h2 : x.2.1.length ≤ 17592186044416) (h3 : x.2.2.length ≤ 17592186044416) : Pure Try.prog 10 [enc25 x] (bv (decide (hvC x))) := by
  intro σ
  refine acalls Try.func10 rfl rfl (by decide) rfl rfl ?_
  refine aseq ?_
  refine areg rfl ?_
  refine s_det (D.box_i rfl rfl) rfl ?_
  refine s_det (D.assign rfl) rfl ?_
  refine s_nil ?_
  refine aseq ?_
  refine areg rfl ?_
  refine s_det (D.field_i rfl rfl rfl) rfl ?_
  refine s_det (D.load_i rfl rfl) rfl ?_
  refine s_det (D.len_m rfl rfl) rfl ?_
  refine s_cmp (D.gtr rfl rfl rfl) rfl (fun h6 => ?_) (fun h6 => ?_)
  · replace h6 := of_decide_eq_true h6
    refine s_det (D.move rfl) rfl ?_
    refine s_yes rfl rfl ?_
    refine s_det (D.field_i rfl rfl rfl) rfl ?_
    refine s_yes rfl rfl ?_
    refine s_det (D.load_i rfl rfl) rfl ?_
    refine s_yes rfl rfl ?_
    refine s_det (D.len_m rfl rfl) rfl ?_
    refine s_yes rfl rfl ?_
    refine s_cmp (D.leq rfl rfl rfl) rfl (fun h11 => ?_) (fun h11 => ?_)
    · replace h11 := of_decide_eq_true h11
      refine s_det (D.pick rfl rfl rfl rfl) rfl ?_
      refine s_det (D.move rfl) rfl ?_
      refine s_no rfl rfl rfl rfl ?_
      refine s_no rfl rfl rfl rfl ?_
      refine s_no rfl rfl rfl rfl ?_
      refine s_no rfl rfl rfl rfl ?_
      refine s_det (D.pick rfl rfl rfl rfl) rfl ?_
      refine s_det (D.move rfl) rfl ?_
      refine s_no rfl rfl rfl rfl ?_
      refine s_no rfl rfl rfl rfl ?_
      refine s_no rfl rfl rfl rfl ?_
      refine s_no rfl rfl rfl rfl ?_
      refine s_no rfl rfl rfl rfl ?_
      refine s_no rfl rfl rfl rfl ?_
      refine s_no rfl rfl rfl rfl ?_
      refine s_no rfl rfl rfl rfl ?_
      refine s_det (D.pick rfl rfl rfl rfl) rfl ?_
      refine s_det (D.assign rfl) rfl ?_
      refine s_nil ?_
      refine aret ?_
      exact ⟨[_], ⟨⟨rfl, rfl⟩, trivial⟩, bvT (by unfold hvC; omega), rfl⟩
    · replace h11 := of_decide_eq_false h11
      refine s_det (D.pick rfl rfl rfl rfl) rfl ?_
      refine s_det (D.move rfl) rfl ?_
      refine s_yes rfl rfl ?_
      refine s_det (D.field_i rfl rfl rfl) rfl ?_
      refine s_yes rfl rfl ?_
      refine s_det (D.load_i rfl rfl) rfl ?_
      refine s_yes rfl rfl ?_
      refine s_det (D.len_m rfl rfl) rfl ?_
      refine s_yes rfl rfl ?_
      refine s_cmp (D.gtr rfl rfl rfl) rfl (fun h17 => ?_) (fun h17 => ?_)
      · replace h17 := of_decide_eq_true h17
        refine s_det (D.pick rfl rfl rfl rfl) rfl ?_
        refine s_det (D.move rfl) rfl ?_
        refine s_no rfl rfl rfl rfl ?_
        refine s_no rfl rfl rfl rfl ?_
        refine s_no rfl rfl rfl rfl ?_
        refine s_no rfl rfl rfl rfl ?_
        refine s_no rfl rfl rfl rfl ?_
        refine s_no rfl rfl rfl rfl ?_
        refine s_no rfl rfl rfl rfl ?_
        refine s_no rfl rfl rfl rfl ?_
        refine s_det (D.pick rfl rfl rfl rfl) rfl ?_
        refine s_det (D.assign rfl) rfl ?_
        refine s_nil ?_
        refine aret ?_
        exact ⟨[_], ⟨⟨rfl, rfl⟩, trivial⟩, bvT (by unfold hvC; omega), rfl⟩
      · replace h17 := of_decide_eq_false h17
        refine s_det (D.pick rfl rfl rfl rfl) rfl ?_
        refine s_det (D.move rfl) rfl ?_
        refine s_yes rfl rfl ?_
        refine s_det (D.field_i rfl rfl rfl) rfl ?_
        refine s_yes rfl rfl ?_
        refine s_det (D.load_i rfl rfl) rfl ?_
        refine s_yes rfl rfl ?_
        refine s_det (D.len_m rfl rfl) rfl ?_
        refine s_yes rfl rfl ?_
        refine s_det (D.field_i rfl rfl rfl) rfl ?_
        refine s_yes rfl rfl ?_
        refine s_det (D.load_i rfl rfl) rfl ?_
        refine s_yes rfl rfl ?_
        refine s_det (D.len_m rfl rfl) rfl ?_
        refine s_yes rfl rfl ?_
        refine s_det (D.add rfl rfl (w64 (by omega) (by omega))) rfl ?_
        refine s_yes rfl rfl ?_
        refine s_det (D.gtr rfl rfl rfl) rfl ?_
        refine s_det (D.pick rfl rfl rfl rfl) rfl ?_
        refine s_det (D.assign rfl) rfl ?_
        refine s_nil ?_
        refine aret ?_
        exact ⟨[_], ⟨⟨rfl, rfl⟩, trivial⟩, bvI (by unfold hvC; omega), rfl⟩
  · replace h6 := of_decide_eq_false h6
    refine s_det (D.move rfl) rfl ?_
    refine s_no rfl rfl rfl rfl ?_
    refine s_no rfl rfl rfl rfl ?_
    refine s_no rfl rfl rfl rfl ?_
    refine s_no rfl rfl rfl rfl ?_
    refine s_det (D.pick rfl rfl rfl rfl) rfl ?_
    refine s_det (D.move rfl) rfl ?_
    refine s_yes rfl rfl ?_
    refine s_det (D.field_i rfl rfl rfl) rfl ?_
    refine s_yes rfl rfl ?_
    refine s_det (D.load_i rfl rfl) rfl ?_
    refine s_yes rfl rfl ?_
    refine s_det (D.len_m rfl rfl) rfl ?_
    refine s_yes rfl rfl ?_
    refine s_cmp (D.gtr rfl rfl rfl) rfl (fun h17 => ?_) (fun h17 => ?_)
    · replace h17 := of_decide_eq_true h17
      refine s_det (D.pick rfl rfl rfl rfl) rfl ?_
      refine s_det (D.move rfl) rfl ?_
      refine s_no rfl rfl rfl rfl ?_
      refine s_no rfl rfl rfl rfl ?_
      refine s_no rfl rfl rfl rfl ?_
      refine s_no rfl rfl rfl rfl ?_
      refine s_no rfl rfl rfl rfl ?_
      refine s_no rfl rfl rfl rfl ?_
      refine s_no rfl rfl rfl rfl ?_
      refine s_no rfl rfl rfl rfl ?_
      refine s_det (D.pick rfl rfl rfl rfl) rfl ?_
      refine s_det (D.assign rfl) rfl ?_
      refine s_nil ?_
      refine aret ?_
      exact ⟨[_], ⟨⟨rfl, rfl⟩, trivial⟩, bvT (by unfold hvC; omega), rfl⟩
    · replace h17 := of_decide_eq_false h17
      refine s_det (D.pick rfl rfl rfl rfl) rfl ?_
      refine s_det (D.move rfl) rfl ?_
      refine s_yes rfl rfl ?_
      refine s_det (D.field_i rfl rfl rfl) rfl ?_
      refine s_yes rfl rfl ?_
      refine s_det (D.load_i rfl rfl) rfl ?_
      refine s_yes rfl rfl ?_
      refine s_det (D.len_m rfl rfl) rfl ?_
      refine s_yes rfl rfl ?_
      refine s_det (D.field_i rfl rfl rfl) rfl ?_
      refine s_yes rfl rfl ?_
      refine s_det (D.load_i rfl rfl) rfl ?_
      refine s_yes rfl rfl ?_
      refine s_det (D.len_m rfl rfl) rfl ?_
      refine s_yes rfl rfl ?_
      refine s_det (D.add rfl rfl (w64 (by omega) (by omega))) rfl ?_
      refine s_yes rfl rfl ?_
      refine s_det (D.gtr rfl rfl rfl) rfl ?_
      refine s_det (D.pick rfl rfl rfl rfl) rfl ?_
      refine s_det (D.assign rfl) rfl ?_
      refine s_nil ?_
      refine aret ?_
      exact ⟨[_], ⟨⟨rfl, rfl⟩, trivial⟩, bvI (by unfold hvC; omega), rfl⟩

set_option maxRecDepth 10000 in
theorem graduslaw0_Within (i n : Nat) (hi : i ≤ 4611686018427387904) (hn : n ≤ 4611686018427387904) (h0 : 0 < n) : Pure Try.prog 22 [iv i, iv n] (iv ((i % n : Nat) : Int)) := by
  intro σ
  refine acalls Try.func22 rfl rfl (by decide) rfl rfl ?_
  refine aseq ?_
  refine areg rfl ?_
  refine s_det (D.assign rfl) rfl ?_
  refine s_nil ?_
  refine aseq ?_
  refine areg rfl ?_
  refine s_det (D.move rfl) rfl ?_
  refine s_det (D.convI rfl rfl (r := (i : Int)) (wU (by omega))) rfl ?_
  refine s_det (D.move rfl) rfl ?_
  refine s_det (D.convI rfl rfl (r := (n : Int)) (wU (by omega))) rfl ?_
  refine s_det (D.rem rfl rfl (by omega) (r := ((i % n : Nat) : Int)) (by rw [tmodw (by omega)]; rfl)) rfl ?_
  refine s_det (D.convI rfl rfl (r := ((i % n : Nat) : Int)) (w64 (by omega) (by have := Nat.mod_lt i h0; omega))) rfl ?_
  refine s_det (D.assign rfl) rfl ?_
  refine s_nil ?_
  refine aret ?_
  exact ⟨[_], ⟨⟨rfl, rfl⟩, trivial⟩, rfl, rfl⟩

end Go.Proofs.Ytaiccchelchdmaa.F
