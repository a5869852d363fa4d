/- Functions of the program and of the references: what they compute, by the layer Al. Made by a program of this session (wip/al/alfill.py) out of wip/al/specs. -/
import Derived.Test.YtaiccchelchdmaaHg
import Derived.Test.YtaiccchelchdmaaBe
import Derived.Test.YtaiccchelchdmaaProg
namespace Go.Proofs.Ytaiccchelchdmaa.F
open Go Go.Proofs.Al
set_option linter.unusedVariables false
set_option linter.unusedSimpArgs false
def nsC (N : List Int) : List Int := 0 :: 5 :: -1 :: 1073741824 :: 1073741825 :: N
theorem bestR_f {L : List It} {room host : Int} (h : ¬ askC L room host) : bestR L room host = ([], 1) := by rw [bestR, if_neg h]
theorem leastR_f {L : List It} {room host : Int} (h : ¬ askC L room host) : leastR L room host = (0, 1) := by rw [leastR, if_neg h]
theorem leastR_err (L : List It) (room host : Int) : (leastR L room host).2 = (bestR L room host).2 := by
  by_cases h : askC L room host
  · rw [leastR_k h, bestR, if_pos h]
  · rw [leastR_f h, bestR_f h]
theorem bestR_len (L : List It) (room host : Int) : (bestR L room host).1.length ≤ L.length := by
  by_cases h : askC L room host
  · obtain ⟨c, hc, hb, _⟩ := opt2 h.1.2 h.2.1.1 h.2.2.1
    rw [bestR_k h hb]
    exact Nat.le_of_eq hc.1
  · rw [bestR_f h]; simp

set_option maxRecDepth 10000 in
theorem chooseBest_pure (x : AskC) (hx : G25 x) : Pure Try.prog 4 [enc25 x] (bv true) := by
  obtain ⟨hl, hc, hn⟩ := hx.ok
  obtain ⟨L, C, N⟩ := x
  dsimp only at hl hc hn
  intro σ
  refine acalls Try.func4 rfl rfl (by decide) rfl rfl ?_
  refine aseq ?_
  refine areg rfl ?_
  refine s_det (D.box_i rfl rfl) rfl ?_
  refine s_det (D.assign rfl) rfl ?_
  refine s_nil ?_
  refine aseq ?_
  refine aseq ?_
  refine areg rfl ?_
  refine s_det (D.load_i rfl rfl) rfl ?_
  refine s_cmp (D.call (evc rfl ev0) b_graduslaw15_Heavy (graduslaw15_Heavy (L, C, N) hl hc hn)) rfl (fun h30 => ?_) (fun h30 => ?_)
  · replace h30 := of_decide_eq_true h30
    refine s_nil ?_
    refine acond_t rfl ?_
    refine aseq ?_
    refine areg rfl ?_
    refine s_det (D.assign rfl) rfl ?_
    refine s_nil ?_
    refine aret ?_
    exact ⟨[_], ⟨⟨rfl, rfl⟩, trivial⟩, rfl, rfl⟩
  · replace h30 := of_decide_eq_false h30
    have hl8 : L.length ≤ 100 ∧ C.length + N.length ≤ 100 := by unfold hvC at h30; simp only at h30; omega
    obtain ⟨hl8, hcn⟩ := hl8
    refine s_nil ?_
    refine acond_f rfl ?_
    refine askip ?_
    refine aseq ?_
    refine areg rfl ?_
    refine s_det (D.lit sl_int (pc rfl rfl (pc rfl rfl (pc rfl rfl (pc rfl rfl (pc rfl rfl p0))))) rfl rfl (by decide)) rfl ?_
    refine s_det (D.field_i rfl rfl rfl) rfl ?_
    refine s_det (D.load_i rfl rfl) rfl ?_
    refine s_det (D.append_l rfl rfl sl_int rfl (by simp; omega) (by decide)) rfl ?_
    refine s_det (D.assign rfl) rfl ?_
    refine s_nil ?_
    refine aseq ?_
    refine areg rfl ?_
    refine s_det (D.field_i rfl rfl rfl) rfl ?_
    refine s_det (D.load_i rfl rfl) rfl ?_
    refine s_det (D.call (evc rfl ev0) b_gradusref0_CopyItems (gradusref0_CopyItems L (by omega))) rfl ?_
    refine s_det (D.assign rfl) rfl ?_
    refine s_nil ?_
    refine aseq ?_
    refine areg rfl ?_
    refine s_det (D.field_i rfl rfl rfl) rfl ?_
    refine s_det (D.load_i rfl rfl) rfl ?_
    refine s_det (D.call (evc rfl ev0) b_gradusref14_Items (gradusref14_Items L (by omega))) rfl ?_
    refine s_det (D.assign rfl) rfl ?_
    refine s_nil ?_
    refine amidz (fun _ : Unit => True) (fun _ => [(1, .iptr (enc25 (L, C, N))), (3, ints (nsC N)), (4, items L), (5, bv (decide (okL L))), (6, bv (decide (okL L ∧ okC L C)))]) (fun _ => σ) ?_ ?_
    · refine acase (d := 5) rfl (fun h5 => ?_) (fun h5 => ?_)
      · replace h5 := of_decide_eq_true h5
        refine areg rfl ?_
        refine s_det (D.move rfl) rfl ?_
        refine s_det (D.move rfl) rfl ?_
        refine s_yes rfl rfl ?_
        refine s_det (D.field_i rfl rfl rfl) rfl ?_
        refine s_yes rfl rfl ?_
        refine s_det (D.load_i rfl rfl) rfl ?_
        refine s_yes rfl rfl ?_
        refine s_det (D.field_i rfl rfl rfl) rfl ?_
        refine s_yes rfl rfl ?_
        refine s_det (D.load_i rfl rfl) rfl ?_
        refine s_yes rfl rfl ?_
        refine s_det (D.call (evc rfl (evc rfl ev0)) b_gradusref14_Choices (gradusref14_Choices L C (by omega) (by omega))) rfl ?_
        refine s_det (D.pick rfl rfl rfl rfl) rfl ?_
        refine s_det (D.assign rfl) rfl ?_
        refine s_nil ?_
        exact ⟨(), trivial, Sub.refl σ, .cons rfl (.cons rfl (.cons rfl (.cons (by rw [decide_eq_true h5]; rfl) (.cons (by rw [show decide (okL L ∧ okC L C) = decide (okC L C) from decide_eq_decide.2 ⟨fun h => h.2, fun h => ⟨h5, h⟩⟩]; rfl) .nil))))⟩
      · replace h5 := of_decide_eq_false h5
        refine areg rfl ?_
        refine s_det (D.move rfl) rfl ?_
        refine s_det (D.move rfl) rfl ?_
        refine s_no rfl rfl rfl rfl ?_
        refine s_no rfl rfl rfl rfl ?_
        refine s_no rfl rfl rfl rfl ?_
        refine s_no rfl rfl rfl rfl ?_
        refine s_no rfl rfl rfl rfl ?_
        refine s_det (D.pick rfl rfl rfl rfl) rfl ?_
        refine s_det (D.assign rfl) rfl ?_
        refine s_nil ?_
        exact ⟨(), trivial, Sub.refl σ, .cons rfl (.cons rfl (.cons rfl (.cons (by rw [decide_eq_false h5]; rfl) (.cons (by rw [decide_eq_false (show ¬ (okL L ∧ okC L C) from fun h => h5 h.1)]; rfl) .nil))))⟩
    · intro _ _
      refine aseq ?_
      refine areg rfl ?_
      refine s_det (D.move rfl) rfl ?_
      refine s_det (D.field_i rfl rfl rfl) rfl ?_
      refine s_det (D.load_i rfl rfl) rfl ?_
      refine s_det (D.call (evc rfl (evc rfl ev0)) b_choose_Cost (choose_Cost L C (by omega) (by omega))) rfl ?_
      refine s_det (D.move rfl) rfl ?_
      refine s_det (D.extract rfl rfl) rfl ?_
      refine s_det (D.extract rfl rfl) rfl ?_
      refine s_det (D.extract rfl rfl) rfl ?_
      refine s_det (D.extract rfl rfl) rfl ?_
      refine s_det (D.assign rfl) rfl ?_
      refine s_det (D.assign rfl) rfl ?_
      refine s_det (D.assign rfl) rfl ?_
      refine s_det (D.assign rfl) rfl ?_
      refine s_nil ?_
      refine aseq ?_
      refine areg rfl ?_
      refine s_det (D.assign rfl) rfl ?_
      refine s_det (D.assign rfl) rfl ?_
      refine s_det (D.assign rfl) rfl ?_
      refine s_det (D.assign rfl) rfl ?_
      refine s_nil ?_
      refine amidz (fun _ : Unit => True) (fun _ => [(1, .iptr (enc25 (L, C, N))), (3, ints (nsC N)), (4, items L), (5, bv (decide (okL L))), (6, bv (decide (okL L ∧ okC L C))), (7, iv (costS L C).1.c), (8, iv (costS L C).1.k), (9, iv (costS L C).1.m), (10, iv (costS L C).2), (11, iv (costS L C).2), (12, iv (costS L C).1.c), (13, iv (costS L C).1.k), (14, iv (costS L C).1.m)]) (fun _ => σ) ?_ ?_
      · refine acase (d := 6) rfl (fun h6 => ?_) (fun h6 => ?_)
        · replace h6 := of_decide_eq_true h6
          refine aseq ?_
          refine areg rfl ?_
          refine s_det (D.move rfl) rfl ?_
          refine s_nil ?_
          refine acond_t rfl ?_
          refine aseq ?_
          refine areg rfl ?_
          refine s_det (D.assign rfl) rfl ?_
          refine s_nil ?_
          refine areg rfl ?_
          refine s_det (D.field_i rfl rfl rfl) rfl ?_
          refine s_det (D.load_i rfl rfl) rfl ?_
          refine s_det (D.field_i rfl rfl rfl) rfl ?_
          refine s_det (D.load_i rfl rfl) rfl ?_
          refine s_det (D.call (evc rfl (evc rfl ev0)) b_gradusref14_Cost (gradusref14_Cost L C h6.1 h6.2)) rfl ?_
          refine s_det (D.move rfl) rfl ?_
          refine s_det (D.extract rfl rfl) rfl ?_
          refine s_det (D.extract rfl rfl) rfl ?_
          refine s_det (D.extract rfl rfl) rfl ?_
          refine s_det (D.assign rfl) rfl ?_
          refine s_det (D.assign rfl) rfl ?_
          refine s_det (D.assign rfl) rfl ?_
          refine s_nil ?_
          have e4 := costS_k h6.1 h6.2
          exact ⟨(), trivial, Sub.refl σ, .cons rfl (.cons rfl (.cons rfl (.cons rfl (.cons (by rw [decide_eq_true h6]; rfl) (.cons rfl (.cons rfl (.cons rfl (.cons rfl (.cons (by rw [e4]; rfl) (.cons (by rw [e4]; rfl) (.cons (by rw [e4]; rfl) (.cons (by rw [e4]; rfl) .nil))))))))))))⟩
        · replace h6 := of_decide_eq_false h6
          refine aseq ?_
          refine areg rfl ?_
          refine s_det (D.move rfl) rfl ?_
          refine s_nil ?_
          refine acond_f rfl ?_
          refine askip ?_
          have e4 : costS L C = (⟨0, 0, 0⟩, 1) := by rw [costS, if_neg h6]
          exact ⟨(), trivial, Sub.refl σ, .cons rfl (.cons rfl (.cons rfl (.cons rfl (.cons (by rw [decide_eq_false h6]; rfl) (.cons rfl (.cons rfl (.cons rfl (.cons rfl (.cons (by rw [e4]; rfl) (.cons (by rw [e4]; rfl) (.cons (by rw [e4]; rfl) (.cons (by rw [e4]; rfl) .nil))))))))))))⟩
      · intro _ _
        refine aseq ?_
        refine aseq ?_
        refine areg rfl ?_
        refine s_det (D.move rfl) rfl ?_
        refine s_det (D.call (evc rfl ev0) b_graduslaw15_num (graduslaw15_num _)) rfl ?_
        refine s_det (D.move rfl) rfl ?_
        refine s_det (D.neq rfl rfl (decide_eq_false (by omega))) rfl ?_
        refine s_det (D.move rfl) rfl ?_
        refine s_yes rfl rfl ?_
        refine s_det (D.move rfl) rfl ?_
        refine s_yes rfl rfl ?_
        refine s_det (D.move rfl) rfl ?_
        refine s_yes rfl rfl ?_
        refine s_det (D.neq rfl rfl (decide_eq_false (by omega))) rfl ?_
        refine s_det (D.pick rfl rfl rfl rfl) rfl ?_
        refine s_det (D.move rfl) rfl ?_
        refine s_yes rfl rfl ?_
        refine s_det (D.move rfl) rfl ?_
        refine s_yes rfl rfl ?_
        refine s_det (D.move rfl) rfl ?_
        refine s_yes rfl rfl ?_
        refine s_det (D.neq rfl rfl (decide_eq_false (by omega))) rfl ?_
        refine s_det (D.pick rfl rfl rfl rfl) rfl ?_
        refine s_det (D.move rfl) rfl ?_
        refine s_yes rfl rfl ?_
        refine s_det (D.move rfl) rfl ?_
        refine s_yes rfl rfl ?_
        refine s_det (D.move rfl) rfl ?_
        refine s_yes rfl rfl ?_
        refine s_det (D.neq rfl rfl (decide_eq_false (by omega))) rfl ?_
        refine s_det (D.pick rfl rfl rfl rfl) rfl ?_
        refine s_det (D.move rfl) rfl ?_
        refine s_yes rfl rfl ?_
        refine s_det (D.move rfl) rfl ?_
        refine s_yes rfl rfl ?_
        refine s_det (D.field_i rfl rfl rfl) rfl ?_
        refine s_yes rfl rfl ?_
        refine s_det (D.load_i rfl rfl) rfl ?_
        refine s_yes rfl rfl ?_
        refine s_det (D.call (evc rfl (evc rfl ev0)) b_gradusref0_EqItems (Pure.toT (gradusref0_EqItems L L (by omega) (by omega)) (by simp))) rfl ?_
        refine s_yes rfl rfl ?_
        refine s_det (D.not rfl rfl) rfl ?_
        refine s_det (D.pick rfl rfl rfl rfl) rfl ?_
        refine s_nil ?_
        refine acond_f rfl ?_
        refine askip ?_
        refine aseq ?_
        refine aseq ?_
        refine areg rfl ?_
        refine s_det (D.assign rfl) rfl ?_
        refine s_nil ?_
        refine ablock ?_
        -- LOOP writes [15] keeps [1, 3, 4, 5, 6, 13, 14]
        have hlen : (nsC N).length = N.length + 5 := rfl
        refine aloop (ι := Nat) (fun i => i ≤ (nsC N).length) (fun i => (nsC N).length - i) (fun i => [(1, .iptr (enc25 (L, C, N))), (3, ints (nsC N)), (4, items L), (5, bv (decide (okL L))), (6, bv (decide (okL L ∧ okC L C))), (13, iv (costS L C).1.k), (14, iv (costS L C).1.m), (15, iv i)]) (fun i => σ) 0 (by omega) ?_ rfl fun i hi => ?_
        · exact (.cons rfl (.cons rfl (.cons rfl (.cons rfl (.cons rfl (.cons rfl (.cons rfl (.cons rfl .nil))))))))
        refine aseq ?_
        refine aseq ?_
        refine areg rfl ?_
        refine s_det (D.move rfl) rfl ?_
        refine s_det (D.move rfl) rfl ?_
        refine s_det (D.len_m rfl rfl) rfl ?_
        refine s_cmp (D.lss rfl rfl rfl) rfl (fun h97 => ?_) (fun h97 => ?_)
        · replace h97 := of_decide_eq_true h97
          refine s_det (D.move rfl) rfl ?_
          refine s_yes rfl rfl ?_
          refine s_det (D.move rfl) rfl ?_
          refine s_yes rfl rfl ?_
          refine s_cmp (D.lss rfl rfl rfl) rfl (fun h100 => ?_) (fun h100 => ?_)
          · have hlt : i < (nsC N).length := by omega
            obtain ⟨room, hroom⟩ : ∃ v, (nsC N)[i]? = some v := ⟨_, get_lt hlt⟩
            obtain ⟨host, hhost⟩ : ∃ v, (nsC N)[(i * 3 + 1) % (nsC N).length]? = some v := ⟨_, get_lt (Nat.mod_lt _ (by omega))⟩
            have hbl := bestR_len L room host
            replace h100 := of_decide_eq_true h100
            refine s_det (D.pick rfl rfl rfl rfl) rfl ?_
            refine s_nil ?_
            refine acond_t rfl ?_
            refine askip ?_
            refine aseq ?_
            refine ablock ?_
            refine aseq ?_
            refine adraw [.det 0, .det 1, .det 2, .det 3, .det 4, .det 5, .det 6, .det 7, .det 8, .det 9, .det 10, .det 11, .det 12, .det 13, .det 14] rfl (by kernel_rfl) ?_
            refine d_det rfl (D.move rfl) rfl ?_
            refine d_det rfl (D.move rfl) rfl ?_
            refine d_det rfl (D.idx_m rfl rfl (by omega) hroom rfl) rfl ?_
            refine d_det rfl (D.load_i rfl rfl) rfl ?_
            refine d_det rfl (D.move rfl) rfl ?_
            refine d_det rfl (D.move rfl) rfl ?_
            refine d_det rfl (D.mul rfl rfl (w64 (by omega) (by omega))) rfl ?_
            refine d_det rfl (D.add rfl rfl (w64 (by omega) (by omega))) rfl ?_
            refine d_det rfl (D.move rfl) rfl ?_
            refine d_det rfl (D.len_m rfl rfl) rfl ?_
            refine d_det rfl (D.rem rfl rfl (by omega) (r := (((i * 3 + 1) % (nsC N).length : Nat) : Int)) (by rw [tmodw (by omega), show (i : Int) * 3 + 1 = ((i * 3 + 1 : Nat) : Int) by omega]; rfl)) rfl ?_
            refine d_det rfl (D.idx_m rfl rfl (by omega) hhost rfl) rfl ?_
            refine d_det rfl (D.load_i rfl rfl) rfl ?_
            refine d_det rfl (D.assign rfl) rfl ?_
            refine d_det rfl (D.assign rfl) rfl ?_
            refine d_nil ?_
            refine aseq ?_
            refine areg rfl ?_
            refine s_det (D.move rfl) rfl ?_
            refine s_det (D.move rfl) rfl ?_
            refine s_det (D.move rfl) rfl ?_
            refine s_det (D.call (evc rfl (evc rfl (evc rfl ev0))) b_choose_Best (choose_Best L room host (by omega))) rfl ?_
            refine s_det (D.move rfl) rfl ?_
            refine s_det (D.extract rfl rfl) rfl ?_
            refine s_det (D.extract rfl rfl) rfl ?_
            refine s_det (D.assign rfl) rfl ?_
            refine s_det (D.assign rfl) rfl ?_
            refine s_nil ?_
            refine aseq ?_
            refine areg rfl ?_
            refine s_det (D.move rfl) rfl ?_
            refine s_det (D.move rfl) rfl ?_
            refine s_det (D.move rfl) rfl ?_
            refine s_det (D.call (evc rfl (evc rfl (evc rfl ev0))) b_choose_Least (choose_Least L room host (by omega))) rfl ?_
            refine s_det (D.move rfl) rfl ?_
            refine s_det (D.extract rfl rfl) rfl ?_
            refine s_det (D.extract rfl rfl) rfl ?_
            refine s_det (D.assign rfl) rfl ?_
            refine s_det (D.assign rfl) rfl ?_
            refine s_nil ?_
            refine aseq ?_
            refine areg rfl ?_
            refine s_det (D.move rfl) rfl ?_
            refine s_det (D.field_i rfl rfl rfl) rfl ?_
            refine s_det (D.load_i rfl rfl) rfl ?_
            refine s_det (D.move rfl) rfl ?_
            refine s_det (D.move rfl) rfl ?_
            refine s_det (D.call (evc rfl (evc rfl (evc rfl (evc rfl ev0)))) b_choose_Fits (choose_Fits L C room host (by omega) (by omega))) rfl ?_
            refine s_det (D.move rfl) rfl ?_
            refine s_det (D.extract rfl rfl) rfl ?_
            refine s_det (D.extract rfl rfl) rfl ?_
            refine s_det (D.assign rfl) rfl ?_
            refine s_det (D.assign rfl) rfl ?_
            refine s_nil ?_
            refine aseq ?_
            refine areg rfl ?_
            refine s_det (D.assign rfl) rfl ?_
            refine s_det (D.assign rfl) rfl ?_
            refine s_det (D.assign rfl) rfl ?_
            refine s_det (D.assign rfl) rfl ?_
            refine s_nil ?_
            refine aseq ?_
            refine areg rfl ?_
            refine s_det (D.assign rfl) rfl ?_
            refine s_nil ?_
            refine amidz (fun _ : Unit => True) (fun _ => [(1, .iptr (enc25 (L, C, N))), (3, ints (nsC N)), (4, items L), (5, bv (decide (okL L))), (6, bv (decide (okL L ∧ okC L C))), (13, iv (costS L C).1.k), (14, iv (costS L C).1.m), (15, iv i), (18, ints (bestR L room host).1), (19, iv (bestR L room host).2), (20, iv (leastR L room host).1), (21, iv (leastR L room host).2), (22, bv (fitS L C room host).1), (23, iv (fitS L C room host).2), (24, iv (bestR L room host).2), (25, iv (fitS L C room host).2), (26, iv (leastR L room host).1), (27, bv (fitS L C room host).1), (28, ints (bestR L room host).1)]) (fun _ => σ) ?_ ?_
            · refine acase (d := 5) rfl (fun h5 => ?_) (fun h5 => ?_)
              · replace h5 := of_decide_eq_true h5
                refine aseq ?_
                refine areg rfl ?_
                refine s_det (D.move rfl) rfl ?_
                refine s_det (D.move rfl) rfl ?_
                refine s_yes rfl rfl ?_
                refine s_det (D.move rfl) rfl ?_
                refine s_yes rfl rfl ?_
                refine s_cmp (D.call (evc rfl (evc rfl ev0)) b_gradusref0_Num (gradusref0_Num _ _)) rfl (fun h143 => ?_) (fun h143 => ?_)
                · replace h143 := of_decide_eq_true h143
                  refine s_det (D.pick rfl rfl rfl rfl) rfl ?_
                  refine s_det (D.move rfl) rfl ?_
                  refine s_yes rfl rfl ?_
                  refine s_det (D.move rfl) rfl ?_
                  refine s_yes rfl rfl ?_
                  refine s_cmp (D.call (evc rfl (evc rfl ev0)) b_gradusref0_Num (gradusref0_Num _ _)) rfl (fun h147 => ?_) (fun h147 => ?_)
                  · replace h147 := of_decide_eq_true h147
                    have hk : askC L room host := ⟨h5, h143, h147⟩
                    obtain ⟨c, hcc, hb, hfit, _⟩ := opt2 (room := room) (host := host) h5.2 h143.1 h147.1
                    have e1 := bestR_k hk hb
                    have e2 : leastR L room host = ((sum0 L c).c, 0) := by rw [leastR_k hk, hb]
                    refine s_det (D.pick rfl rfl rfl rfl) rfl ?_
                    refine s_nil ?_
                    refine acond_t rfl ?_
                    refine aseq ?_
                    refine areg rfl ?_
                    refine s_det (D.field_i rfl rfl rfl) rfl ?_
                    refine s_det (D.load_i rfl rfl) rfl ?_
                    refine s_det (D.move rfl) rfl ?_
                    refine s_det (D.move rfl) rfl ?_
                    refine s_det (D.call (evc rfl (evc rfl (evc rfl ev0))) b_gradusref14_Best (Pure.to (y' := ints c) (gradusref14_Best L room host h5) (by rw [hb]; rfl))) rfl ?_
                    refine s_det (D.assign rfl) rfl ?_
                    refine s_det (D.assign rfl) rfl ?_
                    refine s_nil ?_
                    refine aseq ?_
                    refine areg rfl ?_
                    refine s_det (D.field_i rfl rfl rfl) rfl ?_
                    refine s_det (D.load_i rfl rfl) rfl ?_
                    refine s_det (D.move rfl) rfl ?_
                    refine s_det (D.call (evc rfl (evc rfl ev0)) b_gradusref14_Cost (gradusref14_Cost L c h5 hcc)) rfl ?_
                    refine s_det (D.move rfl) rfl ?_
                    refine s_det (D.extract rfl rfl) rfl ?_
                    refine s_det (D.extract rfl rfl) rfl ?_
                    refine s_det (D.extract rfl rfl) rfl ?_
                    refine s_det (D.assign rfl) rfl ?_
                    refine s_nil ?_
                    refine aseq ?_
                    refine areg rfl ?_
                    refine s_det (D.move rfl) rfl ?_
                    refine s_nil ?_
                    -- cond t162 unknown
                    refine acond rfl (fun h162 => ?_) (fun h162 => ?_)
                    · have hg := of_decide_eq_true h162
                      have e3 := fitS_k hk hg.2
                      have e4 := costS_k hg.1 hg.2
                      refine areg rfl ?_
                      refine s_det (D.move rfl) rfl ?_
                      refine s_det (D.move rfl) rfl ?_
                      refine s_cmp (D.leq rfl rfl rfl) rfl (fun h165 => ?_) (fun h165 => ?_)
                      · replace h165 := of_decide_eq_true h165
                        refine s_det (D.move rfl) rfl ?_
                        refine s_yes rfl rfl ?_
                        refine s_det (D.move rfl) rfl ?_
                        refine s_yes rfl rfl ?_
                        refine s_det (D.move rfl) rfl ?_
                        refine s_yes rfl rfl ?_
                        refine s_det (D.leq rfl rfl rfl) rfl ?_
                        refine s_det (D.pick rfl rfl rfl rfl) rfl ?_
                        refine s_det (D.assign rfl) rfl ?_
                        refine s_det (D.assign rfl) rfl ?_
                        refine s_nil ?_
                        exact ⟨(), trivial, Sub.refl σ, .cons rfl (.cons rfl (.cons rfl (.cons (by rw [decide_eq_true h5]; rfl) (.cons rfl (.cons rfl (.cons rfl (.cons rfl (.cons rfl (.cons rfl (.cons rfl (.cons rfl (.cons rfl (.cons rfl (.cons (by rw [e1]; rfl) (.cons (by rw [e3]; rfl) (.cons (by rw [e2]; rfl) (.cons (by rw [e3, e4, decide_eq_decide.2 (show fits room host (sum0 L C) ↔ (sum0 L C).m ≤ host from ⟨fun h => h.2, fun h => ⟨by rw [e4] at h165; exact h165, h⟩⟩)]; rfl) (.cons (by rw [e1]; rfl) .nil))))))))))))))))))⟩
                      · replace h165 := of_decide_eq_false h165
                        refine s_det (D.move rfl) rfl ?_
                        refine s_no rfl rfl rfl rfl ?_
                        refine s_no rfl rfl rfl rfl ?_
                        refine s_no rfl rfl rfl rfl ?_
                        refine s_det (D.pick rfl rfl rfl rfl) rfl ?_
                        refine s_det (D.assign rfl) rfl ?_
                        refine s_det (D.assign rfl) rfl ?_
                        refine s_nil ?_
                        exact ⟨(), trivial, Sub.refl σ, .cons rfl (.cons rfl (.cons rfl (.cons (by rw [decide_eq_true h5]; rfl) (.cons rfl (.cons rfl (.cons rfl (.cons rfl (.cons rfl (.cons rfl (.cons rfl (.cons rfl (.cons rfl (.cons rfl (.cons (by rw [e1]; rfl) (.cons (by rw [e3]; rfl) (.cons (by rw [e2]; rfl) (.cons (by rw [e3, decide_eq_false (show ¬ fits room host (sum0 L C) from fun h => h165 (by rw [e4]; exact h.1))]; rfl) (.cons (by rw [e1]; rfl) .nil))))))))))))))))))⟩
                    · have hg := of_decide_eq_false h162
                      have e3 : fitS L C room host = (false, 1) := fitS_f (fun h => hg ⟨h5, h.2⟩)
                      refine askip ?_
                      exact ⟨(), trivial, Sub.refl σ, .cons rfl (.cons rfl (.cons rfl (.cons (by rw [decide_eq_true h5]; rfl) (.cons rfl (.cons rfl (.cons rfl (.cons rfl (.cons rfl (.cons rfl (.cons rfl (.cons rfl (.cons rfl (.cons rfl (.cons (by rw [e1]; rfl) (.cons (by rw [e3]; rfl) (.cons (by rw [e2]; rfl) (.cons (by rw [e3]; rfl) (.cons (by rw [e1]; rfl) .nil))))))))))))))))))⟩
                  · replace h147 := of_decide_eq_false h147
                    have hno : ¬ askC L room host := fun h => absurd h.2.2 (by first | exact h147 | exact of_decide_eq_false h147)
                    have e1 := bestR_f hno
                    have e2 := leastR_f hno
                    have e3 : fitS L C room host = (false, 1) := fitS_f (fun h => hno h.1)
                    refine s_det (D.pick rfl rfl rfl rfl) rfl ?_
                    refine s_nil ?_
                    refine acond_f rfl ?_
                    refine askip ?_
                    exact ⟨(), trivial, Sub.refl σ, .cons rfl (.cons rfl (.cons rfl (.cons (by rw [decide_eq_true h5]; rfl) (.cons rfl (.cons rfl (.cons rfl (.cons rfl (.cons rfl (.cons rfl (.cons rfl (.cons rfl (.cons rfl (.cons rfl (.cons (by rw [e1]; rfl) (.cons (by rw [e3]; rfl) (.cons (by rw [e2]; rfl) (.cons (by rw [e3]; rfl) (.wk rfl (by rw [e1]; exact Wk.one Wk1.nil rfl rfl) .nil))))))))))))))))))⟩
                · replace h143 := of_decide_eq_false h143
                  have hno : ¬ askC L room host := fun h => absurd h.2.1 (by first | exact h143 | exact of_decide_eq_false h143)
                  have e1 := bestR_f hno
                  have e2 := leastR_f hno
                  have e3 : fitS L C room host = (false, 1) := fitS_f (fun h => hno h.1)
                  refine s_det (D.pick rfl rfl rfl rfl) rfl ?_
                  refine s_det (D.move rfl) rfl ?_
                  refine s_no rfl rfl rfl rfl ?_
                  refine s_no rfl rfl rfl rfl ?_
                  refine s_det (D.pick rfl rfl rfl rfl) rfl ?_
                  refine s_nil ?_
                  refine acond_f rfl ?_
                  refine askip ?_
                  exact ⟨(), trivial, Sub.refl σ, .cons rfl (.cons rfl (.cons rfl (.cons (by rw [decide_eq_true h5]; rfl) (.cons rfl (.cons rfl (.cons rfl (.cons rfl (.cons rfl (.cons rfl (.cons rfl (.cons rfl (.cons rfl (.cons rfl (.cons (by rw [e1]; rfl) (.cons (by rw [e3]; rfl) (.cons (by rw [e2]; rfl) (.cons (by rw [e3]; rfl) (.wk rfl (by rw [e1]; exact Wk.one Wk1.nil rfl rfl) .nil))))))))))))))))))⟩
              · replace h5 := of_decide_eq_false h5
                have hno : ¬ askC L room host := fun h => absurd h.1 (by first | exact h5 | exact of_decide_eq_false h5)
                have e1 := bestR_f hno
                have e2 := leastR_f hno
                have e3 : fitS L C room host = (false, 1) := fitS_f (fun h => hno h.1)
                refine aseq ?_
                refine areg rfl ?_
                refine s_det (D.move rfl) rfl ?_
                refine s_det (D.move rfl) rfl ?_
                refine s_no rfl rfl rfl rfl ?_
                refine s_no rfl rfl rfl rfl ?_
                refine s_det (D.pick rfl rfl rfl rfl) rfl ?_
                refine s_det (D.move rfl) rfl ?_
                refine s_no rfl rfl rfl rfl ?_
                refine s_no rfl rfl rfl rfl ?_
                refine s_det (D.pick rfl rfl rfl rfl) rfl ?_
                refine s_nil ?_
                refine acond_f rfl ?_
                refine askip ?_
                exact ⟨(), trivial, Sub.refl σ, .cons rfl (.cons rfl (.cons rfl (.cons (by rw [decide_eq_false h5]; rfl) (.cons rfl (.cons rfl (.cons rfl (.cons rfl (.cons rfl (.cons rfl (.cons rfl (.cons rfl (.cons rfl (.cons rfl (.cons (by rw [e1]; rfl) (.cons (by rw [e3]; rfl) (.cons (by rw [e2]; rfl) (.cons (by rw [e3]; rfl) (.wk rfl (by rw [e1]; exact Wk.one Wk1.nil rfl rfl) .nil))))))))))))))))))⟩
            · intro _ _
              refine aseq ?_
              refine areg rfl ?_
              refine s_det (D.move rfl) rfl ?_
              refine s_det (D.call (evc rfl ev0) b_graduslaw15_num (graduslaw15_num _)) rfl ?_
              refine s_det (D.move rfl) rfl ?_
              refine s_det (D.neq rfl rfl (decide_eq_false (by omega))) rfl ?_
              refine s_det (D.move rfl) rfl ?_
              refine s_yes rfl rfl ?_
              refine s_det (D.move rfl) rfl ?_
              refine s_yes rfl rfl ?_
              refine s_det (D.move rfl) rfl ?_
              refine s_yes rfl rfl ?_
              refine s_det (D.call (evc rfl (evc rfl ev0)) b_gradusref0_EqNumbers (Pure.toT (gradusref0_EqNumbers (bestR L room host).1 (bestR L room host).1 (by omega) (by omega)) (by simp))) rfl ?_
              refine s_yes rfl rfl ?_
              refine s_det (D.not rfl rfl) rfl ?_
              refine s_det (D.pick rfl rfl rfl rfl) rfl ?_
              refine s_det (D.move rfl) rfl ?_
              refine s_yes rfl rfl ?_
              refine s_det (D.move rfl) rfl ?_
              refine s_yes rfl rfl ?_
              refine s_det (D.call (evc rfl ev0) b_graduslaw15_num (graduslaw15_num _)) rfl ?_
              refine s_yes rfl rfl ?_
              refine s_det (D.move rfl) rfl ?_
              refine s_yes rfl rfl ?_
              refine s_det (D.neq rfl rfl (decide_eq_false (by rw [leastR_err]; exact fun h => h rfl))) rfl ?_
              refine s_det (D.pick rfl rfl rfl rfl) rfl ?_
              refine s_det (D.move rfl) rfl ?_
              refine s_yes rfl rfl ?_
              refine s_det (D.move rfl) rfl ?_
              refine s_yes rfl rfl ?_
              refine s_det (D.move rfl) rfl ?_
              refine s_yes rfl rfl ?_
              refine s_det (D.neq rfl rfl (decide_eq_false (by omega))) rfl ?_
              refine s_det (D.pick rfl rfl rfl rfl) rfl ?_
              refine s_det (D.move rfl) rfl ?_
              refine s_yes rfl rfl ?_
              refine s_det (D.move rfl) rfl ?_
              refine s_yes rfl rfl ?_
              refine s_det (D.call (evc rfl ev0) b_graduslaw15_num (graduslaw15_num _)) rfl ?_
              refine s_yes rfl rfl ?_
              refine s_det (D.move rfl) rfl ?_
              refine s_yes rfl rfl ?_
              refine s_det (D.neq rfl rfl (decide_eq_false (by omega))) rfl ?_
              refine s_det (D.pick rfl rfl rfl rfl) rfl ?_
              refine s_det (D.move rfl) rfl ?_
              refine s_yes rfl rfl ?_
              refine s_det (D.move rfl) rfl ?_
              refine s_yes rfl rfl ?_
              refine s_det (D.move rfl) rfl ?_
              refine s_yes rfl rfl ?_
              refine s_det (D.neqB rfl rfl (bne_self_eq_false _) rfl) rfl ?_
              refine s_det (D.pick rfl rfl rfl rfl) rfl ?_
              refine s_det (D.move rfl) rfl ?_
              refine s_yes rfl rfl ?_
              refine s_det (D.move rfl) rfl ?_
              refine s_yes rfl rfl ?_
              refine s_det (D.field_i rfl rfl rfl) rfl ?_
              refine s_yes rfl rfl ?_
              refine s_det (D.load_i rfl rfl) rfl ?_
              refine s_yes rfl rfl ?_
              refine s_det (D.call (evc rfl (evc rfl ev0)) b_gradusref0_EqItems (Pure.toT (gradusref0_EqItems L L (by omega) (by omega)) (by simp))) rfl ?_
              refine s_yes rfl rfl ?_
              refine s_det (D.not rfl rfl) rfl ?_
              refine s_det (D.pick rfl rfl rfl rfl) rfl ?_
              refine s_nil ?_
              refine acond_f rfl ?_
              refine askip ?_
              refine areg rfl ?_
              refine s_det (D.move rfl) rfl ?_
              refine s_det (D.add rfl rfl (w64 (by omega) (by omega))) rfl ?_
              refine s_det (D.assign rfl) rfl ?_
              refine s_nil ?_
              exact ⟨i + 1, by omega, by omega, (.cons rfl (.cons rfl (.cons rfl (.cons rfl (.cons rfl (.cons rfl (.cons rfl (.cons rfl .nil)))))))), rfl⟩
          · replace h100 := of_decide_eq_false h100
            refine s_det (D.pick rfl rfl rfl rfl) rfl ?_
            refine s_nil ?_
            refine acond_f rfl ?_
            refine aexit ?_
            refine aseq ?_
            refine areg rfl ?_
            refine s_det (D.call ev0 b_graduslaw15_wakes graduslaw15_wakes) rfl ?_
            refine s_det (D.assign rfl) rfl ?_
            refine s_nil ?_
            refine aret ?_
            exact ⟨[_], ⟨⟨rfl, rfl⟩, trivial⟩, rfl, rfl⟩
        · replace h97 := of_decide_eq_false h97
          refine s_det (D.move rfl) rfl ?_
          refine s_no rfl rfl rfl rfl ?_
          refine s_no rfl rfl rfl rfl ?_
          refine s_det (D.pick rfl rfl rfl rfl) rfl ?_
          refine s_nil ?_
          refine acond_f rfl ?_
          refine aexit ?_
          refine aseq ?_
          refine areg rfl ?_
          refine s_det (D.call ev0 b_graduslaw15_wakes graduslaw15_wakes) rfl ?_
          refine s_det (D.assign rfl) rfl ?_
          refine s_nil ?_
          refine aret ?_
          exact ⟨[_], ⟨⟨rfl, rfl⟩, trivial⟩, rfl, rfl⟩

end Go.Proofs.Ytaiccchelchdmaa.F
