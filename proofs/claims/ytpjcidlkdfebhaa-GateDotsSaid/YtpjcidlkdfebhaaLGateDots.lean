/- Functions of the program and of the references: what they compute, by the layer Al. Made by a program of this session (wip/al/alfill.py) out of wip/al/specs. -/
import Derived.Test.YtpjcidlkdfebhaaGk
import Derived.Test.YtpjcidlkdfebhaaAskTen
import Derived.Test.YtpjcidlkdfebhaaProg
namespace Go.Proofs.Ytpjcidlkdfebhaa.F
open Go Go.Proofs.Al
set_option linter.unusedVariables false
set_option linter.unusedSimpArgs false
set_option maxRecDepth 10000 in
theorem graduslaw5_GateDots (ts : List Tn) (ns : List Int) (ht : ts.length ≤ 17592186044416) (hn : ns.length ≤ 17592186044416) (hf : ∀ t ∈ ts, t.fit) : Pure Try.prog 18 [.agg [.list false 2 (ts.map tv), ints ns]] (bv true) := by
  have hwt := wtT_le hf ht
  intro σ
  refine acalls Try.func18 rfl rfl (by decide) rfl rfl ?_
  refine aseq ?_
  refine areg rfl ?_
  refine s_det (D.box_i rfl rfl) rfl ?_
  refine s_det (D.assign rfl) rfl ?_
  refine s_nil ?_
  refine aseq ?_
  refine aseq ?_
  refine areg rfl ?_
  refine s_det (D.load_i rfl rfl) rfl ?_
  refine s_cmp (D.call (evc rfl ev0) b_graduslaw2_Heavy (graduslaw2_Heavy ts ns (by omega) (by omega) hf hwt)) rfl (fun h27 => ?_) (fun h27 => ?_)
  · replace h27 := of_decide_eq_true h27
    refine s_nil ?_
    refine acond_t rfl ?_
    refine aseq ?_
    refine areg rfl ?_
    refine s_det (D.assign rfl) rfl ?_
    refine s_nil ?_
    refine aret ?_
    exact ⟨[_], ⟨⟨rfl, rfl⟩, trivial⟩, rfl, rfl⟩
  · replace h27 := of_decide_eq_false h27
    obtain ⟨hts, hsm⟩ := wtT_small (l := ts) (by omega)
    refine s_nil ?_
    refine acond_f rfl ?_
    refine askip ?_
    refine amidz (fun _ : Unit => True) (fun _ => []) (fun _ => σ) ?_ ?_
    · refine aseq ?_
      refine areg rfl ?_
      refine s_det (D.assign rfl) rfl ?_
      refine s_nil ?_
      refine ablock ?_
      -- LOOP writes [3] keeps [1]
      refine aloop (ι := Nat) (fun i => i ≤ ts.length) (fun i => ts.length - i) (fun i => [(1, .iptr (.agg [.list false 2 (ts.map tv), ints ns])), (3, iv i)]) (fun i => σ) 0 (by omega) ?_ rfl fun i hi => ?_
      · exact (.cons rfl (.cons rfl .nil))
      refine aseq ?_
      refine aseq ?_
      refine areg rfl ?_
      refine s_det (D.move rfl) rfl ?_
      refine s_det (D.field_i rfl rfl rfl) rfl ?_
      refine s_det (D.load_i rfl rfl) rfl ?_
      refine s_det (D.len_m rfl rfl) rfl ?_
      refine s_cmp (D.lss rfl rfl rfl) rfl (fun h32 => ?_) (fun h32 => ?_)
      · replace h32 := of_decide_eq_true h32
        refine s_det (D.move rfl) rfl ?_
        refine s_yes rfl rfl ?_
        refine s_det (D.move rfl) rfl ?_
        refine s_yes rfl rfl ?_
        refine s_cmp (D.lss rfl rfl rfl) rfl (fun h35 => ?_) (fun h35 => ?_)
        · replace h35 := of_decide_eq_true h35
          obtain ⟨a, hva⟩ : ∃ a, ts[i]? = some a := ⟨_, get_lt (by omega)⟩
          refine s_det (D.pick rfl rfl rfl rfl) rfl ?_
          refine s_nil ?_
          refine acond_t rfl ?_
          refine askip ?_
          refine aseq ?_
          refine ablock ?_
          refine aseq ?_
          refine areg rfl ?_
          refine s_det (D.field_i rfl rfl rfl) rfl ?_
          refine s_det (D.load_i rfl rfl) rfl ?_
          refine s_det (D.move rfl) rfl ?_
          refine s_det (D.idx_m rfl rfl (by omega) hva rfl) rfl ?_
          refine s_det (D.load_i rfl rfl) rfl ?_
          refine s_act rfl (A.alloc rfl rfl rfl fun b4 hb4 => ?_)
          refine s_do (A.store rfl rfl (AH.set_self ..) rfl rfl (by rfl) rfl rfl ?_)
          refine s_nil ?_
          rw [AH.set_set]
          refine afix (d := 4) rfl hb4 ?_
          refine aseq ?_
          refine areg rfl ?_
          refine s_det (D.load_i rfl rfl) rfl ?_
          refine s_det (D.call (evc rfl ev0) b_gate_Relu (gate_Relu a)) rfl ?_
          refine s_det (D.move rfl) rfl ?_
          refine s_det (D.extract rfl rfl) rfl ?_
          refine s_det (D.extract rfl rfl) rfl ?_
          refine s_act rfl (A.alloc rfl rfl rfl fun b5 hb5 => ?_)
          refine s_do (A.store rfl rfl (AH.set_self ..) rfl rfl (by rfl) rfl rfl ?_)
          refine s_det (D.assign rfl) rfl ?_
          refine s_nil ?_
          rw [AH.set_set]
          refine afix (d := 5) rfl hb5 ?_
          refine aseq ?_
          refine aseq ?_
          refine areg rfl ?_
          refine s_det (D.move rfl) rfl ?_
          refine s_det (D.call (evc rfl ev0) b_graduslaw5_num (graduslaw5_num _)) rfl ?_
          refine s_cmp (D.neq rfl rfl rfl) rfl (fun h51 => ?_) (fun h51 => ?_)
          · replace h51 := of_decide_eq_true h51
            refine s_nil ?_
            refine acond_t rfl ?_
            refine aexit ?_
            refine areg rfl ?_
            refine s_det (D.move rfl) rfl ?_
            refine s_det (D.add rfl rfl (w64 (by omega) (by omega))) rfl ?_
            refine s_det (D.assign rfl) rfl ?_
            refine s_nil ?_
            exact ⟨i + 1, by omega, by omega, (.cons rfl (.cons rfl .nil)), rfl⟩
          · replace h51 := of_decide_eq_false h51
            have ha : okTn a := (wayS_zero (Decidable.byContradiction h51)).1.1
            have hp : stepS a a = ((gateT a a), 0) := wayS_k ⟨ha, ha⟩ rfl
            have ox : okTn (gateT a a) := gateT_ok ha ha rfl
            have hq : stepS (gateT a a) (gateT a a) = ((gateT a a), 0) := (wayS_k ⟨ox, ox⟩ rfl).trans (congrArg (fun e => (e, (0 : Int))) (gate_gate a))
            have hgl : (gateT a a).x.length = a.x.length := gateT_len rfl
            have h64 := ha.len
            rw [hp]
            refine s_nil ?_
            refine acond_f rfl ?_
            refine askip ?_
            refine aseq ?_
            refine areg rfl ?_
            refine s_det (D.load_i rfl rfl) rfl ?_
            refine s_det (D.call (evc rfl ev0) b_gate_Relu ((gate_Relu (gateT a a)).to (y' := .tup [tv (gateT a a), iv 0]) (by rw [hq]))) rfl ?_
            refine s_det (D.move rfl) rfl ?_
            refine s_det (D.extract rfl rfl) rfl ?_
            refine s_det (D.extract rfl rfl) rfl ?_
            refine s_act rfl (A.alloc rfl rfl rfl fun b7 hb7 => ?_)
            refine s_do (A.store rfl rfl (AH.set_self ..) rfl rfl (by rfl) rfl rfl ?_)
            refine s_det (D.assign rfl) rfl ?_
            refine s_nil ?_
            rw [AH.set_set]
            refine afix (d := 7) rfl hb7 ?_
            refine aseq ?_
            refine areg rfl ?_
            refine s_det (D.load_i rfl rfl) rfl ?_
            refine s_det (D.load_i rfl rfl) rfl ?_
            refine s_det (D.call (evc rfl (evc rfl ev0)) b_gate_Step ((gate_Step a a).to (y' := .tup [tv (gateT a a), iv 0]) (by rw [hp]))) rfl ?_
            refine s_det (D.move rfl) rfl ?_
            refine s_det (D.extract rfl rfl) rfl ?_
            refine s_det (D.extract rfl rfl) rfl ?_
            refine s_act rfl (A.alloc rfl rfl rfl fun b9 hb9 => ?_)
            refine s_do (A.store rfl rfl (AH.set_self ..) rfl rfl (by rfl) rfl rfl ?_)
            refine s_det (D.assign rfl) rfl ?_
            refine s_nil ?_
            rw [AH.set_set]
            refine afix (d := 9) rfl hb9 ?_
            refine aseq ?_
            refine aseq ?_
            refine areg rfl ?_
            refine s_det (D.move rfl) rfl ?_
            refine s_det (D.call (evc rfl ev0) b_graduslaw5_num (graduslaw5_num _)) rfl ?_
            refine s_det (D.neq rfl rfl (decide_eq_false (by omega))) rfl ?_
            refine s_det (D.move rfl) rfl ?_
            refine s_yes rfl rfl ?_
            refine s_det (D.move rfl) rfl ?_
            refine s_yes rfl rfl ?_
            refine s_det (D.call (evc rfl ev0) b_graduslaw5_num (graduslaw5_num _)) rfl ?_
            refine s_yes rfl rfl ?_
            refine s_det (D.neq rfl rfl (decide_eq_false (by omega))) rfl ?_
            refine s_det (D.pick rfl rfl rfl rfl) rfl ?_
            refine s_det (D.move rfl) rfl ?_
            refine s_yes rfl rfl ?_
            refine s_det (D.load_i rfl rfl) rfl ?_
            refine s_yes rfl rfl ?_
            refine s_det (D.load_i rfl rfl) rfl ?_
            refine s_yes rfl rfl ?_
            refine s_det (D.call (evc rfl (evc rfl ev0)) b_gradusref0_EqTensor (eqT_k ox ox rfl)) rfl ?_
            refine s_yes rfl rfl ?_
            refine s_det (D.not rfl rfl) rfl ?_
            refine s_det (D.pick rfl rfl rfl rfl) rfl ?_
            refine s_det (D.move rfl) rfl ?_
            refine s_yes rfl rfl ?_
            refine s_det (D.load_i rfl rfl) rfl ?_
            refine s_yes rfl rfl ?_
            refine s_det (D.load_i rfl rfl) rfl ?_
            refine s_yes rfl rfl ?_
            refine s_det (D.call (evc rfl (evc rfl ev0)) b_gradusref0_EqTensor (eqT_k ox ox rfl)) rfl ?_
            refine s_yes rfl rfl ?_
            refine s_det (D.not rfl rfl) rfl ?_
            refine s_det (D.pick rfl rfl rfl rfl) rfl ?_
            refine s_det (D.move rfl) rfl ?_
            refine s_yes rfl rfl ?_
            refine s_det (D.field_i rfl rfl rfl) rfl ?_
            refine s_yes rfl rfl ?_
            refine s_det (D.load_i rfl rfl) rfl ?_
            refine s_yes rfl rfl ?_
            refine s_det (D.len_m rfl rfl) rfl ?_
            refine s_yes rfl rfl ?_
            refine s_det (D.field_i rfl rfl rfl) rfl ?_
            refine s_yes rfl rfl ?_
            refine s_det (D.load_i rfl rfl) rfl ?_
            refine s_yes rfl rfl ?_
            refine s_det (D.len_m rfl rfl) rfl ?_
            refine s_yes rfl rfl ?_
            refine s_det (D.neq rfl rfl (decide_eq_false (fun h => h (congrArg (fun n : Nat => (n : Int)) hgl)))) rfl ?_
            refine s_det (D.pick rfl rfl rfl rfl) rfl ?_
            refine s_nil ?_
            refine acond_f rfl ?_
            refine askip ?_
            refine amidz (fun _ : Unit => True) (fun _ => [(1, .iptr (.agg [.list false 2 (ts.map tv), ints ns])), (3, iv i), (4, .iptr (tv a))]) (fun _ => σ) ?_ ?_
            · refine aseq ?_
              refine areg rfl ?_
              refine s_det (D.assign rfl) rfl ?_
              refine s_nil ?_
              refine ablock ?_
              -- LOOP writes [11] keeps [1, 3, 4, 5]
              refine aloop (ι := Nat) (fun k => k ≤ (gateT a a).x.length) (fun k => (gateT a a).x.length - k) (fun k => [(1, .iptr (.agg [.list false 2 (ts.map tv), ints ns])), (3, iv i), (4, .iptr (tv a)), (5, .iptr (tv (gateT a a))), (11, iv k)]) (fun k => σ) 0 (by omega) ?_ rfl fun k hk => ?_
              · exact (.cons rfl (.cons rfl (.cons rfl (.cons rfl (.cons rfl .nil)))))
              refine aseq ?_
              refine aseq ?_
              refine areg rfl ?_
              refine s_det (D.move rfl) rfl ?_
              refine s_det (D.field_i rfl rfl rfl) rfl ?_
              refine s_det (D.load_i rfl rfl) rfl ?_
              refine s_det (D.len_m rfl rfl) rfl ?_
              refine s_cmp (D.lss rfl rfl rfl) rfl (fun h96 => ?_) (fun h96 => ?_)
              · replace h96 := of_decide_eq_true h96
                have hlx : k < (gateT a a).x.length := by omega
                have hla : k < a.x.length := by omega
                have gv := gate_get hlx hla hla
                refine s_nil ?_
                refine acond_t rfl ?_
                refine askip ?_
                refine aseq ?_
                refine ablock ?_
                refine aseq ?_
                refine adraw [.det 0, .det 1, .det 2, .det 3, .det 4, .det 5, .det 6, .det 7, .det 8, .det 9, .det 10, .det 11, .det 12, .det 13, .det 14, .det 15, .det 16, .det 17, .det 18, .det 19, .det 20, .det 21, .det 22, .det 23, .det 24, .det 25, .det 26] rfl (by kernel_rfl) ?_
                refine d_det rfl (D.field_i rfl rfl rfl) rfl ?_
                refine d_det rfl (D.load_i rfl rfl) rfl ?_
                refine d_det rfl (D.move rfl) rfl ?_
                refine d_det rfl (D.idx_m rfl rfl (by omega) (get_lt (i := k) hlx) rfl) rfl ?_
                refine d_det rfl (D.load_i rfl rfl) rfl ?_
                refine d_det rfl (D.lss rfl rfl (decide_eq_false (by rw [gv]; split <;> omega))) rfl ?_
                refine d_det rfl (D.move rfl) rfl ?_
                refine d_yes rfl rfl rfl (D.field_i rfl rfl rfl) rfl ?_
                refine d_yes rfl rfl rfl (D.load_i rfl rfl) rfl ?_
                refine d_yes rfl rfl rfl (D.move rfl) rfl ?_
                refine d_yes rfl rfl rfl (D.idx_m rfl rfl (by omega) (get_lt (i := k) hla) rfl) rfl ?_
                refine d_yes rfl rfl rfl (D.load_i rfl rfl) rfl ?_
                refine d_yesC rfl rfl rfl (D.gtr rfl rfl rfl) rfl (fun h111 => ?_) (fun h111 => ?_)
                · replace h111 := of_decide_eq_true h111
                  refine d_yes rfl rfl rfl (D.move rfl) rfl ?_
                  refine d_yes rfl rfl rfl (D.field_i rfl rfl rfl) rfl ?_
                  refine d_yes rfl rfl rfl (D.load_i rfl rfl) rfl ?_
                  refine d_yes rfl rfl rfl (D.move rfl) rfl ?_
                  refine d_yes rfl rfl rfl (D.idx_m rfl rfl (by omega) (get_lt (i := k) hlx) rfl) rfl ?_
                  refine d_yes rfl rfl rfl (D.load_i rfl rfl) rfl ?_
                  refine d_yes rfl rfl rfl (D.field_i rfl rfl rfl) rfl ?_
                  refine d_yes rfl rfl rfl (D.load_i rfl rfl) rfl ?_
                  refine d_yes rfl rfl rfl (D.move rfl) rfl ?_
                  refine d_yes rfl rfl rfl (D.idx_m rfl rfl (by omega) (get_lt (i := k) hla) rfl) rfl ?_
                  refine d_yes rfl rfl rfl (D.load_i rfl rfl) rfl ?_
                  refine d_yes rfl rfl rfl (D.neq rfl rfl (decide_eq_false (fun h => h (by rw [gv, if_neg (by omega)])))) rfl ?_
                  refine d_yes rfl rfl rfl (D.pick rfl rfl rfl rfl) rfl ?_
                  refine d_det rfl (D.pick rfl rfl rfl rfl) rfl ?_
                  refine d_nil ?_
                  refine acond_f rfl ?_
                  refine askip ?_
                  refine areg rfl ?_
                  refine s_det (D.move rfl) rfl ?_
                  refine s_det (D.add rfl rfl (w64 (by omega) (by omega))) rfl ?_
                  refine s_det (D.assign rfl) rfl ?_
                  refine s_nil ?_
                  exact ⟨k + 1, by omega, by omega, (.cons rfl (.cons rfl (.cons rfl (.cons rfl (.cons rfl .nil))))), rfl⟩
                · replace h111 := of_decide_eq_false h111
                  refine d_yes rfl rfl rfl (D.move rfl) rfl ?_
                  refine d_no rfl rfl rfl rfl rfl ?_
                  refine d_no rfl rfl rfl rfl rfl ?_
                  refine d_no rfl rfl rfl rfl rfl ?_
                  refine d_no rfl rfl rfl rfl rfl ?_
                  refine d_no rfl rfl rfl rfl rfl ?_
                  refine d_no rfl rfl rfl rfl rfl ?_
                  refine d_no rfl rfl rfl rfl rfl ?_
                  refine d_no rfl rfl rfl rfl rfl ?_
                  refine d_no rfl rfl rfl rfl rfl ?_
                  refine d_no rfl rfl rfl rfl rfl ?_
                  refine d_no rfl rfl rfl rfl rfl ?_
                  refine d_yes rfl rfl rfl (D.pick rfl rfl rfl rfl) rfl ?_
                  refine d_det rfl (D.pick rfl rfl rfl rfl) rfl ?_
                  refine d_nil ?_
                  refine acond_f rfl ?_
                  refine askip ?_
                  refine areg rfl ?_
                  refine s_det (D.move rfl) rfl ?_
                  refine s_det (D.add rfl rfl (w64 (by omega) (by omega))) rfl ?_
                  refine s_det (D.assign rfl) rfl ?_
                  refine s_nil ?_
                  exact ⟨k + 1, by omega, by omega, (.cons rfl (.cons rfl (.cons rfl (.cons rfl (.cons rfl .nil))))), rfl⟩
              · replace h96 := of_decide_eq_false h96
                refine s_nil ?_
                refine acond_f rfl ?_
                refine aexit ?_
                exact ⟨(), trivial, Sub.refl _, (.cons rfl (.cons rfl (.cons rfl .nil)))⟩
            · intro _ _
              refine aseq ?_
              refine areg rfl ?_
              refine s_det (D.assign rfl) rfl ?_
              refine s_nil ?_
              refine ablock ?_
              -- LOOP writes [12] keeps [1, 3, 4]
              refine aloop (ι := Nat) (fun n => 1 ≤ n ∧ n ≤ 9) (fun n => 9 - n) (fun n => [(1, .iptr (.agg [.list false 2 (ts.map tv), ints ns])), (3, iv i), (4, .iptr (tv a)), (12, iv n)]) (fun n => σ) 1 ⟨by omega, by omega⟩ ?_ rfl fun n hn => ?_
              · exact (.cons rfl (.cons rfl (.cons rfl (.cons rfl .nil))))
              refine aseq ?_
              refine aseq ?_
              refine areg rfl ?_
              refine s_det (D.move rfl) rfl ?_
              refine s_cmp (D.leq rfl rfl rfl) rfl (fun h127 => ?_) (fun h127 => ?_)
              · replace h127 := of_decide_eq_true h127
                refine s_nil ?_
                refine acond_t rfl ?_
                refine askip ?_
                refine aseq ?_
                refine ablock ?_
                refine aseq ?_
                refine areg rfl ?_
                refine s_det (D.load_i rfl rfl) rfl ?_
                refine s_det (D.move rfl) rfl ?_
                refine s_det (D.call (evc rfl (evc rfl ev0)) b_gate_Max (gate_Max a n)) rfl ?_
                refine s_det (D.move rfl) rfl ?_
                refine s_det (D.extract rfl rfl) rfl ?_
                refine s_det (D.extract rfl rfl) rfl ?_
                refine s_act rfl (A.alloc rfl rfl rfl fun b13 hb13 => ?_)
                refine s_do (A.store rfl rfl (AH.set_self ..) rfl rfl (by rfl) rfl rfl ?_)
                refine s_det (D.assign rfl) rfl ?_
                refine s_nil ?_
                rw [AH.set_set]
                refine afix (d := 13) rfl hb13 ?_
                refine aseq ?_
                refine aseq ?_
                refine areg rfl ?_
                refine s_det (D.move rfl) rfl ?_
                refine s_det (D.call (evc rfl ev0) b_graduslaw5_num (graduslaw5_num _)) rfl ?_
                refine s_cmp (D.neq rfl rfl rfl) rfl (fun h138 => ?_) (fun h138 => ?_)
                · replace h138 := of_decide_eq_true h138
                  refine s_nil ?_
                  refine acond_t rfl ?_
                  refine aexit ?_
                  refine areg rfl ?_
                  refine s_det (D.move rfl) rfl ?_
                  refine s_det (D.add rfl rfl (w64 (by omega) (by omega))) rfl ?_
                  refine s_det (D.assign rfl) rfl ?_
                  refine s_nil ?_
                  exact ⟨n + 1, ⟨by omega, by omega⟩, by omega, (.cons rfl (.cons rfl (.cons rfl (.cons rfl .nil)))), rfl⟩
                · replace h138 := of_decide_eq_false h138
                  obtain ⟨hP, hz⟩ := wayS_zero (Decidable.byContradiction h138)
                  have h1 : 1 ≤ n := hn.1
                  have hm : maxS a (n : Int) = ((maxT a n), 0) := wayS_k hP hz
                  have om : okTn (maxT a n) := maxT_ok ha h1 hz
                  have oC := dotC_ok om
                  obtain ⟨hld, hpd⟩ := lessD_ok ha.1 (n := (n : Int)) (by omega) hz
                  obtain ⟨q, hq', hq1⟩ := prod_nat hld.2.2.1
                  have hq2 : (prod (lessD a.d n)).toNat = q := by omega
                  have hal : a.x.length = q * n := by have := ha.2; rw [← hpd, hq', ← Int.natCast_mul] at this; exact Int.ofNat_inj.1 this
                  have hMl : (maxT a n).x.length = q := by simp [maxT, maxG, hq2]
                  have hm64 := om.len.2.1
                  have hpk : pickS a (dotC (maxT a n)) (n : Int) = (pickT a (dotC (maxT a n)) n, 0) := wayS_k ⟨oC, hP⟩ ⟨hz, rfl⟩
                  have hpm : pickS a (maxT a n) (n : Int) = (pickT a (maxT a n) n, 0) := wayS_k ⟨om, hP⟩ ⟨hz, rfl⟩
                  have hbk : (pickT a (maxT a n) n).x.length = a.x.length := (pickT_ok (b := (maxT a n)) (n := n) ha).dims ha rfl
                  rw [hm]
                  refine s_nil ?_
                  refine acond_f rfl ?_
                  refine askip ?_
                  refine aseq ?_
                  refine areg rfl ?_
                  refine s_det (D.load_i rfl rfl) rfl ?_
                  refine s_act rfl (A.call (evc rfl ev0) b_gradusref0_CopyTensor (gradusref0_CopyTensor_own (maxT a n) om.sm _) fun y σ' hy => ?_)
                  obtain ⟨b140, c140, hb140, hc140, hn140, rfl, rfl⟩ := hy
                  refine s_act rfl (A.alloc rfl rfl rfl fun b15 hb15 => ?_)
                  refine s_do (A.store rfl rfl (AH.set_self ..) rfl rfl (by rfl) rfl rfl ?_)
                  refine s_nil ?_
                  rw [AH.set_set]
                  refine afix (d := 15) rfl hb15 ?_
                  refine amidz (fun _ : Unit => True) (fun _ => [(1, .iptr (.agg [.list false 2 (ts.map tv), ints ns])), (3, iv i), (4, .iptr (tv a)), (12, iv n), (13, .iptr (tv (maxT a n))), (15, .iptr (tv (dotC (maxT a n))))]) (fun _ => σ) ?_ ?_
                  · refine aseq ?_
                    refine areg rfl ?_
                    refine s_det (D.assign rfl) rfl ?_
                    refine s_nil ?_
                    refine ablock ?_
                    -- LOOP writes [16] keeps [1, 3, 4, 12, 13, 15]
                    refine aloop (ι := Nat) (fun j => j ≤ (maxT a n).x.length) (fun j => (maxT a n).x.length - j) (fun j => [(1, .iptr (.agg [.list false 2 (ts.map tv), ints ns])), (3, iv i), (4, .iptr (tv a)), (12, iv n), (13, .iptr (tv (maxT a n))), (15, .iptr (.agg [.ref b140 1 0 (maxT a n).d.length, .ref c140 1 0 (maxT a n).x.length])), (16, iv j)]) (fun j => σ.ten b140 c140 (maxT a n).d ((dotC (maxT a n)).x.take j ++ (maxT a n).x.drop j)) 0 (by omega) ?_ rfl fun j hj => ?_
                    · exact (.cons rfl (.cons rfl (.cons rfl (.cons rfl (.cons rfl (.cons rfl (.cons rfl .nil)))))))
                    refine aseq ?_
                    refine aseq ?_
                    refine areg rfl ?_
                    refine s_det (D.move rfl) rfl ?_
                    refine s_det (D.field_i rfl rfl rfl) rfl ?_
                    refine s_det (D.load_i rfl rfl) rfl ?_
                    refine s_det (D.len_r rfl rfl) rfl ?_
                    refine s_cmp (D.lss rfl rfl rfl) rfl (fun h145 => ?_) (fun h145 => ?_)
                    · replace h145 := of_decide_eq_true h145
                      have hlt : j < (maxT a n).x.length := by omega
                      refine s_nil ?_
                      refine acond_t rfl ?_
                      refine askip ?_
                      refine aseq ?_
                      refine ablock ?_
                      refine adraw [.det 0, .det 1, .det 2, .det 3, .det 4, .det 5, .det 6, .det 7, .det 8, .det 9, .det 10, .det 11, .act 12] rfl (by kernel_rfl) ?_
                      refine d_det rfl (D.field_i rfl rfl rfl) rfl ?_
                      refine d_det rfl (D.load_i rfl rfl) rfl ?_
                      refine d_det rfl (D.move rfl) rfl ?_
                      refine d_det rfl (D.field_i rfl rfl rfl) rfl ?_
                      refine d_det rfl (D.load_i rfl rfl) rfl ?_
                      refine d_det rfl (D.move rfl) rfl ?_
                      refine d_det rfl (D.idx_r rfl rfl (by omega) rfl) rfl ?_
                      refine d_own ten_x rfl (D.load_x rfl (mix_get (A := (dotC (maxT a n)).x) (B := (maxT a n).x) (dotC_len _) (by rw [dotC_len]; omega) (Nat.le_refl _) hlt) rfl) rfl ?_
                      refine d_det rfl (D.mul rfl rfl rfl) rfl ?_
                      refine d_det rfl (D.move rfl) rfl ?_
                      refine d_det rfl (D.add rfl rfl rfl) rfl ?_
                      refine d_det rfl (D.idx_r rfl rfl (by omega) rfl) rfl ?_
                      refine d_do rfl (by kernel_rfl) (A.store_t rfl rfl (by rw [mix_len (dotC_len _) (by rw [dotC_len]; omega), dotC_len]; exact hlt) rfl ?_)
                      refine d_nil ?_
                      refine areg rfl ?_
                      refine s_det (D.move rfl) rfl ?_
                      refine s_det (D.add rfl rfl (w64 (by omega) (by omega))) rfl ?_
                      refine s_det (D.assign rfl) rfl ?_
                      refine s_nil ?_
                      exact ⟨j + 1, by omega, by omega, (.cons rfl (.cons rfl (.cons rfl (.cons rfl (.cons rfl (.cons rfl (.cons rfl .nil))))))), congrArg (AH.ten _ b140 c140 _) (mix_set (dotC_len _) (by rw [dotC_len]; exact hlt) (by simp only [dotC, tab_getE]; rw [rdN_get hlt]))⟩
                    · replace h145 := of_decide_eq_false h145
                      refine s_nil ?_
                      refine acond_f rfl ?_
                      rw [mix_all (dotC_len _) (by rw [dotC_len]; omega)]
                      refine afreezex [(1, .iptr (.agg [.list false 2 (ts.map tv), ints ns])), (3, iv i), (4, .iptr (tv a)), (12, iv n), (13, .iptr (tv (maxT a n))), (15, .iptr (tv (dotC (maxT a n))))] σ (by repeat (first | exact Sub.refl _ | refine Sub.set ?_ (by first | assumption | exact (AH.set_none (by assumption)).1 | exact (AH.set_none (AH.set_none (by assumption)).1).1 | exact (AH.set_none (AH.set_none (AH.set_none (by assumption)).1).1).1 | exact (AH.set_none (AH.set_none (AH.set_none (AH.set_none (by assumption)).1).1).1).1 | exact (AH.set_none (AH.set_none (AH.set_none (AH.set_none (AH.set_none (by assumption)).1).1).1).1).1 | exact (AH.set_none (AH.set_none (AH.set_none (AH.set_none (AH.set_none (AH.set_none (by assumption)).1).1).1).1).1).1) _)) (.cons rfl (.cons rfl (.cons rfl (.cons rfl (.cons rfl (.fz rfl (.iptr (by have := Pz.ten (ρ := σ) (t := (dotC (maxT a n))) (ten_d (σ := σ) (d := (maxT a n).d) hn140) ten_x hb140 hc140; rw [dotC_len] at this; exact this)) .nil)))))) ?_
                      refine aexit ?_
                      exact ⟨(), trivial, Sub.refl _, (.cons rfl (.cons rfl (.cons rfl (.cons rfl (.cons rfl (.cons rfl .nil))))))⟩
                  · intro _ _
                    refine aseq ?_
                    refine areg rfl ?_
                    refine s_det (D.load_i rfl rfl) rfl ?_
                    refine s_det (D.load_i rfl rfl) rfl ?_
                    refine s_det (D.move rfl) rfl ?_
                    refine s_det (D.call (evc rfl (evc rfl (evc rfl ev0))) b_gate_Pick ((gate_Pick a (dotC (maxT a n)) n).to (y' := .tup [tv (pickT a (dotC (maxT a n)) n), iv 0]) (by rw [hpk]))) rfl ?_
                    skip
                    refine s_det (D.move rfl) rfl ?_
                    refine s_det (D.extract rfl rfl) rfl ?_
                    refine s_det (D.extract rfl rfl) rfl ?_
                    refine s_act rfl (A.alloc rfl rfl rfl fun b17 hb17 => ?_)
                    refine s_do (A.store rfl rfl (AH.set_self ..) rfl rfl (by rfl) rfl rfl ?_)
                    refine s_det (D.assign rfl) rfl ?_
                    refine s_nil ?_
                    rw [AH.set_set]
                    refine afix (d := 17) rfl hb17 ?_
                    refine aseq ?_
                    refine areg rfl ?_
                    refine s_det (D.load_i rfl rfl) rfl ?_
                    refine s_det (D.load_i rfl rfl) rfl ?_
                    refine s_det (D.call (evc rfl (evc rfl ev0)) b_ring_Dot ((ring_Dot (pickT a (dotC (maxT a n)) n) a).to (y' := .tup [iv (sumW (zipT opM (pickT a (dotC (maxT a n)) n) a).x), iv 0]) (by rw [two_ok (pickT_ok ha) ha rfl]))) rfl ?_
                    refine s_det (D.move rfl) rfl ?_
                    refine s_det (D.extract rfl rfl) rfl ?_
                    refine s_det (D.extract rfl rfl) rfl ?_
                    refine s_det (D.assign rfl) rfl ?_
                    refine s_det (D.assign rfl) rfl ?_
                    refine s_nil ?_
                    refine aseq ?_
                    refine areg rfl ?_
                    refine s_det (D.load_i rfl rfl) rfl ?_
                    refine s_det (D.load_i rfl rfl) rfl ?_
                    refine s_det (D.call (evc rfl (evc rfl ev0)) b_ring_Dot ((ring_Dot (dotC (maxT a n)) (maxT a n)).to (y' := .tup [iv (sumW (zipT opM (dotC (maxT a n)) (maxT a n)).x), iv 0]) (by rw [two_ok oC om rfl]))) rfl ?_
                    skip
                    refine s_det (D.move rfl) rfl ?_
                    refine s_det (D.extract rfl rfl) rfl ?_
                    refine s_det (D.extract rfl rfl) rfl ?_
                    refine s_det (D.assign rfl) rfl ?_
                    refine s_det (D.assign rfl) rfl ?_
                    refine s_nil ?_
                    refine aseq ?_
                    refine areg rfl ?_
                    refine s_det (D.load_i rfl rfl) rfl ?_
                    refine s_det (D.load_i rfl rfl) rfl ?_
                    refine s_det (D.move rfl) rfl ?_
                    refine s_det (D.call (evc rfl (evc rfl (evc rfl ev0))) b_gate_Pick ((gate_Pick a (maxT a n) n).to (y' := .tup [tv (pickT a (maxT a n) n), iv 0]) (by rw [hpm]))) rfl ?_
                    refine s_det (D.move rfl) rfl ?_
                    refine s_det (D.extract rfl rfl) rfl ?_
                    refine s_det (D.extract rfl rfl) rfl ?_
                    refine s_act rfl (A.alloc rfl rfl rfl fun b23 hb23 => ?_)
                    refine s_do (A.store rfl rfl (AH.set_self ..) rfl rfl (by rfl) rfl rfl ?_)
                    refine s_det (D.assign rfl) rfl ?_
                    refine s_nil ?_
                    rw [AH.set_set]
                    refine afix (d := 23) rfl hb23 ?_
                    refine aseq ?_
                    refine aseq ?_
                    refine areg rfl ?_
                    refine s_det (D.move rfl) rfl ?_
                    refine s_det (D.call (evc rfl ev0) b_graduslaw5_num (graduslaw5_num _)) rfl ?_
                    refine s_det (D.neq rfl rfl (decide_eq_false (by omega))) rfl ?_
                    refine s_det (D.move rfl) rfl ?_
                    refine s_yes rfl rfl ?_
                    refine s_det (D.move rfl) rfl ?_
                    refine s_yes rfl rfl ?_
                    refine s_det (D.call (evc rfl ev0) b_graduslaw5_num (graduslaw5_num _)) rfl ?_
                    refine s_yes rfl rfl ?_
                    refine s_det (D.neq rfl rfl (decide_eq_false (by omega))) rfl ?_
                    refine s_det (D.pick rfl rfl rfl rfl) rfl ?_
                    refine s_det (D.move rfl) rfl ?_
                    refine s_yes rfl rfl ?_
                    refine s_det (D.move rfl) rfl ?_
                    refine s_yes rfl rfl ?_
                    refine s_det (D.call (evc rfl ev0) b_graduslaw5_num (graduslaw5_num _)) rfl ?_
                    refine s_yes rfl rfl ?_
                    refine s_det (D.neq rfl rfl (decide_eq_false (by omega))) rfl ?_
                    refine s_det (D.pick rfl rfl rfl rfl) rfl ?_
                    refine s_det (D.move rfl) rfl ?_
                    refine s_yes rfl rfl ?_
                    refine s_det (D.move rfl) rfl ?_
                    refine s_yes rfl rfl ?_
                    refine s_det (D.call (evc rfl ev0) b_graduslaw5_num (graduslaw5_num _)) rfl ?_
                    refine s_yes rfl rfl ?_
                    refine s_det (D.neq rfl rfl (decide_eq_false (by omega))) rfl ?_
                    refine s_det (D.pick rfl rfl rfl rfl) rfl ?_
                    refine s_det (D.move rfl) rfl ?_
                    refine s_yes rfl rfl ?_
                    refine s_det (D.move rfl) rfl ?_
                    refine s_yes rfl rfl ?_
                    refine s_det (D.move rfl) rfl ?_
                    refine s_yes rfl rfl ?_
                    refine s_det (D.neq rfl rfl (decide_eq_false (fun h => h (dot_max ha hal (by omega) (by rw [dotC_len]; exact hMl) hq2)))) rfl ?_
                    refine s_det (D.pick rfl rfl rfl rfl) rfl ?_
                    refine s_det (D.move rfl) rfl ?_
                    refine s_yes rfl rfl ?_
                    refine s_det (D.field_i rfl rfl rfl) rfl ?_
                    refine s_yes rfl rfl ?_
                    refine s_det (D.load_i rfl rfl) rfl ?_
                    refine s_yes rfl rfl ?_
                    refine s_det (D.len_m rfl rfl) rfl ?_
                    refine s_yes rfl rfl ?_
                    refine s_det (D.field_i rfl rfl rfl) rfl ?_
                    refine s_yes rfl rfl ?_
                    refine s_det (D.load_i rfl rfl) rfl ?_
                    refine s_yes rfl rfl ?_
                    refine s_det (D.len_m rfl rfl) rfl ?_
                    refine s_yes rfl rfl ?_
                    refine s_det (D.neq rfl rfl (decide_eq_false (fun h => h (congrArg (fun n : Nat => (n : Int)) hbk)))) rfl ?_
                    refine s_det (D.pick rfl rfl rfl rfl) rfl ?_
                    refine s_nil ?_
                    refine acond_f rfl ?_
                    refine askip ?_
                    refine aseq ?_
                    refine areg rfl ?_
                    refine s_det (D.assign rfl) rfl ?_
                    refine s_nil ?_
                    refine ablock ?_
                    -- LOOP writes [25] keeps [1, 3, 4, 12, 23]
                    refine aloop (ι := Nat) (fun k => k ≤ a.x.length) (fun k => a.x.length - k) (fun k => [(1, .iptr (.agg [.list false 2 (ts.map tv), ints ns])), (3, iv i), (4, .iptr (tv a)), (12, iv n), (23, .iptr (tv (pickT a (maxT a n) n))), (25, iv k)]) (fun k => σ) 0 (by omega) ?_ rfl fun k hk => ?_
                    · exact (.cons rfl (.cons rfl (.cons rfl (.cons rfl (.cons rfl (.cons rfl .nil))))))
                    refine aseq ?_
                    refine aseq ?_
                    refine areg rfl ?_
                    refine s_det (D.move rfl) rfl ?_
                    refine s_det (D.field_i rfl rfl rfl) rfl ?_
                    refine s_det (D.load_i rfl rfl) rfl ?_
                    refine s_det (D.len_m rfl rfl) rfl ?_
                    refine s_cmp (D.lss rfl rfl rfl) rfl (fun h222 => ?_) (fun h222 => ?_)
                    · replace h222 := of_decide_eq_true h222
                      have hlt : k < a.x.length := by omega
                      have hlb : k < (pickT a (maxT a n) n).x.length := by omega
                      refine s_nil ?_
                      refine acond_t rfl ?_
                      refine askip ?_
                      refine aseq ?_
                      refine ablock ?_
                      refine aseq ?_
                      refine adraw [.det 0, .det 1, .det 2, .det 3, .det 4, .det 5, .det 6, .det 7, .det 8, .det 9, .det 10, .det 11, .det 12, .det 13, .det 14, .det 15, .det 16, .det 17, .det 18] rfl (by kernel_rfl) ?_
                      refine d_det rfl (D.field_i rfl rfl rfl) rfl ?_
                      refine d_det rfl (D.load_i rfl rfl) rfl ?_
                      refine d_det rfl (D.move rfl) rfl ?_
                      refine d_det rfl (D.idx_m rfl rfl (by omega) (get_lt (i := k) hlb) rfl) rfl ?_
                      refine d_det rfl (D.load_i rfl rfl) rfl ?_
                      refine d_cmp rfl (D.neq rfl rfl rfl) rfl (fun h230 => ?_) (fun h230 => ?_)
                      · replace h230 := of_decide_eq_true h230
                        refine d_det rfl (D.move rfl) rfl ?_
                        refine d_yes rfl rfl rfl (D.field_i rfl rfl rfl) rfl ?_
                        refine d_yes rfl rfl rfl (D.load_i rfl rfl) rfl ?_
                        refine d_yes rfl rfl rfl (D.move rfl) rfl ?_
                        refine d_yes rfl rfl rfl (D.idx_m rfl rfl (by omega) (get_lt (i := k) hlb) rfl) rfl ?_
                        refine d_yes rfl rfl rfl (D.load_i rfl rfl) rfl ?_
                        refine d_yes rfl rfl rfl (D.field_i rfl rfl rfl) rfl ?_
                        refine d_yes rfl rfl rfl (D.load_i rfl rfl) rfl ?_
                        refine d_yes rfl rfl rfl (D.move rfl) rfl ?_
                        refine d_yes rfl rfl rfl (D.idx_m rfl rfl (by omega) (get_lt (i := k) hlt) rfl) rfl ?_
                        refine d_yes rfl rfl rfl (D.load_i rfl rfl) rfl ?_
                        refine d_yes rfl rfl rfl (D.neq rfl rfl (decide_eq_false (fun h => h (back_get ha hal (by omega) hq2 hlb hlt h230)))) rfl ?_
                        refine d_det rfl (D.pick rfl rfl rfl rfl) rfl ?_
                        refine d_nil ?_
                        refine acond_f rfl ?_
                        refine askip ?_
                        refine areg rfl ?_
                        refine s_det (D.move rfl) rfl ?_
                        refine s_det (D.add rfl rfl (w64 (by omega) (by omega))) rfl ?_
                        refine s_det (D.assign rfl) rfl ?_
                        refine s_nil ?_
                        exact ⟨k + 1, by omega, by omega, (.cons rfl (.cons rfl (.cons rfl (.cons rfl (.cons rfl (.cons rfl .nil)))))), rfl⟩
                      · replace h230 := of_decide_eq_false h230
                        refine d_det rfl (D.move rfl) rfl ?_
                        refine d_no rfl rfl rfl rfl rfl ?_
                        refine d_no rfl rfl rfl rfl rfl ?_
                        refine d_no rfl rfl rfl rfl rfl ?_
                        refine d_no rfl rfl rfl rfl rfl ?_
                        refine d_no rfl rfl rfl rfl rfl ?_
                        refine d_no rfl rfl rfl rfl rfl ?_
                        refine d_no rfl rfl rfl rfl rfl ?_
                        refine d_no rfl rfl rfl rfl rfl ?_
                        refine d_no rfl rfl rfl rfl rfl ?_
                        refine d_no rfl rfl rfl rfl rfl ?_
                        refine d_no rfl rfl rfl rfl rfl ?_
                        refine d_det rfl (D.pick rfl rfl rfl rfl) rfl ?_
                        refine d_nil ?_
                        refine acond_f rfl ?_
                        refine askip ?_
                        refine areg rfl ?_
                        refine s_det (D.move rfl) rfl ?_
                        refine s_det (D.add rfl rfl (w64 (by omega) (by omega))) rfl ?_
                        refine s_det (D.assign rfl) rfl ?_
                        refine s_nil ?_
                        exact ⟨k + 1, by omega, by omega, (.cons rfl (.cons rfl (.cons rfl (.cons rfl (.cons rfl (.cons rfl .nil)))))), rfl⟩
                    · replace h222 := of_decide_eq_false h222
                      refine s_nil ?_
                      refine acond_f rfl ?_
                      refine aexit ?_
                      refine areg rfl ?_
                      refine s_det (D.move rfl) rfl ?_
                      refine s_det (D.add rfl rfl (w64 (by omega) (by omega))) rfl ?_
                      refine s_det (D.assign rfl) rfl ?_
                      refine s_nil ?_
                      exact ⟨n + 1, ⟨by omega, by omega⟩, by omega, (.cons rfl (.cons rfl (.cons rfl (.cons rfl .nil)))), rfl⟩
              · replace h127 := of_decide_eq_false h127
                refine s_nil ?_
                refine acond_f rfl ?_
                refine aexit ?_
                refine areg rfl ?_
                refine s_det (D.move rfl) rfl ?_
                refine s_det (D.add rfl rfl (w64 (by omega) (by omega))) rfl ?_
                refine s_det (D.assign rfl) rfl ?_
                refine s_nil ?_
                exact ⟨i + 1, by omega, by omega, (.cons rfl (.cons rfl .nil)), rfl⟩
        · replace h35 := of_decide_eq_false h35
          refine s_det (D.pick rfl rfl rfl rfl) rfl ?_
          refine s_nil ?_
          refine acond_f rfl ?_
          refine aexit ?_
          exact ⟨(), trivial, Sub.refl _, .nil⟩
      · replace h32 := of_decide_eq_false h32
        refine s_det (D.move rfl) rfl ?_
        refine s_no rfl rfl rfl rfl ?_
        refine s_no rfl rfl rfl rfl ?_
        refine s_det (D.pick rfl rfl rfl rfl) rfl ?_
        refine s_nil ?_
        refine acond_f rfl ?_
        refine aexit ?_
        exact ⟨(), trivial, Sub.refl _, .nil⟩
    · intro _ _
      refine aseq ?_
      refine areg rfl ?_
      refine s_det (D.call (evc rfl (evc rfl ev0)) b_graduslaw0_Within (graduslaw0_Within 3 2 (by decide) (by decide) (by decide))) rfl ?_
      refine s_det (D.eql rfl rfl (decide_eq_true (by decide))) rfl ?_
      refine s_det (D.move rfl) rfl ?_
      refine s_yes rfl rfl ?_
      refine s_det (D.call ev0 b_graduslaw5_wakes graduslaw5_wakes) rfl ?_
      refine s_det (D.pick rfl rfl rfl rfl) rfl ?_
      refine s_det (D.assign rfl) rfl ?_
      refine s_nil ?_
      refine aret ?_
      exact ⟨[_], ⟨⟨rfl, rfl⟩, trivial⟩, rfl, rfl⟩

theorem gateDots_pure (x : Ask2) (hx : G46 x) : Pure Try.prog 18 [enc46 x] (bv true) := graduslaw5_GateDots x.1 x.2 hx.ok.1 hx.ok.2.1 hx.ok.2.2

end Go.Proofs.Ytpjcidlkdfebhaa.F
