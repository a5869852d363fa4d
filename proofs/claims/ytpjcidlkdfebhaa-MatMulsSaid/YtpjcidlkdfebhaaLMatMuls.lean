/- Functions of the program and of the references: what they compute, by the layer Al. Made by a program of this session (wip/al/alfill.py) out of wip/al/specs. -/
import Derived.Test.YtpjcidlkdfebhaaGe
import Derived.Test.YtpjcidlkdfebhaaAskTen
import Derived.Test.YtpjcidlkdfebhaaProg
namespace Go.Proofs.Ytpjcidlkdfebhaa.F
open Go Go.Proofs.Al
set_option linter.unusedVariables false
set_option linter.unusedSimpArgs false
abbrev nsM (ns : List Int) : List Int := 0 :: 1 :: 2 :: 7 :: 8 :: 9 :: 1073741824 :: 1073741825 :: -1 :: ns

set_option maxRecDepth 10000 in
theorem graduslaw4_MatMuls (ts : List Tn) (ns : List Int) (ht : ts.length ≤ 17592186044416) (hn : ns.length ≤ 17592186044416) (hf : ∀ t ∈ ts, t.fit) : Pure Try.prog 6 [.agg [.list false 2 (ts.map tv), ints ns]] (bv true) := by
  have hwt := wtT_le hf ht
  intro σ
  refine acalls Try.func6 rfl rfl (by decide) rfl rfl ?_
  refine aseq ?_
  refine areg rfl ?_
  refine s_det (D.box_i rfl rfl) rfl ?_
  refine s_det (D.assign rfl) rfl ?_
  refine s_nil ?_
  refine aseq ?_
  refine aseq ?_
  refine areg rfl ?_
  refine s_det (D.load_i rfl rfl) rfl ?_
  refine s_cmp (D.call (evc rfl ev0) b_graduslaw2_Heavy (graduslaw2_Heavy ts ns (by omega) (by omega) hf hwt)) rfl (fun h24 => ?_) (fun h24 => ?_)
  · replace h24 := of_decide_eq_true h24
    refine s_nil ?_
    refine acond_t rfl ?_
    refine aseq ?_
    refine areg rfl ?_
    refine s_det (D.assign rfl) rfl ?_
    refine s_nil ?_
    refine aret ?_
    exact ⟨[_], ⟨⟨rfl, rfl⟩, trivial⟩, rfl, rfl⟩
  · replace h24 := of_decide_eq_false h24
    obtain ⟨hts, hsm⟩ := wtT_small (l := ts) (by omega)
    refine s_nil ?_
    refine acond_f rfl ?_
    refine askip ?_
    refine amidz (fun _ : Unit => True) (fun _ => [(1, .iptr (.agg [.list false 2 (ts.map tv), ints ns]))]) (fun _ => σ) ?_ ?_
    · refine aseq ?_
      refine areg rfl ?_
      refine s_det (D.assign rfl) rfl ?_
      refine s_nil ?_
      refine ablock ?_
      -- LOOP writes [3] keeps [1]
      refine aloop (ι := Nat) (fun i => i ≤ ts.length) (fun i => ts.length - i) (fun i => [(1, .iptr (.agg [.list false 2 (ts.map tv), ints ns])), (3, iv i)]) (fun i => σ) 0 (by omega) ?_ rfl fun i hi => ?_
      · exact (.cons rfl (.cons rfl .nil))
      refine aseq ?_
      refine aseq ?_
      refine areg rfl ?_
      refine s_det (D.move rfl) rfl ?_
      refine s_det (D.field_i rfl rfl rfl) rfl ?_
      refine s_det (D.load_i rfl rfl) rfl ?_
      refine s_det (D.len_m rfl rfl) rfl ?_
      refine s_cmp (D.lss rfl rfl rfl) rfl (fun h29 => ?_) (fun h29 => ?_)
      · replace h29 := of_decide_eq_true h29
        refine s_det (D.move rfl) rfl ?_
        refine s_yes rfl rfl ?_
        refine s_det (D.move rfl) rfl ?_
        refine s_yes rfl rfl ?_
        refine s_cmp (D.lss rfl rfl rfl) rfl (fun h32 => ?_) (fun h32 => ?_)
        · replace h32 := of_decide_eq_true h32
          obtain ⟨a, hva⟩ : ∃ a, ts[i]? = some a := ⟨_, get_lt (by omega)⟩
          have hsa : a.sm := by have := hsm a (List.mem_of_getElem? hva); exact ⟨by omega, by omega⟩
          refine s_det (D.pick rfl rfl rfl rfl) rfl ?_
          refine s_nil ?_
          refine acond_t rfl ?_
          refine askip ?_
          refine aseq ?_
          refine ablock ?_
          refine aseq ?_
          refine areg rfl ?_
          refine s_det (D.assign rfl) rfl ?_
          refine s_nil ?_
          refine ablock ?_
          -- LOOP writes [4] keeps [1, 3]
          refine aloop (ι := Nat) (fun k => k ≤ ts.length) (fun k => ts.length - k) (fun k => [(1, .iptr (.agg [.list false 2 (ts.map tv), ints ns])), (3, iv i), (4, iv k)]) (fun k => σ) 0 (by omega) ?_ rfl fun k hk => ?_
          · exact (.cons rfl (.cons rfl (.cons rfl .nil)))
          refine aseq ?_
          refine aseq ?_
          refine areg rfl ?_
          refine s_det (D.move rfl) rfl ?_
          refine s_det (D.field_i rfl rfl rfl) rfl ?_
          refine s_det (D.load_i rfl rfl) rfl ?_
          refine s_det (D.len_m rfl rfl) rfl ?_
          refine s_cmp (D.lss rfl rfl rfl) rfl (fun h40 => ?_) (fun h40 => ?_)
          · replace h40 := of_decide_eq_true h40
            refine s_det (D.move rfl) rfl ?_
            refine s_yes rfl rfl ?_
            refine s_det (D.move rfl) rfl ?_
            refine s_yes rfl rfl ?_
            refine s_cmp (D.lss rfl rfl rfl) rfl (fun h43 => ?_) (fun h43 => ?_)
            · replace h43 := of_decide_eq_true h43
              obtain ⟨b, hvb⟩ : ∃ a, ts[k]? = some a := ⟨_, get_lt (by omega)⟩
              have hsb : b.sm := by have := hsm b (List.mem_of_getElem? hvb); exact ⟨by omega, by omega⟩
              refine s_det (D.pick rfl rfl rfl rfl) rfl ?_
              refine s_nil ?_
              refine acond_t rfl ?_
              refine askip ?_
              refine aseq ?_
              refine ablock ?_
              refine aseq ?_
              refine adraw [.det 0, .det 1, .det 2, .det 3, .det 4, .det 5, .det 6, .det 7, .det 8, .det 9, .det 10, .det 11, .alloc2 12 13, .act 14, .act 15] rfl (by kernel_rfl) ?_
              refine d_det rfl (D.field_i rfl rfl rfl) rfl ?_
              refine d_det rfl (D.load_i rfl rfl) rfl ?_
              refine d_det rfl (D.move rfl) rfl ?_
              refine d_det rfl (D.idx_m rfl rfl (by omega) hva rfl) rfl ?_
              refine d_det rfl (D.load_i rfl rfl) rfl ?_
              refine d_det rfl (D.call (evc rfl ev0) b_gradusref0_CopyTensor (gradusref0_CopyTensor a hsa)) rfl ?_
              refine d_det rfl (D.field_i rfl rfl rfl) rfl ?_
              refine d_det rfl (D.load_i rfl rfl) rfl ?_
              refine d_det rfl (D.move rfl) rfl ?_
              refine d_det rfl (D.idx_m rfl rfl (by omega) hvb rfl) rfl ?_
              refine d_det rfl (D.load_i rfl rfl) rfl ?_
              refine d_det rfl (D.call (evc rfl ev0) b_gradusref0_CopyTensor (gradusref0_CopyTensor b hsb)) rfl ?_
              refine d_new2 rfl rfl rfl rfl rfl rfl rfl rfl rfl rfl fun b5 hb5 b6 hb6 hn6 => ?_
              refine d_do rfl (by kernel_rfl) (A.store rfl rfl (get2a hn6) rfl rfl (by rfl) rfl rfl ?_)
              refine d_do rfl (by kernel_rfl) (A.store rfl rfl (by rw [AH.set_ne hn6]; exact AH.set_self ..) rfl rfl (by rfl) rfl rfl ?_)
              refine d_nil ?_
              rw [fix2 hn6]
              refine afix (d := 6) rfl (by rw [AH.set_ne hn6]; exact hb6) ?_
              refine afix (d := 5) rfl hb5 ?_
              refine aseq ?_
              refine areg rfl ?_
              refine s_det (D.load_i rfl rfl) rfl ?_
              refine s_det (D.load_i rfl rfl) rfl ?_
              refine s_act rfl (A.call (evc rfl (evc rfl ev0)) b_mat_Mul (mat_Mul_own a b _) fun y σ' hy => ?_)
              obtain ⟨_, rfl, b62, c62, hb62, hc62, hn62, rfl, rfl⟩ := hy
              refine s_det (D.move rfl) rfl ?_
              refine s_det (D.extract rfl rfl) rfl ?_
              refine s_det (D.extract rfl rfl) rfl ?_
              refine s_act rfl (A.alloc rfl rfl rfl fun b7 hb7 => ?_)
              refine s_do (A.store rfl rfl (AH.set_self ..) rfl rfl (by rfl) rfl rfl ?_)
              refine s_det (D.assign rfl) rfl ?_
              refine s_nil ?_
              rw [AH.set_set]
              refine afix (d := 7) rfl hb7 ?_
              refine aseq ?_
              refine areg rfl ?_
              refine s_det (D.assign rfl) rfl ?_
              refine s_nil ?_
              refine aseq ?_
              refine areg rfl ?_
              refine s_act rfl (A.alloc rfl rfl rfl fun b10 hb10 => ?_)
              refine s_nil ?_
              refine amidz (fun _ : Unit => True) (fun _ => [(1, .iptr (.agg [.list false 2 (ts.map tv), ints ns])), (3, iv i), (4, iv k), (5, .iptr (tv a)), (6, .iptr (tv b)), (7, .iptr (.agg [.ref b62 1 0 (matS a b).1.d.length, .ref c62 1 0 (matS a b).1.x.length])), (8, iv (matS a b).2), (9, iv (matS a b).2), (10, .iptr (tv (matS a b).1))]) (fun _ => σ.ten b62 c62 (matS a b).1.d (matS a b).1.x) ?_ ?_
              · refine aseq ?_
                refine areg rfl ?_
                refine s_det (D.load_i rfl rfl) rfl ?_
                refine s_cmp (D.call (evc rfl ev0) b_gradusref1_Tensor (gradusref1_Tensor _)) rfl (fun h66 => ?_) (fun h66 => ?_)
                · replace h66 := of_decide_eq_true h66
                  refine s_det (D.move rfl) rfl ?_
                  refine s_yes rfl rfl ?_
                  refine s_det (D.load_i rfl rfl) rfl ?_
                  refine s_yes rfl rfl ?_
                  refine s_cmp (D.call (evc rfl ev0) b_gradusref1_Tensor (gradusref1_Tensor _)) rfl (fun h69 => ?_) (fun h69 => ?_)
                  · replace h69 := of_decide_eq_true h69
                    refine s_det (D.pick rfl rfl rfl rfl) rfl ?_
                    refine s_nil ?_
                    refine acond_t rfl ?_
                    refine aseq ?_
                    refine areg rfl ?_
                    refine s_det (D.assign rfl) rfl ?_
                    refine s_nil ?_
                    refine aseq ?_
                    refine adraw [.det 0, .det 1, .det 2, .det 3, .det 4, .det 5, .det 6, .det 7, .det 8, .det 9, .det 10, .det 11, .det 12, .det 13, .det 14, .det 15, .det 16, .det 17, .det 18, .det 19, .det 20] rfl (by kernel_rfl) ?_
                    refine d_det rfl (D.field_i rfl rfl rfl) rfl ?_
                    refine d_det rfl (D.load_i rfl rfl) rfl ?_
                    refine d_det rfl (D.len_m rfl rfl) rfl ?_
                    refine d_cmp rfl (D.eql rfl rfl rfl) rfl (fun h74 => ?_) (fun h74 => ?_)
                    · replace h74 := of_decide_eq_true h74
                      refine d_det rfl (D.move rfl) rfl ?_
                      refine d_yes rfl rfl rfl (D.field_i rfl rfl rfl) rfl ?_
                      refine d_yes rfl rfl rfl (D.load_i rfl rfl) rfl ?_
                      refine d_yes rfl rfl rfl (D.len_m rfl rfl) rfl ?_
                      refine d_yesC rfl rfl rfl (D.eql rfl rfl rfl) rfl (fun h79 => ?_) (fun h79 => ?_)
                      · replace h79 := of_decide_eq_true h79
                        obtain ⟨r, m, xa, rfl, hxa, hr, hr8, hm, hm8⟩ := h66.mat (by omega)
                        obtain ⟨m', c, xb, rfl, hxb, hm', hm8', hc, hc8⟩ := h69.mat (by omega)
                        refine d_det rfl (D.pick rfl rfl rfl rfl) rfl ?_
                        refine d_det rfl (D.move rfl) rfl ?_
                        refine d_yes rfl rfl rfl (D.field_i rfl rfl rfl) rfl ?_
                        refine d_yes rfl rfl rfl (D.load_i rfl rfl) rfl ?_
                        refine d_yes rfl rfl rfl (D.idx_m rfl rfl (by omega) rfl rfl) rfl ?_
                        refine d_yes rfl rfl rfl (D.load_i rfl rfl) rfl ?_
                        refine d_yes rfl rfl rfl (D.field_i rfl rfl rfl) rfl ?_
                        refine d_yes rfl rfl rfl (D.load_i rfl rfl) rfl ?_
                        refine d_yes rfl rfl rfl (D.idx_m rfl rfl (by omega) rfl rfl) rfl ?_
                        refine d_yes rfl rfl rfl (D.load_i rfl rfl) rfl ?_
                        refine d_yesC rfl rfl rfl (D.eql rfl rfl rfl) rfl (fun h90 => ?_) (fun h90 => ?_)
                        · replace h90 := of_decide_eq_true h90
                          obtain rfl : m = m' := by omega
                          have hp := (matS_k ⟨h66, h69⟩ ⟨rfl, rfl, rfl⟩).trans (congrArg (fun e => (e, (0 : Int))) (matN_lit r m c xa xb))
                          refine d_det rfl (D.pick rfl rfl rfl rfl) rfl ?_
                          refine d_nil ?_
                          refine acond_t rfl ?_
                          refine areg rfl ?_
                          refine s_det (D.load_i rfl rfl) rfl ?_
                          refine s_det (D.load_i rfl rfl) rfl ?_
                          refine s_det (D.call (evc rfl (evc rfl ev0)) b_gradusref1_Mat (gradusref1_Mat r m c xa xb hr hr8 hm hm8 hc hc8 hxa hxb)) rfl ?_
                          refine s_det (D.assign rfl) rfl ?_
                          refine s_do (A.store rfl rfl (AH.set_self ..) rfl rfl (by rfl) rfl rfl ?_)
                          refine s_nil ?_
                          exact ⟨(), trivial, (by repeat (first | exact Sub.refl _ | refine Sub.set ?_ (by first | assumption | exact (AH.set_none (by assumption)).1 | exact (AH.set_none (AH.set_none (by assumption)).1).1 | exact (AH.set_none (AH.set_none (AH.set_none (by assumption)).1).1).1) _)), .cons rfl (.cons rfl (.cons rfl (.cons rfl (.cons rfl (.cons rfl (.cons rfl (.cons (congrArg (fun e : Tn × Int => some (iv e.2)) hp.symm) (.fix rfl (AH.set_self ..) (by first | assumption | exact (AH.set_none (by assumption)).1 | exact (AH.set_none (AH.set_none (by assumption)).1).1 | exact (AH.set_none (AH.set_none (AH.set_none (by assumption)).1).1).1) (by rw [hp]; exact .refl _) .nil))))))))⟩
                        · replace h90 := of_decide_eq_false h90
                          have hp := matS_e ⟨h66, h69⟩ (fun h => h90 h.2.2)
                          refine d_det rfl (D.pick rfl rfl rfl rfl) rfl ?_
                          refine d_nil ?_
                          refine acond_f rfl ?_
                          refine askip ?_
                          exact ⟨(), trivial, (by repeat (first | exact Sub.refl _ | refine Sub.set ?_ (by first | assumption | exact (AH.set_none (by assumption)).1 | exact (AH.set_none (AH.set_none (by assumption)).1).1 | exact (AH.set_none (AH.set_none (AH.set_none (by assumption)).1).1).1) _)), .cons rfl (.cons rfl (.cons rfl (.cons rfl (.cons rfl (.cons rfl (.cons rfl (.cons (congrArg (fun e : Tn × Int => some (iv e.2)) hp.symm) (.fix rfl (AH.set_self ..) (by first | assumption | exact (AH.set_none (by assumption)).1 | exact (AH.set_none (AH.set_none (by assumption)).1).1 | exact (AH.set_none (AH.set_none (AH.set_none (by assumption)).1).1).1) (wkI (congrArg Prod.fst hp)) .nil))))))))⟩
                      · replace h79 := of_decide_eq_false h79
                        have hp := matS_e (a := a) (b := b) ⟨h66, h69⟩ (fun h => by have := h.2.1; omega)
                        refine d_det rfl (D.pick rfl rfl rfl rfl) rfl ?_
                        refine d_det rfl (D.move rfl) rfl ?_
                        refine d_no rfl rfl rfl rfl rfl ?_
                        refine d_no rfl rfl rfl rfl rfl ?_
                        refine d_no rfl rfl rfl rfl rfl ?_
                        refine d_no rfl rfl rfl rfl rfl ?_
                        refine d_no rfl rfl rfl rfl rfl ?_
                        refine d_no rfl rfl rfl rfl rfl ?_
                        refine d_no rfl rfl rfl rfl rfl ?_
                        refine d_no rfl rfl rfl rfl rfl ?_
                        refine d_no rfl rfl rfl rfl rfl ?_
                        refine d_det rfl (D.pick rfl rfl rfl rfl) rfl ?_
                        refine d_nil ?_
                        refine acond_f rfl ?_
                        refine askip ?_
                        exact ⟨(), trivial, (by repeat (first | exact Sub.refl _ | refine Sub.set ?_ (by first | assumption | exact (AH.set_none (by assumption)).1 | exact (AH.set_none (AH.set_none (by assumption)).1).1 | exact (AH.set_none (AH.set_none (AH.set_none (by assumption)).1).1).1) _)), .cons rfl (.cons rfl (.cons rfl (.cons rfl (.cons rfl (.cons rfl (.cons rfl (.cons (congrArg (fun e : Tn × Int => some (iv e.2)) hp.symm) (.fix rfl (AH.set_self ..) (by first | assumption | exact (AH.set_none (by assumption)).1 | exact (AH.set_none (AH.set_none (by assumption)).1).1 | exact (AH.set_none (AH.set_none (AH.set_none (by assumption)).1).1).1) (wkI (congrArg Prod.fst hp)) .nil))))))))⟩
                    · replace h74 := of_decide_eq_false h74
                      have hp := matS_e (a := a) (b := b) ⟨h66, h69⟩ (fun h => by have := h.1; omega)
                      refine d_det rfl (D.move rfl) rfl ?_
                      refine d_no rfl rfl rfl rfl rfl ?_
                      refine d_no rfl rfl rfl rfl rfl ?_
                      refine d_no rfl rfl rfl rfl rfl ?_
                      refine d_no rfl rfl rfl rfl rfl ?_
                      refine d_det rfl (D.pick rfl rfl rfl rfl) rfl ?_
                      refine d_det rfl (D.move rfl) rfl ?_
                      refine d_no rfl rfl rfl rfl rfl ?_
                      refine d_no rfl rfl rfl rfl rfl ?_
                      refine d_no rfl rfl rfl rfl rfl ?_
                      refine d_no rfl rfl rfl rfl rfl ?_
                      refine d_no rfl rfl rfl rfl rfl ?_
                      refine d_no rfl rfl rfl rfl rfl ?_
                      refine d_no rfl rfl rfl rfl rfl ?_
                      refine d_no rfl rfl rfl rfl rfl ?_
                      refine d_no rfl rfl rfl rfl rfl ?_
                      refine d_det rfl (D.pick rfl rfl rfl rfl) rfl ?_
                      refine d_nil ?_
                      refine acond_f rfl ?_
                      refine askip ?_
                      exact ⟨(), trivial, (by repeat (first | exact Sub.refl _ | refine Sub.set ?_ (by first | assumption | exact (AH.set_none (by assumption)).1 | exact (AH.set_none (AH.set_none (by assumption)).1).1 | exact (AH.set_none (AH.set_none (AH.set_none (by assumption)).1).1).1) _)), .cons rfl (.cons rfl (.cons rfl (.cons rfl (.cons rfl (.cons rfl (.cons rfl (.cons (congrArg (fun e : Tn × Int => some (iv e.2)) hp.symm) (.fix rfl (AH.set_self ..) (by first | assumption | exact (AH.set_none (by assumption)).1 | exact (AH.set_none (AH.set_none (by assumption)).1).1 | exact (AH.set_none (AH.set_none (AH.set_none (by assumption)).1).1).1) (wkI (congrArg Prod.fst hp)) .nil))))))))⟩
                  · replace h69 := of_decide_eq_false h69
                    have hp := matS_f (a := a) (b := b) (fun h => h69 h.2)
                    refine s_det (D.pick rfl rfl rfl rfl) rfl ?_
                    refine s_nil ?_
                    refine acond_f rfl ?_
                    refine askip ?_
                    exact ⟨(), trivial, (by repeat (first | exact Sub.refl _ | refine Sub.set ?_ (by first | assumption | exact (AH.set_none (by assumption)).1 | exact (AH.set_none (AH.set_none (by assumption)).1).1 | exact (AH.set_none (AH.set_none (AH.set_none (by assumption)).1).1).1) _)), .cons rfl (.cons rfl (.cons rfl (.cons rfl (.cons rfl (.cons rfl (.cons rfl (.cons (congrArg (fun e : Tn × Int => some (iv e.2)) hp.symm) (.fix rfl (AH.set_self ..) (by first | assumption | exact (AH.set_none (by assumption)).1 | exact (AH.set_none (AH.set_none (by assumption)).1).1 | exact (AH.set_none (AH.set_none (AH.set_none (by assumption)).1).1).1) (wkI (congrArg Prod.fst hp)) .nil))))))))⟩
                · replace h66 := of_decide_eq_false h66
                  have hp := matS_f (a := a) (b := b) (fun h => h66 h.1)
                  refine s_det (D.move rfl) rfl ?_
                  refine s_no rfl rfl rfl rfl ?_
                  refine s_no rfl rfl rfl rfl ?_
                  refine s_det (D.pick rfl rfl rfl rfl) rfl ?_
                  refine s_nil ?_
                  refine acond_f rfl ?_
                  refine askip ?_
                  exact ⟨(), trivial, (by repeat (first | exact Sub.refl _ | refine Sub.set ?_ (by first | assumption | exact (AH.set_none (by assumption)).1 | exact (AH.set_none (AH.set_none (by assumption)).1).1 | exact (AH.set_none (AH.set_none (AH.set_none (by assumption)).1).1).1) _)), .cons rfl (.cons rfl (.cons rfl (.cons rfl (.cons rfl (.cons rfl (.cons rfl (.cons (congrArg (fun e : Tn × Int => some (iv e.2)) hp.symm) (.fix rfl (AH.set_self ..) (by first | assumption | exact (AH.set_none (by assumption)).1 | exact (AH.set_none (AH.set_none (by assumption)).1).1 | exact (AH.set_none (AH.set_none (AH.set_none (by assumption)).1).1).1) (wkI (congrArg Prod.fst hp)) .nil))))))))⟩
              · intro _ _
                refine aseq ?_
                refine aseq ?_
                refine adraw [.det 0, .det 1, .det 2, .det 3, .det 4, .det 5, .det 6, .act 7, .det 8, .det 9, .det 10, .det 11, .det 12, .det 13, .det 14, .det 15, .det 16, .det 17, .det 18, .det 19, .det 20, .det 21, .det 22, .det 23, .det 24, .det 25, .det 26, .det 27, .det 28, .det 29] rfl (by kernel_rfl) ?_
                refine d_det rfl (D.move rfl) rfl ?_
                refine d_det rfl (D.call (evc rfl ev0) b_graduslaw4_num (graduslaw4_num _)) rfl ?_
                refine d_det rfl (D.move rfl) rfl ?_
                refine d_det rfl (D.neq rfl rfl (decide_eq_false (fun h => h rfl))) rfl ?_
                refine d_det rfl (D.move rfl) rfl ?_
                refine d_yes rfl rfl rfl (D.load_i rfl rfl) rfl ?_
                refine d_yes rfl rfl rfl (D.load_i rfl rfl) rfl ?_
                refine d_yesA rfl rfl rfl rfl (by kernel_rfl) (A.call (evc rfl (evc rfl ev0)) b_gradusref0_EqTensor (Pure.reads (Pure.toT (gradusref0_EqTensor _ _ (matS_sm a b) (matS_sm a b)) rfl) rfl rfl (pz2 (Pz.ten (ten_d hn62) ten_x rfl rfl) (.refl _))) fun y σ' hy => ?_)
                obtain ⟨rfl, rfl⟩ := hy
                refine d_yes rfl rfl rfl (D.not rfl rfl) rfl ?_
                refine d_det rfl (D.pick rfl rfl rfl rfl) rfl ?_
                refine d_det rfl (D.move rfl) rfl ?_
                refine d_yes rfl rfl rfl (D.load_i rfl rfl) rfl ?_
                refine d_yes rfl rfl rfl (D.field_i rfl rfl rfl) rfl ?_
                refine d_yes rfl rfl rfl (D.load_i rfl rfl) rfl ?_
                refine d_yes rfl rfl rfl (D.move rfl) rfl ?_
                refine d_yes rfl rfl rfl (D.idx_m rfl rfl (by omega) hva rfl) rfl ?_
                refine d_yes rfl rfl rfl (D.load_i rfl rfl) rfl ?_
                refine d_yes rfl rfl rfl (D.call (evc rfl (evc rfl ev0)) b_gradusref0_EqTensor (Pure.toT (gradusref0_EqTensor _ _ hsa hsa) rfl)) rfl ?_
                refine d_yes rfl rfl rfl (D.not rfl rfl) rfl ?_
                refine d_det rfl (D.pick rfl rfl rfl rfl) rfl ?_
                refine d_det rfl (D.move rfl) rfl ?_
                refine d_yes rfl rfl rfl (D.load_i rfl rfl) rfl ?_
                refine d_yes rfl rfl rfl (D.field_i rfl rfl rfl) rfl ?_
                refine d_yes rfl rfl rfl (D.load_i rfl rfl) rfl ?_
                refine d_yes rfl rfl rfl (D.move rfl) rfl ?_
                refine d_yes rfl rfl rfl (D.idx_m rfl rfl (by omega) hvb rfl) rfl ?_
                refine d_yes rfl rfl rfl (D.load_i rfl rfl) rfl ?_
                refine d_yes rfl rfl rfl (D.call (evc rfl (evc rfl ev0)) b_gradusref0_EqTensor (Pure.toT (gradusref0_EqTensor _ _ hsb hsb) rfl)) rfl ?_
                refine d_yes rfl rfl rfl (D.not rfl rfl) rfl ?_
                refine d_det rfl (D.pick rfl rfl rfl rfl) rfl ?_
                refine d_nil ?_
                refine acond_f rfl ?_
                refine askip ?_
                refine areg rfl ?_
                refine s_det (D.load_i rfl rfl) rfl ?_
                refine s_act rfl (A.call (evc rfl ev0) b_graduslaw0_Tensor (graduslaw0_Tensor (matS a b).1 b62 c62 _ (ten_d hn62) ten_x hn62 (matS_sm a b).fit) fun y σ' hy => ?_)
                obtain ⟨rfl, d1, x1, rfl⟩ := hy
                refine s_nil ?_
                refine afreezew [(1, .iptr (.agg [.list false 2 (ts.map tv), ints ns])), (3, iv i), (4, iv k)] σ (by repeat (first | exact Sub.refl _ | refine Sub.set ?_ (by first | assumption | exact (AH.set_none (by assumption)).1 | exact (AH.set_none (AH.set_none (by assumption)).1).1 | exact (AH.set_none (AH.set_none (AH.set_none (by assumption)).1).1).1) _)) (.cons rfl (.cons rfl (.cons rfl .nil))) ?_
                refine areg rfl ?_
                refine s_det (D.move rfl) rfl ?_
                refine s_det (D.add rfl rfl (w64 (by omega) (by omega))) rfl ?_
                refine s_det (D.assign rfl) rfl ?_
                refine s_nil ?_
                exact ⟨k + 1, by omega, by omega, (.cons rfl (.cons rfl (.cons rfl .nil))), rfl⟩
            · replace h43 := of_decide_eq_false h43
              refine s_det (D.pick rfl rfl rfl rfl) rfl ?_
              refine s_nil ?_
              refine acond_f rfl ?_
              refine aexit ?_
              refine areg rfl ?_
              refine s_det (D.move rfl) rfl ?_
              refine s_det (D.add rfl rfl (w64 (by omega) (by omega))) rfl ?_
              refine s_det (D.assign rfl) rfl ?_
              refine s_nil ?_
              exact ⟨i + 1, by omega, by omega, (.cons rfl (.cons rfl .nil)), rfl⟩
          · replace h40 := of_decide_eq_false h40
            refine s_det (D.move rfl) rfl ?_
            refine s_no rfl rfl rfl rfl ?_
            refine s_no rfl rfl rfl rfl ?_
            refine s_det (D.pick rfl rfl rfl rfl) rfl ?_
            refine s_nil ?_
            refine acond_f rfl ?_
            refine aexit ?_
            refine areg rfl ?_
            refine s_det (D.move rfl) rfl ?_
            refine s_det (D.add rfl rfl (w64 (by omega) (by omega))) rfl ?_
            refine s_det (D.assign rfl) rfl ?_
            refine s_nil ?_
            exact ⟨i + 1, by omega, by omega, (.cons rfl (.cons rfl .nil)), rfl⟩
        · replace h32 := of_decide_eq_false h32
          refine s_det (D.pick rfl rfl rfl rfl) rfl ?_
          refine s_nil ?_
          refine acond_f rfl ?_
          refine aexit ?_
          exact ⟨(), trivial, Sub.refl _, (.cons rfl .nil)⟩
      · replace h29 := of_decide_eq_false h29
        refine s_det (D.move rfl) rfl ?_
        refine s_no rfl rfl rfl rfl ?_
        refine s_no rfl rfl rfl rfl ?_
        refine s_det (D.pick rfl rfl rfl rfl) rfl ?_
        refine s_nil ?_
        refine acond_f rfl ?_
        refine aexit ?_
        exact ⟨(), trivial, Sub.refl _, (.cons rfl .nil)⟩
    · intro _ _
      refine aseq ?_
      refine areg rfl ?_
      refine s_det (D.lit sl_int (pc rfl rfl (pc rfl rfl (pc rfl rfl (pc rfl rfl (pc rfl rfl (pc rfl rfl (pc rfl rfl (pc rfl rfl (pc rfl rfl p0))))))))) rfl rfl (by decide)) rfl ?_
      refine s_det (D.field_i rfl rfl rfl) rfl ?_
      refine s_det (D.load_i rfl rfl) rfl ?_
      refine s_det (D.append_l rfl rfl sl_int rfl (by simp; omega) (by decide)) rfl ?_
      refine s_det (D.assign rfl) rfl ?_
      refine s_nil ?_
      refine amidz (fun _ : Unit => True) (fun _ => []) (fun _ => σ) ?_ ?_
      · refine aseq ?_
        refine areg rfl ?_
        refine s_det (D.assign rfl) rfl ?_
        refine s_nil ?_
        refine ablock ?_
        -- LOOP writes [12] keeps [1, 11]
        refine aloop (ι := Nat) (fun k => k ≤ (nsM ns).length) (fun k => (nsM ns).length - k) (fun k => [(1, .iptr (.agg [.list false 2 (ts.map tv), ints ns])), (11, ints (nsM ns)), (12, iv k)]) (fun k => σ) 0 (by omega) ?_ rfl fun k hk => ?_
        · exact (.cons rfl (.cons rfl (.cons rfl .nil)))
        refine aseq ?_
        refine aseq ?_
        refine areg rfl ?_
        refine s_det (D.move rfl) rfl ?_
        refine s_det (D.move rfl) rfl ?_
        refine s_det (D.len_m rfl rfl) rfl ?_
        refine s_cmp (D.lss rfl rfl rfl) rfl (fun h134 => ?_) (fun h134 => ?_)
        · replace h134 := of_decide_eq_true h134
          refine s_det (D.move rfl) rfl ?_
          refine s_yes rfl rfl ?_
          refine s_det (D.move rfl) rfl ?_
          refine s_yes rfl rfl ?_
          refine s_cmp (D.lss rfl rfl rfl) rfl (fun h137 => ?_) (fun h137 => ?_)
          · replace h137 := of_decide_eq_true h137
            have hnl : (nsM ns).length = ns.length + 9 := by simp
            obtain ⟨n, hvn⟩ : ∃ n, (nsM ns)[k]? = some n := ⟨_, get_lt (by omega)⟩
            refine s_det (D.pick rfl rfl rfl rfl) rfl ?_
            refine s_nil ?_
            refine acond_t rfl ?_
            refine askip ?_
            refine aseq ?_
            refine ablock ?_
            refine aseq ?_
            refine areg rfl ?_
            refine s_det (D.move rfl) rfl ?_
            refine s_det (D.move rfl) rfl ?_
            refine s_det (D.idx_m rfl rfl (by omega) hvn rfl) rfl ?_
            refine s_det (D.load_i rfl rfl) rfl ?_
            refine s_det (D.call (evc rfl ev0) b_mat_One (mat_One n)) rfl ?_
            refine s_det (D.move rfl) rfl ?_
            refine s_det (D.extract rfl rfl) rfl ?_
            refine s_det (D.extract rfl rfl) rfl ?_
            refine s_act rfl (A.alloc rfl rfl rfl fun b13 hb13 => ?_)
            refine s_do (A.store rfl rfl (AH.set_self ..) rfl rfl (by rfl) rfl rfl ?_)
            refine s_det (D.assign rfl) rfl ?_
            refine s_nil ?_
            rw [AH.set_set]
            refine afix (d := 13) rfl hb13 ?_
            refine aseq ?_
            refine areg rfl ?_
            refine s_det (D.assign rfl) rfl ?_
            refine s_nil ?_
            refine aseq ?_
            refine areg rfl ?_
            refine s_act rfl (A.alloc rfl rfl rfl fun b16 hb16 => ?_)
            refine s_nil ?_
            refine amidz (fun _ : Unit => True) (fun _ => [(1, .iptr (.agg [.list false 2 (ts.map tv), ints ns])), (11, ints (nsM ns)), (12, iv k), (13, .iptr (tv (oneS n).1)), (14, iv (oneS n).2), (15, iv (oneS n).2), (16, .iptr (tv (oneS n).1))]) (fun _ => σ) ?_ ?_
            · refine aseq ?_
              refine areg rfl ?_
              refine s_det (D.move rfl) rfl ?_
              refine s_det (D.move rfl) rfl ?_
              refine s_det (D.idx_m rfl rfl (by omega) hvn rfl) rfl ?_
              refine s_det (D.load_i rfl rfl) rfl ?_
              refine s_cmp (D.call (evc rfl (evc rfl (evc rfl ev0))) b_gradusref0_Between (gradusref0_Between n 1 8)) rfl (fun h153 => ?_) (fun h153 => ?_)
              · replace h153 := of_decide_eq_true h153
                obtain ⟨n', rfl⟩ : ∃ j : Nat, n = (j : Int) := ⟨n.toNat, by omega⟩
                have h1 : 1 ≤ n' := by omega
                have h8 : n' ≤ 8 := by omega
                have hp := oneS_k h1 h8
                refine s_nil ?_
                refine acond_t rfl ?_
                refine areg rfl ?_
                refine s_det (D.move rfl) rfl ?_
                refine s_det (D.move rfl) rfl ?_
                refine s_det (D.idx_m rfl rfl (by omega) hvn rfl) rfl ?_
                refine s_det (D.load_i rfl rfl) rfl ?_
                refine s_det (D.call (evc rfl ev0) b_gradusref1_One (gradusref1_One n' h1 h8)) rfl ?_
                refine s_det (D.assign rfl) rfl ?_
                refine s_do (A.store rfl rfl (AH.set_self ..) rfl rfl (by rfl) rfl rfl ?_)
                refine s_nil ?_
                exact ⟨(), trivial, (by repeat (first | exact Sub.refl _ | refine Sub.set ?_ (by first | assumption | exact (AH.set_none (by assumption)).1 | exact (AH.set_none (AH.set_none (by assumption)).1).1 | exact (AH.set_none (AH.set_none (AH.set_none (by assumption)).1).1).1) _)), .cons rfl (.cons rfl (.cons rfl (.cons rfl (.cons rfl (.cons (congrArg (fun e : Tn × Int => some (iv e.2)) hp.symm) (.fix rfl (AH.set_self ..) (by first | assumption | exact (AH.set_none (by assumption)).1 | exact (AH.set_none (AH.set_none (by assumption)).1).1 | exact (AH.set_none (AH.set_none (AH.set_none (by assumption)).1).1).1) (by rw [hp]; exact .refl _) .nil))))))⟩
              · replace h153 := of_decide_eq_false h153
                have hp := oneS_f h153
                refine s_nil ?_
                refine acond_f rfl ?_
                refine askip ?_
                exact ⟨(), trivial, (by repeat (first | exact Sub.refl _ | refine Sub.set ?_ (by first | assumption | exact (AH.set_none (by assumption)).1 | exact (AH.set_none (AH.set_none (by assumption)).1).1 | exact (AH.set_none (AH.set_none (AH.set_none (by assumption)).1).1).1) _)), .cons rfl (.cons rfl (.cons rfl (.cons rfl (.cons rfl (.cons (congrArg (fun e : Tn × Int => some (iv e.2)) hp.symm) (.fix rfl (AH.set_self ..) (by first | assumption | exact (AH.set_none (by assumption)).1 | exact (AH.set_none (AH.set_none (by assumption)).1).1 | exact (AH.set_none (AH.set_none (AH.set_none (by assumption)).1).1).1) (wkI (congrArg Prod.fst hp)) .nil))))))⟩
            · intro _ _
              refine aseq ?_
              refine aseq ?_
              refine areg rfl ?_
              refine s_det (D.move rfl) rfl ?_
              refine s_det (D.call (evc rfl ev0) b_graduslaw4_num (graduslaw4_num _)) rfl ?_
              refine s_det (D.move rfl) rfl ?_
              refine s_det (D.neq rfl rfl (decide_eq_false (fun h => h rfl))) rfl ?_
              refine s_det (D.move rfl) rfl ?_
              refine s_yes rfl rfl ?_
              refine s_det (D.load_i rfl rfl) rfl ?_
              refine s_yes rfl rfl ?_
              refine s_det (D.load_i rfl rfl) rfl ?_
              refine s_yes rfl rfl ?_
              refine s_det (D.call (evc rfl (evc rfl ev0)) b_gradusref0_EqTensor (Pure.toT (gradusref0_EqTensor _ _ (oneS_sm n) (oneS_sm n)) rfl)) rfl ?_
              refine s_yes rfl rfl ?_
              refine s_det (D.not rfl rfl) rfl ?_
              refine s_det (D.pick rfl rfl rfl rfl) rfl ?_
              refine s_nil ?_
              refine acond_f rfl ?_
              refine askip ?_
              refine aseq ?_
              refine areg rfl ?_
              refine s_det (D.assign rfl) rfl ?_
              refine s_nil ?_
              refine ablock ?_
              -- LOOP writes [17] keeps [1, 11, 12]
              refine aloop (ι := Nat) (fun i => i ≤ ts.length) (fun i => ts.length - i) (fun i => [(1, .iptr (.agg [.list false 2 (ts.map tv), ints ns])), (11, ints (nsM ns)), (12, iv k), (17, iv i)]) (fun i => σ) 0 (by omega) ?_ rfl fun i hi => ?_
              · exact (.cons rfl (.cons rfl (.cons rfl (.cons rfl .nil))))
              refine aseq ?_
              refine aseq ?_
              refine areg rfl ?_
              refine s_det (D.move rfl) rfl ?_
              refine s_det (D.field_i rfl rfl rfl) rfl ?_
              refine s_det (D.load_i rfl rfl) rfl ?_
              refine s_det (D.len_m rfl rfl) rfl ?_
              refine s_cmp (D.lss rfl rfl rfl) rfl (fun h173 => ?_) (fun h173 => ?_)
              · replace h173 := of_decide_eq_true h173
                refine s_det (D.move rfl) rfl ?_
                refine s_yes rfl rfl ?_
                refine s_det (D.move rfl) rfl ?_
                refine s_yes rfl rfl ?_
                refine s_cmp (D.lss rfl rfl rfl) rfl (fun h176 => ?_) (fun h176 => ?_)
                · replace h176 := of_decide_eq_true h176
                  obtain ⟨a, hva⟩ : ∃ a, ts[i]? = some a := ⟨_, get_lt (by omega)⟩
                  have hsa : a.sm := by have := hsm a (List.mem_of_getElem? hva); exact ⟨by omega, by omega⟩
                  refine s_det (D.pick rfl rfl rfl rfl) rfl ?_
                  refine s_nil ?_
                  refine acond_t rfl ?_
                  refine askip ?_
                  refine aseq ?_
                  refine ablock ?_
                  refine aseq ?_
                  refine areg rfl ?_
                  refine s_det (D.field_i rfl rfl rfl) rfl ?_
                  refine s_det (D.load_i rfl rfl) rfl ?_
                  refine s_det (D.move rfl) rfl ?_
                  refine s_det (D.idx_m rfl rfl (by omega) hva rfl) rfl ?_
                  refine s_det (D.load_i rfl rfl) rfl ?_
                  refine s_act rfl (A.alloc rfl rfl rfl fun b18 hb18 => ?_)
                  refine s_do (A.store rfl rfl (AH.set_self ..) rfl rfl (by rfl) rfl rfl ?_)
                  refine s_nil ?_
                  rw [AH.set_set]
                  refine afix (d := 18) rfl hb18 ?_
                  refine aseq ?_
                  refine adraw [.det 0, .det 1, .det 2, .det 3, .det 4, .det 5, .det 6, .det 7, .det 8, .act 9, .act 10, .det 11] rfl (by kernel_rfl) ?_
                  refine d_det rfl (D.load_i rfl rfl) rfl ?_
                  refine d_det rfl (D.move rfl) rfl ?_
                  refine d_det rfl (D.move rfl) rfl ?_
                  refine d_det rfl (D.idx_m rfl rfl (by omega) hvn rfl) rfl ?_
                  refine d_det rfl (D.load_i rfl rfl) rfl ?_
                  refine d_det rfl (D.call (evc rfl (evc rfl ev0)) b_mat_Power (mat_Power a n)) rfl ?_
                  refine d_det rfl (D.move rfl) rfl ?_
                  refine d_det rfl (D.extract rfl rfl) rfl ?_
                  refine d_det rfl (D.extract rfl rfl) rfl ?_
                  refine d_act rfl rfl rfl (A.alloc rfl rfl rfl fun b19 hb19 => ?_)
                  refine d_do rfl (by kernel_rfl) (A.store rfl rfl (AH.set_self ..) rfl rfl (by rfl) rfl rfl ?_)
                  refine d_det rfl (D.assign rfl) rfl ?_
                  refine d_nil ?_
                  rw [AH.set_set]
                  refine afix (d := 19) rfl hb19 ?_
                  refine aseq ?_
                  refine areg rfl ?_
                  refine s_det (D.assign rfl) rfl ?_
                  refine s_nil ?_
                  refine aseq ?_
                  refine areg rfl ?_
                  refine s_act rfl (A.alloc rfl rfl rfl fun b22 hb22 => ?_)
                  refine s_nil ?_
                  refine amidz (fun _ : Unit => True) (fun _ => [(1, .iptr (.agg [.list false 2 (ts.map tv), ints ns])), (11, ints (nsM ns)), (12, iv k), (17, iv i), (19, .iptr (tv (powS a n).1)), (20, iv (powS a n).2), (21, iv (powS a n).2), (22, .iptr (tv (powS a n).1))]) (fun _ => σ) ?_ ?_
                  · refine aseq ?_
                    refine areg rfl ?_
                    refine s_det (D.load_i rfl rfl) rfl ?_
                    refine s_cmp (D.call (evc rfl ev0) b_gradusref1_Tensor (gradusref1_Tensor _)) rfl (fun h195 => ?_) (fun h195 => ?_)
                    · replace h195 := of_decide_eq_true h195
                      refine s_det (D.move rfl) rfl ?_
                      refine s_yes rfl rfl ?_
                      refine s_det (D.move rfl) rfl ?_
                      refine s_yes rfl rfl ?_
                      refine s_det (D.move rfl) rfl ?_
                      refine s_yes rfl rfl ?_
                      refine s_det (D.idx_m rfl rfl (by omega) hvn rfl) rfl ?_
                      refine s_yes rfl rfl ?_
                      refine s_det (D.load_i rfl rfl) rfl ?_
                      refine s_yes rfl rfl ?_
                      refine s_cmp (D.call (evc rfl (evc rfl ev0)) b_gradusref0_Num (gradusref0_Num n 1073741824)) rfl (fun h201 => ?_) (fun h201 => ?_)
                      · replace h201 := of_decide_eq_true h201
                        have hok : okTn a ∧ 0 ≤ n ∧ n ≤ 1073741824 := ⟨h195, h201⟩
                        refine s_det (D.pick rfl rfl rfl rfl) rfl ?_
                        refine s_nil ?_
                        refine acond_t rfl ?_
                        refine aseq ?_
                        refine areg rfl ?_
                        refine s_det (D.assign rfl) rfl ?_
                        refine s_nil ?_
                        refine aseq ?_
                        refine adraw [.det 0, .det 1, .det 2, .det 3, .det 4, .det 5, .det 6, .det 7, .det 8, .det 9, .det 10, .det 11, .det 12, .det 13, .det 14] rfl (by kernel_rfl) ?_
                        refine d_det rfl (D.field_i rfl rfl rfl) rfl ?_
                        refine d_det rfl (D.load_i rfl rfl) rfl ?_
                        refine d_det rfl (D.len_m rfl rfl) rfl ?_
                        refine d_cmp rfl (D.eql rfl rfl rfl) rfl (fun h206 => ?_) (fun h206 => ?_)
                        · replace h206 := of_decide_eq_true h206
                          obtain ⟨r, m, x, rfl, hx, h1, h8, h1', h8'⟩ := h195.mat (by omega)
                          refine d_det rfl (D.move rfl) rfl ?_
                          refine d_yes rfl rfl rfl (D.field_i rfl rfl rfl) rfl ?_
                          refine d_yes rfl rfl rfl (D.load_i rfl rfl) rfl ?_
                          refine d_yes rfl rfl rfl (D.idx_m rfl rfl (by omega) rfl rfl) rfl ?_
                          refine d_yes rfl rfl rfl (D.load_i rfl rfl) rfl ?_
                          refine d_yes rfl rfl rfl (D.field_i rfl rfl rfl) rfl ?_
                          refine d_yes rfl rfl rfl (D.load_i rfl rfl) rfl ?_
                          refine d_yes rfl rfl rfl (D.idx_m rfl rfl (by omega) rfl rfl) rfl ?_
                          refine d_yes rfl rfl rfl (D.load_i rfl rfl) rfl ?_
                          refine d_yesC rfl rfl rfl (D.eql rfl rfl rfl) rfl (fun h216 => ?_) (fun h216 => ?_)
                          · replace h216 := of_decide_eq_true h216
                            obtain rfl : r = m := by omega
                            obtain ⟨n', rfl⟩ : ∃ j : Nat, n = (j : Int) := ⟨n.toNat, by omega⟩
                            have hp := powS_k hok ⟨rfl, rfl⟩
                            refine d_det rfl (D.pick rfl rfl rfl rfl) rfl ?_
                            refine d_nil ?_
                            refine acond_t rfl ?_
                            refine adraw [.det 0, .det 1, .det 2, .det 3, .det 4, .det 5, .det 6, .act 7] rfl (by kernel_rfl) ?_
                            refine d_det rfl (D.load_i rfl rfl) rfl ?_
                            refine d_det rfl (D.move rfl) rfl ?_
                            refine d_det rfl (D.move rfl) rfl ?_
                            refine d_det rfl (D.idx_m rfl rfl (by omega) hvn rfl) rfl ?_
                            refine d_det rfl (D.load_i rfl rfl) rfl ?_
                            refine d_det rfl (D.call (evc rfl (evc rfl ev0)) b_gradusref1_Power (gradusref1_Power r n' x h1 h8 hx (by omega))) rfl ?_
                            refine d_det rfl (D.assign rfl) rfl ?_
                            refine d_do rfl (by kernel_rfl) (A.store rfl rfl (AH.set_self ..) rfl rfl (by rfl) rfl rfl ?_)
                            refine d_nil ?_
                            exact ⟨(), trivial, (by repeat (first | exact Sub.refl _ | refine Sub.set ?_ (by first | assumption | exact (AH.set_none (by assumption)).1 | exact (AH.set_none (AH.set_none (by assumption)).1).1 | exact (AH.set_none (AH.set_none (AH.set_none (by assumption)).1).1).1) _)), .cons rfl (.cons rfl (.cons rfl (.cons rfl (.cons rfl (.cons rfl (.cons (congrArg (fun e : Tn × Int => some (iv e.2)) hp.symm) (.fix rfl (AH.set_self ..) (by first | assumption | exact (AH.set_none (by assumption)).1 | exact (AH.set_none (AH.set_none (by assumption)).1).1 | exact (AH.set_none (AH.set_none (AH.set_none (by assumption)).1).1).1) (by rw [hp]; exact .refl _) .nil)))))))⟩
                          · replace h216 := of_decide_eq_false h216
                            have hp := powS_e hok (fun h => h216 h.2)
                            refine d_det rfl (D.pick rfl rfl rfl rfl) rfl ?_
                            refine d_nil ?_
                            refine acond_f rfl ?_
                            refine askip ?_
                            exact ⟨(), trivial, (by repeat (first | exact Sub.refl _ | refine Sub.set ?_ (by first | assumption | exact (AH.set_none (by assumption)).1 | exact (AH.set_none (AH.set_none (by assumption)).1).1 | exact (AH.set_none (AH.set_none (AH.set_none (by assumption)).1).1).1) _)), .cons rfl (.cons rfl (.cons rfl (.cons rfl (.cons rfl (.cons rfl (.cons (congrArg (fun e : Tn × Int => some (iv e.2)) hp.symm) (.fix rfl (AH.set_self ..) (by first | assumption | exact (AH.set_none (by assumption)).1 | exact (AH.set_none (AH.set_none (by assumption)).1).1 | exact (AH.set_none (AH.set_none (AH.set_none (by assumption)).1).1).1) (wkI (congrArg Prod.fst hp)) .nil)))))))⟩
                        · replace h206 := of_decide_eq_false h206
                          have hp := powS_e (a := a) hok (fun h => by have := h.1; omega)
                          refine d_det rfl (D.move rfl) rfl ?_
                          refine d_no rfl rfl rfl rfl rfl ?_
                          refine d_no rfl rfl rfl rfl rfl ?_
                          refine d_no rfl rfl rfl rfl rfl ?_
                          refine d_no rfl rfl rfl rfl rfl ?_
                          refine d_no rfl rfl rfl rfl rfl ?_
                          refine d_no rfl rfl rfl rfl rfl ?_
                          refine d_no rfl rfl rfl rfl rfl ?_
                          refine d_no rfl rfl rfl rfl rfl ?_
                          refine d_no rfl rfl rfl rfl rfl ?_
                          refine d_det rfl (D.pick rfl rfl rfl rfl) rfl ?_
                          refine d_nil ?_
                          refine acond_f rfl ?_
                          refine askip ?_
                          exact ⟨(), trivial, (by repeat (first | exact Sub.refl _ | refine Sub.set ?_ (by first | assumption | exact (AH.set_none (by assumption)).1 | exact (AH.set_none (AH.set_none (by assumption)).1).1 | exact (AH.set_none (AH.set_none (AH.set_none (by assumption)).1).1).1) _)), .cons rfl (.cons rfl (.cons rfl (.cons rfl (.cons rfl (.cons rfl (.cons (congrArg (fun e : Tn × Int => some (iv e.2)) hp.symm) (.fix rfl (AH.set_self ..) (by first | assumption | exact (AH.set_none (by assumption)).1 | exact (AH.set_none (AH.set_none (by assumption)).1).1 | exact (AH.set_none (AH.set_none (AH.set_none (by assumption)).1).1).1) (wkI (congrArg Prod.fst hp)) .nil)))))))⟩
                      · replace h201 := of_decide_eq_false h201
                        have hp := powS_f (a := a) (k := n) (fun h => h201 h.2)
                        refine s_det (D.pick rfl rfl rfl rfl) rfl ?_
                        refine s_nil ?_
                        refine acond_f rfl ?_
                        refine askip ?_
                        exact ⟨(), trivial, (by repeat (first | exact Sub.refl _ | refine Sub.set ?_ (by first | assumption | exact (AH.set_none (by assumption)).1 | exact (AH.set_none (AH.set_none (by assumption)).1).1 | exact (AH.set_none (AH.set_none (AH.set_none (by assumption)).1).1).1) _)), .cons rfl (.cons rfl (.cons rfl (.cons rfl (.cons rfl (.cons rfl (.cons (congrArg (fun e : Tn × Int => some (iv e.2)) hp.symm) (.fix rfl (AH.set_self ..) (by first | assumption | exact (AH.set_none (by assumption)).1 | exact (AH.set_none (AH.set_none (by assumption)).1).1 | exact (AH.set_none (AH.set_none (AH.set_none (by assumption)).1).1).1) (wkI (congrArg Prod.fst hp)) .nil)))))))⟩
                    · replace h195 := of_decide_eq_false h195
                      have hp := powS_f (a := a) (k := n) (fun h => h195 h.1)
                      refine s_det (D.move rfl) rfl ?_
                      refine s_no rfl rfl rfl rfl ?_
                      refine s_no rfl rfl rfl rfl ?_
                      refine s_no rfl rfl rfl rfl ?_
                      refine s_no rfl rfl rfl rfl ?_
                      refine s_no rfl rfl rfl rfl ?_
                      refine s_det (D.pick rfl rfl rfl rfl) rfl ?_
                      refine s_nil ?_
                      refine acond_f rfl ?_
                      refine askip ?_
                      exact ⟨(), trivial, (by repeat (first | exact Sub.refl _ | refine Sub.set ?_ (by first | assumption | exact (AH.set_none (by assumption)).1 | exact (AH.set_none (AH.set_none (by assumption)).1).1 | exact (AH.set_none (AH.set_none (AH.set_none (by assumption)).1).1).1) _)), .cons rfl (.cons rfl (.cons rfl (.cons rfl (.cons rfl (.cons rfl (.cons (congrArg (fun e : Tn × Int => some (iv e.2)) hp.symm) (.fix rfl (AH.set_self ..) (by first | assumption | exact (AH.set_none (by assumption)).1 | exact (AH.set_none (AH.set_none (by assumption)).1).1 | exact (AH.set_none (AH.set_none (AH.set_none (by assumption)).1).1).1) (wkI (congrArg Prod.fst hp)) .nil)))))))⟩
                  · intro _ _
                    refine aseq ?_
                    refine areg rfl ?_
                    refine s_det (D.move rfl) rfl ?_
                    refine s_det (D.call (evc rfl ev0) b_graduslaw4_num (graduslaw4_num _)) rfl ?_
                    refine s_det (D.move rfl) rfl ?_
                    refine s_det (D.neq rfl rfl (decide_eq_false (fun h => h rfl))) rfl ?_
                    refine s_det (D.move rfl) rfl ?_
                    refine s_yes rfl rfl ?_
                    refine s_det (D.load_i rfl rfl) rfl ?_
                    refine s_yes rfl rfl ?_
                    refine s_det (D.load_i rfl rfl) rfl ?_
                    refine s_yes rfl rfl ?_
                    refine s_det (D.call (evc rfl (evc rfl ev0)) b_gradusref0_EqTensor (Pure.toT (gradusref0_EqTensor _ _ (powS_sm a n) (powS_sm a n)) rfl)) rfl ?_
                    refine s_yes rfl rfl ?_
                    refine s_det (D.not rfl rfl) rfl ?_
                    refine s_det (D.pick rfl rfl rfl rfl) rfl ?_
                    refine s_nil ?_
                    refine acond_f rfl ?_
                    refine askip ?_
                    refine areg rfl ?_
                    refine s_det (D.move rfl) rfl ?_
                    refine s_det (D.add rfl rfl (w64 (by omega) (by omega))) rfl ?_
                    refine s_det (D.assign rfl) rfl ?_
                    refine s_nil ?_
                    exact ⟨i + 1, by omega, by omega, (.cons rfl (.cons rfl (.cons rfl (.cons rfl .nil)))), rfl⟩
                · replace h176 := of_decide_eq_false h176
                  refine s_det (D.pick rfl rfl rfl rfl) rfl ?_
                  refine s_nil ?_
                  refine acond_f rfl ?_
                  refine aexit ?_
                  refine areg rfl ?_
                  refine s_det (D.move rfl) rfl ?_
                  refine s_det (D.add rfl rfl (w64 (by omega) (by omega))) rfl ?_
                  refine s_det (D.assign rfl) rfl ?_
                  refine s_nil ?_
                  exact ⟨k + 1, by omega, by omega, (.cons rfl (.cons rfl (.cons rfl .nil))), rfl⟩
              · replace h173 := of_decide_eq_false h173
                refine s_det (D.move rfl) rfl ?_
                refine s_no rfl rfl rfl rfl ?_
                refine s_no rfl rfl rfl rfl ?_
                refine s_det (D.pick rfl rfl rfl rfl) rfl ?_
                refine s_nil ?_
                refine acond_f rfl ?_
                refine aexit ?_
                refine areg rfl ?_
                refine s_det (D.move rfl) rfl ?_
                refine s_det (D.add rfl rfl (w64 (by omega) (by omega))) rfl ?_
                refine s_det (D.assign rfl) rfl ?_
                refine s_nil ?_
                exact ⟨k + 1, by omega, by omega, (.cons rfl (.cons rfl (.cons rfl .nil))), rfl⟩
          · replace h137 := of_decide_eq_false h137
            refine s_det (D.pick rfl rfl rfl rfl) rfl ?_
            refine s_nil ?_
            refine acond_f rfl ?_
            refine aexit ?_
            exact ⟨(), trivial, Sub.refl _, .nil⟩
        · replace h134 := of_decide_eq_false h134
          refine s_det (D.move rfl) rfl ?_
          refine s_no rfl rfl rfl rfl ?_
          refine s_no rfl rfl rfl rfl ?_
          refine s_det (D.pick rfl rfl rfl rfl) rfl ?_
          refine s_nil ?_
          refine acond_f rfl ?_
          refine aexit ?_
          exact ⟨(), trivial, Sub.refl _, .nil⟩
      · intro _ _
        refine aseq ?_
        refine areg rfl ?_
        refine s_det (D.call ev0 b_graduslaw4_wakes graduslaw4_wakes) rfl ?_
        refine s_det (D.assign rfl) rfl ?_
        refine s_nil ?_
        refine aret ?_
        exact ⟨[_], ⟨⟨rfl, rfl⟩, trivial⟩, rfl, rfl⟩

theorem matMuls_pure (x : Ask2) (hx : G46 x) : Pure Try.prog 6 [enc46 x] (bv true) := graduslaw4_MatMuls x.1 x.2 hx.ok.1 hx.ok.2.1 hx.ok.2.2

end Go.Proofs.Ytpjcidlkdfebhaa.F
