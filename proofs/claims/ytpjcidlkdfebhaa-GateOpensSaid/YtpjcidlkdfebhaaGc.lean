/- Functions of the program and of the references: what they compute, by the layer Al. Made by a program of this session (wip/al/alfill.py) out of wip/al/specs. -/
import Derived.Test.YtpjcidlkdfebhaaGb
import Derived.Test.YtpjcidlkdfebhaaAu
import Derived.Test.YtpjcidlkdfebhaaProg
namespace Go.Proofs.Ytpjcidlkdfebhaa.F
open Go Go.Proofs.Al
set_option linter.unusedVariables false
set_option linter.unusedSimpArgs false
set_option maxRecDepth 10000 in
theorem mat_Mul_s (a b : Tn) (σ : AH) : ACalls Try.prog 35 [tv a, tv b] σ (OwnTEs (matS a b).1 (matS a b).2 σ) := by
  skip
  refine acalls Try.func35 rfl rfl (by decide) rfl rfl ?_
  refine aseq ?_
  refine areg rfl ?_
  refine s_det (D.box_i rfl rfl) rfl ?_
  refine s_det (D.box_i rfl rfl) rfl ?_
  refine s_act rfl (A.alloc rfl rfl rfl fun b4 hb4 => ?_)
  refine s_det (D.assign rfl) rfl ?_
  refine s_nil ?_
  refine aseq ?_
  refine ablock ?_
  refine aseq ?_
  refine areg rfl ?_
  refine s_det (D.load_i rfl rfl) rfl ?_
  refine s_det (D.load_i rfl rfl) rfl ?_
  refine s_det (D.lit sl_Tensor (pc rfl rfl (pc rfl rfl p0)) rfl rfl (by decide)) rfl ?_
  refine s_cmp (D.call (evc rfl ev0) b_shape_All (shape_All a b)) rfl (fun h18 => ?_) (fun h18 => ?_)
  · replace h18 := of_decide_eq_true h18
    obtain ⟨ha, hb⟩ := h18
    have hla := ha.1.2.1
    have hlb := hb.1.2.1
    refine s_det (D.not rfl rfl) rfl ?_
    refine s_det (D.assign rfl) rfl ?_
    refine s_nil ?_
    refine acond_f rfl ?_
    refine aseq ?_
    refine adraw [.det 0, .det 1, .det 2, .det 3, .det 4, .det 5, .det 6, .det 7, .det 8, .det 9, .det 10, .det 11, .det 12, .det 13, .det 14, .det 15, .det 16, .det 17, .det 18, .det 19, .det 20, .det 21] rfl (by kernel_rfl) ?_
    refine d_det rfl (D.field_i rfl rfl rfl) rfl ?_
    refine d_det rfl (D.load_i rfl rfl) rfl ?_
    refine d_det rfl (D.len_m rfl rfl) rfl ?_
    refine d_cmp rfl (D.neq rfl rfl rfl) rfl (fun h25 => ?_) (fun h25 => ?_)
    · replace h25 := of_decide_eq_true h25
      refine d_det rfl (D.move rfl) rfl ?_
      refine d_no rfl rfl rfl rfl rfl ?_
      refine d_no rfl rfl rfl rfl rfl ?_
      refine d_no rfl rfl rfl rfl rfl ?_
      refine d_no rfl rfl rfl rfl rfl ?_
      refine d_det rfl (D.pick rfl rfl rfl rfl) rfl ?_
      refine d_det rfl (D.move rfl) rfl ?_
      refine d_no rfl rfl rfl rfl rfl ?_
      refine d_no rfl rfl rfl rfl rfl ?_
      refine d_no rfl rfl rfl rfl rfl ?_
      refine d_no rfl rfl rfl rfl rfl ?_
      refine d_no rfl rfl rfl rfl rfl ?_
      refine d_no rfl rfl rfl rfl rfl ?_
      refine d_no rfl rfl rfl rfl rfl ?_
      refine d_no rfl rfl rfl rfl rfl ?_
      refine d_no rfl rfl rfl rfl rfl ?_
      refine d_det rfl (D.pick rfl rfl rfl rfl) rfl ?_
      refine d_det rfl (D.assign rfl) rfl ?_
      refine d_nil ?_
      refine acond_t rfl ?_
      refine aseq ?_
      refine areg rfl ?_
      refine s_det (D.build rfl rfl rfl) rfl ?_
      refine s_do (A.store rfl rfl (AH.set_self ..) rfl rfl (by rfl) rfl rfl ?_)
      refine s_det (D.assign rfl) rfl ?_
      refine s_nil ?_
      refine aret ?_
      have e : matS a b = (⟨[], []⟩, 4) := matS_e ⟨ha, hb⟩ (fun h => by have := h.1; omega)
      exact ⟨[_, _], ⟨⟨.inr ⟨_, _, _, _, _, _, _, rfl, AH.set_self .., rfl, rfl⟩, rfl⟩, ⟨rfl, rfl⟩, trivial⟩, by rw [e]; exact .inl ⟨rfl, rfl, (by repeat (first | exact Sub.refl _ | refine Sub.set ?_ (by first | assumption | exact (AH.set_none (by assumption)).1 | exact (AH.set_none (AH.set_none (by assumption)).1).1 | exact (AH.set_none (AH.set_none (AH.set_none (by assumption)).1).1).1) _))⟩⟩
    · replace h25 := of_decide_eq_false h25
      refine d_det rfl (D.move rfl) rfl ?_
      refine d_yes rfl rfl rfl (D.field_i rfl rfl rfl) rfl ?_
      refine d_yes rfl rfl rfl (D.load_i rfl rfl) rfl ?_
      refine d_yes rfl rfl rfl (D.len_m rfl rfl) rfl ?_
      refine d_yesC rfl rfl rfl (D.neq rfl rfl rfl) rfl (fun h30 => ?_) (fun h30 => ?_)
      · replace h30 := of_decide_eq_true h30
        refine d_det rfl (D.pick rfl rfl rfl rfl) rfl ?_
        refine d_det rfl (D.move rfl) rfl ?_
        refine d_no rfl rfl rfl rfl rfl ?_
        refine d_no rfl rfl rfl rfl rfl ?_
        refine d_no rfl rfl rfl rfl rfl ?_
        refine d_no rfl rfl rfl rfl rfl ?_
        refine d_no rfl rfl rfl rfl rfl ?_
        refine d_no rfl rfl rfl rfl rfl ?_
        refine d_no rfl rfl rfl rfl rfl ?_
        refine d_no rfl rfl rfl rfl rfl ?_
        refine d_no rfl rfl rfl rfl rfl ?_
        refine d_det rfl (D.pick rfl rfl rfl rfl) rfl ?_
        refine d_det rfl (D.assign rfl) rfl ?_
        refine d_nil ?_
        refine acond_t rfl ?_
        refine aseq ?_
        refine areg rfl ?_
        refine s_det (D.build rfl rfl rfl) rfl ?_
        refine s_do (A.store rfl rfl (AH.set_self ..) rfl rfl (by rfl) rfl rfl ?_)
        refine s_det (D.assign rfl) rfl ?_
        refine s_nil ?_
        refine aret ?_
        have e : matS a b = (⟨[], []⟩, 4) := matS_e ⟨ha, hb⟩ (fun h => by have := h.2.1; omega)
        exact ⟨[_, _], ⟨⟨.inr ⟨_, _, _, _, _, _, _, rfl, AH.set_self .., rfl, rfl⟩, rfl⟩, ⟨rfl, rfl⟩, trivial⟩, by rw [e]; exact .inl ⟨rfl, rfl, (by repeat (first | exact Sub.refl _ | refine Sub.set ?_ (by first | assumption | exact (AH.set_none (by assumption)).1 | exact (AH.set_none (AH.set_none (by assumption)).1).1 | exact (AH.set_none (AH.set_none (AH.set_none (by assumption)).1).1).1) _))⟩⟩
      · replace h30 := of_decide_eq_false h30
        obtain ⟨r, m, xa, rfl, hxa, hr, hr8, hm, hm8⟩ := ha.mat (by omega)
        obtain ⟨m', c, xb, rfl, hxb, hm', hm8', hc, hc8⟩ := hb.mat (by omega)
        refine d_det rfl (D.pick rfl rfl rfl rfl) rfl ?_
        refine d_det rfl (D.move rfl) rfl ?_
        refine d_yes rfl rfl rfl (D.field_i rfl rfl rfl) rfl ?_
        refine d_yes rfl rfl rfl (D.load_i rfl rfl) rfl ?_
        refine d_yes rfl rfl rfl (D.idx_m rfl rfl (by omega) rfl rfl) rfl ?_
        refine d_yes rfl rfl rfl (D.load_i rfl rfl) rfl ?_
        refine d_yes rfl rfl rfl (D.field_i rfl rfl rfl) rfl ?_
        refine d_yes rfl rfl rfl (D.load_i rfl rfl) rfl ?_
        refine d_yes rfl rfl rfl (D.idx_m rfl rfl (by omega) rfl rfl) rfl ?_
        refine d_yes rfl rfl rfl (D.load_i rfl rfl) rfl ?_
        refine d_yesC rfl rfl rfl (D.neq rfl rfl rfl) rfl (fun h41 => ?_) (fun h41 => ?_)
        · replace h41 := of_decide_eq_true h41
          refine d_det rfl (D.pick rfl rfl rfl rfl) rfl ?_
          refine d_det rfl (D.assign rfl) rfl ?_
          refine d_nil ?_
          refine acond_t rfl ?_
          refine aseq ?_
          refine areg rfl ?_
          refine s_det (D.build rfl rfl rfl) rfl ?_
          refine s_do (A.store rfl rfl (AH.set_self ..) rfl rfl (by rfl) rfl rfl ?_)
          refine s_det (D.assign rfl) rfl ?_
          refine s_nil ?_
          refine aret ?_
          have e : matS ⟨[(r : Int), (m : Int)], xa⟩ ⟨[(m' : Int), (c : Int)], xb⟩ = (⟨[], []⟩, 4) := matS_e ⟨ha, hb⟩ (fun h => h41 h.2.2)
          exact ⟨[_, _], ⟨⟨.inr ⟨_, _, _, _, _, _, _, rfl, AH.set_self .., rfl, rfl⟩, rfl⟩, ⟨rfl, rfl⟩, trivial⟩, by rw [e]; exact .inl ⟨rfl, rfl, (by repeat (first | exact Sub.refl _ | refine Sub.set ?_ (by first | assumption | exact (AH.set_none (by assumption)).1 | exact (AH.set_none (AH.set_none (by assumption)).1).1 | exact (AH.set_none (AH.set_none (AH.set_none (by assumption)).1).1).1) _))⟩⟩
        · replace h41 := of_decide_eq_false h41
          obtain rfl : m = m' := by omega
          have hd := okD2 hr hr8 hc hc8
          have hN : (zerosT [(r : Int), (c : Int)]).x.length = r * c := fill2_len r c 0
          have h64 := mul88 hr8 hc8
          have h64a := mul88 hr8 hm8
          have h64b := mul88 hm8 hc8
          rw [matS_k ⟨ha, hb⟩ ⟨rfl, rfl, rfl⟩, matN_lit]
          generalize hMM : (matT r m c ⟨[(r : Int), (m : Int)], xa⟩ ⟨[(m : Int), (c : Int)], xb⟩) = M
          have hAd : M.d = [(r : Int), (c : Int)] := by rw [← hMM]; rfl
          have hAx : M.x = tab (r * c) (fun p => (List.range m).foldl (macF m c xa xb p) 0) := by rw [← hMM]; rfl
          have hA : M.x.length = r * c := by rw [hAx, tab_len]
          refine d_det rfl (D.pick rfl rfl rfl rfl) rfl ?_
          refine d_det rfl (D.assign rfl) rfl ?_
          refine d_nil ?_
          refine acond_f rfl ?_
          refine askip ?_
          refine aseq ?_
          refine adraw [.det 0, .det 1, .det 2, .det 3, .det 4, .det 5, .det 6, .det 7, .det 8, .det 9, .det 10, .det 11, .det 12, .det 13, .det 14] rfl (by kernel_rfl) ?_
          refine d_det rfl (D.field_i rfl rfl rfl) rfl ?_
          refine d_det rfl (D.load_i rfl rfl) rfl ?_
          refine d_det rfl (D.idx_m rfl rfl (by omega) rfl rfl) rfl ?_
          refine d_det rfl (D.load_i rfl rfl) rfl ?_
          refine d_det rfl (D.field_i rfl rfl rfl) rfl ?_
          refine d_det rfl (D.load_i rfl rfl) rfl ?_
          refine d_det rfl (D.idx_m rfl rfl (by omega) rfl rfl) rfl ?_
          refine d_det rfl (D.load_i rfl rfl) rfl ?_
          refine d_det rfl (D.field_i rfl rfl rfl) rfl ?_
          refine d_det rfl (D.load_i rfl rfl) rfl ?_
          refine d_det rfl (D.idx_m rfl rfl (by omega) rfl rfl) rfl ?_
          refine d_det rfl (D.load_i rfl rfl) rfl ?_
          refine d_det rfl (D.assign rfl) rfl ?_
          refine d_det rfl (D.assign rfl) rfl ?_
          refine d_det rfl (D.assign rfl) rfl ?_
          refine d_nil ?_
          refine aseq ?_
          refine areg rfl ?_
          refine s_det (D.move rfl) rfl ?_
          refine s_det (D.move rfl) rfl ?_
          refine s_det (D.lit sl_int (pc rfl rfl (pc rfl rfl p0)) rfl rfl (by decide)) rfl ?_
          refine s_det (D.assign rfl) rfl ?_
          refine s_nil ?_
          refine aseq ?_
          refine aseq ?_
          refine areg rfl ?_
          refine s_det (D.move rfl) rfl ?_
          refine s_det (D.call (evw rfl Wk.less ev0) b_shape_May (Pure.toT (shape_May [(r : Int), (c : Int)]) hd)) rfl ?_
          refine s_det (D.not rfl rfl) rfl ?_
          refine s_nil ?_
          refine acond_f rfl ?_
          refine askip ?_
          refine aseq ?_
          refine areg rfl ?_
          refine s_det (D.move rfl) rfl ?_
          refine s_act rfl (A.call (evw rfl Wk.less ev0) b_shape_New (shape_New_own [(r : Int), (c : Int)] hd _) fun y σ' hy => ?_)
          obtain ⟨b64, c64, hb64, hc64, hn64, rfl, rfl⟩ := hy
          refine s_act rfl (A.alloc rfl rfl rfl fun b10 hb10 => ?_)
          refine s_do (A.store rfl rfl (AH.set_self ..) rfl rfl (by rfl) rfl rfl ?_)
          refine s_nil ?_
          rw [AH.set_set]
          refine afix (d := 10) rfl hb10 ?_
          refine aseq ?_
          refine aseq ?_
          refine areg rfl ?_
          refine s_det (D.move rfl) rfl ?_
          refine s_det (D.move rfl) rfl ?_
          refine s_nil ?_
          refine ablock ?_
          -- LOOP writes [66] keeps [2, 3, 4, 7, 8, 10, 65]
          refine aloop (ι := Nat) (fun i => i ≤ r) (fun i => r - i) (fun i => [(2, .iptr (tv ⟨[(r : Int), (m : Int)], xa⟩)), (3, .iptr (tv ⟨[(m : Int), (c : Int)], xb⟩)), (4, .ptr b4 0 [] 0), (7, iv m), (8, iv c), (10, .iptr (.agg [.ref b64 1 0 2, .ref c64 1 0 (zerosT [(r : Int), (c : Int)]).x.length])), (65, iv r), (66, iv i)]) (fun i => (σ.set b4 (.row 2 [nilT])).ten b64 c64 [(r : Int), (c : Int)] (M.x.take (i * c) ++ List.replicate (r * c - i * c) 0)) 0 (by omega) ?_ (congrArg (AH.ten _ b64 c64 _) ((fill2_x r c).trans (by simp))) fun i hi => ?_
          · exact (.cons rfl (.cons rfl (.cons rfl (.cons rfl (.cons rfl (.cons rfl (.cons rfl (.cons rfl .nil))))))))
          refine aseq ?_
          refine areg rfl ?_
          refine s_cmp (D.lss rfl rfl rfl) rfl (fun h67 => ?_) (fun h67 => ?_)
          · replace h67 := of_decide_eq_true h67
            have hir : i < r := by omega
            refine s_nil ?_
            refine aseq ?_
            refine acond_t rfl ?_
            refine askip ?_
            refine aseq ?_
            refine ablock ?_
            refine aseq ?_
            refine areg rfl ?_
            refine s_det (D.move rfl) rfl ?_
            refine s_det (D.assign rfl) rfl ?_
            refine s_nil ?_
            refine aseq ?_
            refine areg rfl ?_
            refine s_det (D.move rfl) rfl ?_
            refine s_det (D.move rfl) rfl ?_
            refine s_nil ?_
            refine ablock ?_
            -- LOOP writes [70] keeps [2, 3, 4, 7, 8, 10, 11, 65, 66, 69]
            refine aloop (ι := Nat) (fun k => k ≤ c) (fun k => c - k) (fun k => [(2, .iptr (tv ⟨[(r : Int), (m : Int)], xa⟩)), (3, .iptr (tv ⟨[(m : Int), (c : Int)], xb⟩)), (4, .ptr b4 0 [] 0), (7, iv m), (8, iv c), (10, .iptr (.agg [.ref b64 1 0 2, .ref c64 1 0 (zerosT [(r : Int), (c : Int)]).x.length])), (11, iv i), (65, iv r), (66, iv i), (69, iv c), (70, iv k)]) (fun k => (σ.set b4 (.row 2 [nilT])).ten b64 c64 [(r : Int), (c : Int)] (M.x.take (i * c + k) ++ List.replicate (r * c - (i * c + k)) 0)) 0 (by omega) ?_ rfl fun k hk => ?_
            · exact (.cons rfl (.cons rfl (.cons rfl (.cons rfl (.cons rfl (.cons rfl (.cons rfl (.cons rfl (.cons rfl (.cons rfl (.cons rfl .nil)))))))))))
            refine aseq ?_
            refine areg rfl ?_
            refine s_cmp (D.lss rfl rfl rfl) rfl (fun h71 => ?_) (fun h71 => ?_)
            · replace h71 := of_decide_eq_true h71
              have hkc : k < c := by omega
              have hp := pos_lt hir hkc
              obtain ⟨q1, q2⟩ := divmod (i := i) hkc
              have hBl : (M.x.take (i * c + k) ++ List.replicate (r * c - (i * c + k)) (0 : Int)).length = r * c := by rw [fill_len hA (by omega)]
              refine s_nil ?_
              refine aseq ?_
              refine acond_t rfl ?_
              refine askip ?_
              refine aseq ?_
              refine ablock ?_
              refine aseq ?_
              refine areg rfl ?_
              refine s_det (D.move rfl) rfl ?_
              refine s_det (D.assign rfl) rfl ?_
              refine s_nil ?_
              refine aseq ?_
              refine areg rfl ?_
              refine s_det (D.move rfl) rfl ?_
              refine s_det (D.move rfl) rfl ?_
              refine s_nil ?_
              refine ablock ?_
              -- LOOP writes [74] keeps [2, 3, 4, 7, 8, 10, 11, 12, 65, 66, 69, 70, 73]
              refine aloop (ι := Nat × Int) (fun s => s.1 ≤ m ∧ s.2 = (List.range s.1).foldl (macF m c xa xb (i * c + k)) 0) (fun s => m - s.1) (fun s => [(2, .iptr (tv ⟨[(r : Int), (m : Int)], xa⟩)), (3, .iptr (tv ⟨[(m : Int), (c : Int)], xb⟩)), (4, .ptr b4 0 [] 0), (7, iv m), (8, iv c), (10, .iptr (.agg [.ref b64 1 0 2, .ref c64 1 0 (zerosT [(r : Int), (c : Int)]).x.length])), (11, iv i), (12, iv k), (65, iv r), (66, iv i), (69, iv c), (70, iv k), (73, iv m), (74, iv s.1)]) (fun s => (σ.set b4 (.row 2 [nilT])).ten b64 c64 [(r : Int), (c : Int)] ((M.x.take (i * c + k) ++ List.replicate (r * c - (i * c + k)) 0).set (i * c + k) s.2)) (0, 0) ⟨by simp, by simp⟩ ?_ (congrArg (AH.ten _ b64 c64 _) (fill_zero hA hp).symm) fun s hs => ?_
              · exact (.cons rfl (.cons rfl (.cons rfl (.cons rfl (.cons rfl (.cons rfl (.cons rfl (.cons rfl (.cons rfl (.cons rfl (.cons rfl (.cons rfl (.cons rfl (.cons rfl .nil))))))))))))))
              obtain ⟨j, acc⟩ := s
              obtain ⟨hj, hacc⟩ := hs
              dsimp only at hj hacc
              refine aseq ?_
              refine areg rfl ?_
              refine s_cmp (D.lss rfl rfl rfl) rfl (fun h75 => ?_) (fun h75 => ?_)
              · replace h75 := of_decide_eq_true h75
                have hjm : j < m := by dsimp only at h75; omega
                have hpa := pos_lt hir hjm
                have hpb := pos_lt hjm hkc
                refine s_nil ?_
                refine aseq ?_
                refine acond_t rfl ?_
                refine askip ?_
                refine aseq ?_
                refine ablock ?_
                refine aseq ?_
                refine areg rfl ?_
                refine s_det (D.move rfl) rfl ?_
                refine s_det (D.assign rfl) rfl ?_
                refine s_nil ?_
                refine adraw [.det 0, .det 1, .det 2, .det 3, .det 4, .det 5, .det 6, .det 7, .det 8, .det 9, .det 10, .det 11, .det 12, .det 13, .det 14, .det 15, .det 16, .det 17, .det 18, .det 19, .det 20, .det 21, .det 22, .det 23, .det 24, .det 25, .det 26, .det 27, .det 28, .det 29, .act 30] rfl (by kernel_rfl) ?_
                refine d_det rfl (D.field_i rfl rfl rfl) rfl ?_
                refine d_det rfl (D.load_i rfl rfl) rfl ?_
                refine d_det rfl (D.move rfl) rfl ?_
                refine d_det rfl (D.move rfl) rfl ?_
                refine d_det rfl (D.mul rfl rfl (mulN (a := i) (b := c) (by omega))) rfl ?_
                refine d_det rfl (D.move rfl) rfl ?_
                refine d_det rfl (D.add rfl rfl (addN (a := i * c) (b := k) (by omega))) rfl ?_
                refine d_det rfl (D.idx_r rfl rfl (j := i * c + k) (by rw [hN]; omega) rfl) rfl ?_
                refine d_own ten_x rfl (D.load_x rfl (set_get (by rw [hBl]; exact hp)) rfl) rfl ?_
                refine d_det rfl (D.field_i rfl rfl rfl) rfl ?_
                refine d_det rfl (D.load_i rfl rfl) rfl ?_
                refine d_det rfl (D.move rfl) rfl ?_
                refine d_det rfl (D.move rfl) rfl ?_
                refine d_det rfl (D.mul rfl rfl (mulN (a := i) (b := m) (by omega))) rfl ?_
                refine d_det rfl (D.move rfl) rfl ?_
                refine d_det rfl (D.add rfl rfl (addN (a := i * m) (b := j) (by omega))) rfl ?_
                refine d_det rfl (D.idx_m rfl rfl (by omega) (get_lt (l := xa) (i := i * m + j) (by omega)) rfl) rfl ?_
                refine d_det rfl (D.load_i rfl rfl) rfl ?_
                refine d_det rfl (D.field_i rfl rfl rfl) rfl ?_
                refine d_det rfl (D.load_i rfl rfl) rfl ?_
                refine d_det rfl (D.move rfl) rfl ?_
                refine d_det rfl (D.move rfl) rfl ?_
                refine d_det rfl (D.mul rfl rfl (mulN (a := j) (b := c) (by omega))) rfl ?_
                refine d_det rfl (D.move rfl) rfl ?_
                refine d_det rfl (D.add rfl rfl (addN (a := j * c) (b := k) (by omega))) rfl ?_
                refine d_det rfl (D.idx_m rfl rfl (by omega) (get_lt (l := xb) (i := j * c + k) (by omega)) rfl) rfl ?_
                refine d_det rfl (D.load_i rfl rfl) rfl ?_
                refine d_det rfl (D.mul rfl rfl rfl) rfl ?_
                refine d_det rfl (D.add rfl rfl rfl) rfl ?_
                refine d_det rfl (D.idx_r rfl rfl (j := i * c + k) (by rw [hN]; omega) rfl) rfl ?_
                refine d_do rfl (by kernel_rfl) (A.store_t rfl rfl (by rw [List.length_set, hBl]; exact hp) rfl ?_)
                refine d_nil ?_
                refine areg rfl ?_
                refine s_det (D.add rfl rfl (w64 (by omega) (by omega))) rfl ?_
                refine s_det (D.move rfl) rfl ?_
                refine s_nil ?_
                refine ⟨(j + 1, IntKind.i64.wrap (acc + IntKind.i64.wrap (xa[i * m + j] * xb[j * c + k]))), ⟨hjm, ?_⟩, by dsimp only; omega, (.cons rfl (.cons rfl (.cons rfl (.cons rfl (.cons rfl (.cons rfl (.cons rfl (.cons rfl (.cons rfl (.cons rfl (.cons rfl (.cons rfl (.cons rfl (.cons rfl .nil)))))))))))))), congrArg (AH.ten _ b64 c64 _) (List.set_set ..)⟩
                dsimp only
                rw [← mat_fold hacc, q1, q2, rdN_get (show i * m + j < xa.length by omega), rdN_get (show j * c + k < xb.length by omega)]
              · replace h75 := of_decide_eq_false h75
                have hjm : j = m := by dsimp only at h75; omega
                refine s_nil ?_
                refine aseq ?_
                refine acond_f rfl ?_
                refine aexit ?_
                refine areg rfl ?_
                refine s_det (D.add rfl rfl (w64 (by omega) (by omega))) rfl ?_
                refine s_det (D.move rfl) rfl ?_
                refine s_nil ?_
                refine ⟨k + 1, by omega, by omega, (.cons rfl (.cons rfl (.cons rfl (.cons rfl (.cons rfl (.cons rfl (.cons rfl (.cons rfl (.cons rfl (.cons rfl (.cons rfl .nil))))))))))), congrArg (AH.ten _ b64 c64 _) ((fill_set hA (by omega) ?_).trans rfl)⟩
                subst hjm
                rw [hacc]
                simp only [hAx, tab_getE]
            · replace h71 := of_decide_eq_false h71
              refine s_nil ?_
              refine aseq ?_
              refine acond_f rfl ?_
              refine aexit ?_
              refine areg rfl ?_
              refine s_det (D.add rfl rfl (w64 (by omega) (by omega))) rfl ?_
              refine s_det (D.move rfl) rfl ?_
              refine s_nil ?_
              refine ⟨i + 1, by omega, by omega, (.cons rfl (.cons rfl (.cons rfl (.cons rfl (.cons rfl (.cons rfl (.cons rfl (.cons rfl .nil)))))))), congrArg (AH.ten _ b64 c64 _) ?_⟩
              have hkc : k = c := by omega
              subst hkc
              rw [Nat.succ_mul]
          · replace h67 := of_decide_eq_false h67
            refine s_nil ?_
            refine aseq ?_
            refine acond_f rfl ?_
            refine aexit ?_
            refine aseq ?_
            refine areg rfl ?_
            refine s_det (D.load_i rfl rfl) rfl ?_
            refine s_do (A.store rfl rfl (ten_cell hb64 hc64) rfl rfl (by rfl) rfl rfl ?_)
            refine s_det (D.assign rfl) rfl ?_
            refine s_nil ?_
            refine aret ?_
            exact ⟨[_, _], ⟨⟨.inr ⟨_, _, _, _, _, _, _, rfl, AH.set_self .., rfl, rfl⟩, rfl⟩, ⟨rfl, rfl⟩, trivial⟩, .inr ⟨_, rfl, ten_done hAd.symm (fill_all hA (by have e : i = r := (by omega); subst e; omega)) (by rw [hAd]; rfl) (by rw [hN, hA]) hb4 hb64 hc64 hn64⟩⟩
  · replace h18 := of_decide_eq_false h18
    refine s_det (D.not rfl rfl) rfl ?_
    refine s_det (D.assign rfl) rfl ?_
    refine s_nil ?_
    refine acond_t rfl ?_
    refine aseq ?_
    refine areg rfl ?_
    refine s_det (D.build rfl rfl rfl) rfl ?_
    refine s_do (A.store rfl rfl (AH.set_self ..) rfl rfl (by rfl) rfl rfl ?_)
    refine s_det (D.assign rfl) rfl ?_
    refine s_nil ?_
    refine aret ?_
    have e : matS a b = (⟨[], []⟩, 1) := matS_f h18
    exact ⟨[_, _], ⟨⟨.inr ⟨_, _, _, _, _, _, _, rfl, AH.set_self .., rfl, rfl⟩, rfl⟩, ⟨rfl, rfl⟩, trivial⟩, by rw [e]; exact .inl ⟨rfl, rfl, (by repeat (first | exact Sub.refl _ | refine Sub.set ?_ (by first | assumption | exact (AH.set_none (by assumption)).1 | exact (AH.set_none (AH.set_none (by assumption)).1).1 | exact (AH.set_none (AH.set_none (AH.set_none (by assumption)).1).1).1) _))⟩⟩

theorem mat_Mul_own (a b : Tn) (σ : AH) : ACalls Try.prog 35 [tv a, tv b] σ (OwnTE (matS a b).1 (matS a b).2 σ) := (mat_Mul_s a b σ).ownTE
theorem mat_Mul (a b : Tn) : Pure Try.prog 35 [tv a, tv b] (.tup [tv (matS a b).1, iv (matS a b).2]) := pure_of_ownTE fun σ => mat_Mul_own a b σ

end Go.Proofs.Ytpjcidlkdfebhaa.F
