/- Functions of the program and of the references: what they compute, by the layer Al. Made by a program of this session (wip/al/alfill.py) out of wip/al/specs. -/
import Derived.Test.YtpjcidlkdfebhaaGe
import Derived.Test.YtpjcidlkdfebhaaAv
import Derived.Test.YtpjcidlkdfebhaaProg
namespace Go.Proofs.Ytpjcidlkdfebhaa.F
open Go Go.Proofs.Al
set_option linter.unusedVariables false
set_option linter.unusedSimpArgs false
set_option maxRecDepth 10000 in
theorem turn_Turn_s (a : Tn) (σ : AH) : ACalls Try.prog 72 [tv a] σ (OwnTEs (turnS a).1 (turnS a).2 σ) := by
  skip
  refine acalls Try.func72 rfl rfl (by decide) rfl rfl ?_
  refine aseq ?_
  refine areg rfl ?_
  refine s_det (D.box_i rfl rfl) rfl ?_
  refine s_act rfl (A.alloc rfl rfl rfl fun b2 hb2 => ?_)
  refine s_det (D.assign rfl) rfl ?_
  refine s_nil ?_
  refine aseq ?_
  refine ablock ?_
  refine aseq ?_
  refine areg rfl ?_
  refine s_det (D.load_i rfl rfl) rfl ?_
  refine s_cmp (D.call (evc rfl ev0) b_shape_Is (shape_Is a)) rfl (fun h11 => ?_) (fun h11 => ?_)
  · replace h11 := of_decide_eq_true h11
    have hla := h11.1.2.1
    refine s_det (D.not rfl rfl) rfl ?_
    refine s_det (D.assign rfl) rfl ?_
    refine s_nil ?_
    refine acond_f rfl ?_
    refine aseq ?_
    refine areg rfl ?_
    refine s_det (D.field_i rfl rfl rfl) rfl ?_
    refine s_det (D.load_i rfl rfl) rfl ?_
    refine s_det (D.len_m rfl rfl) rfl ?_
    refine s_cmp (D.neq rfl rfl rfl) rfl (fun h18 => ?_) (fun h18 => ?_)
    · replace h18 := of_decide_eq_true h18
      refine s_det (D.assign rfl) rfl ?_
      refine s_nil ?_
      refine acond_t rfl ?_
      refine aseq ?_
      refine areg rfl ?_
      refine s_det (D.build rfl rfl rfl) rfl ?_
      refine s_do (A.store rfl rfl (AH.set_self ..) rfl rfl (by rfl) rfl rfl ?_)
      refine s_det (D.assign rfl) rfl ?_
      refine s_nil ?_
      refine aret ?_
      exact ⟨[_, _], ⟨⟨.inr ⟨_, _, _, _, _, _, _, rfl, AH.set_self .., rfl, rfl⟩, rfl⟩, ⟨rfl, rfl⟩, trivial⟩, by rw [turnS_e h11 (by omega)]; exact .inl ⟨rfl, rfl, (by repeat (first | exact Sub.refl _ | refine Sub.set ?_ (by first | assumption | exact (AH.set_none (by assumption)).1 | exact (AH.set_none (AH.set_none (by assumption)).1).1 | exact (AH.set_none (AH.set_none (AH.set_none (by assumption)).1).1).1) _))⟩⟩
    · replace h18 := of_decide_eq_false h18
      obtain ⟨r, c, x, rfl, hx, hr, hr8, hc, hc8⟩ := h11.mat (by omega)
      rw [turnS_k h11]
      have hd := okD2 hc hc8 hr hr8
      have hN : (zerosT [(c : Int), (r : Int)]).x.length = c * r := fill2_len c r 0
      have h64 := mul88 hr8 hc8
      refine s_det (D.assign rfl) rfl ?_
      refine s_nil ?_
      refine acond_f rfl ?_
      refine askip ?_
      refine aseq ?_
      refine adraw [.det 0, .det 1, .det 2, .det 3, .det 4, .det 5, .det 6, .det 7, .det 8, .det 9] rfl (by kernel_rfl) ?_
      refine d_det rfl (D.field_i rfl rfl rfl) rfl ?_
      refine d_det rfl (D.load_i rfl rfl) rfl ?_
      refine d_det rfl (D.idx_m rfl rfl (by omega) rfl rfl) rfl ?_
      refine d_det rfl (D.load_i rfl rfl) rfl ?_
      refine d_det rfl (D.field_i rfl rfl rfl) rfl ?_
      refine d_det rfl (D.load_i rfl rfl) rfl ?_
      refine d_det rfl (D.idx_m rfl rfl (by omega) rfl rfl) rfl ?_
      refine d_det rfl (D.load_i rfl rfl) rfl ?_
      refine d_det rfl (D.assign rfl) rfl ?_
      refine d_det rfl (D.assign rfl) rfl ?_
      refine d_nil ?_
      refine aseq ?_
      refine areg rfl ?_
      refine s_det (D.move rfl) rfl ?_
      refine s_det (D.move rfl) rfl ?_
      refine s_det (D.lit sl_int (pc rfl rfl (pc rfl rfl p0)) rfl rfl (by decide)) rfl ?_
      refine s_act rfl (A.call (evw rfl Wk.less ev0) b_shape_New (shape_New_own [(c : Int), (r : Int)] hd _) fun y σ' hy => ?_)
      obtain ⟨b31, c31, hb31, hc31, hn31, rfl, rfl⟩ := hy
      refine s_act rfl (A.alloc rfl rfl rfl fun b6 hb6 => ?_)
      refine s_do (A.store rfl rfl (AH.set_self ..) rfl rfl (by rfl) rfl rfl ?_)
      refine s_nil ?_
      rw [AH.set_set]
      refine afix (d := 6) rfl hb6 ?_
      refine aseq ?_
      refine aseq ?_
      refine areg rfl ?_
      refine s_det (D.move rfl) rfl ?_
      refine s_det (D.move rfl) rfl ?_
      refine s_nil ?_
      refine ablock ?_
      -- LOOP writes [33] keeps [1, 2, 4, 5, 6, 32]
      refine aloop (ι := Nat) (fun i => i ≤ r) (fun i => r - i) (fun i => [(1, .iptr (tv ⟨[(r : Int), (c : Int)], x⟩)), (2, .ptr b2 0 [] 0), (4, iv r), (5, iv c), (6, .iptr (.agg [.ref b31 1 0 2, .ref c31 1 0 (zerosT [(c : Int), (r : Int)]).x.length])), (32, iv r), (33, iv i)]) (fun i => (σ.set b2 (.row 2 [nilT])).ten b31 c31 [(c : Int), (r : Int)] (tab (c * r) fun m => if m % r < i then rdN x (m % r * c + m / r) else 0)) 0 (by omega) ?_ (congrArg (AH.ten _ b31 c31 _) ((fill2_x c r).trans ((tab_zero _).trans (tab_congr fun m _ => by simp)))) fun i hi => ?_
      · exact (.cons rfl (.cons rfl (.cons rfl (.cons rfl (.cons rfl (.cons rfl (.cons rfl .nil)))))))
      refine aseq ?_
      refine areg rfl ?_
      refine s_cmp (D.lss rfl rfl rfl) rfl (fun h34 => ?_) (fun h34 => ?_)
      · replace h34 := of_decide_eq_true h34
        have hir : i < r := by omega
        refine s_nil ?_
        refine aseq ?_
        refine acond_t rfl ?_
        refine askip ?_
        refine aseq ?_
        refine ablock ?_
        refine aseq ?_
        refine areg rfl ?_
        refine s_det (D.move rfl) rfl ?_
        refine s_det (D.assign rfl) rfl ?_
        refine s_nil ?_
        refine aseq ?_
        refine areg rfl ?_
        refine s_det (D.move rfl) rfl ?_
        refine s_det (D.move rfl) rfl ?_
        refine s_nil ?_
        refine ablock ?_
        -- LOOP writes [37] keeps [1, 2, 4, 5, 6, 7, 32, 33, 36]
        refine aloop (ι := Nat) (fun k => k ≤ c) (fun k => c - k) (fun k => [(1, .iptr (tv ⟨[(r : Int), (c : Int)], x⟩)), (2, .ptr b2 0 [] 0), (4, iv r), (5, iv c), (6, .iptr (.agg [.ref b31 1 0 2, .ref c31 1 0 (zerosT [(c : Int), (r : Int)]).x.length])), (7, iv i), (32, iv r), (33, iv i), (36, iv c), (37, iv k)]) (fun k => (σ.set b2 (.row 2 [nilT])).ten b31 c31 [(c : Int), (r : Int)] (tab (c * r) fun m => if m % r < i ∨ (m % r = i ∧ m / r < k) then rdN x (m % r * c + m / r) else 0)) 0 (by omega) ?_ (congrArg (AH.ten _ b31 c31 _) (tab_congr fun m _ => itec ⟨fun h => .inl h, fun h => h.elim id fun h => absurd h.2 (Nat.not_lt_zero _)⟩)) fun k hk => ?_
        · exact (.cons rfl (.cons rfl (.cons rfl (.cons rfl (.cons rfl (.cons rfl (.cons rfl (.cons rfl (.cons rfl (.cons rfl .nil))))))))))
        refine aseq ?_
        refine areg rfl ?_
        refine s_cmp (D.lss rfl rfl rfl) rfl (fun h38 => ?_) (fun h38 => ?_)
        · replace h38 := of_decide_eq_true h38
          have hkc : k < c := by omega
          have hp := pos_lt hkc hir
          have hp2 := pos_lt hir hkc
          have hcr : c * r ≤ 64 := mul88 hc8 hr8
          refine s_nil ?_
          refine aseq ?_
          refine acond_t rfl ?_
          refine askip ?_
          refine aseq ?_
          refine ablock ?_
          refine aseq ?_
          refine areg rfl ?_
          refine s_det (D.move rfl) rfl ?_
          refine s_det (D.assign rfl) rfl ?_
          refine s_nil ?_
          refine adraw [.det 0, .det 1, .det 2, .det 3, .det 4, .det 5, .det 6, .det 7, .det 8, .det 9, .det 10, .det 11, .det 12, .det 13, .det 14, .det 15, .det 16, .act 17] rfl (by kernel_rfl) ?_
          refine d_det rfl (D.field_i rfl rfl rfl) rfl ?_
          refine d_det rfl (D.load_i rfl rfl) rfl ?_
          refine d_det rfl (D.move rfl) rfl ?_
          refine d_det rfl (D.move rfl) rfl ?_
          refine d_det rfl (D.mul rfl rfl (mulN (a := k) (b := r) (by omega))) rfl ?_
          refine d_det rfl (D.move rfl) rfl ?_
          refine d_det rfl (D.add rfl rfl (addN (a := k * r) (b := i) (by omega))) rfl ?_
          refine d_det rfl (D.field_i rfl rfl rfl) rfl ?_
          refine d_det rfl (D.load_i rfl rfl) rfl ?_
          refine d_det rfl (D.move rfl) rfl ?_
          refine d_det rfl (D.move rfl) rfl ?_
          refine d_det rfl (D.mul rfl rfl (mulN (a := i) (b := c) (by omega))) rfl ?_
          refine d_det rfl (D.move rfl) rfl ?_
          refine d_det rfl (D.add rfl rfl (addN (a := i * c) (b := k) (by omega))) rfl ?_
          refine d_det rfl (D.idx_m rfl rfl (by omega) (get_lt (l := x) (i := i * c + k) (by omega)) rfl) rfl ?_
          refine d_det rfl (D.load_i rfl rfl) rfl ?_
          refine d_det rfl (D.idx_r rfl rfl (j := k * r + i) (by rw [hN]; omega) rfl) rfl ?_
          refine d_do rfl (by kernel_rfl) (A.store_t rfl rfl (by rw [tab_len]; omega) rfl ?_)
          refine d_nil ?_
          refine areg rfl ?_
          refine s_det (D.add rfl rfl (w64 (by omega) (by omega))) rfl ?_
          refine s_det (D.move rfl) rfl ?_
          refine s_nil ?_
          refine ⟨k + 1, by omega, by omega, (.cons rfl (.cons rfl (.cons rfl (.cons rfl (.cons rfl (.cons rfl (.cons rfl (.cons rfl (.cons rfl (.cons rfl .nil)))))))))), congrArg (AH.ten _ b31 c31 _) ?_⟩
          rw [tab_set]
          refine tab_congr fun m hm => ?_
          have hiff := divmod_iff (m := m) (i := k) hir
          by_cases h1 : m = k * r + i
          · obtain ⟨q1, q2⟩ := hiff.1 h1
            rw [if_pos h1, if_pos (by omega), q1, q2, rdN_get (by omega)]
          · rw [if_neg h1]
            exact itec ⟨fun h => h.imp id fun h => ⟨h.1, by omega⟩, fun h => h.imp id fun h => ⟨h.1, by
              have : m / r ≠ k := fun e => h1 (hiff.2 ⟨e, h.1⟩)
              omega⟩⟩
        · replace h38 := of_decide_eq_false h38
          refine s_nil ?_
          refine aseq ?_
          refine acond_f rfl ?_
          refine aexit ?_
          refine areg rfl ?_
          refine s_det (D.add rfl rfl (w64 (by omega) (by omega))) rfl ?_
          refine s_det (D.move rfl) rfl ?_
          refine s_nil ?_
          refine ⟨i + 1, by omega, by omega, (.cons rfl (.cons rfl (.cons rfl (.cons rfl (.cons rfl (.cons rfl (.cons rfl .nil))))))), congrArg (AH.ten _ b31 c31 _) (tab_congr fun m hm => itec ?_)⟩
          have h2 : m / r < c := Nat.div_lt_of_lt_mul (by rw [Nat.mul_comm]; exact hm)
          omega
      · replace h34 := of_decide_eq_false h34
        have hfin : (tab (c * r) fun m => if m % r < i then rdN x (m % r * c + m / r) else 0) = (turnT r c ⟨[(r : Int), (c : Int)], x⟩).x := tab_congr fun m hm => if_pos (by have := Nat.mod_lt m (show r > 0 by omega); omega)
        refine s_nil ?_
        refine aseq ?_
        refine acond_f rfl ?_
        refine aexit ?_
        refine aseq ?_
        refine areg rfl ?_
        refine s_det (D.load_i rfl rfl) rfl ?_
        refine s_do (A.store rfl rfl (ten_cell hb31 hc31) rfl rfl (by rfl) rfl rfl ?_)
        refine s_det (D.assign rfl) rfl ?_
        refine s_nil ?_
        refine aret ?_
        exact ⟨[_, _], ⟨⟨.inr ⟨_, _, _, _, _, _, _, rfl, AH.set_self .., rfl, rfl⟩, rfl⟩, ⟨rfl, rfl⟩, trivial⟩, .inr ⟨_, rfl, ten_done rfl hfin rfl (by rw [hN]; simp [turnT, tab_len]) hb2 hb31 hc31 hn31⟩⟩
  · replace h11 := of_decide_eq_false h11
    refine s_det (D.not rfl rfl) rfl ?_
    refine s_det (D.assign rfl) rfl ?_
    refine s_nil ?_
    refine acond_t rfl ?_
    refine aseq ?_
    refine areg rfl ?_
    refine s_det (D.build rfl rfl rfl) rfl ?_
    refine s_do (A.store rfl rfl (AH.set_self ..) rfl rfl (by rfl) rfl rfl ?_)
    refine s_det (D.assign rfl) rfl ?_
    refine s_nil ?_
    refine aret ?_
    exact ⟨[_, _], ⟨⟨.inr ⟨_, _, _, _, _, _, _, rfl, AH.set_self .., rfl, rfl⟩, rfl⟩, ⟨rfl, rfl⟩, trivial⟩, by rw [turnS_f h11]; exact .inl ⟨rfl, rfl, (by repeat (first | exact Sub.refl _ | refine Sub.set ?_ (by first | assumption | exact (AH.set_none (by assumption)).1 | exact (AH.set_none (AH.set_none (by assumption)).1).1 | exact (AH.set_none (AH.set_none (AH.set_none (by assumption)).1).1).1) _))⟩⟩

theorem turn_Turn_own (a : Tn) (σ : AH) : ACalls Try.prog 72 [tv a] σ (OwnTE (turnS a).1 (turnS a).2 σ) := (turn_Turn_s a σ).ownTE
theorem turn_Turn (a : Tn) : Pure Try.prog 72 [tv a] (.tup [tv (turnS a).1, iv (turnS a).2]) := pure_of_ownTE fun σ => turn_Turn_own a σ

set_option maxRecDepth 10000 in
theorem turn_Shape_s (a : Tn) (d : List Int) (σ : AH) : ACalls Try.prog 74 [tv a, ints d] σ (OwnTEs (shapeS a d).1 (shapeS a d).2 σ) := by
  skip
  refine acalls Try.func74 rfl rfl (by decide) rfl rfl ?_
  refine aseq ?_
  refine areg rfl ?_
  refine s_det (D.box_i rfl rfl) rfl ?_
  refine s_act rfl (A.alloc rfl rfl rfl fun b4 hb4 => ?_)
  refine s_det (D.assign rfl) rfl ?_
  refine s_nil ?_
  refine aseq ?_
  refine ablock ?_
  refine aseq ?_
  refine areg rfl ?_
  refine s_det (D.load_i rfl rfl) rfl ?_
  refine s_cmp (D.call (evc rfl ev0) b_shape_Is (shape_Is a)) rfl (fun h8 => ?_) (fun h8 => ?_)
  · replace h8 := of_decide_eq_true h8
    refine s_det (D.not rfl rfl) rfl ?_
    refine s_det (D.move rfl) rfl ?_
    refine s_yes rfl rfl ?_
    refine s_det (D.move rfl) rfl ?_
    refine s_yes rfl rfl ?_
    refine s_cmp (D.call (evc rfl ev0) b_shape_May (shape_May d)) rfl (fun h12 => ?_) (fun h12 => ?_)
    · replace h12 := of_decide_eq_true h12
      refine s_yes rfl rfl ?_
      refine s_det (D.not rfl rfl) rfl ?_
      refine s_det (D.pick rfl rfl rfl rfl) rfl ?_
      refine s_det (D.assign rfl) rfl ?_
      refine s_nil ?_
      refine acond_f rfl ?_
      refine aseq ?_
      refine adraw [.det 0, .det 1, .det 2, .det 3, .det 4, .det 5, .det 6] rfl (by kernel_rfl) ?_
      refine d_det rfl (D.move rfl) rfl ?_
      refine d_det rfl (D.call (evc rfl ev0) b_shape_Product (shape_Product d h12)) rfl ?_
      refine d_det rfl (D.field_i rfl rfl rfl) rfl ?_
      refine d_det rfl (D.load_i rfl rfl) rfl ?_
      refine d_det rfl (D.len_m rfl rfl) rfl ?_
      refine d_cmp rfl (D.neq rfl rfl rfl) rfl (fun h22 => ?_) (fun h22 => ?_)
      · replace h22 := of_decide_eq_true h22
        refine d_det rfl (D.assign rfl) rfl ?_
        refine d_nil ?_
        refine acond_t rfl ?_
        refine aseq ?_
        refine areg rfl ?_
        refine s_det (D.build rfl rfl rfl) rfl ?_
        refine s_do (A.store rfl rfl (AH.set_self ..) rfl rfl (by rfl) rfl rfl ?_)
        refine s_det (D.assign rfl) rfl ?_
        refine s_nil ?_
        refine aret ?_
        exact ⟨[_, _], ⟨⟨.inr ⟨_, _, _, _, _, _, _, rfl, AH.set_self .., rfl, rfl⟩, rfl⟩, ⟨rfl, rfl⟩, trivial⟩, by rw [shapeS, wayS_e ⟨h8, h12⟩ h22]; exact .inl ⟨rfl, rfl, (by repeat (first | exact Sub.refl _ | refine Sub.set ?_ (by first | assumption | exact (AH.set_none (by assumption)).1 | exact (AH.set_none (AH.set_none (by assumption)).1).1 | exact (AH.set_none (AH.set_none (AH.set_none (by assumption)).1).1).1) _))⟩⟩
      · replace h22 := of_decide_eq_false h22
        rw [shapeS, wayS_k ⟨h8, h12⟩ (Decidable.byContradiction h22)]
        refine d_det rfl (D.assign rfl) rfl ?_
        refine d_nil ?_
        refine acond_f rfl ?_
        refine askip ?_
        refine aseq ?_
        refine adraw [.det 0, .det 2, .det 3, .act 1, .act 4, .det 5, .act 6, .det 7] rfl (by kernel_rfl) ?_
        refine d_det rfl (D.move rfl) rfl ?_
        refine d_det rfl (D.field_i rfl rfl rfl) rfl ?_
        refine d_det rfl (D.load_i rfl rfl) rfl ?_
        refine d_act rfl rfl rfl (A.call (evc rfl ev0) b_slices_Clone (slices_Clone_own d (by have := h12.2.1; omega) _) fun y σ' hy => ?_)
        obtain ⟨b25, hb25, rfl, rfl⟩ := hy
        refine d_act rfl rfl rfl (A.call (evc rfl ev0) b_slices_Clone (slices_Clone_own a.x (by have := h8.len.2.1; omega) _) fun y σ' hy => ?_)
        obtain ⟨b28, hb28, rfl, rfl⟩ := hy
        refine d_det rfl (D.build rfl rfl ⟨_, rfl, rfl, rfl, by simp, ⟨_, rfl, rfl, rfl, by simp, rfl⟩⟩) rfl ?_
        refine d_do rfl (by kernel_rfl) (A.store rfl rfl (ten_cell hb25 (AH.set_none hb28).1) rfl rfl (by rfl) rfl rfl ?_)
        refine d_det rfl (D.assign rfl) rfl ?_
        refine d_nil ?_
        refine aret ?_
        exact ⟨[_, _], ⟨⟨.inr ⟨_, _, _, _, _, _, _, rfl, AH.set_self .., rfl, rfl⟩, rfl⟩, ⟨rfl, rfl⟩, trivial⟩, .inr ⟨_, rfl, ten_done rfl rfl rfl rfl hb4 hb25 (AH.set_none hb28).1 (AH.set_none hb28).2⟩⟩
    · replace h12 := of_decide_eq_false h12
      refine s_yes rfl rfl ?_
      refine s_det (D.not rfl rfl) rfl ?_
      refine s_det (D.pick rfl rfl rfl rfl) rfl ?_
      refine s_det (D.assign rfl) rfl ?_
      refine s_nil ?_
      refine acond_t rfl ?_
      refine aseq ?_
      refine areg rfl ?_
      refine s_det (D.build rfl rfl rfl) rfl ?_
      refine s_do (A.store rfl rfl (AH.set_self ..) rfl rfl (by rfl) rfl rfl ?_)
      refine s_det (D.assign rfl) rfl ?_
      refine s_nil ?_
      refine aret ?_
      exact ⟨[_, _], ⟨⟨.inr ⟨_, _, _, _, _, _, _, rfl, AH.set_self .., rfl, rfl⟩, rfl⟩, ⟨rfl, rfl⟩, trivial⟩, by rw [shapeS, wayS_f (fun h => h12 h.2)]; exact .inl ⟨rfl, rfl, (by repeat (first | exact Sub.refl _ | refine Sub.set ?_ (by first | assumption | exact (AH.set_none (by assumption)).1 | exact (AH.set_none (AH.set_none (by assumption)).1).1 | exact (AH.set_none (AH.set_none (AH.set_none (by assumption)).1).1).1) _))⟩⟩
  · replace h8 := of_decide_eq_false h8
    refine s_det (D.not rfl rfl) rfl ?_
    refine s_det (D.move rfl) rfl ?_
    refine s_no rfl rfl rfl rfl ?_
    refine s_no rfl rfl rfl rfl ?_
    refine s_no rfl rfl rfl rfl ?_
    refine s_det (D.pick rfl rfl rfl rfl) rfl ?_
    refine s_det (D.assign rfl) rfl ?_
    refine s_nil ?_
    refine acond_t rfl ?_
    refine aseq ?_
    refine areg rfl ?_
    refine s_det (D.build rfl rfl rfl) rfl ?_
    refine s_do (A.store rfl rfl (AH.set_self ..) rfl rfl (by rfl) rfl rfl ?_)
    refine s_det (D.assign rfl) rfl ?_
    refine s_nil ?_
    refine aret ?_
    exact ⟨[_, _], ⟨⟨.inr ⟨_, _, _, _, _, _, _, rfl, AH.set_self .., rfl, rfl⟩, rfl⟩, ⟨rfl, rfl⟩, trivial⟩, by rw [shapeS, wayS_f (fun h => h8 h.1)]; exact .inl ⟨rfl, rfl, (by repeat (first | exact Sub.refl _ | refine Sub.set ?_ (by first | assumption | exact (AH.set_none (by assumption)).1 | exact (AH.set_none (AH.set_none (by assumption)).1).1 | exact (AH.set_none (AH.set_none (AH.set_none (by assumption)).1).1).1) _))⟩⟩

theorem turn_Shape_own (a : Tn) (d : List Int) (σ : AH) : ACalls Try.prog 74 [tv a, ints d] σ (OwnTE (shapeS a d).1 (shapeS a d).2 σ) := (turn_Shape_s a d σ).ownTE
theorem turn_Shape (a : Tn) (d : List Int) : Pure Try.prog 74 [tv a, ints d] (.tup [tv (shapeS a d).1, iv (shapeS a d).2]) := pure_of_ownTE fun σ => turn_Shape_own a d σ

set_option maxRecDepth 10000 in
theorem turn_low (e d : List Int) (n : Int) (he : okD e) (hd : okD d) (hg : growsD e d) (h0 : 0 ≤ n) (hn : n < prod d) : Pure Try.prog 111 [ints e, ints d, iv n] (iv (lowN e d n)) := by
  refine pure_of_sub fun σ => ?_
  have hA := zeroL_length e (nums d n)
  have hl : (nums d n).length = e.length := by rw [nums_length]; exact (growsD_length hg).symm
  have he3 := he.2.1
  have hd64 := hd.2.2.2
  refine acalls Try.func111 rfl rfl (by decide) rfl rfl ?_
  refine aseq ?_
  refine areg rfl ?_
  refine s_det (D.assign rfl) rfl ?_
  refine s_nil ?_
  refine aseq ?_
  refine areg rfl ?_
  refine s_det (D.move rfl) rfl ?_
  refine s_det (D.move rfl) rfl ?_
  refine s_act rfl (A.call (evc rfl (evc rfl ev0)) b_shape_Numbers (shape_Numbers_own d n hd h0 (by omega) _) fun y σ' hy => ?_)
  obtain ⟨b12, hb12, rfl, rfl⟩ := hy
  refine s_det (D.assign rfl) rfl ?_
  refine s_nil ?_
  refine aseq ?_
  refine aseq ?_
  refine areg rfl ?_
  refine s_det (D.move rfl) rfl ?_
  refine s_det (D.len_m rfl rfl) rfl ?_
  refine s_det (D.move rfl) rfl ?_
  refine s_nil ?_
  refine ablock ?_
  -- LOOP writes [15] keeps [0, 7, 13, 14]
  refine aloop (ι := Nat) (fun i => i ≤ e.length) (fun i => e.length - i) (fun i => [(0, ints e), (7, .ref b12 1 0 (nums d n).length), (13, ints e), (14, iv e.length), (15, iv i)]) (fun i => σ.set b12 (rowI ((zeroL e (nums d n)).take i ++ (nums d n).drop i))) 0 (by omega) ?_ rfl fun i hi => ?_
  · exact (.cons rfl (.cons rfl (.cons rfl (.cons rfl (.cons rfl .nil)))))
  refine aseq ?_
  refine areg rfl ?_
  refine s_cmp (D.lss rfl rfl rfl) rfl (fun h16 => ?_) (fun h16 => ?_)
  · replace h16 := of_decide_eq_true h16
    have hlt : i < e.length := by omega
    have hg2 := zeroL_get e (nums d n) i hlt (by omega) (by omega)
    refine s_nil ?_
    refine aseq ?_
    refine acond_t rfl ?_
    refine askip ?_
    refine aseq ?_
    refine ablock ?_
    refine aseq ?_
    refine areg rfl ?_
    refine s_det (D.move rfl) rfl ?_
    refine s_det (D.idx_m rfl rfl (by omega) (get_lt (i := i) hlt) rfl) rfl ?_
    refine s_det (D.load_i rfl rfl) rfl ?_
    refine s_det (D.assign rfl) rfl ?_
    refine s_det (D.assign rfl) rfl ?_
    refine s_nil ?_
    refine aseq ?_
    refine areg rfl ?_
    refine s_det (D.move rfl) rfl ?_
    refine s_cmp (D.eql rfl rfl rfl) rfl (fun h21 => ?_) (fun h21 => ?_)
    · replace h21 := of_decide_eq_true h21
      refine s_nil ?_
      refine acond_t rfl ?_
      refine areg rfl ?_
      refine s_det (D.move rfl) rfl ?_
      refine s_det (D.move rfl) rfl ?_
      refine s_det (D.idx_r rfl rfl (by omega) rfl) rfl ?_
      refine s_do (A.store_r rfl rfl (by rw [mix_len hA (by omega)]; omega) rfl ?_)
      refine s_nil ?_
      refine areg rfl ?_
      refine s_det (D.add rfl rfl (w64 (by omega) (by omega))) rfl ?_
      refine s_det (D.move rfl) rfl ?_
      refine s_nil ?_
      exact ⟨i + 1, by omega, by omega, (.cons rfl (.cons rfl (.cons rfl (.cons rfl (.cons rfl .nil))))), congrArg (fun x => σ.set b12 (rowI x)) (mix_set hA (by omega) (by rw [hg2, if_pos h21]))⟩
    · replace h21 := of_decide_eq_false h21
      refine s_nil ?_
      refine acond_f rfl ?_
      refine askip ?_
      refine areg rfl ?_
      refine s_det (D.add rfl rfl (w64 (by omega) (by omega))) rfl ?_
      refine s_det (D.move rfl) rfl ?_
      refine s_nil ?_
      exact ⟨i + 1, by omega, by omega, (.cons rfl (.cons rfl (.cons rfl (.cons rfl (.cons rfl .nil))))), congrArg (fun x => σ.set b12 (rowI x)) (mix_keep hA (by omega) (by rw [hg2, if_neg h21]))⟩
  · replace h16 := of_decide_eq_false h16
    rw [mix_all hA (by omega)]
    refine s_nil ?_
    refine aseq ?_
    refine acond_f rfl ?_
    refine aexit ?_
    refine aseq ?_
    refine areg rfl ?_
    refine s_det (D.move rfl) rfl ?_
    refine s_det (D.move rfl) rfl ?_
    refine s_act rfl (A.call (evc rfl (evc rfl ev0)) b_shape_Place (Pure.reads (shape_Place e (zeroL e (nums d n)) he (zero_within hg (nums_within hd.2.2.1 h0 hn))) rfl rfl (pz2 (.refl _) (Pz.whole (AH.set_self ..) rfl (by simp [hA])))) fun y σ' hy => ?_)
    obtain ⟨rfl, rfl⟩ := hy
    refine s_det (D.assign rfl) rfl ?_
    refine s_nil ?_
    refine aret ?_
    exact ⟨[_], ⟨⟨rfl, rfl⟩, trivial⟩, ⟨rfl, (by repeat (first | exact Sub.refl _ | refine Sub.set ?_ (by first | assumption | exact (AH.set_none (by assumption)).1 | exact (AH.set_none (AH.set_none (by assumption)).1).1 | exact (AH.set_none (AH.set_none (AH.set_none (by assumption)).1).1).1) _))⟩⟩

end Go.Proofs.Ytpjcidlkdfebhaa.F
