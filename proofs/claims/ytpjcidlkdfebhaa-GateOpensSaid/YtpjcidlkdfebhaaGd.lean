/- Functions of the program and of the references: what they compute, by the layer Al. Made by a program of this session (wip/al/alfill.py) out of wip/al/specs. -/
import Derived.Test.YtpjcidlkdfebhaaGc
import Derived.Test.YtpjcidlkdfebhaaProg
namespace Go.Proofs.Ytpjcidlkdfebhaa.F
open Go Go.Proofs.Al
set_option linter.unusedVariables false
set_option linter.unusedSimpArgs false
theorem mat_Mul_lit (r m c : Nat) (xa xb : List Int) (hr : 1 ≤ r) (hr8 : r ≤ 8) (hm : 1 ≤ m) (hm8 : m ≤ 8) (hc : 1 ≤ c) (hc8 : c ≤ 8) (hxa : xa.length = r * m) (hxb : xb.length = m * c) : Pure Try.prog 35 [tv ⟨[(r : Int), (m : Int)], xa⟩, tv ⟨[(m : Int), (c : Int)], xb⟩] (.tup [tv (matT r m c ⟨[(r : Int), (m : Int)], xa⟩ ⟨[(m : Int), (c : Int)], xb⟩), iv 0]) :=
  (mat_Mul _ _).to (by rw [matS_k ⟨okTn.lit hr hr8 hm hm8 hxa, okTn.lit hm hm8 hc hc8 hxb⟩ ⟨rfl, rfl, rfl⟩, matN_lit])

set_option maxRecDepth 10000 in
theorem mat_One_s (n : Int) (σ : AH) : ACalls Try.prog 41 [iv n] σ (OwnTEs (oneS n).1 (oneS n).2 σ) := by
  skip
  refine acalls Try.func41 rfl rfl (by decide) rfl rfl ?_
  refine aseq ?_
  refine areg rfl ?_
  refine s_act rfl (A.alloc rfl rfl rfl fun b2 hb2 => ?_)
  refine s_det (D.assign rfl) rfl ?_
  refine s_nil ?_
  refine aseq ?_
  refine aseq ?_
  refine areg rfl ?_
  refine s_det (D.move rfl) rfl ?_
  refine s_cmp (D.lss rfl rfl rfl) rfl (fun h7 => ?_) (fun h7 => ?_)
  · replace h7 := of_decide_eq_true h7
    refine s_det (D.move rfl) rfl ?_
    refine s_no rfl rfl rfl rfl ?_
    refine s_no rfl rfl rfl rfl ?_
    refine s_det (D.pick rfl rfl rfl rfl) rfl ?_
    refine s_nil ?_
    refine acond_t rfl ?_
    refine aseq ?_
    refine areg rfl ?_
    refine s_det (D.build rfl rfl rfl) rfl ?_
    refine s_do (A.store rfl rfl (AH.set_self ..) rfl rfl (by rfl) rfl rfl ?_)
    refine s_det (D.assign rfl) rfl ?_
    refine s_nil ?_
    refine aret ?_
    exact ⟨[_, _], ⟨⟨.inr ⟨_, _, _, _, _, _, _, rfl, AH.set_self .., rfl, rfl⟩, rfl⟩, ⟨rfl, rfl⟩, trivial⟩, by rw [oneS_f (by omega)]; exact .inl ⟨rfl, rfl, (by repeat (first | exact Sub.refl _ | refine Sub.set ?_ (by first | assumption | exact (AH.set_none (by assumption)).1 | exact (AH.set_none (AH.set_none (by assumption)).1).1 | exact (AH.set_none (AH.set_none (AH.set_none (by assumption)).1).1).1) _))⟩⟩
  · replace h7 := of_decide_eq_false h7
    refine s_det (D.move rfl) rfl ?_
    refine s_yes rfl rfl ?_
    refine s_det (D.move rfl) rfl ?_
    refine s_yes rfl rfl ?_
    refine s_cmp (D.gtr rfl rfl rfl) rfl (fun h10 => ?_) (fun h10 => ?_)
    · replace h10 := of_decide_eq_true h10
      refine s_det (D.pick rfl rfl rfl rfl) rfl ?_
      refine s_nil ?_
      refine acond_t rfl ?_
      refine aseq ?_
      refine areg rfl ?_
      refine s_det (D.build rfl rfl rfl) rfl ?_
      refine s_do (A.store rfl rfl (AH.set_self ..) rfl rfl (by rfl) rfl rfl ?_)
      refine s_det (D.assign rfl) rfl ?_
      refine s_nil ?_
      refine aret ?_
      exact ⟨[_, _], ⟨⟨.inr ⟨_, _, _, _, _, _, _, rfl, AH.set_self .., rfl, rfl⟩, rfl⟩, ⟨rfl, rfl⟩, trivial⟩, by rw [oneS_f (by omega)]; exact .inl ⟨rfl, rfl, (by repeat (first | exact Sub.refl _ | refine Sub.set ?_ (by first | assumption | exact (AH.set_none (by assumption)).1 | exact (AH.set_none (AH.set_none (by assumption)).1).1 | exact (AH.set_none (AH.set_none (AH.set_none (by assumption)).1).1).1) _))⟩⟩
    · replace h10 := of_decide_eq_false h10
      obtain ⟨n, rfl⟩ : ∃ k : Nat, n = (k : Int) := ⟨n.toNat, by omega⟩
      have h1 : 1 ≤ n := by omega
      have h8 : n ≤ 8 := by omega
      rw [oneS_k h1 h8]
      have hd := okD2 h1 h8 h1 h8
      have hN2 : (zerosT [(n : Int), (n : Int)]).x.length = n * n := fill2_len n n 0
      have h64 := mul88 h8 h8
      refine s_det (D.pick rfl rfl rfl rfl) rfl ?_
      refine s_nil ?_
      refine acond_f rfl ?_
      refine askip ?_
      refine aseq ?_
      refine areg rfl ?_
      refine s_det (D.move rfl) rfl ?_
      refine s_det (D.move rfl) rfl ?_
      refine s_det (D.lit sl_int (pc rfl rfl (pc rfl rfl p0)) rfl rfl (by decide)) rfl ?_
      refine s_act rfl (A.call (evw rfl Wk.less ev0) b_shape_New (shape_New_own [(n : Int), (n : Int)] hd _) fun y σ' hy => ?_)
      obtain ⟨b16, c16, hb16, hc16, hn16, rfl, rfl⟩ := hy
      refine s_act rfl (A.alloc rfl rfl rfl fun b4 hb4 => ?_)
      refine s_do (A.store rfl rfl (AH.set_self ..) rfl rfl (by rfl) rfl rfl ?_)
      refine s_nil ?_
      rw [AH.set_set]
      refine afix (d := 4) rfl hb4 ?_
      refine aseq ?_
      refine aseq ?_
      refine areg rfl ?_
      refine s_det (D.move rfl) rfl ?_
      refine s_det (D.move rfl) rfl ?_
      refine s_nil ?_
      refine ablock ?_
      -- LOOP writes [18] keeps [0, 2, 4, 17]
      refine aloop (ι := Nat) (fun i => i ≤ n) (fun i => n - i) (fun i => [(0, iv n), (2, .ptr b2 0 [] 0), (4, .iptr (.agg [.ref b16 1 0 2, .ref c16 1 0 (zerosT [(n : Int), (n : Int)]).x.length])), (17, iv n), (18, iv i)]) (fun i => (σ.set b2 (.row 2 [nilT])).ten b16 c16 [(n : Int), (n : Int)] (tab (n * n) fun m => if m / n = m % n ∧ m / n < i then 1 else 0)) 0 (by omega) ?_ (congrArg (AH.ten _ b16 c16 _) ((fill2_x n n).trans (by rw [tab_zero]; exact tab_congr fun m _ => by simp))) fun i hi => ?_
      · exact (.cons rfl (.cons rfl (.cons rfl (.cons rfl (.cons rfl .nil)))))
      refine aseq ?_
      refine areg rfl ?_
      refine s_cmp (D.lss rfl rfl rfl) rfl (fun h19 => ?_) (fun h19 => ?_)
      · replace h19 := of_decide_eq_true h19
        have hlt : i < n := by omega
        have hp := pos_lt hlt hlt
        refine s_nil ?_
        refine aseq ?_
        refine acond_t rfl ?_
        refine askip ?_
        refine aseq ?_
        refine ablock ?_
        refine aseq ?_
        refine areg rfl ?_
        refine s_det (D.move rfl) rfl ?_
        refine s_det (D.assign rfl) rfl ?_
        refine s_nil ?_
        refine areg rfl ?_
        refine s_det (D.field_i rfl rfl rfl) rfl ?_
        refine s_det (D.load_i rfl rfl) rfl ?_
        refine s_det (D.move rfl) rfl ?_
        refine s_det (D.move rfl) rfl ?_
        refine s_det (D.mul rfl rfl (mulN (mul88' (by omega) h8))) rfl ?_
        refine s_det (D.move rfl) rfl ?_
        refine s_det (D.add rfl rfl (addN (by omega))) rfl ?_
        refine s_det (D.idx_r rfl rfl (by omega) rfl) rfl ?_
        refine s_do (A.store_t rfl rfl (by rw [tab_len]; exact hp) rfl ?_)
        refine s_nil ?_
        refine areg rfl ?_
        refine s_det (D.add rfl rfl (w64 (by omega) (by omega))) rfl ?_
        refine s_det (D.move rfl) rfl ?_
        refine s_nil ?_
        refine ⟨i + 1, by omega, by omega, (.cons rfl (.cons rfl (.cons rfl (.cons rfl (.cons rfl .nil))))), congrArg (AH.ten _ b16 c16 _) ?_⟩
        rw [tab_set]
        refine tab_congr fun m hm => ?_
        have hiff := divmod_iff (m := m) (i := i) hlt
        by_cases h1 : m = i * n + i
        · obtain ⟨q1, q2⟩ := hiff.1 h1
          simp [h1, divmod hlt]
        · rw [if_neg h1]
          by_cases h2 : m / n = m % n
          · have : m / n ≠ i := fun e => h1 (hiff.2 ⟨e, by omega⟩)
            by_cases h3 : m / n < i
            · rw [if_pos ⟨h2, h3⟩, if_pos ⟨h2, by omega⟩]
            · rw [if_neg (fun h => h3 h.2), if_neg (fun h => by omega)]
          · rw [if_neg (fun h => h2 h.1), if_neg (fun h => h2 h.1)]
      · replace h19 := of_decide_eq_false h19
        have hfin : (tab (n * n) fun m => if m / n = m % n ∧ m / n < i then 1 else 0) = (oneT n).x := tab_congr fun m hm => by
          have h2 : m / n < n := Nat.div_lt_of_lt_mul hm
          by_cases h3 : m / n = m % n
          · rw [if_pos ⟨h3, by omega⟩, if_pos h3]
          · rw [if_neg (fun h => h3 h.1), if_neg h3]
        refine s_nil ?_
        refine aseq ?_
        refine acond_f rfl ?_
        refine aexit ?_
        refine aseq ?_
        refine areg rfl ?_
        refine s_det (D.load_i rfl rfl) rfl ?_
        refine s_do (A.store rfl rfl (ten_cell hb16 hc16) rfl rfl (by rfl) rfl rfl ?_)
        refine s_det (D.assign rfl) rfl ?_
        refine s_nil ?_
        refine aret ?_
        exact ⟨[_, _], ⟨⟨.inr ⟨_, _, _, _, _, _, _, rfl, AH.set_self .., rfl, rfl⟩, rfl⟩, ⟨rfl, rfl⟩, trivial⟩, .inr ⟨_, rfl, ten_done rfl hfin rfl (by rw [hN2]; simp [oneT, tab_len]) hb2 hb16 hc16 hn16⟩⟩

theorem mat_One (n : Int) : Pure Try.prog 41 [iv n] (.tup [tv (oneS n).1, iv (oneS n).2]) := pure_of_ownTE fun σ => (mat_One_s n σ).ownTE
theorem mat_One_k (n : Nat) (h : 1 ≤ n) (h' : n ≤ 8) : Pure Try.prog 41 [iv n] (.tup [tv (oneT n), iv 0]) := (mat_One n).to (by rw [oneS_k h h'])

set_option maxRecDepth 10000 in
theorem mat_Power (a : Tn) (k : Int) : Pure Try.prog 44 [tv a, iv k] (.tup [tv (powS a k).1, iv (powS a k).2]) := by
  refine pure_of_subw fun σ => ?_
  refine acalls Try.func44 rfl rfl (by decide) rfl rfl ?_
  refine aseq ?_
  refine areg rfl ?_
  refine s_act rfl (A.box_o rfl rfl fun b2 hb2 => ?_)
  refine s_act rfl (A.alloc rfl rfl rfl fun b4 hb4 => ?_)
  refine s_det (D.assign rfl) rfl ?_
  refine s_nil ?_
  refine aseq ?_
  refine ablock ?_
  refine aseq ?_
  refine areg rfl ?_
  refine s_own (AH.get_set hb4 (AH.set_self ..)) (D.load_p rfl rfl rfl rfl) rfl ?_
  refine s_cmp (D.call (evc rfl ev0) b_shape_Is (shape_Is a)) rfl (fun h10 => ?_) (fun h10 => ?_)
  · replace h10 := of_decide_eq_true h10
    refine s_det (D.not rfl rfl) rfl ?_
    refine s_det (D.move rfl) rfl ?_
    refine s_yes rfl rfl ?_
    refine s_det (D.move rfl) rfl ?_
    refine s_yes rfl rfl ?_
    refine s_cmp (D.lss rfl rfl rfl) rfl (fun h14 => ?_) (fun h14 => ?_)
    · replace h14 := of_decide_eq_true h14
      refine s_det (D.pick rfl rfl rfl rfl) rfl ?_
      refine s_det (D.move rfl) rfl ?_
      refine s_no rfl rfl rfl rfl ?_
      refine s_no rfl rfl rfl rfl ?_
      refine s_det (D.pick rfl rfl rfl rfl) rfl ?_
      refine s_det (D.assign rfl) rfl ?_
      refine s_nil ?_
      refine acond_t rfl ?_
      refine aseq ?_
      refine areg rfl ?_
      refine s_det (D.build rfl rfl rfl) rfl ?_
      refine s_do (A.store rfl rfl (AH.set_self ..) rfl rfl (by rfl) rfl rfl ?_)
      refine s_det (D.assign rfl) rfl ?_
      refine s_nil ?_
      refine aret ?_
      exact ⟨[_, _], ⟨⟨.inr ⟨_, _, _, _, _, _, _, rfl, AH.set_self .., rfl, rfl⟩, rfl⟩, ⟨rfl, rfl⟩, trivial⟩, by rw [powS_f (fun h => by have := h.2; omega)]; exact ⟨wkNE rfl, (by repeat (first | exact Sub.refl _ | refine Sub.set ?_ (by first | assumption | exact (AH.set_none (by assumption)).1 | exact (AH.set_none (AH.set_none (by assumption)).1).1 | exact (AH.set_none (AH.set_none (AH.set_none (by assumption)).1).1).1) _))⟩⟩
    · replace h14 := of_decide_eq_false h14
      refine s_det (D.pick rfl rfl rfl rfl) rfl ?_
      refine s_det (D.move rfl) rfl ?_
      refine s_yes rfl rfl ?_
      refine s_det (D.move rfl) rfl ?_
      refine s_yes rfl rfl ?_
      refine s_cmp (D.gtr rfl rfl rfl) rfl (fun h18 => ?_) (fun h18 => ?_)
      · replace h18 := of_decide_eq_true h18
        refine s_det (D.pick rfl rfl rfl rfl) rfl ?_
        refine s_det (D.assign rfl) rfl ?_
        refine s_nil ?_
        refine acond_t rfl ?_
        refine aseq ?_
        refine areg rfl ?_
        refine s_det (D.build rfl rfl rfl) rfl ?_
        refine s_do (A.store rfl rfl (AH.set_self ..) rfl rfl (by rfl) rfl rfl ?_)
        refine s_det (D.assign rfl) rfl ?_
        refine s_nil ?_
        refine aret ?_
        exact ⟨[_, _], ⟨⟨.inr ⟨_, _, _, _, _, _, _, rfl, AH.set_self .., rfl, rfl⟩, rfl⟩, ⟨rfl, rfl⟩, trivial⟩, by rw [powS_f (fun h => by have := h.2; omega)]; exact ⟨wkNE rfl, (by repeat (first | exact Sub.refl _ | refine Sub.set ?_ (by first | assumption | exact (AH.set_none (by assumption)).1 | exact (AH.set_none (AH.set_none (by assumption)).1).1 | exact (AH.set_none (AH.set_none (AH.set_none (by assumption)).1).1).1) _))⟩⟩
      · replace h18 := of_decide_eq_false h18
        have hok : okTn a ∧ 0 ≤ k ∧ k ≤ 1073741824 := ⟨h10, by omega, by omega⟩
        have hl := h10.1.2.1
        refine s_det (D.pick rfl rfl rfl rfl) rfl ?_
        refine s_det (D.assign rfl) rfl ?_
        refine s_nil ?_
        refine acond_f rfl ?_
        refine aseq ?_
        refine adraw [.det 0, .det 1, .det 2, .det 3, .det 4, .det 5, .det 6, .det 7, .det 8, .det 9, .det 10, .det 11, .det 12, .det 13, .det 14, .det 15] rfl (by kernel_rfl) ?_
        refine d_det rfl (D.field_p rfl rfl) rfl ?_
        refine d_own (AH.get_set hb4 (AH.set_self ..)) rfl (D.load_p rfl rfl rfl rfl) rfl ?_
        refine d_det rfl (D.len_m rfl rfl) rfl ?_
        refine d_cmp rfl (D.neq rfl rfl rfl) rfl (fun h25 => ?_) (fun h25 => ?_)
        · replace h25 := of_decide_eq_true h25
          refine d_det rfl (D.move rfl) rfl ?_
          refine d_no rfl rfl rfl rfl rfl ?_
          refine d_no rfl rfl rfl rfl rfl ?_
          refine d_no rfl rfl rfl rfl rfl ?_
          refine d_no rfl rfl rfl rfl rfl ?_
          refine d_no rfl rfl rfl rfl rfl ?_
          refine d_no rfl rfl rfl rfl rfl ?_
          refine d_no rfl rfl rfl rfl rfl ?_
          refine d_no rfl rfl rfl rfl rfl ?_
          refine d_no rfl rfl rfl rfl rfl ?_
          refine d_det rfl (D.pick rfl rfl rfl rfl) rfl ?_
          refine d_det rfl (D.assign rfl) rfl ?_
          refine d_nil ?_
          refine acond_t rfl ?_
          refine aseq ?_
          refine areg rfl ?_
          refine s_det (D.build rfl rfl rfl) rfl ?_
          refine s_do (A.store rfl rfl (AH.set_self ..) rfl rfl (by rfl) rfl rfl ?_)
          refine s_det (D.assign rfl) rfl ?_
          refine s_nil ?_
          refine aret ?_
          exact ⟨[_, _], ⟨⟨.inr ⟨_, _, _, _, _, _, _, rfl, AH.set_self .., rfl, rfl⟩, rfl⟩, ⟨rfl, rfl⟩, trivial⟩, by rw [powS_e hok (fun h => by have := h.1; omega)]; exact ⟨wkNE rfl, (by repeat (first | exact Sub.refl _ | refine Sub.set ?_ (by first | assumption | exact (AH.set_none (by assumption)).1 | exact (AH.set_none (AH.set_none (by assumption)).1).1 | exact (AH.set_none (AH.set_none (AH.set_none (by assumption)).1).1).1) _))⟩⟩
        · replace h25 := of_decide_eq_false h25
          obtain ⟨n, m, x, rfl, hx, h1, h8, h1', h8'⟩ := h10.mat (by omega)
          refine d_det rfl (D.move rfl) rfl ?_
          refine d_yes rfl rfl rfl (D.field_p rfl rfl) rfl ?_
          refine d_yesO rfl rfl rfl (D.load_p rfl rfl rfl rfl) (AH.get_set hb4 (AH.set_self ..)) rfl ?_
          refine d_yes rfl rfl rfl (D.idx_m rfl rfl (by omega) rfl rfl) rfl ?_
          refine d_yes rfl rfl rfl (D.load_i rfl rfl) rfl ?_
          refine d_yes rfl rfl rfl (D.field_p rfl rfl) rfl ?_
          refine d_yesO rfl rfl rfl (D.load_p rfl rfl rfl rfl) (AH.get_set hb4 (AH.set_self ..)) rfl ?_
          refine d_yes rfl rfl rfl (D.idx_m rfl rfl (by omega) rfl rfl) rfl ?_
          refine d_yes rfl rfl rfl (D.load_i rfl rfl) rfl ?_
          refine d_yesC rfl rfl rfl (D.neq rfl rfl rfl) rfl (fun h35 => ?_) (fun h35 => ?_)
          · replace h35 := of_decide_eq_true h35
            refine d_det rfl (D.pick rfl rfl rfl rfl) rfl ?_
            refine d_det rfl (D.assign rfl) rfl ?_
            refine d_nil ?_
            refine acond_t rfl ?_
            refine aseq ?_
            refine areg rfl ?_
            refine s_det (D.build rfl rfl rfl) rfl ?_
            refine s_do (A.store rfl rfl (AH.set_self ..) rfl rfl (by rfl) rfl rfl ?_)
            refine s_det (D.assign rfl) rfl ?_
            refine s_nil ?_
            refine aret ?_
            exact ⟨[_, _], ⟨⟨.inr ⟨_, _, _, _, _, _, _, rfl, AH.set_self .., rfl, rfl⟩, rfl⟩, ⟨rfl, rfl⟩, trivial⟩, by rw [powS_e hok (fun h => h35 h.2)]; exact ⟨wkNE rfl, (by repeat (first | exact Sub.refl _ | refine Sub.set ?_ (by first | assumption | exact (AH.set_none (by assumption)).1 | exact (AH.set_none (AH.set_none (by assumption)).1).1 | exact (AH.set_none (AH.set_none (AH.set_none (by assumption)).1).1).1) _))⟩⟩
          · replace h35 := of_decide_eq_false h35
            obtain rfl : n = m := by omega
            obtain ⟨k, rfl⟩ : ∃ j : Nat, k = (j : Int) := ⟨k.toNat, by omega⟩
            rw [powS_k hok ⟨rfl, rfl⟩]
            refine d_det rfl (D.pick rfl rfl rfl rfl) rfl ?_
            refine d_det rfl (D.assign rfl) rfl ?_
            refine d_nil ?_
            refine acond_f rfl ?_
            refine askip ?_
            refine aseq ?_
            refine areg rfl ?_
            refine s_det (D.field_p rfl rfl) rfl ?_
            refine s_own (AH.get_set hb4 (AH.set_self ..)) (D.load_p rfl rfl rfl rfl) rfl ?_
            refine s_det (D.idx_m rfl rfl (by omega) rfl rfl) rfl ?_
            refine s_det (D.load_i rfl rfl) rfl ?_
            refine s_det (D.call (evc rfl ev0) b_mat_One (mat_One_k n h1 h8)) rfl ?_
            refine s_det (D.move rfl) rfl ?_
            refine s_det (D.extract rfl rfl) rfl ?_
            refine s_det (D.extract rfl rfl) rfl ?_
            refine s_act rfl (A.alloc rfl rfl rfl fun b6 hb6 => ?_)
            obtain ⟨hb6', n64⟩ := AH.set_none hb6
            obtain ⟨hb6', n62⟩ := AH.set_none hb6'
            obtain ⟨hb4', n42⟩ := AH.set_none hb4
            refine s_do (A.store rfl rfl (AH.set_self ..) rfl rfl (by rfl) rfl rfl ?_)
            refine s_det (D.assign rfl) rfl ?_
            refine s_nil ?_
            refine aseq ?_
            refine ablock ?_
            -- LOOP writes [1] keeps [2, 4, 6]
            refine aloop (ι := Nat × List Int × List Int × Nat) (fun s => s.2.2.2 ≤ s.1 ∧ s.2.2.2 ≤ 1073741824 ∧ s.2.1.length = n * n ∧ s.2.2.1.length = n * n ∧ powF n s.1 ⟨[(n : Int), (n : Int)], s.2.1⟩ ⟨[(n : Int), (n : Int)], s.2.2.1⟩ s.2.2.2 = powT n ⟨[(n : Int), (n : Int)], x⟩ k) (fun s => s.1) (fun s => [(1, iv s.2.2.2), (2, .ptr b2 0 [] 0), (4, .ptr b4 0 [] 0), (6, .ptr b6 0 [] 0)]) (fun s => ((σ.set b2 (.row 2 [tv ⟨[(n : Int), (n : Int)], s.2.2.1⟩])).set b4 (.row 2 [nilT])).set b6 (.row 2 [tv ⟨[(n : Int), (n : Int)], s.2.1⟩])) (k, (oneT n).x, x, k) ⟨Nat.le_refl _, by dsimp only; omega, by simp [oneT, tab_len], hx, rfl⟩ ?_ (AH.set_set ..) fun s hs => ?_
            · exact (.cons rfl (.cons rfl (.cons rfl (.cons rfl .nil))))
            obtain ⟨f, xt, xa, j⟩ := s
            obtain ⟨hjf, hj, hxt, hxa, hs⟩ := hs
            dsimp only at hjf hj hxt hxa hs
            refine aseq ?_
            refine aseq ?_
            refine areg rfl ?_
            refine s_det (D.move rfl) rfl ?_
            refine s_cmp (D.gtr rfl rfl rfl) rfl (fun h47 => ?_) (fun h47 => ?_)
            · replace h47 := of_decide_eq_true h47
              obtain ⟨f, rfl⟩ : ∃ g, f = g + 1 := ⟨f - 1, by dsimp only at h47; omega⟩
              rw [powF, if_neg (by dsimp only at h47; omega)] at hs
              refine s_nil ?_
              refine acond_t rfl ?_
              refine askip ?_
              refine aseq ?_
              refine ablock ?_
              refine aseq ?_
              refine aseq ?_
              refine areg rfl ?_
              refine s_det (D.move rfl) rfl ?_
              refine s_det (D.rem rfl rfl (by omega) (r := ((j % 2 : Nat) : Int)) (by rw [tmodw (by dsimp only; omega)]; dsimp only; omega)) rfl ?_
              refine s_cmp (D.eql rfl rfl rfl) rfl (fun h52 => ?_) (fun h52 => ?_)
              · replace h52 := of_decide_eq_true h52
                refine s_nil ?_
                refine acond_t rfl ?_
                refine areg rfl ?_
                refine s_own (AH.set_self ..) (D.load_p rfl rfl rfl rfl) rfl ?_
                refine s_own (look2 n42 n62) (D.load_p rfl rfl rfl rfl) rfl ?_
                refine s_det (D.call (evc rfl (evc rfl ev0)) b_mat_Mul (mat_Mul_lit n n n xt xa h1 h8 h1 h8 h1 h8 hxt hxa)) rfl ?_
                refine s_det (D.move rfl) rfl ?_
                refine s_det (D.extract rfl rfl) rfl ?_
                refine s_det (D.extract rfl rfl) rfl ?_
                refine s_do (A.store rfl rfl (AH.set_self ..) rfl rfl (by rfl) rfl rfl ?_)
                refine s_nil ?_
                refine areg rfl ?_
                refine s_own (by rw [AH.set_set]; exact look2 n42 n62) (D.load_p rfl rfl rfl rfl) rfl ?_
                refine s_own (by rw [AH.set_set]; exact look2 n42 n62) (D.load_p rfl rfl rfl rfl) rfl ?_
                refine s_det (D.call (evc rfl (evc rfl ev0)) b_mat_Mul (mat_Mul_lit n n n xa xa h1 h8 h1 h8 h1 h8 hxa hxa)) rfl ?_
                refine s_det (D.move rfl) rfl ?_
                refine s_det (D.extract rfl rfl) rfl ?_
                refine s_det (D.extract rfl rfl) rfl ?_
                refine s_do (A.store rfl rfl (by rw [AH.set_set]; exact look2 n42 n62) rfl rfl (by rfl) rfl rfl ?_)
                refine s_nil ?_
                refine areg rfl ?_
                refine s_det (D.move rfl) rfl ?_
                refine s_det (D.quo rfl rfl (by omega) (r := ((j / 2 : Nat) : Int)) (by rw [tdivw (by dsimp only; omega) (by dsimp only; omega) (by omega)]; dsimp only; omega)) rfl ?_
                refine s_det (D.assign rfl) rfl ?_
                refine s_nil ?_
                refine ⟨(f, (matT n n n ⟨[(n : Int), (n : Int)], xt⟩ ⟨[(n : Int), (n : Int)], xa⟩).x, (matT n n n ⟨[(n : Int), (n : Int)], xa⟩ ⟨[(n : Int), (n : Int)], xa⟩).x, j / 2), ⟨by dsimp only; omega, by dsimp only; omega, by simp [matT, tab_len], by simp [matT, tab_len], ?_⟩, by dsimp only; omega, (.cons rfl (.cons rfl (.cons rfl (.cons rfl .nil)))), ?_⟩
                · rw [if_pos (by omega)] at hs; exact hs
                · refine (congrArg (fun h => AH.set h b2 _) (AH.set_set ..)).trans (deep2 n42 n62)
              · replace h52 := of_decide_eq_false h52
                refine s_nil ?_
                refine acond_f rfl ?_
                refine askip ?_
                refine areg rfl ?_
                refine s_own (look2 n42 n62) (D.load_p rfl rfl rfl rfl) rfl ?_
                refine s_own (look2 n42 n62) (D.load_p rfl rfl rfl rfl) rfl ?_
                refine s_det (D.call (evc rfl (evc rfl ev0)) b_mat_Mul (mat_Mul_lit n n n xa xa h1 h8 h1 h8 h1 h8 hxa hxa)) rfl ?_
                refine s_det (D.move rfl) rfl ?_
                refine s_det (D.extract rfl rfl) rfl ?_
                refine s_det (D.extract rfl rfl) rfl ?_
                refine s_do (A.store rfl rfl (look2 n42 n62) rfl rfl (by rfl) rfl rfl ?_)
                refine s_nil ?_
                refine areg rfl ?_
                refine s_det (D.move rfl) rfl ?_
                refine s_det (D.quo rfl rfl (by omega) (r := ((j / 2 : Nat) : Int)) (by rw [tdivw (by dsimp only; omega) (by dsimp only; omega) (by omega)]; dsimp only; omega)) rfl ?_
                refine s_det (D.assign rfl) rfl ?_
                refine s_nil ?_
                refine ⟨(f, xt, (matT n n n ⟨[(n : Int), (n : Int)], xa⟩ ⟨[(n : Int), (n : Int)], xa⟩).x, j / 2), ⟨by dsimp only; omega, by dsimp only; omega, hxt, by simp [matT, tab_len], ?_⟩, by dsimp only; omega, (.cons rfl (.cons rfl (.cons rfl (.cons rfl .nil)))), ?_⟩
                · rw [if_neg (by omega)] at hs; exact hs
                · exact deep2 n42 n62
            · replace h47 := of_decide_eq_false h47
              have hj0 : j = 0 := by dsimp only at h47; omega
              refine s_nil ?_
              refine acond_f rfl ?_
              refine aexit ?_
              refine aseq ?_
              refine areg rfl ?_
              refine s_own (AH.set_self ..) (D.load_p rfl rfl rfl rfl) rfl ?_
              refine s_do (A.store rfl rfl (look4 n64) rfl rfl (by rfl) rfl rfl ?_)
              refine s_det (D.assign rfl) rfl ?_
              refine s_nil ?_
              refine aret ?_
              exact ⟨[_, _], ⟨⟨.inr ⟨_, _, _, _, _, _, _, rfl, AH.set_self .., rfl, rfl⟩, rfl⟩, ⟨rfl, rfl⟩, trivial⟩, by
                have e : powF n f ⟨[(n : Int), (n : Int)], xt⟩ ⟨[(n : Int), (n : Int)], xa⟩ j = ⟨[(n : Int), (n : Int)], xt⟩ := by
                  cases f with
                  | zero => rfl
                  | succ f => rw [powF, if_pos hj0]
                show Wk _ (.tup [tv (powT n _ _), iv 0]) ∧ _
                rw [show ((k : Int)).toNat = k from rfl, ← hs, e]
                exact ⟨.refl _, (by repeat (first | exact Sub.refl _ | refine Sub.set ?_ (by first | assumption | exact (AH.set_none (by assumption)).1 | exact (AH.set_none (AH.set_none (by assumption)).1).1 | exact (AH.set_none (AH.set_none (AH.set_none (by assumption)).1).1).1) _))⟩⟩
  · replace h10 := of_decide_eq_false h10
    refine s_det (D.not rfl rfl) rfl ?_
    refine s_det (D.move rfl) rfl ?_
    refine s_no rfl rfl rfl rfl ?_
    refine s_no rfl rfl rfl rfl ?_
    refine s_det (D.pick rfl rfl rfl rfl) rfl ?_
    refine s_det (D.move rfl) rfl ?_
    refine s_no rfl rfl rfl rfl ?_
    refine s_no rfl rfl rfl rfl ?_
    refine s_det (D.pick rfl rfl rfl rfl) rfl ?_
    refine s_det (D.assign rfl) rfl ?_
    refine s_nil ?_
    refine acond_t rfl ?_
    refine aseq ?_
    refine areg rfl ?_
    refine s_det (D.build rfl rfl rfl) rfl ?_
    refine s_do (A.store rfl rfl (AH.set_self ..) rfl rfl (by rfl) rfl rfl ?_)
    refine s_det (D.assign rfl) rfl ?_
    refine s_nil ?_
    refine aret ?_
    exact ⟨[_, _], ⟨⟨.inr ⟨_, _, _, _, _, _, _, rfl, AH.set_self .., rfl, rfl⟩, rfl⟩, ⟨rfl, rfl⟩, trivial⟩, by rw [powS_f (fun h => h10 h.1)]; exact ⟨wkNE rfl, (by repeat (first | exact Sub.refl _ | refine Sub.set ?_ (by first | assumption | exact (AH.set_none (by assumption)).1 | exact (AH.set_none (AH.set_none (by assumption)).1).1 | exact (AH.set_none (AH.set_none (AH.set_none (by assumption)).1).1).1) _))⟩⟩

end Go.Proofs.Ytpjcidlkdfebhaa.F
