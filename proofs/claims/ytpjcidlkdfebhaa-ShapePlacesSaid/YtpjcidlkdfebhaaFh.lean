/- Functions of the program and of the references: what they compute, by the layer Al. Made by a program of this session (wip/al/alfill.py) out of wip/al/specs. -/
import Derived.Test.YtpjcidlkdfebhaaFg
import Derived.Test.YtpjcidlkdfebhaaProg
namespace Go.Proofs.Ytpjcidlkdfebhaa.F
open Go Go.Proofs.Al
set_option linter.unusedVariables false
set_option linter.unusedSimpArgs false
set_option maxRecDepth 10000 in
theorem gradusref1_Turn_s (r c : Nat) (x : List Int) (hr : 1 ≤ r) (hr8 : r ≤ 8) (hc : 1 ≤ c) (hc8 : c ≤ 8) (hx : x.length = r * c) (σ : AH) : ACalls Try.prog 73 [tv ⟨[(r : Int), (c : Int)], x⟩] σ (OwnTs (turnT r c ⟨[(r : Int), (c : Int)], x⟩) σ) := by
  have hd := okD2 hc hc8 hr hr8
  have hN := fill2_len c r 0
  have h64 := mul88 hr8 hc8
  refine acalls Try.func73 rfl rfl (by decide) rfl rfl ?_
  refine aseq ?_
  refine areg rfl ?_
  refine s_det (D.box_i rfl rfl) rfl ?_
  refine s_act rfl (A.alloc rfl rfl rfl fun b2 hb2 => ?_)
  refine s_nil ?_
  refine amid (fun s : Nat × Nat × Nat => (σ.set b2 (.row 2 [nilT])) s.1 = none ∧ (σ.set b2 (.row 2 [nilT])) s.2.1 = none ∧ s.2.1 ≠ s.1 ∧ (σ.set b2 (.row 2 [nilT])) s.2.2 = none ∧ s.2.2 ≠ s.1 ∧ s.2.2 ≠ s.2.1) (fun s => [(1, .iptr (tv ⟨[(r : Int), (c : Int)], x⟩)), (2, .ptr b2 0 [] 0), (3, .ptr s.2.2 0 [] 0)]) (fun s => ((σ.set b2 (.row 2 [nilT])).ten s.1 s.2.1 [(c : Int), (r : Int)] (fillT [(c : Int), (r : Int)] 0).x).set s.2.2 (.row 2 [.agg [.ref s.1 1 0 2, .ref s.2.1 1 0 (fillT [(c : Int), (r : Int)] 0).x.length]])) ?_ ?_
  · refine adraw [.det 0, .det 1, .det 2, .det 3, .det 4, .det 5, .det 6, .det 7, .det 8, .two 9 10, .act 11] rfl (by kernel_rfl) ?_
    refine d_det rfl (D.field_i rfl rfl rfl) rfl ?_
    refine d_det rfl (D.load_i rfl rfl) rfl ?_
    refine d_det rfl (D.idx_m rfl rfl (by omega) rfl rfl) rfl ?_
    refine d_det rfl (D.load_i rfl rfl) rfl ?_
    refine d_det rfl (D.field_i rfl rfl rfl) rfl ?_
    refine d_det rfl (D.load_i rfl rfl) rfl ?_
    refine d_det rfl (D.idx_m rfl rfl (by omega) rfl rfl) rfl ?_
    refine d_det rfl (D.load_i rfl rfl) rfl ?_
    refine d_det rfl (D.lit sl_int (pc rfl rfl (pc rfl rfl p0)) rfl rfl (by decide)) rfl ?_
    refine d_two rfl rfl rfl rfl rfl ?_ ?_
    · refine A.call (evw rfl Wk.less (evc rfl ev0)) b_gradusref1_Fill (gradusref1_Fill_own [(c : Int), (r : Int)] 0 hd _) fun y σ' hy => ?_
      obtain ⟨b15, c15, hb15, hc15, hn15, rfl, rfl⟩ := hy
      refine A.alloc rfl rfl rfl fun b3 hb3 => ?_
      refine d_do rfl (by kernel_rfl) (A.store rfl rfl (AH.set_self ..) rfl rfl (by rfl) rfl rfl ?_)
      refine d_nil ?_
      exact ⟨(b15, c15, b3), ⟨hb15, hc15, hn15, (ten_fresh hb3).1, (ten_fresh hb3).2.1, (ten_fresh hb3).2.2⟩, (.cons rfl (.cons rfl (.cons rfl .nil))), AH.set_set ..⟩
    · refine A.alloc rfl rfl rfl fun b3 hb3 => ?_
      refine A.call (evw rfl Wk.less (evc rfl ev0)) b_gradusref1_Fill (gradusref1_Fill_own [(c : Int), (r : Int)] 0 hd _) fun y σ' hy => ?_
      obtain ⟨b15, c15, hb15, hc15, hn15, rfl, rfl⟩ := hy
      refine d_do rfl (by kernel_rfl) (A.store rfl rfl (ten_cell hb15 hc15) rfl rfl (by rfl) rfl rfl ?_)
      refine d_nil ?_
      exact ⟨(b15, c15, b3), ⟨(AH.set_none hb15).1, (AH.set_none hc15).1, hn15, hb3, Ne.symm (AH.set_none hb15).2, Ne.symm (AH.set_none hc15).2⟩, (.cons rfl (.cons rfl (.cons rfl .nil))), ten_comm (AH.set_none hb15).2 (AH.set_none hc15).2⟩
  · rintro ⟨b15, c15, b3⟩ ⟨hb15, hc15, hn15, hb3, hn1, hn2⟩
    refine afix (d := 3) (b := b3) rfl (by rw [AH.ten, AH.set_ne hn2, AH.set_ne hn1]; exact hb3) ?_
    refine aseq ?_
    refine aseq ?_
    refine areg rfl ?_
    refine s_det (D.assign rfl) rfl ?_
    refine s_nil ?_
    refine ablock ?_
    -- LOOP writes [4] keeps [1, 2, 3]
    refine aloop (ι := Nat) (fun i => i ≤ r) (fun i => r - i) (fun i => [(1, .iptr (tv ⟨[(r : Int), (c : Int)], x⟩)), (2, .ptr b2 0 [] 0), (3, .iptr (.agg [.ref b15 1 0 2, .ref c15 1 0 (fillT [(c : Int), (r : Int)] 0).x.length])), (4, iv i)]) (fun i => (σ.set b2 (.row 2 [nilT])).ten b15 c15 [(c : Int), (r : Int)] (tab (c * r) fun m => if m % r < i then rdN x (m % r * c + m / r) else 0)) 0 (by omega) ?_ (congrArg (AH.ten _ b15 c15 _) ((fill2_x c r).trans ((tab_zero _).trans (tab_congr fun m _ => by simp)))) fun i hi => ?_
    · exact (.cons rfl (.cons rfl (.cons rfl (.cons rfl .nil))))
    refine aseq ?_
    refine aseq ?_
    refine areg rfl ?_
    refine s_det (D.move rfl) rfl ?_
    refine s_det (D.field_i rfl rfl rfl) rfl ?_
    refine s_det (D.load_i rfl rfl) rfl ?_
    refine s_det (D.idx_m rfl rfl (by omega) rfl rfl) rfl ?_
    refine s_det (D.load_i rfl rfl) rfl ?_
    refine s_cmp (D.lss rfl rfl rfl) rfl (fun h21 => ?_) (fun h21 => ?_)
    · replace h21 := of_decide_eq_true h21
      refine s_nil ?_
      have hir : i < r := by omega
      refine acond_t rfl ?_
      refine askip ?_
      refine aseq ?_
      refine ablock ?_
      refine aseq ?_
      refine areg rfl ?_
      refine s_det (D.assign rfl) rfl ?_
      refine s_nil ?_
      refine ablock ?_
      -- LOOP writes [5] keeps [1, 2, 3, 4]
      refine aloop (ι := Nat) (fun k => k ≤ c) (fun k => c - k) (fun k => [(1, .iptr (tv ⟨[(r : Int), (c : Int)], x⟩)), (2, .ptr b2 0 [] 0), (3, .iptr (.agg [.ref b15 1 0 2, .ref c15 1 0 (fillT [(c : Int), (r : Int)] 0).x.length])), (4, iv i), (5, iv k)]) (fun k => (σ.set b2 (.row 2 [nilT])).ten b15 c15 [(c : Int), (r : Int)] (tab (c * r) fun m => if m % r < i ∨ (m % r = i ∧ m / r < k) then rdN x (m % r * c + m / r) else 0)) 0 (by omega) ?_ (congrArg (AH.ten _ b15 c15 _) (tab_congr fun m _ => itec ⟨fun h => .inl h, fun h => h.elim id fun h => absurd h.2 (Nat.not_lt_zero _)⟩)) fun k hk => ?_
      · exact (.cons rfl (.cons rfl (.cons rfl (.cons rfl (.cons rfl .nil)))))
      refine aseq ?_
      refine aseq ?_
      refine areg rfl ?_
      refine s_det (D.move rfl) rfl ?_
      refine s_det (D.field_i rfl rfl rfl) rfl ?_
      refine s_det (D.load_i rfl rfl) rfl ?_
      refine s_det (D.idx_m rfl rfl (by omega) rfl rfl) rfl ?_
      refine s_det (D.load_i rfl rfl) rfl ?_
      refine s_cmp (D.lss rfl rfl rfl) rfl (fun h29 => ?_) (fun h29 => ?_)
      · replace h29 := of_decide_eq_true h29
        refine s_nil ?_
        have hkc : k < c := by omega
        have hp := pos_lt hkc hir
        have hp2 := pos_lt hir hkc
        have hcr : c * r ≤ 64 := mul88 hc8 hr8
        refine acond_t rfl ?_
        refine askip ?_
        refine aseq ?_
        refine ablock ?_
        refine adraw [.det 0, .det 1, .det 2, .det 3, .det 4, .det 5, .det 6, .det 7, .det 8, .det 9, .det 10, .det 11, .det 12, .det 13, .det 14, .det 15, .det 16, .det 17, .det 18, .det 19, .det 20, .det 21, .det 22, .act 23] rfl (by kernel_rfl) ?_
        refine d_det rfl (D.field_i rfl rfl rfl) rfl ?_
        refine d_det rfl (D.load_i rfl rfl) rfl ?_
        refine d_det rfl (D.move rfl) rfl ?_
        refine d_det rfl (D.field_i rfl rfl rfl) rfl ?_
        refine d_det rfl (D.load_i rfl rfl) rfl ?_
        refine d_det rfl (D.idx_m rfl rfl (by omega) rfl rfl) rfl ?_
        refine d_det rfl (D.load_i rfl rfl) rfl ?_
        refine d_det rfl (D.mul rfl rfl (mulN (a := k) (b := r) (by omega))) rfl ?_
        refine d_det rfl (D.move rfl) rfl ?_
        refine d_det rfl (D.add rfl rfl (addN (a := k * r) (b := i) (by omega))) rfl ?_
        refine d_det rfl (D.field_i rfl rfl rfl) rfl ?_
        refine d_det rfl (D.load_i rfl rfl) rfl ?_
        refine d_det rfl (D.move rfl) rfl ?_
        refine d_det rfl (D.field_i rfl rfl rfl) rfl ?_
        refine d_det rfl (D.load_i rfl rfl) rfl ?_
        refine d_det rfl (D.idx_m rfl rfl (by omega) rfl rfl) rfl ?_
        refine d_det rfl (D.load_i rfl rfl) rfl ?_
        refine d_det rfl (D.mul rfl rfl (mulN (a := i) (b := c) (by omega))) rfl ?_
        refine d_det rfl (D.move rfl) rfl ?_
        refine d_det rfl (D.add rfl rfl (addN (a := i * c) (b := k) (by omega))) rfl ?_
        refine d_det rfl (D.idx_m rfl rfl (by omega) (get_lt (l := x) (i := i * c + k) (by omega)) rfl) rfl ?_
        refine d_det rfl (D.load_i rfl rfl) rfl ?_
        refine d_det rfl (D.idx_r rfl rfl (j := k * r + i) (by rw [hN]; omega) rfl) rfl ?_
        refine d_do rfl (by kernel_rfl) (A.store_t rfl rfl (by rw [tab_len]; omega) rfl ?_)
        refine d_nil ?_
        refine areg rfl ?_
        refine s_det (D.move rfl) rfl ?_
        refine s_det (D.add rfl rfl (w64 (by omega) (by omega))) rfl ?_
        refine s_det (D.assign rfl) rfl ?_
        refine s_nil ?_
        refine ⟨k + 1, by omega, by omega, (.cons rfl (.cons rfl (.cons rfl (.cons rfl (.cons rfl .nil))))), congrArg (AH.ten _ b15 c15 _) ?_⟩
        rw [tab_set]
        refine tab_congr fun m hm => ?_
        have hiff := divmod_iff (m := m) (i := k) hir
        by_cases h1 : m = k * r + i
        · obtain ⟨q1, q2⟩ := hiff.1 h1
          rw [if_pos h1, if_pos (by omega), q1, q2, rdN_get (by omega)]
        · rw [if_neg h1]
          exact itec ⟨fun h => h.imp id fun h => ⟨h.1, by omega⟩, fun h => h.imp id fun h => ⟨h.1, by
            have : m / r ≠ k := fun e => h1 (hiff.2 ⟨e, h.1⟩)
            omega⟩⟩
      · replace h29 := of_decide_eq_false h29
        refine s_nil ?_
        refine acond_f rfl ?_
        refine aexit ?_
        refine areg rfl ?_
        refine s_det (D.move rfl) rfl ?_
        refine s_det (D.add rfl rfl (w64 (by omega) (by omega))) rfl ?_
        refine s_det (D.assign rfl) rfl ?_
        refine s_nil ?_
        refine ⟨i + 1, by omega, by omega, (.cons rfl (.cons rfl (.cons rfl (.cons rfl .nil)))), congrArg (AH.ten _ b15 c15 _) (tab_congr fun m hm => itec ?_)⟩
        have h2 : m / r < c := Nat.div_lt_of_lt_mul (by rw [Nat.mul_comm]; exact hm)
        omega
    · replace h21 := of_decide_eq_false h21
      have hfin : (tab (c * r) fun m => if m % r < i then rdN x (m % r * c + m / r) else 0) = (turnT r c ⟨[(r : Int), (c : Int)], x⟩).x := tab_congr fun m hm => if_pos (by have := Nat.mod_lt m (show r > 0 by omega); omega)
      refine s_nil ?_
      refine acond_f rfl ?_
      refine aexit ?_
      refine aseq ?_
      refine areg rfl ?_
      refine s_det (D.load_i rfl rfl) rfl ?_
      refine s_do (A.store rfl rfl (ten_cell hb15 hc15) rfl rfl (by rfl) rfl rfl ?_)
      refine s_nil ?_
      refine aret ?_
      exact ⟨[_], ⟨⟨.inr ⟨_, _, _, _, _, _, _, rfl, AH.set_self .., rfl, rfl⟩, rfl⟩, trivial⟩, ten_done rfl hfin rfl (by rw [hN]; simp [turnT, tab_len]) hb2 hb15 hc15 hn15⟩

theorem gradusref1_Turn (r c : Nat) (x : List Int) (hr : 1 ≤ r) (hr8 : r ≤ 8) (hc : 1 ≤ c) (hc8 : c ≤ 8) (hx : x.length = r * c) : Pure Try.prog 73 [tv ⟨[(r : Int), (c : Int)], x⟩] (tv (turnT r c ⟨[(r : Int), (c : Int)], x⟩)) := pure_of_ownT fun σ => (gradusref1_Turn_s r c x hr hr8 hc hc8 hx σ).ownT

set_option maxRecDepth 10000 in
theorem gradusref1_Mat_s (r m c : Nat) (xa xb : List Int) (hr : 1 ≤ r) (hr8 : r ≤ 8) (hm : 1 ≤ m) (hm8 : m ≤ 8) (hc : 1 ≤ c) (hc8 : c ≤ 8) (hxa : xa.length = r * m) (hxb : xb.length = m * c) (σ : AH) : ACalls Try.prog 37 [tv ⟨[(r : Int), (m : Int)], xa⟩, tv ⟨[(m : Int), (c : Int)], xb⟩] σ (OwnTs (matT r m c ⟨[(r : Int), (m : Int)], xa⟩ ⟨[(m : Int), (c : Int)], xb⟩) σ) := by
  have hd := okD2 hr hr8 hc hc8
  have hN := fill2_len r c 0
  have h64 := mul88 hr8 hc8
  have h64a := mul88 hr8 hm8
  have h64b := mul88 hm8 hc8
  generalize hMM : (matT r m c ⟨[(r : Int), (m : Int)], xa⟩ ⟨[(m : Int), (c : Int)], xb⟩) = M
  have hAd : M.d = [(r : Int), (c : Int)] := by rw [← hMM]; rfl
  have hAx : M.x = tab (r * c) (fun p => (List.range m).foldl (macF m c xa xb p) 0) := by rw [← hMM]; rfl
  have hA : M.x.length = r * c := by rw [hAx, tab_len]
  refine acalls Try.func37 rfl rfl (by decide) rfl rfl ?_
  refine aseq ?_
  refine areg rfl ?_
  refine s_det (D.box_i rfl rfl) rfl ?_
  refine s_det (D.box_i rfl rfl) rfl ?_
  refine s_act rfl (A.alloc rfl rfl rfl fun b4 hb4 => ?_)
  refine s_nil ?_
  refine amid (fun s : Nat × Nat × Nat => (σ.set b4 (.row 2 [nilT])) s.1 = none ∧ (σ.set b4 (.row 2 [nilT])) s.2.1 = none ∧ s.2.1 ≠ s.1 ∧ (σ.set b4 (.row 2 [nilT])) s.2.2 = none ∧ s.2.2 ≠ s.1 ∧ s.2.2 ≠ s.2.1) (fun s => [(2, .iptr (tv ⟨[(r : Int), (m : Int)], xa⟩)), (3, .iptr (tv ⟨[(m : Int), (c : Int)], xb⟩)), (4, .ptr b4 0 [] 0), (5, .ptr s.2.2 0 [] 0)]) (fun s => ((σ.set b4 (.row 2 [nilT])).ten s.1 s.2.1 [(r : Int), (c : Int)] (fillT [(r : Int), (c : Int)] 0).x).set s.2.2 (.row 2 [.agg [.ref s.1 1 0 2, .ref s.2.1 1 0 (fillT [(r : Int), (c : Int)] 0).x.length]])) ?_ ?_
  · refine adraw [.det 0, .det 1, .det 2, .det 3, .det 4, .det 5, .det 6, .det 7, .det 8, .two 9 10, .act 11] rfl (by kernel_rfl) ?_
    refine d_det rfl (D.field_i rfl rfl rfl) rfl ?_
    refine d_det rfl (D.load_i rfl rfl) rfl ?_
    refine d_det rfl (D.idx_m rfl rfl (by omega) rfl rfl) rfl ?_
    refine d_det rfl (D.load_i rfl rfl) rfl ?_
    refine d_det rfl (D.field_i rfl rfl rfl) rfl ?_
    refine d_det rfl (D.load_i rfl rfl) rfl ?_
    refine d_det rfl (D.idx_m rfl rfl (by omega) rfl rfl) rfl ?_
    refine d_det rfl (D.load_i rfl rfl) rfl ?_
    refine d_det rfl (D.lit sl_int (pc rfl rfl (pc rfl rfl p0)) rfl rfl (by decide)) rfl ?_
    refine d_two rfl rfl rfl rfl rfl ?_ ?_
    · refine A.call (evw rfl Wk.less (evc rfl ev0)) b_gradusref1_Fill (gradusref1_Fill_own [(r : Int), (c : Int)] 0 hd _) fun y σ' hy => ?_
      obtain ⟨b19, c19, hb19, hc19, hn19, rfl, rfl⟩ := hy
      refine A.alloc rfl rfl rfl fun b5 hb5 => ?_
      refine d_do rfl (by kernel_rfl) (A.store rfl rfl (AH.set_self ..) rfl rfl (by rfl) rfl rfl ?_)
      refine d_nil ?_
      exact ⟨(b19, c19, b5), ⟨hb19, hc19, hn19, (ten_fresh hb5).1, (ten_fresh hb5).2.1, (ten_fresh hb5).2.2⟩, (.cons rfl (.cons rfl (.cons rfl (.cons rfl .nil)))), AH.set_set ..⟩
    · refine A.alloc rfl rfl rfl fun b5 hb5 => ?_
      refine A.call (evw rfl Wk.less (evc rfl ev0)) b_gradusref1_Fill (gradusref1_Fill_own [(r : Int), (c : Int)] 0 hd _) fun y σ' hy => ?_
      obtain ⟨b19, c19, hb19, hc19, hn19, rfl, rfl⟩ := hy
      refine d_do rfl (by kernel_rfl) (A.store rfl rfl (ten_cell hb19 hc19) rfl rfl (by rfl) rfl rfl ?_)
      refine d_nil ?_
      exact ⟨(b19, c19, b5), ⟨(AH.set_none hb19).1, (AH.set_none hc19).1, hn19, hb5, Ne.symm (AH.set_none hb19).2, Ne.symm (AH.set_none hc19).2⟩, (.cons rfl (.cons rfl (.cons rfl (.cons rfl .nil)))), ten_comm (AH.set_none hb19).2 (AH.set_none hc19).2⟩
  · rintro ⟨b19, c19, b5⟩ ⟨hb19, hc19, hn19, hb5, hn1, hn2⟩
    refine afix (d := 5) (b := b5) rfl (by rw [AH.ten, AH.set_ne hn2, AH.set_ne hn1]; exact hb5) ?_
    refine aseq ?_
    refine aseq ?_
    refine areg rfl ?_
    refine s_det (D.assign rfl) rfl ?_
    refine s_nil ?_
    refine ablock ?_
    -- LOOP writes [6] keeps [2, 3, 4, 5]
    refine aloop (ι := Nat) (fun i => i ≤ r) (fun i => r - i) (fun i => [(2, .iptr (tv ⟨[(r : Int), (m : Int)], xa⟩)), (3, .iptr (tv ⟨[(m : Int), (c : Int)], xb⟩)), (4, .ptr b4 0 [] 0), (5, .iptr (.agg [.ref b19 1 0 2, .ref c19 1 0 (fillT [(r : Int), (c : Int)] 0).x.length])), (6, iv i)]) (fun i => (σ.set b4 (.row 2 [nilT])).ten b19 c19 [(r : Int), (c : Int)] (M.x.take (i * c) ++ List.replicate (r * c - i * c) 0)) 0 (by omega) ?_ (congrArg (AH.ten _ b19 c19 _) ((fill2_x r c).trans (by simp))) fun i hi => ?_
    · exact (.cons rfl (.cons rfl (.cons rfl (.cons rfl (.cons rfl .nil)))))
    refine aseq ?_
    refine aseq ?_
    refine areg rfl ?_
    refine s_det (D.move rfl) rfl ?_
    refine s_det (D.field_i rfl rfl rfl) rfl ?_
    refine s_det (D.load_i rfl rfl) rfl ?_
    refine s_det (D.idx_m rfl rfl (by omega) rfl rfl) rfl ?_
    refine s_det (D.load_i rfl rfl) rfl ?_
    refine s_cmp (D.lss rfl rfl rfl) rfl (fun h25 => ?_) (fun h25 => ?_)
    · replace h25 := of_decide_eq_true h25
      refine s_nil ?_
      have hir : i < r := by omega
      refine acond_t rfl ?_
      refine askip ?_
      refine aseq ?_
      refine ablock ?_
      refine aseq ?_
      refine areg rfl ?_
      refine s_det (D.assign rfl) rfl ?_
      refine s_nil ?_
      refine ablock ?_
      -- LOOP writes [7] keeps [2, 3, 4, 5, 6]
      refine aloop (ι := Nat) (fun k => k ≤ c) (fun k => c - k) (fun k => [(2, .iptr (tv ⟨[(r : Int), (m : Int)], xa⟩)), (3, .iptr (tv ⟨[(m : Int), (c : Int)], xb⟩)), (4, .ptr b4 0 [] 0), (5, .iptr (.agg [.ref b19 1 0 2, .ref c19 1 0 (fillT [(r : Int), (c : Int)] 0).x.length])), (6, iv i), (7, iv k)]) (fun k => (σ.set b4 (.row 2 [nilT])).ten b19 c19 [(r : Int), (c : Int)] (M.x.take (i * c + k) ++ List.replicate (r * c - (i * c + k)) 0)) 0 (by omega) ?_ rfl fun k hk => ?_
      · exact (.cons rfl (.cons rfl (.cons rfl (.cons rfl (.cons rfl (.cons rfl .nil))))))
      refine aseq ?_
      refine aseq ?_
      refine areg rfl ?_
      refine s_det (D.move rfl) rfl ?_
      refine s_det (D.field_i rfl rfl rfl) rfl ?_
      refine s_det (D.load_i rfl rfl) rfl ?_
      refine s_det (D.idx_m rfl rfl (by omega) rfl rfl) rfl ?_
      refine s_det (D.load_i rfl rfl) rfl ?_
      refine s_cmp (D.lss rfl rfl rfl) rfl (fun h33 => ?_) (fun h33 => ?_)
      · replace h33 := of_decide_eq_true h33
        refine s_nil ?_
        have hkc : k < c := by omega
        have hp := pos_lt hir hkc
        obtain ⟨q1, q2⟩ := divmod (i := i) hkc
        refine acond_t rfl ?_
        refine askip ?_
        refine aseq ?_
        refine ablock ?_
        refine aseq ?_
        refine areg rfl ?_
        refine s_det (D.assign rfl) rfl ?_
        refine s_nil ?_
        refine aseq ?_
        refine aseq ?_
        refine areg rfl ?_
        refine s_det (D.assign rfl) rfl ?_
        refine s_nil ?_
        refine ablock ?_
        -- LOOP writes [8, 9] keeps [2, 3, 4, 5, 6, 7]
        refine aloop (ι := Nat × Int) (fun s => s.1 ≤ m ∧ s.2 = (List.range s.1).foldl (macF m c xa xb (i * c + k)) 0) (fun s => m - s.1) (fun s => [(2, .iptr (tv ⟨[(r : Int), (m : Int)], xa⟩)), (3, .iptr (tv ⟨[(m : Int), (c : Int)], xb⟩)), (4, .ptr b4 0 [] 0), (5, .iptr (.agg [.ref b19 1 0 2, .ref c19 1 0 (fillT [(r : Int), (c : Int)] 0).x.length])), (6, iv i), (7, iv k), (8, iv s.2), (9, iv s.1)]) (fun s => (σ.set b4 (.row 2 [nilT])).ten b19 c19 [(r : Int), (c : Int)] (M.x.take (i * c + k) ++ List.replicate (r * c - (i * c + k)) 0)) (0, 0) ⟨by simp, by simp⟩ ?_ rfl fun s hs => ?_
        · exact (.cons rfl (.cons rfl (.cons rfl (.cons rfl (.cons rfl (.cons rfl (.cons rfl (.cons rfl .nil))))))))
        obtain ⟨j, acc⟩ := s
        obtain ⟨hj, hacc⟩ := hs
        dsimp only at hj hacc
        refine aseq ?_
        refine aseq ?_
        refine areg rfl ?_
        refine s_det (D.move rfl) rfl ?_
        refine s_det (D.field_i rfl rfl rfl) rfl ?_
        refine s_det (D.load_i rfl rfl) rfl ?_
        refine s_det (D.idx_m rfl rfl (by omega) rfl rfl) rfl ?_
        refine s_det (D.load_i rfl rfl) rfl ?_
        refine s_cmp (D.lss rfl rfl rfl) rfl (fun h41 => ?_) (fun h41 => ?_)
        · replace h41 := of_decide_eq_true h41
          refine s_nil ?_
          have hjm : j < m := by dsimp only at h41; omega
          have hpa := pos_lt hir hjm
          have hpb := pos_lt hjm hkc
          refine acond_t rfl ?_
          refine askip ?_
          refine aseq ?_
          refine ablock ?_
          refine adraw [.det 0, .det 1, .det 2, .det 3, .det 4, .det 5, .det 6, .det 7, .det 8, .det 9, .det 10, .det 11, .det 12, .det 13, .det 14, .det 15, .det 16, .det 17, .det 18, .det 19, .det 20, .det 21, .det 22, .det 23, .det 24, .det 25, .det 26, .det 27] rfl (by kernel_rfl) ?_
          refine d_det rfl (D.move rfl) rfl ?_
          refine d_det rfl (D.field_i rfl rfl rfl) rfl ?_
          refine d_det rfl (D.load_i rfl rfl) rfl ?_
          refine d_det rfl (D.move rfl) rfl ?_
          refine d_det rfl (D.field_i rfl rfl rfl) rfl ?_
          refine d_det rfl (D.load_i rfl rfl) rfl ?_
          refine d_det rfl (D.idx_m rfl rfl (by omega) rfl rfl) rfl ?_
          refine d_det rfl (D.load_i rfl rfl) rfl ?_
          refine d_det rfl (D.mul rfl rfl (mulN (a := i) (b := m) (by omega))) rfl ?_
          refine d_det rfl (D.move rfl) rfl ?_
          refine d_det rfl (D.add rfl rfl (addN (a := i * m) (b := j) (by omega))) rfl ?_
          refine d_det rfl (D.idx_m rfl rfl (by omega) (get_lt (l := xa) (i := i * m + j) (by omega)) rfl) rfl ?_
          refine d_det rfl (D.load_i rfl rfl) rfl ?_
          refine d_det rfl (D.field_i rfl rfl rfl) rfl ?_
          refine d_det rfl (D.load_i rfl rfl) rfl ?_
          refine d_det rfl (D.move rfl) rfl ?_
          refine d_det rfl (D.field_i rfl rfl rfl) rfl ?_
          refine d_det rfl (D.load_i rfl rfl) rfl ?_
          refine d_det rfl (D.idx_m rfl rfl (by omega) rfl rfl) rfl ?_
          refine d_det rfl (D.load_i rfl rfl) rfl ?_
          refine d_det rfl (D.mul rfl rfl (mulN (a := j) (b := c) (by omega))) rfl ?_
          refine d_det rfl (D.move rfl) rfl ?_
          refine d_det rfl (D.add rfl rfl (addN (a := j * c) (b := k) (by omega))) rfl ?_
          refine d_det rfl (D.idx_m rfl rfl (by omega) (get_lt (l := xb) (i := j * c + k) (by omega)) rfl) rfl ?_
          refine d_det rfl (D.load_i rfl rfl) rfl ?_
          refine d_det rfl (D.mul rfl rfl rfl) rfl ?_
          refine d_det rfl (D.add rfl rfl rfl) rfl ?_
          refine d_det rfl (D.assign rfl) rfl ?_
          refine d_nil ?_
          refine areg rfl ?_
          refine s_det (D.move rfl) rfl ?_
          refine s_det (D.add rfl rfl (w64 (by omega) (by omega))) rfl ?_
          refine s_det (D.assign rfl) rfl ?_
          refine s_nil ?_
          refine ⟨(j + 1, IntKind.i64.wrap (acc + IntKind.i64.wrap (xa[i * m + j] * xb[j * c + k]))), ⟨hjm, ?_⟩, by dsimp only; omega, (.cons rfl (.cons rfl (.cons rfl (.cons rfl (.cons rfl (.cons rfl (.cons rfl (.cons rfl .nil)))))))), rfl⟩
          dsimp only
          rw [← mat_fold hacc, q1, q2, rdN_get (show i * m + j < xa.length by omega), rdN_get (show j * c + k < xb.length by omega)]
        · replace h41 := of_decide_eq_false h41
          refine s_nil ?_
          have hjm : j = m := by dsimp only at h41; omega
          refine acond_f rfl ?_
          refine aexit ?_
          refine adraw [.det 0, .det 1, .det 2, .det 3, .det 4, .det 5, .det 6, .det 7, .det 8, .det 9, .det 10, .det 11, .act 12] rfl (by kernel_rfl) ?_
          refine d_det rfl (D.field_i rfl rfl rfl) rfl ?_
          refine d_det rfl (D.load_i rfl rfl) rfl ?_
          refine d_det rfl (D.move rfl) rfl ?_
          refine d_det rfl (D.field_i rfl rfl rfl) rfl ?_
          refine d_det rfl (D.load_i rfl rfl) rfl ?_
          refine d_det rfl (D.idx_m rfl rfl (by omega) rfl rfl) rfl ?_
          refine d_det rfl (D.load_i rfl rfl) rfl ?_
          refine d_det rfl (D.mul rfl rfl (mulN (a := i) (b := c) (by omega))) rfl ?_
          refine d_det rfl (D.move rfl) rfl ?_
          refine d_det rfl (D.add rfl rfl (addN (a := i * c) (b := k) (by omega))) rfl ?_
          refine d_det rfl (D.move rfl) rfl ?_
          refine d_det rfl (D.idx_r rfl rfl (j := i * c + k) (by rw [hN]; omega) rfl) rfl ?_
          refine d_do rfl (by kernel_rfl) (A.store_t rfl rfl (by rw [fill_len hA (by omega)]; omega) rfl ?_)
          refine d_nil ?_
          refine areg rfl ?_
          refine s_det (D.move rfl) rfl ?_
          refine s_det (D.add rfl rfl (w64 (by omega) (by omega))) rfl ?_
          refine s_det (D.assign rfl) rfl ?_
          refine s_nil ?_
          refine ⟨k + 1, by omega, by omega, (.cons rfl (.cons rfl (.cons rfl (.cons rfl (.cons rfl (.cons rfl .nil)))))), congrArg (AH.ten _ b19 c19 _) ((fill_set hA (by omega) ?_).trans rfl)⟩
          subst hjm
          rw [hacc]
          simp only [hAx, tab_getE]
      · replace h33 := of_decide_eq_false h33
        refine s_nil ?_
        refine acond_f rfl ?_
        refine aexit ?_
        refine areg rfl ?_
        refine s_det (D.move rfl) rfl ?_
        refine s_det (D.add rfl rfl (w64 (by omega) (by omega))) rfl ?_
        refine s_det (D.assign rfl) rfl ?_
        refine s_nil ?_
        refine ⟨i + 1, by omega, by omega, (.cons rfl (.cons rfl (.cons rfl (.cons rfl (.cons rfl .nil))))), congrArg (AH.ten _ b19 c19 _) ?_⟩
        have hkc : k = c := by omega
        subst hkc
        rw [Nat.succ_mul]
    · replace h25 := of_decide_eq_false h25
      refine s_nil ?_
      refine acond_f rfl ?_
      refine aexit ?_
      refine aseq ?_
      refine areg rfl ?_
      refine s_det (D.load_i rfl rfl) rfl ?_
      refine s_do (A.store rfl rfl (ten_cell hb19 hc19) rfl rfl (by rfl) rfl rfl ?_)
      refine s_nil ?_
      refine aret ?_
      exact ⟨[_], ⟨⟨.inr ⟨_, _, _, _, _, _, _, rfl, AH.set_self .., rfl, rfl⟩, rfl⟩, trivial⟩, ten_done hAd.symm (fill_all hA (by have e : i = r := (by omega); subst e; omega)) (by rw [hAd]; rfl) (by rw [hN, hA]) hb4 hb19 hc19 hn19⟩

theorem gradusref1_Mat (r m c : Nat) (xa xb : List Int) (hr : 1 ≤ r) (hr8 : r ≤ 8) (hm : 1 ≤ m) (hm8 : m ≤ 8) (hc : 1 ≤ c) (hc8 : c ≤ 8) (hxa : xa.length = r * m) (hxb : xb.length = m * c) : Pure Try.prog 37 [tv ⟨[(r : Int), (m : Int)], xa⟩, tv ⟨[(m : Int), (c : Int)], xb⟩] (tv (matT r m c ⟨[(r : Int), (m : Int)], xa⟩ ⟨[(m : Int), (c : Int)], xb⟩)) := pure_of_ownT fun σ => (gradusref1_Mat_s r m c xa xb hr hr8 hm hm8 hc hc8 hxa hxb σ).ownT

end Go.Proofs.Ytpjcidlkdfebhaa.F
