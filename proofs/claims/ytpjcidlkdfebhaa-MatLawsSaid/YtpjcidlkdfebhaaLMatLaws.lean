/- Functions of the program and of the references: what they compute, by the layer Al. Made by a program of this session (wip/al/alfill.py) out of wip/al/specs. -/
import Derived.Test.YtpjcidlkdfebhaaGf
import Derived.Test.YtpjcidlkdfebhaaAskTen
import Derived.Test.YtpjcidlkdfebhaaProg
namespace Go.Proofs.Ytpjcidlkdfebhaa.F
open Go Go.Proofs.Al
set_option linter.unusedVariables false
set_option linter.unusedSimpArgs false
theorem ring_Add_k {a b : Tn} (ha : okTn a) (hb : okTn b) (hd : a.d = b.d) : Pure Try.prog 48 [tv a, tv b] (.tup [tv (zipT opA a b), iv 0]) := (ring_Add a b).to (by rw [two_ok ha hb hd])
theorem mat_Mul_m {n : Nat} {a b : Tn} (h1 : 1 ≤ n) (h8 : n ≤ 8) (ha : Mx n n a) (hb : Mx n n b) : Pure Try.prog 35 [tv a, tv b] (.tup [tv (matT n n n a b), iv 0]) :=
  (mat_Mul a b).to (by rw [matS_k ⟨ha.ok h1 h8 h1 h8, hb.ok h1 h8 h1 h8⟩ ⟨by rw [ha.d]; rfl, by rw [hb.d]; rfl, by rw [ha.d, hb.d]; rfl⟩, matN, ha.d, hb.d]; rfl)
theorem turn_Turn_m {n : Nat} {a : Tn} (h1 : 1 ≤ n) (h8 : n ≤ 8) (ha : Mx n n a) : Pure Try.prog 72 [tv a] (.tup [tv (turnT n n a), iv 0]) :=
  (turn_Turn a).to (by rw [turnS, if_pos (ha.ok h1 h8 h1 h8), ha.d]; rfl)
theorem mat_Power_m {n k : Nat} {a : Tn} (h1 : 1 ≤ n) (h8 : n ≤ 8) (ha : Mx n n a) (hk : k ≤ 1073741824) : Pure Try.prog 44 [tv a, iv k] (.tup [tv (powT n a k), iv 0]) :=
  (mat_Power a k).to (by rw [powS_k ⟨ha.ok h1 h8 h1 h8, by omega, by omega⟩ ⟨by rw [ha.d]; rfl, by rw [ha.d]; rfl⟩, ha.d]; rfl)
theorem eqM_k {n : Nat} {a b : Tn} (h1 : 1 ≤ n) (h8 : n ≤ 8) (ha : Mx n n a) (hb : Mx n n b) (h : a = b) : Pure Try.prog 39 [tv a, tv b] (bv true) := eqT_k (ha.ok h1 h8 h1 h8) (hb.ok h1 h8 h1 h8) h
theorem sq_mx (t : Tn) (n : Nat) : Mx n n (sqT t n) := ⟨rfl, tab_len _ _⟩
theorem sq_in (t : Tn) (n : Nat) : inT (sqT t n) := fun x hx => by
  obtain ⟨p, hp, rfl⟩ := List.getElem_of_mem hx
  simp only [sqT, tab_getE]
  split
  · exact ⟨by decide, by decide⟩
  · exact wI _
theorem pow_mx {n : Nat} (a : Tn) (k : Nat) : Mx n n (powT n a k) := ⟨(powF_lit n k (oneT n) a k rfl (tab_len _ _)).1, (powF_lit n k (oneT n) a k rfl (tab_len _ _)).2⟩

set_option maxRecDepth 10000 in
theorem graduslaw4_MatLaws (ts : List Tn) (ns : List Int) (ht : ts.length ≤ 17592186044416) (hn : ns.length ≤ 17592186044416) (hf : ∀ t ∈ ts, t.fit) : Pure Try.prog 16 [.agg [.list false 2 (ts.map tv), ints ns]] (bv true) := by
  have hwt := wtT_le hf ht
  intro σ
  refine acalls Try.func16 rfl rfl (by decide) rfl rfl ?_
  refine aseq ?_
  refine areg rfl ?_
  refine s_det (D.box_i rfl rfl) rfl ?_
  refine s_det (D.assign rfl) rfl ?_
  refine s_nil ?_
  refine aseq ?_
  refine aseq ?_
  refine areg rfl ?_
  refine s_det (D.load_i rfl rfl) rfl ?_
  refine s_cmp (D.call (evc rfl ev0) b_graduslaw2_Heavy (graduslaw2_Heavy ts ns (by omega) (by omega) hf hwt)) rfl (fun h41 => ?_) (fun h41 => ?_)
  · replace h41 := of_decide_eq_true h41
    refine s_nil ?_
    refine acond_t rfl ?_
    refine aseq ?_
    refine areg rfl ?_
    refine s_det (D.assign rfl) rfl ?_
    refine s_nil ?_
    refine aret ?_
    exact ⟨[_], ⟨⟨rfl, rfl⟩, trivial⟩, rfl, rfl⟩
  · replace h41 := of_decide_eq_false h41
    obtain ⟨hts, hsm⟩ := wtT_small (l := ts) (by omega)
    refine s_nil ?_
    refine acond_f rfl ?_
    refine askip ?_
    refine amidz (fun _ : Unit => True) (fun _ => []) (fun _ => σ) ?_ ?_
    · refine aseq ?_
      refine areg rfl ?_
      refine s_det (D.assign rfl) rfl ?_
      refine s_nil ?_
      refine ablock ?_
      -- LOOP writes [3] keeps [1]
      refine aloop (ι := Nat) (fun i => i ≤ ts.length) (fun i => ts.length - i) (fun i => [(1, .iptr (.agg [.list false 2 (ts.map tv), ints ns])), (3, iv i)]) (fun i => σ) 0 (by omega) ?_ rfl fun i hi => ?_
      · exact (.cons rfl (.cons rfl .nil))
      refine aseq ?_
      refine aseq ?_
      refine areg rfl ?_
      refine s_det (D.move rfl) rfl ?_
      refine s_det (D.add rfl rfl (w64 (by omega) (by omega))) rfl ?_
      refine s_det (D.field_i rfl rfl rfl) rfl ?_
      refine s_det (D.load_i rfl rfl) rfl ?_
      refine s_det (D.len_m rfl rfl) rfl ?_
      refine s_cmp (D.lss rfl rfl rfl) rfl (fun h47 => ?_) (fun h47 => ?_)
      · replace h47 := of_decide_eq_true h47
        refine s_det (D.move rfl) rfl ?_
        refine s_yes rfl rfl ?_
        refine s_det (D.move rfl) rfl ?_
        refine s_yes rfl rfl ?_
        refine s_cmp (D.lss rfl rfl rfl) rfl (fun h50 => ?_) (fun h50 => ?_)
        · replace h50 := of_decide_eq_true h50
          obtain ⟨a, hva⟩ : ∃ a, ts[i]? = some a := ⟨_, get_lt (by omega)⟩
          obtain ⟨b, hvb⟩ : ∃ a, ts[i + 1]? = some a := ⟨_, get_lt (by omega)⟩
          obtain ⟨d, hvd⟩ : ∃ a, ts[i + 2]? = some a := ⟨_, get_lt (by omega)⟩
          have hfa := hf a (List.mem_of_getElem? hva)
          have hfb := hf b (List.mem_of_getElem? hvb)
          have hfd := hf d (List.mem_of_getElem? hvd)
          have h8 : 1 + (ns.length + i) % 4 ≤ 8 := by omega
          have h1 : 1 ≤ 1 + (ns.length + i) % 4 := by omega
          refine s_det (D.pick rfl rfl rfl rfl) rfl ?_
          refine s_nil ?_
          refine acond_t rfl ?_
          refine askip ?_
          refine aseq ?_
          refine ablock ?_
          refine aseq ?_
          refine areg rfl ?_
          refine s_det (D.field_i rfl rfl rfl) rfl ?_
          refine s_det (D.load_i rfl rfl) rfl ?_
          refine s_det (D.len_m rfl rfl) rfl ?_
          refine s_det (D.move rfl) rfl ?_
          refine s_det (D.add rfl rfl (addN (a := ns.length) (b := i) (by omega))) rfl ?_
          refine s_det (D.call (evc rfl (evc rfl ev0)) b_graduslaw0_Within (graduslaw0_Within (ns.length + i) 4 (by omega) (by omega) (by omega))) rfl ?_
          refine s_det (D.add rfl rfl (addN (a := 1) (b := (ns.length + i) % 4) (by omega))) rfl ?_
          generalize 1 + (ns.length + i) % 4 = n at h1 h8
          have oA := sq_mx a n
          have oB := sq_mx b n
          have oD := sq_mx d n
          refine s_det (D.assign rfl) rfl ?_
          refine s_nil ?_
          refine aseq ?_
          refine adraw [.det 0, .det 1, .det 2, .det 3, .det 4, .det 5, .det 6, .det 7, .det 8, .det 9, .det 10, .det 11, .det 12, .det 13, .det 14, .det 15, .det 16, .det 17, .det 18, .det 19, .det 20, .det 21, .det 22, .alloc3 23 24 25, .act 26, .act 27, .act 28] rfl (by kernel_rfl) ?_
          refine d_det rfl (D.field_i rfl rfl rfl) rfl ?_
          refine d_det rfl (D.load_i rfl rfl) rfl ?_
          refine d_det rfl (D.move rfl) rfl ?_
          refine d_det rfl (D.idx_m rfl rfl (by omega) hva rfl) rfl ?_
          refine d_det rfl (D.load_i rfl rfl) rfl ?_
          refine d_det rfl (D.move rfl) rfl ?_
          refine d_det rfl (D.call (evc rfl (evc rfl ev0)) b_graduslaw4_square (graduslaw4_square a n h1 h8 hfa)) rfl ?_
          refine d_det rfl (D.field_i rfl rfl rfl) rfl ?_
          refine d_det rfl (D.load_i rfl rfl) rfl ?_
          refine d_det rfl (D.move rfl) rfl ?_
          refine d_det rfl (D.add rfl rfl (w64 (by omega) (by omega))) rfl ?_
          refine d_det rfl (D.idx_m rfl rfl (by omega) hvb rfl) rfl ?_
          refine d_det rfl (D.load_i rfl rfl) rfl ?_
          refine d_det rfl (D.move rfl) rfl ?_
          refine d_det rfl (D.call (evc rfl (evc rfl ev0)) b_graduslaw4_square (graduslaw4_square b n h1 h8 hfb)) rfl ?_
          refine d_det rfl (D.field_i rfl rfl rfl) rfl ?_
          refine d_det rfl (D.load_i rfl rfl) rfl ?_
          refine d_det rfl (D.move rfl) rfl ?_
          refine d_det rfl (D.add rfl rfl (w64 (by omega) (by omega))) rfl ?_
          refine d_det rfl (D.idx_m rfl rfl (by omega) hvd rfl) rfl ?_
          refine d_det rfl (D.load_i rfl rfl) rfl ?_
          refine d_det rfl (D.move rfl) rfl ?_
          refine d_det rfl (D.call (evc rfl (evc rfl ev0)) b_graduslaw4_square (graduslaw4_square d n h1 h8 hfd)) rfl ?_
          refine d_new3 rfl rfl rfl rfl rfl rfl rfl rfl rfl rfl rfl rfl rfl rfl rfl fun b5 hb5 b6 hb6 hn6 b7 hb7 hn7 hm7 => ?_
          refine d_do rfl (by kernel_rfl) (A.store rfl rfl (get3a hn6 hn7) rfl rfl (by rfl) rfl rfl ?_)
          refine d_do rfl (by kernel_rfl) (A.store rfl rfl (by rw [AH.set_ne hn6]; exact get3b hm7) rfl rfl (by rfl) rfl rfl ?_)
          refine d_do rfl (by kernel_rfl) (A.store rfl rfl (by rw [AH.set_ne hm7, AH.set_ne hn7]; exact AH.set_self ..) rfl rfl (by rfl) rfl rfl ?_)
          refine d_nil ?_
          rw [fix3 hn6 hn7 hm7]
          refine afix (d := 7) rfl (by rw [AH.set_ne hm7, AH.set_ne hn7]; exact hb7) ?_
          refine afix (d := 6) rfl (by rw [AH.set_ne hn6]; exact hb6) ?_
          refine afix (d := 5) rfl hb5 ?_
          refine aseq ?_
          refine areg rfl ?_
          refine s_det (D.load_i rfl rfl) rfl ?_
          refine s_det (D.load_i rfl rfl) rfl ?_
          refine s_det (D.call (evc rfl (evc rfl ev0)) b_mat_Mul (mat_Mul_m h1 h8 oA oB)) rfl ?_
          refine s_det (D.move rfl) rfl ?_
          refine s_det (D.extract rfl rfl) rfl ?_
          refine s_det (D.extract rfl rfl) rfl ?_
          refine s_act rfl (A.alloc rfl rfl rfl fun b8 hb8 => ?_)
          refine s_do (A.store rfl rfl (AH.set_self ..) rfl rfl (by rfl) rfl rfl ?_)
          refine s_det (D.assign rfl) rfl ?_
          refine s_nil ?_
          rw [AH.set_set]
          refine afix (d := 8) rfl hb8 ?_
          refine aseq ?_
          refine areg rfl ?_
          refine s_det (D.load_i rfl rfl) rfl ?_
          refine s_det (D.load_i rfl rfl) rfl ?_
          refine s_det (D.call (evc rfl (evc rfl ev0)) b_mat_Mul (mat_Mul_m h1 h8 (Mx.mat ..) oD)) rfl ?_
          refine s_det (D.move rfl) rfl ?_
          refine s_det (D.extract rfl rfl) rfl ?_
          refine s_det (D.extract rfl rfl) rfl ?_
          refine s_act rfl (A.alloc rfl rfl rfl fun b10 hb10 => ?_)
          refine s_do (A.store rfl rfl (AH.set_self ..) rfl rfl (by rfl) rfl rfl ?_)
          refine s_det (D.assign rfl) rfl ?_
          refine s_nil ?_
          rw [AH.set_set]
          refine afix (d := 10) rfl hb10 ?_
          refine aseq ?_
          refine areg rfl ?_
          refine s_det (D.load_i rfl rfl) rfl ?_
          refine s_det (D.load_i rfl rfl) rfl ?_
          refine s_det (D.call (evc rfl (evc rfl ev0)) b_mat_Mul (mat_Mul_m h1 h8 oB oD)) rfl ?_
          refine s_det (D.move rfl) rfl ?_
          refine s_det (D.extract rfl rfl) rfl ?_
          refine s_det (D.extract rfl rfl) rfl ?_
          refine s_act rfl (A.alloc rfl rfl rfl fun b12 hb12 => ?_)
          refine s_do (A.store rfl rfl (AH.set_self ..) rfl rfl (by rfl) rfl rfl ?_)
          refine s_det (D.assign rfl) rfl ?_
          refine s_nil ?_
          rw [AH.set_set]
          refine afix (d := 12) rfl hb12 ?_
          refine aseq ?_
          refine areg rfl ?_
          refine s_det (D.load_i rfl rfl) rfl ?_
          refine s_det (D.load_i rfl rfl) rfl ?_
          refine s_det (D.call (evc rfl (evc rfl ev0)) b_mat_Mul (mat_Mul_m h1 h8 oA (Mx.mat ..))) rfl ?_
          refine s_det (D.move rfl) rfl ?_
          refine s_det (D.extract rfl rfl) rfl ?_
          refine s_det (D.extract rfl rfl) rfl ?_
          refine s_act rfl (A.alloc rfl rfl rfl fun b14 hb14 => ?_)
          refine s_do (A.store rfl rfl (AH.set_self ..) rfl rfl (by rfl) rfl rfl ?_)
          refine s_det (D.assign rfl) rfl ?_
          refine s_nil ?_
          rw [AH.set_set]
          refine afix (d := 14) rfl hb14 ?_
          refine aseq ?_
          refine areg rfl ?_
          refine s_det (D.load_i rfl rfl) rfl ?_
          refine s_det (D.load_i rfl rfl) rfl ?_
          refine s_det (D.call (evc rfl (evc rfl ev0)) b_ring_Add (ring_Add_k (oB.ok h1 h8 h1 h8) (oD.ok h1 h8 h1 h8) rfl)) rfl ?_
          refine s_det (D.move rfl) rfl ?_
          refine s_det (D.extract rfl rfl) rfl ?_
          refine s_det (D.extract rfl rfl) rfl ?_
          refine s_act rfl (A.alloc rfl rfl rfl fun b16 hb16 => ?_)
          refine s_do (A.store rfl rfl (AH.set_self ..) rfl rfl (by rfl) rfl rfl ?_)
          refine s_det (D.assign rfl) rfl ?_
          refine s_nil ?_
          rw [AH.set_set]
          refine afix (d := 16) rfl hb16 ?_
          refine aseq ?_
          refine areg rfl ?_
          refine s_det (D.load_i rfl rfl) rfl ?_
          refine s_det (D.load_i rfl rfl) rfl ?_
          refine s_det (D.call (evc rfl (evc rfl ev0)) b_mat_Mul (mat_Mul_m h1 h8 oA (oB.zip oD))) rfl ?_
          refine s_det (D.move rfl) rfl ?_
          refine s_det (D.extract rfl rfl) rfl ?_
          refine s_det (D.extract rfl rfl) rfl ?_
          refine s_act rfl (A.alloc rfl rfl rfl fun b18 hb18 => ?_)
          refine s_do (A.store rfl rfl (AH.set_self ..) rfl rfl (by rfl) rfl rfl ?_)
          refine s_det (D.assign rfl) rfl ?_
          refine s_nil ?_
          rw [AH.set_set]
          refine afix (d := 18) rfl hb18 ?_
          refine aseq ?_
          refine areg rfl ?_
          refine s_det (D.load_i rfl rfl) rfl ?_
          refine s_det (D.load_i rfl rfl) rfl ?_
          refine s_det (D.call (evc rfl (evc rfl ev0)) b_mat_Mul (mat_Mul_m h1 h8 oA oD)) rfl ?_
          refine s_det (D.move rfl) rfl ?_
          refine s_det (D.extract rfl rfl) rfl ?_
          refine s_det (D.extract rfl rfl) rfl ?_
          refine s_act rfl (A.alloc rfl rfl rfl fun b20 hb20 => ?_)
          refine s_do (A.store rfl rfl (AH.set_self ..) rfl rfl (by rfl) rfl rfl ?_)
          refine s_det (D.assign rfl) rfl ?_
          refine s_nil ?_
          rw [AH.set_set]
          refine afix (d := 20) rfl hb20 ?_
          refine aseq ?_
          refine areg rfl ?_
          refine s_det (D.load_i rfl rfl) rfl ?_
          refine s_det (D.load_i rfl rfl) rfl ?_
          refine s_det (D.call (evc rfl (evc rfl ev0)) b_ring_Add (ring_Add_k ((Mx.mat n n n (sqT a n) (sqT b n)).ok h1 h8 h1 h8) ((Mx.mat n n n (sqT a n) (sqT d n)).ok h1 h8 h1 h8) rfl)) rfl ?_
          refine s_det (D.move rfl) rfl ?_
          refine s_det (D.extract rfl rfl) rfl ?_
          refine s_det (D.extract rfl rfl) rfl ?_
          refine s_act rfl (A.alloc rfl rfl rfl fun b22 hb22 => ?_)
          refine s_do (A.store rfl rfl (AH.set_self ..) rfl rfl (by rfl) rfl rfl ?_)
          refine s_det (D.assign rfl) rfl ?_
          refine s_nil ?_
          rw [AH.set_set]
          refine afix (d := 22) rfl hb22 ?_
          refine aseq ?_
          refine areg rfl ?_
          refine s_det (D.load_i rfl rfl) rfl ?_
          refine s_det (D.call (evc rfl ev0) b_turn_Turn (turn_Turn_m h1 h8 (Mx.mat ..))) rfl ?_
          refine s_det (D.move rfl) rfl ?_
          refine s_det (D.extract rfl rfl) rfl ?_
          refine s_det (D.extract rfl rfl) rfl ?_
          refine s_act rfl (A.alloc rfl rfl rfl fun b24 hb24 => ?_)
          refine s_do (A.store rfl rfl (AH.set_self ..) rfl rfl (by rfl) rfl rfl ?_)
          refine s_det (D.assign rfl) rfl ?_
          refine s_nil ?_
          rw [AH.set_set]
          refine afix (d := 24) rfl hb24 ?_
          refine aseq ?_
          refine areg rfl ?_
          refine s_det (D.load_i rfl rfl) rfl ?_
          refine s_det (D.call (evc rfl ev0) b_turn_Turn (turn_Turn_m h1 h8 oA)) rfl ?_
          refine s_det (D.move rfl) rfl ?_
          refine s_det (D.extract rfl rfl) rfl ?_
          refine s_det (D.extract rfl rfl) rfl ?_
          refine s_act rfl (A.alloc rfl rfl rfl fun b26 hb26 => ?_)
          refine s_do (A.store rfl rfl (AH.set_self ..) rfl rfl (by rfl) rfl rfl ?_)
          refine s_det (D.assign rfl) rfl ?_
          refine s_nil ?_
          rw [AH.set_set]
          refine afix (d := 26) rfl hb26 ?_
          refine aseq ?_
          refine areg rfl ?_
          refine s_det (D.load_i rfl rfl) rfl ?_
          refine s_det (D.call (evc rfl ev0) b_turn_Turn (turn_Turn_m h1 h8 oB)) rfl ?_
          refine s_det (D.move rfl) rfl ?_
          refine s_det (D.extract rfl rfl) rfl ?_
          refine s_det (D.extract rfl rfl) rfl ?_
          refine s_act rfl (A.alloc rfl rfl rfl fun b28 hb28 => ?_)
          refine s_do (A.store rfl rfl (AH.set_self ..) rfl rfl (by rfl) rfl rfl ?_)
          refine s_det (D.assign rfl) rfl ?_
          refine s_nil ?_
          rw [AH.set_set]
          refine afix (d := 28) rfl hb28 ?_
          refine aseq ?_
          refine areg rfl ?_
          refine s_det (D.load_i rfl rfl) rfl ?_
          refine s_det (D.load_i rfl rfl) rfl ?_
          refine s_det (D.call (evc rfl (evc rfl ev0)) b_mat_Mul (mat_Mul_m h1 h8 (Mx.turn ..) (Mx.turn ..))) rfl ?_
          refine s_det (D.move rfl) rfl ?_
          refine s_det (D.extract rfl rfl) rfl ?_
          refine s_det (D.extract rfl rfl) rfl ?_
          refine s_act rfl (A.alloc rfl rfl rfl fun b30 hb30 => ?_)
          refine s_do (A.store rfl rfl (AH.set_self ..) rfl rfl (by rfl) rfl rfl ?_)
          refine s_det (D.assign rfl) rfl ?_
          refine s_nil ?_
          rw [AH.set_set]
          refine afix (d := 30) rfl hb30 ?_
          refine aseq ?_
          refine areg rfl ?_
          refine s_det (D.load_i rfl rfl) rfl ?_
          refine s_det (D.call (evc rfl (evc rfl ev0)) b_mat_Power (mat_Power_m (k := 2) h1 h8 oA (by decide))) rfl ?_
          refine s_det (D.move rfl) rfl ?_
          refine s_det (D.extract rfl rfl) rfl ?_
          refine s_det (D.extract rfl rfl) rfl ?_
          refine s_act rfl (A.alloc rfl rfl rfl fun b32 hb32 => ?_)
          refine s_do (A.store rfl rfl (AH.set_self ..) rfl rfl (by rfl) rfl rfl ?_)
          refine s_det (D.assign rfl) rfl ?_
          refine s_nil ?_
          rw [AH.set_set]
          refine afix (d := 32) rfl hb32 ?_
          refine aseq ?_
          refine areg rfl ?_
          refine s_det (D.load_i rfl rfl) rfl ?_
          refine s_det (D.call (evc rfl (evc rfl ev0)) b_mat_Power (mat_Power_m (k := 3) h1 h8 oA (by decide))) rfl ?_
          refine s_det (D.move rfl) rfl ?_
          refine s_det (D.extract rfl rfl) rfl ?_
          refine s_det (D.extract rfl rfl) rfl ?_
          refine s_act rfl (A.alloc rfl rfl rfl fun b34 hb34 => ?_)
          refine s_do (A.store rfl rfl (AH.set_self ..) rfl rfl (by rfl) rfl rfl ?_)
          refine s_det (D.assign rfl) rfl ?_
          refine s_nil ?_
          rw [AH.set_set]
          refine afix (d := 34) rfl hb34 ?_
          refine aseq ?_
          refine areg rfl ?_
          refine s_det (D.load_i rfl rfl) rfl ?_
          refine s_det (D.call (evc rfl (evc rfl ev0)) b_mat_Power (mat_Power_m (k := 5) h1 h8 oA (by decide))) rfl ?_
          refine s_det (D.move rfl) rfl ?_
          refine s_det (D.extract rfl rfl) rfl ?_
          refine s_det (D.extract rfl rfl) rfl ?_
          refine s_act rfl (A.alloc rfl rfl rfl fun b36 hb36 => ?_)
          refine s_do (A.store rfl rfl (AH.set_self ..) rfl rfl (by rfl) rfl rfl ?_)
          refine s_det (D.assign rfl) rfl ?_
          refine s_nil ?_
          rw [AH.set_set]
          refine afix (d := 36) rfl hb36 ?_
          refine aseq ?_
          refine areg rfl ?_
          refine s_det (D.load_i rfl rfl) rfl ?_
          refine s_det (D.load_i rfl rfl) rfl ?_
          refine s_det (D.call (evc rfl (evc rfl ev0)) b_mat_Mul (mat_Mul_m h1 h8 (pow_mx ..) (pow_mx ..))) rfl ?_
          refine s_det (D.move rfl) rfl ?_
          refine s_det (D.extract rfl rfl) rfl ?_
          refine s_det (D.extract rfl rfl) rfl ?_
          refine s_act rfl (A.alloc rfl rfl rfl fun b38 hb38 => ?_)
          refine s_do (A.store rfl rfl (AH.set_self ..) rfl rfl (by rfl) rfl rfl ?_)
          refine s_det (D.assign rfl) rfl ?_
          refine s_nil ?_
          rw [AH.set_set]
          refine afix (d := 38) rfl hb38 ?_
          refine aseq ?_
          refine aseq ?_
          refine areg rfl ?_
          refine s_det (D.move rfl) rfl ?_
          refine s_det (D.call (evc rfl ev0) b_graduslaw4_num (graduslaw4_num _)) rfl ?_
          refine s_det (D.move rfl) rfl ?_
          refine s_det (D.call (evc rfl ev0) b_graduslaw4_num (graduslaw4_num _)) rfl ?_
          refine s_det (D.add rfl rfl (w64 (by omega) (by omega))) rfl ?_
          refine s_det (D.move rfl) rfl ?_
          refine s_det (D.call (evc rfl ev0) b_graduslaw4_num (graduslaw4_num _)) rfl ?_
          refine s_det (D.add rfl rfl (w64 (by omega) (by omega))) rfl ?_
          refine s_det (D.move rfl) rfl ?_
          refine s_det (D.call (evc rfl ev0) b_graduslaw4_num (graduslaw4_num _)) rfl ?_
          refine s_det (D.add rfl rfl (w64 (by omega) (by omega))) rfl ?_
          refine s_det (D.move rfl) rfl ?_
          refine s_det (D.call (evc rfl ev0) b_graduslaw4_num (graduslaw4_num _)) rfl ?_
          refine s_det (D.add rfl rfl (w64 (by omega) (by omega))) rfl ?_
          refine s_det (D.move rfl) rfl ?_
          refine s_det (D.call (evc rfl ev0) b_graduslaw4_num (graduslaw4_num _)) rfl ?_
          refine s_det (D.add rfl rfl (w64 (by omega) (by omega))) rfl ?_
          refine s_det (D.move rfl) rfl ?_
          refine s_det (D.call (evc rfl ev0) b_graduslaw4_num (graduslaw4_num _)) rfl ?_
          refine s_det (D.add rfl rfl (w64 (by omega) (by omega))) rfl ?_
          refine s_det (D.move rfl) rfl ?_
          refine s_det (D.call (evc rfl ev0) b_graduslaw4_num (graduslaw4_num _)) rfl ?_
          refine s_det (D.add rfl rfl (w64 (by omega) (by omega))) rfl ?_
          refine s_det (D.move rfl) rfl ?_
          refine s_det (D.call (evc rfl ev0) b_graduslaw4_num (graduslaw4_num _)) rfl ?_
          refine s_det (D.add rfl rfl (w64 (by omega) (by omega))) rfl ?_
          refine s_det (D.move rfl) rfl ?_
          refine s_det (D.call (evc rfl ev0) b_graduslaw4_num (graduslaw4_num _)) rfl ?_
          refine s_det (D.add rfl rfl (w64 (by omega) (by omega))) rfl ?_
          refine s_det (D.move rfl) rfl ?_
          refine s_det (D.call (evc rfl ev0) b_graduslaw4_num (graduslaw4_num _)) rfl ?_
          refine s_det (D.add rfl rfl (w64 (by omega) (by omega))) rfl ?_
          refine s_det (D.move rfl) rfl ?_
          refine s_det (D.call (evc rfl ev0) b_graduslaw4_num (graduslaw4_num _)) rfl ?_
          refine s_det (D.add rfl rfl (w64 (by omega) (by omega))) rfl ?_
          refine s_det (D.move rfl) rfl ?_
          refine s_det (D.call (evc rfl ev0) b_graduslaw4_num (graduslaw4_num _)) rfl ?_
          refine s_det (D.add rfl rfl (w64 (by omega) (by omega))) rfl ?_
          refine s_det (D.move rfl) rfl ?_
          refine s_det (D.call (evc rfl ev0) b_graduslaw4_num (graduslaw4_num _)) rfl ?_
          refine s_det (D.add rfl rfl (w64 (by omega) (by omega))) rfl ?_
          refine s_det (D.move rfl) rfl ?_
          refine s_det (D.call (evc rfl ev0) b_graduslaw4_num (graduslaw4_num _)) rfl ?_
          refine s_det (D.add rfl rfl (w64 (by omega) (by omega))) rfl ?_
          refine s_det (D.move rfl) rfl ?_
          refine s_det (D.call (evc rfl ev0) b_graduslaw4_num (graduslaw4_num _)) rfl ?_
          refine s_det (D.add rfl rfl (w64 (by omega) (by omega))) rfl ?_
          refine s_det (D.neq rfl rfl (decide_eq_false (by omega))) rfl ?_
          refine s_nil ?_
          refine acond_f rfl ?_
          refine askip ?_
          refine aseq ?_
          refine areg rfl ?_
          refine s_det (D.load_i rfl rfl) rfl ?_
          refine s_det (D.load_i rfl rfl) rfl ?_
          refine s_det (D.call (evc rfl (evc rfl ev0)) b_gradusref0_EqTensor (eqM_k h1 h8 (Mx.mat ..) (Mx.mat ..) (mat_assoc _ _ _))) rfl ?_
          refine s_det (D.not rfl rfl) rfl ?_
          refine s_det (D.move rfl) rfl ?_
          refine s_yes rfl rfl ?_
          refine s_det (D.load_i rfl rfl) rfl ?_
          refine s_yes rfl rfl ?_
          refine s_det (D.load_i rfl rfl) rfl ?_
          refine s_yes rfl rfl ?_
          refine s_det (D.call (evc rfl (evc rfl ev0)) b_gradusref0_EqTensor (eqM_k h1 h8 (Mx.mat ..) ((Mx.mat ..).zip (Mx.mat ..)) (mat_add oB oD))) rfl ?_
          refine s_yes rfl rfl ?_
          refine s_det (D.not rfl rfl) rfl ?_
          refine s_det (D.pick rfl rfl rfl rfl) rfl ?_
          refine s_det (D.move rfl) rfl ?_
          refine s_yes rfl rfl ?_
          refine s_det (D.load_i rfl rfl) rfl ?_
          refine s_yes rfl rfl ?_
          refine s_det (D.load_i rfl rfl) rfl ?_
          refine s_yes rfl rfl ?_
          refine s_det (D.call (evc rfl (evc rfl ev0)) b_gradusref0_EqTensor (eqM_k h1 h8 (Mx.turn ..) (Mx.mat ..) (mat_turn _ _))) rfl ?_
          refine s_yes rfl rfl ?_
          refine s_det (D.not rfl rfl) rfl ?_
          refine s_det (D.pick rfl rfl rfl rfl) rfl ?_
          refine s_det (D.move rfl) rfl ?_
          refine s_yes rfl rfl ?_
          refine s_det (D.load_i rfl rfl) rfl ?_
          refine s_yes rfl rfl ?_
          refine s_det (D.load_i rfl rfl) rfl ?_
          refine s_yes rfl rfl ?_
          refine s_det (D.call (evc rfl (evc rfl ev0)) b_gradusref0_EqTensor (eqM_k h1 h8 (pow_mx ..) (Mx.mat ..) (pow_add5 oA (sq_in a n)))) rfl ?_
          refine s_yes rfl rfl ?_
          refine s_det (D.not rfl rfl) rfl ?_
          refine s_det (D.pick rfl rfl rfl rfl) rfl ?_
          refine s_nil ?_
          refine acond_f rfl ?_
          refine askip ?_
          refine areg rfl ?_
          refine s_det (D.move rfl) rfl ?_
          refine s_det (D.add rfl rfl (w64 (by omega) (by omega))) rfl ?_
          refine s_det (D.assign rfl) rfl ?_
          refine s_nil ?_
          exact ⟨i + 1, by omega, by omega, (.cons rfl (.cons rfl .nil)), rfl⟩
        · replace h50 := of_decide_eq_false h50
          refine s_det (D.pick rfl rfl rfl rfl) rfl ?_
          refine s_nil ?_
          refine acond_f rfl ?_
          refine aexit ?_
          exact ⟨(), trivial, Sub.refl _, .nil⟩
      · replace h47 := of_decide_eq_false h47
        refine s_det (D.move rfl) rfl ?_
        refine s_no rfl rfl rfl rfl ?_
        refine s_no rfl rfl rfl rfl ?_
        refine s_det (D.pick rfl rfl rfl rfl) rfl ?_
        refine s_nil ?_
        refine acond_f rfl ?_
        refine aexit ?_
        exact ⟨(), trivial, Sub.refl _, .nil⟩
    · intro _ _
      refine aseq ?_
      refine areg rfl ?_
      refine s_det (D.call ev0 b_graduslaw4_wakes graduslaw4_wakes) rfl ?_
      refine s_det (D.assign rfl) rfl ?_
      refine s_nil ?_
      refine aret ?_
      exact ⟨[_], ⟨⟨rfl, rfl⟩, trivial⟩, rfl, rfl⟩

theorem matLaws_pure (x : Ask2) (hx : G46 x) : Pure Try.prog 16 [enc46 x] (bv true) := graduslaw4_MatLaws x.1 x.2 hx.ok.1 hx.ok.2.1 hx.ok.2.2

end Go.Proofs.Ytpjcidlkdfebhaa.F
