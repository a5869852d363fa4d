-- Made by a program of this session (wip/xprint.py): the kit's print with changes of ours; not print.sh's own text.
import Derived.Test.YtpjcidlkdfebhaaPTx0
import Derived.Test.YtpjcidlkdfebhaaPTx5
import Derived.Test.YtpjcidlkdfebhaaPTx24
import Derived.Test.YtpjcidlkdfebhaaPTx25
import Derived.Test.YtpjcidlkdfebhaaPTx26
import Derived.Test.YtpjcidlkdfebhaaPTx41
namespace Go.Proofs.Ytpjcidlkdfebhaa.PT
open Go.RowKit Go.Proofs.YtpjcidlkdfebhaaW.PrintWords Go.Proofs.YtpjcidlkdfebhaaW.PrintLast Go.Proofs.YtpjcidlkdfebhaaW.PrintMore
attribute [local go_sem] max2_int min2_int max_two min_two max_three min_three max_four min_four   -- for this text's walks alone
set_option linter.unusedVariables false
set_option linter.unusedSimpArgs false

attribute [local go_sem] Go.Proofs.XW.sg8 Go.Proofs.XW.sg16 Go.Proofs.XW.sg32 Go.Proofs.XW.sg64
/-! ### graduslaw3_TurnBack: function 12 -/
mutual
def graduslaw3_TurnBack.l0 : Nat → Int → List (S34) → List Int → List (List Int) → Option (Bool)
 | 0, _, _, _, _ => none
 | k + 1, x3, x1198000, x1198001, x1198002 => if x3 < (x1198000.length : Int) then (graduslaw3_TurnBack.j1 k x3 (decide (x3 < 5)) x1198000 x1198001 x1198002) else (graduslaw3_TurnBack.j1 k x3 false x1198000 x1198001 x1198002)
def graduslaw3_TurnBack.j1 : Nat → Int → Bool → List (S34) → List Int → List (List Int) → Option (Bool)
 | 0, _, _, _, _, _ => none
 | k + 1, x3, x22, x1198000, x1198001, x1198002 => if x22 = true then (if 0 ≤ x3 then (if x3 < (x1198000.length : Int) then ((graduslaw3_dims.f k x1198000 x1198001 x1198002 ((rd_T34 x1198000 x3).f0) ((rd_T34 x1198000 x3).f1)).bind fun t1202 => (graduslaw3_TurnBack.l1 k x3 t1202 0 x1198000 x1198001 x1198002 ((rd_T34 x1198000 x3).f0) ((rd_T34 x1198000 x3).f1))) else (none)) else (none)) else ((graduslaw3_wakes.f k).bind fun t1199 => (some t1199))
def graduslaw3_TurnBack.l1 : Nat → Int → List (List Int) → Int → List (S34) → List Int → List (List Int) → List Int → List Int → Option (Bool)
 | 0, _, _, _, _, _, _, _, _ => none
 | k + 1, x3, x5, x6, x1198000, x1198001, x1198002, x1202000, x1202001 => if x6 < (x5.length : Int) then (if 0 ≤ x6 then ((turn_Wide.f k x1202000 x1202001 (rd_L1 x5 x6)).bind fun bt1206 => ((graduslaw3_num.f bt1206.2.2).bind fun t1214 => (if t1214 = 0 then ((turn_Sum.f k bt1206.1 bt1206.2.1 x1202000).bind fun bt1215 => ((graduslaw3_num.f bt1215.2.2).bind fun t1223 => (if t1223 = 0 then (if (bt1215.2.1.length : Int) = (x1202001.length : Int) then (if (x1202001.length : Int) = 0 then (graduslaw3_TurnBack.j3 k x3 x5 x6 true x1198000 x1198001 x1198002 x1202000 x1202001 bt1206.1 bt1206.2.1 bt1215.1 bt1215.2.1) else (graduslaw3_TurnBack.j3 k x3 x5 x6 (((bt1206.2.1.length : Int) % (x1202001.length : Int)) != 0) x1198000 x1198001 x1198002 x1202000 x1202001 bt1206.1 bt1206.2.1 bt1215.1 bt1215.2.1)) else (graduslaw3_TurnBack.j3 k x3 x5 x6 true x1198000 x1198001 x1198002 x1202000 x1202001 bt1206.1 bt1206.2.1 bt1215.1 bt1215.2.1)) else (graduslaw3_TurnBack.j3 k x3 x5 x6 true x1198000 x1198001 x1198002 x1202000 x1202001 bt1206.1 bt1206.2.1 bt1215.1 bt1215.2.1)))) else (graduslaw3_TurnBack.l1 k x3 x5 (wrap64 (x6 + 1)) x1198000 x1198001 x1198002 x1202000 x1202001)))) else (none)) else (graduslaw3_TurnBack.l0 k (wrap64 (x3 + 1)) x1198000 x1198001 x1198002)
def graduslaw3_TurnBack.j3 : Nat → Int → List (List Int) → Int → Bool → List (S34) → List Int → List (List Int) → List Int → List Int → List Int → List Int → List Int → List Int → Option (Bool)
 | 0, _, _, _, _, _, _, _, _, _, _, _, _, _ => none
 | k + 1, x3, x5, x6, x86, x1198000, x1198001, x1198002, x1202000, x1202001, x1214000, x1214001, x1223000, x1223001 => if x86 = true then (none) else (if (x1202001.length : Int) = 0 then (none) else ((gradusref1_Scale.f k x1202000 x1202001 (wrap64 ((x1214001.length : Int) / (x1202001.length : Int)))).bind fun bt1224 => ((gradusref0_EqTensor.f k x1223000 x1223001 bt1224.1 bt1224.2).bind fun t1230 => (if t1230 = true then (graduslaw3_TurnBack.l1 k x3 x5 (wrap64 (x6 + 1)) x1198000 x1198001 x1198002 x1202000 x1202001) else (none)))))
end
def graduslaw3_TurnBack.f (k : Nat) (l0_0 : List (S34)) (l0_1 : List Int) (l0_2 : List (List Int)) : Option (Bool) := (graduslaw3_Heavy.f k l0_0 l0_1 l0_2).bind fun t1198 => (if t1198 = true then (some true) else (graduslaw3_TurnBack.l0 k 0 l0_0 l0_1 l0_2))
theorem graduslaw3_TurnBack.mono_l : ∀ k, (∀ y0 y1 y2 y3, LeO (graduslaw3_TurnBack.l0 k y0 y1 y2 y3) (graduslaw3_TurnBack.l0 (k + 1) y0 y1 y2 y3)) ∧ (∀ y0 y1 y2 y3 y4, LeO (graduslaw3_TurnBack.j1 k y0 y1 y2 y3 y4) (graduslaw3_TurnBack.j1 (k + 1) y0 y1 y2 y3 y4)) ∧ (∀ y0 y1 y2 y3 y4 y5 y6 y7, LeO (graduslaw3_TurnBack.l1 k y0 y1 y2 y3 y4 y5 y6 y7) (graduslaw3_TurnBack.l1 (k + 1) y0 y1 y2 y3 y4 y5 y6 y7)) ∧ (∀ y0 y1 y2 y3 y4 y5 y6 y7 y8 y9 y10 y11 y12, LeO (graduslaw3_TurnBack.j3 k y0 y1 y2 y3 y4 y5 y6 y7 y8 y9 y10 y11 y12) (graduslaw3_TurnBack.j3 (k + 1) y0 y1 y2 y3 y4 y5 y6 y7 y8 y9 y10 y11 y12))
 | 0 => ⟨fun _ _ _ _ r h => by simp [graduslaw3_TurnBack.l0] at h, fun _ _ _ _ _ r h => by simp [graduslaw3_TurnBack.j1] at h, fun _ _ _ _ _ _ _ _ r h => by simp [graduslaw3_TurnBack.l1] at h, fun _ _ _ _ _ _ _ _ _ _ _ _ _ r h => by simp [graduslaw3_TurnBack.j3] at h⟩
 | k + 1 => by
  obtain ⟨ih0, ih1, ih2, ih3⟩ := graduslaw3_TurnBack.mono_l k
  refine ⟨?_, ?_, ?_, ?_⟩
  ·intro y0 y1 y2 y3
   unfold graduslaw3_TurnBack.l0
   repeat' first
   | (with_reducible exact ih0 _ _ _ _)
   | (with_reducible exact ih1 _ _ _ _ _)
   | (with_reducible exact ih2 _ _ _ _ _ _ _ _)
   | (with_reducible exact ih3 _ _ _ _ _ _ _ _ _ _ _ _ _)
   | (with_reducible exact graduslaw3_Heavy.mono _ _ _ _)
   | (with_reducible exact graduslaw3_dims.mono _ _ _ _ _ _)
   | (with_reducible exact graduslaw3_wakes.mono _)
   | (with_reducible exact gradusref0_EqTensor.mono _ _ _ _ _)
   | (with_reducible exact gradusref1_Scale.mono _ _ _ _)
   | (with_reducible exact turn_Sum.mono _ _ _ _)
   | (with_reducible exact turn_Wide.mono _ _ _ _)
   | (with_reducible exact LeO.refl _)
   | (with_reducible exact LeO.none _)
   | (with_reducible refine LeO.ite ?_ ?_)
   | (with_reducible refine LeO.bind ?_ (fun _ => ?_))
   | exact ih0 _ _ _ _
   | exact ih1 _ _ _ _ _
   | exact ih2 _ _ _ _ _ _ _ _
   | exact ih3 _ _ _ _ _ _ _ _ _ _ _ _ _
   | exact graduslaw3_Heavy.mono _ _ _ _
   | exact graduslaw3_dims.mono _ _ _ _ _ _
   | exact graduslaw3_wakes.mono _
   | exact gradusref0_EqTensor.mono _ _ _ _ _
   | exact gradusref1_Scale.mono _ _ _ _
   | exact turn_Sum.mono _ _ _ _
   | exact turn_Wide.mono _ _ _ _
   | exact LeO.none _
   | refine LeO.ite ?_ ?_
   | refine LeO.bind ?_ (fun _ => ?_)
  ·intro y0 y1 y2 y3 y4
   unfold graduslaw3_TurnBack.j1
   repeat' first
   | (with_reducible exact ih0 _ _ _ _)
   | (with_reducible exact ih1 _ _ _ _ _)
   | (with_reducible exact ih2 _ _ _ _ _ _ _ _)
   | (with_reducible exact ih3 _ _ _ _ _ _ _ _ _ _ _ _ _)
   | (with_reducible exact graduslaw3_Heavy.mono _ _ _ _)
   | (with_reducible exact graduslaw3_dims.mono _ _ _ _ _ _)
   | (with_reducible exact graduslaw3_wakes.mono _)
   | (with_reducible exact gradusref0_EqTensor.mono _ _ _ _ _)
   | (with_reducible exact gradusref1_Scale.mono _ _ _ _)
   | (with_reducible exact turn_Sum.mono _ _ _ _)
   | (with_reducible exact turn_Wide.mono _ _ _ _)
   | (with_reducible exact LeO.refl _)
   | (with_reducible exact LeO.none _)
   | (with_reducible refine LeO.ite ?_ ?_)
   | (with_reducible refine LeO.bind ?_ (fun _ => ?_))
   | exact ih0 _ _ _ _
   | exact ih1 _ _ _ _ _
   | exact ih2 _ _ _ _ _ _ _ _
   | exact ih3 _ _ _ _ _ _ _ _ _ _ _ _ _
   | exact graduslaw3_Heavy.mono _ _ _ _
   | exact graduslaw3_dims.mono _ _ _ _ _ _
   | exact graduslaw3_wakes.mono _
   | exact gradusref0_EqTensor.mono _ _ _ _ _
   | exact gradusref1_Scale.mono _ _ _ _
   | exact turn_Sum.mono _ _ _ _
   | exact turn_Wide.mono _ _ _ _
   | exact LeO.none _
   | refine LeO.ite ?_ ?_
   | refine LeO.bind ?_ (fun _ => ?_)
  ·intro y0 y1 y2 y3 y4 y5 y6 y7
   unfold graduslaw3_TurnBack.l1
   repeat' first
   | (with_reducible exact ih0 _ _ _ _)
   | (with_reducible exact ih1 _ _ _ _ _)
   | (with_reducible exact ih2 _ _ _ _ _ _ _ _)
   | (with_reducible exact ih3 _ _ _ _ _ _ _ _ _ _ _ _ _)
   | (with_reducible exact graduslaw3_Heavy.mono _ _ _ _)
   | (with_reducible exact graduslaw3_dims.mono _ _ _ _ _ _)
   | (with_reducible exact graduslaw3_wakes.mono _)
   | (with_reducible exact gradusref0_EqTensor.mono _ _ _ _ _)
   | (with_reducible exact gradusref1_Scale.mono _ _ _ _)
   | (with_reducible exact turn_Sum.mono _ _ _ _)
   | (with_reducible exact turn_Wide.mono _ _ _ _)
   | (with_reducible exact LeO.refl _)
   | (with_reducible exact LeO.none _)
   | (with_reducible refine LeO.ite ?_ ?_)
   | (with_reducible refine LeO.bind ?_ (fun _ => ?_))
   | exact ih0 _ _ _ _
   | exact ih1 _ _ _ _ _
   | exact ih2 _ _ _ _ _ _ _ _
   | exact ih3 _ _ _ _ _ _ _ _ _ _ _ _ _
   | exact graduslaw3_Heavy.mono _ _ _ _
   | exact graduslaw3_dims.mono _ _ _ _ _ _
   | exact graduslaw3_wakes.mono _
   | exact gradusref0_EqTensor.mono _ _ _ _ _
   | exact gradusref1_Scale.mono _ _ _ _
   | exact turn_Sum.mono _ _ _ _
   | exact turn_Wide.mono _ _ _ _
   | exact LeO.none _
   | refine LeO.ite ?_ ?_
   | refine LeO.bind ?_ (fun _ => ?_)
  ·intro y0 y1 y2 y3 y4 y5 y6 y7 y8 y9 y10 y11 y12
   unfold graduslaw3_TurnBack.j3
   repeat' first
   | (with_reducible exact ih0 _ _ _ _)
   | (with_reducible exact ih1 _ _ _ _ _)
   | (with_reducible exact ih2 _ _ _ _ _ _ _ _)
   | (with_reducible exact ih3 _ _ _ _ _ _ _ _ _ _ _ _ _)
   | (with_reducible exact graduslaw3_Heavy.mono _ _ _ _)
   | (with_reducible exact graduslaw3_dims.mono _ _ _ _ _ _)
   | (with_reducible exact graduslaw3_wakes.mono _)
   | (with_reducible exact gradusref0_EqTensor.mono _ _ _ _ _)
   | (with_reducible exact gradusref1_Scale.mono _ _ _ _)
   | (with_reducible exact turn_Sum.mono _ _ _ _)
   | (with_reducible exact turn_Wide.mono _ _ _ _)
   | (with_reducible exact LeO.refl _)
   | (with_reducible exact LeO.none _)
   | (with_reducible refine LeO.ite ?_ ?_)
   | (with_reducible refine LeO.bind ?_ (fun _ => ?_))
   | exact ih0 _ _ _ _
   | exact ih1 _ _ _ _ _
   | exact ih2 _ _ _ _ _ _ _ _
   | exact ih3 _ _ _ _ _ _ _ _ _ _ _ _ _
   | exact graduslaw3_Heavy.mono _ _ _ _
   | exact graduslaw3_dims.mono _ _ _ _ _ _
   | exact graduslaw3_wakes.mono _
   | exact gradusref0_EqTensor.mono _ _ _ _ _
   | exact gradusref1_Scale.mono _ _ _ _
   | exact turn_Sum.mono _ _ _ _
   | exact turn_Wide.mono _ _ _ _
   | exact LeO.none _
   | refine LeO.ite ?_ ?_
   | refine LeO.bind ?_ (fun _ => ?_)
theorem graduslaw3_TurnBack.mono : ∀ a0 a1 a2 k, LeO (graduslaw3_TurnBack.f k a0 a1 a2) (graduslaw3_TurnBack.f (k + 1) a0 a1 a2) := by
 intro a0 a1 a2 k
 obtain ⟨ih0, ih1, ih2, ih3⟩ := graduslaw3_TurnBack.mono_l k
 unfold graduslaw3_TurnBack.f
 repeat' first
   | (with_reducible exact ih0 _ _ _ _)
   | (with_reducible exact ih1 _ _ _ _ _)
   | (with_reducible exact ih2 _ _ _ _ _ _ _ _)
   | (with_reducible exact ih3 _ _ _ _ _ _ _ _ _ _ _ _ _)
   | (with_reducible exact graduslaw3_Heavy.mono _ _ _ _)
   | (with_reducible exact graduslaw3_dims.mono _ _ _ _ _ _)
   | (with_reducible exact graduslaw3_wakes.mono _)
   | (with_reducible exact gradusref0_EqTensor.mono _ _ _ _ _)
   | (with_reducible exact gradusref1_Scale.mono _ _ _ _)
   | (with_reducible exact turn_Sum.mono _ _ _ _)
   | (with_reducible exact turn_Wide.mono _ _ _ _)
   | (with_reducible exact LeO.refl _)
   | (with_reducible exact LeO.none _)
   | (with_reducible refine LeO.ite ?_ ?_)
   | (with_reducible refine LeO.bind ?_ (fun _ => ?_))
   | exact ih0 _ _ _ _
   | exact ih1 _ _ _ _ _
   | exact ih2 _ _ _ _ _ _ _ _
   | exact ih3 _ _ _ _ _ _ _ _ _ _ _ _ _
   | exact graduslaw3_Heavy.mono _ _ _ _
   | exact graduslaw3_dims.mono _ _ _ _ _ _
   | exact graduslaw3_wakes.mono _
   | exact gradusref0_EqTensor.mono _ _ _ _ _
   | exact gradusref1_Scale.mono _ _ _ _
   | exact turn_Sum.mono _ _ _ _
   | exact turn_Wide.mono _ _ _ _
   | exact LeO.none _
   | refine LeO.ite ?_ ?_
   | refine LeO.bind ?_ (fun _ => ?_)
def graduslaw3_TurnBack.T11 : Bool × List (List Nat × List Nat) := (true, [([], []), ([], []), ([], []), ([1, 2], [1, 2]), ([3], [3]), ([0, 4], [0, 4]), ([5], [5]), ([6], [6]), ([6], [6]), ([], []), ([9, 7, 5, 0, 1, 2, 3, 4, 5, 6, 7, 9], [7, 9]), ([8, 10, 0, 1, 2, 3, 4, 5, 6, 7, 8, 9, 10], [8])])
def graduslaw3_TurnBack.B11 : List Nat := [0, 0, 0, 6, 14, 31, 63, 127, 127, 0, 767, 2047]
theorem graduslaw3_TurnBack.tab11 : rtab .any (opsOf Try.f12 11) = graduslaw3_TurnBack.T11 := by kernel_rfl
theorem graduslaw3_TurnBack.bits11 : waitsOk graduslaw3_TurnBack.T11.2 graduslaw3_TurnBack.B11 = true := by kernel_rfl
def graduslaw3_TurnBack.T16 : Bool × List (List Nat × List Nat) := (true, [([], []), ([], []), ([], []), ([2], [2]), ([3], [3]), ([], []), ([5], [5]), ([6], [6]), ([4, 7], [4, 7]), ([1, 8], [1, 8]), ([0, 9, 9], [0, 9]), ([10], [10])])
def graduslaw3_TurnBack.B16 : List Nat := [0, 0, 0, 4, 12, 0, 32, 96, 252, 510, 1023, 2047]
theorem graduslaw3_TurnBack.tab16 : rtab .any (opsOf Try.f12 16) = graduslaw3_TurnBack.T16 := by kernel_rfl
theorem graduslaw3_TurnBack.bits16 : waitsOk graduslaw3_TurnBack.T16.2 graduslaw3_TurnBack.B16 = true := by kernel_rfl
set_option maxHeartbeats 8000000 in
set_option maxRecDepth 100000 in
theorem graduslaw3_TurnBack.calls (k : Nat) (A0_0 : Option Addr) (c0_0 : Nat) (l0_0 : List (S34)) (A0_1 : Option Addr) (c0_1 : Nat) (l0_1 : List Int) (A0_2 : Option Addr) (c0_2 : Nat) (l0_2 : List (List Int)) (r : Bool) (w : World) (hr0_0 : Kd.C k34 w A0_0 l0_0.length l0_0) (hc0_0 : l0_0.length ≤ c0_0) (hr0_1 : Kd.C (Kd.int .i64) w A0_1 l0_1.length l0_1) (hc0_1 : l0_1.length ≤ c0_1) (hr0_2 : Kd.C (Kd.slice 3 (Kd.int .i64)) w A0_2 l0_2.length l0_2) (hc0_2 : l0_2.length ≤ c0_2) (h : graduslaw3_TurnBack.f k l0_0 l0_1 l0_2 = some r) :
  Calls Try.prog 12 #[.agg #[.slice A0_0 l0_0.length c0_0, .slice A0_1 l0_1.length c0_1, .slice A0_2 l0_2.length c0_2]] w fun e w' => e = .returned (.bool r) ∧ Below w.heap.size w w' := by
 have hu67 := Try.underlying67
 have hu34 := Try.underlying34
 have HR0_0 := Aside0.mk hr0_0
 have HC0_0 := Aside0.mk hc0_0
 clear hr0_0 hc0_0
 have HR0_1 := Aside0.mk hr0_1
 have HC0_1 := Aside0.mk hc0_1
 clear hr0_1 hc0_1
 have HR0_2 := Aside0.mk hr0_2
 have HC0_2 := Aside0.mk hc0_2
 clear hr0_2 hc0_2
 have HB := Aside0.mk (Below.refl w.heap.size w)
 have H : ((graduslaw3_Heavy.f k l0_0 l0_1 l0_2).bind fun t1198 => (if t1198 = true then (some true) else (graduslaw3_TurnBack.l0 k 0 l0_0 l0_1 l0_2))) = some r := h
 clear h
 replace H := Option.bind_eq_some_iff.mp H
 obtain ⟨t1198, A20, H⟩ := H
 replace H : (if t1198 = true then (some true) else (graduslaw3_TurnBack.l0 k 0 l0_0 l0_1 l0_2)) = some r := H
 have A2 := Aside0.mk A20
 clear A20
 by_cases c3 : t1198 = true
 ·subst c3
  have H1 : (some true) = some r := by rw [if_pos rfl] at H; exact H
  clear H
  have H := H1
  clear H1
  obtain rfl := Option.some.inj H
  go_enter Try.func12, Try.ntmps12
  go_wp2_with (first | ((with_reducible refine gate_dst (N := 1) rfl ?_); (try (refine gate_guard (by rfl) ?_; dsimp only)); refine box_event ?hg (N := 1) ?hd (cs := #[.slice A0_0 l0_0.length c0_0, .slice A0_1 l0_1.length c0_1, .slice A0_2 l0_2.length c0_2]) (t := 67) ?hr ?_; (case hd => rfl); (case hg => rfl); (case hr => first | (go_simp; done) | (go_simp; rfl)); intro gb1197 hg w4 hbox hb; have n0_ := Aside0.mk (below_step (by repeat (first | (with_reducible first | exact HB.out | apply below_alloc | apply pw_below_drewN | apply below_drew1) | exact HB.out)) hb); have n1_ := Aside0.mk (hbox); have n2_ := Aside0.mk ((by rw [hg]; exact (below_size (by repeat (first | (with_reducible first | exact HB.out | apply below_alloc | apply pw_below_drewN | apply below_drew1) | exact HB.out))) : w.heap.size ≤ gb1197)); have n3_ := Aside0.mk ((by rw [hg]; exact (below_size (by repeat (first | (with_reducible first | exact HB.out | apply below_alloc | apply pw_below_drewN | apply below_drew1) | exact HB.out))) : w.heap.size ≤ gb1197)); clear HB; have HB := n0_; have BK1197 := n1_; have GW1197 := n2_; have GE1197 := n3_; clear n0_ n1_ n2_ n3_; clear hb hbox hg; have hcz5_0 : w4.cell? ⟨gb1197, 0, none⟩ = some (.slice A0_0 l0_0.length c0_0) := (blk_cell BK1197.out 0).trans rfl; have hcz5_1 : w4.cell? ⟨gb1197, 1, none⟩ = some (.slice A0_1 l0_1.length c0_1) := (blk_cell BK1197.out 1).trans rfl; have hcz5_2 : w4.cell? ⟨gb1197, 2, none⟩ = some (.slice A0_2 l0_2.length c0_2) := (blk_cell BK1197.out 2).trans rfl; have hfz5_0 := blk_frozen BK1197.out 0; have hfz5_1 := blk_frozen BK1197.out 1; have hfz5_2 := blk_frozen BK1197.out 2) | ((with_reducible refine gate_callee (f := 62) rfl ?_); refine goesL_ (some 12) rfl rfl Try.func62 (by kernel_rfl) rfl #[.agg #[.slice A0_0 l0_0.length c0_0, .slice A0_1 l0_1.length c0_1, .slice A0_2 l0_2.length c0_2]] rfl (by (try simp only [List.map_toArray, List.map_cons, List.map_nil]); first | done | rfl | (simp only [List.length_drop, List.length_take]; rfl)) ?_; (with_reducible refine (graduslaw3_Heavy.calls k _ _ l0_0 _ _ l0_1 _ _ l0_2 true _ ?side1 ?side2 ?side3 ?side4 ?side5 ?side6 A2.out).mono ?_); (case side1 => repeat (first | exact (Kd.C_below HR0_0.out HB.out) | (with_reducible refine Kd.C_alloc ?_ _) | (with_reducible refine Kd.C_drewN ?_ _) | (with_reducible refine Kd.C_drew ?_))); (case side2 => exact HC0_0.out); (case side3 => repeat (first | exact (Kd.C_below HR0_1.out HB.out) | (with_reducible refine Kd.C_alloc ?_ _) | (with_reducible refine Kd.C_drewN ?_ _) | (with_reducible refine Kd.C_drew ?_))); (case side4 => exact HC0_1.out); (case side5 => repeat (first | exact (Kd.C_below HR0_2.out HB.out) | (with_reducible refine Kd.C_alloc ?_ _) | (with_reducible refine Kd.C_drewN ?_ _) | (with_reducible refine Kd.C_drew ?_))); (case side6 => exact HC0_2.out); rintro e w6 ⟨rfl, hb⟩; refine ⟨_, rfl, ?_⟩; have n0_ := Aside0.mk (blk_below (g := gb1197) (o := .cells #[.slice A0_0 l0_0.length c0_0, .slice A0_1 l0_1.length c0_1, .slice A0_2 l0_2.length c0_2] 67 (0, 0)) (by (with_reducible repeat (first | refine blk_drewN ?_ _ | refine blk_drew ?_ | refine blk_alloc ?_ _)); exact BK1197.out) hb); have n1_ := Aside0.mk (below_step (by repeat (first | (with_reducible first | exact HB.out | apply below_alloc | apply pw_below_drewN | apply below_drew1 | refine below_set ?_ GE1197.out) | exact HB.out)) hb); clear BK1197; clear HB; have BK1197 := n0_; have HB := n1_; clear n0_ n1_; (try clear hb); (try clear hb2); (try clear hk); (try clear hi)))
  go_ret
  exact ⟨by first | rfl | (simp [errW_none, errW_some] <;> rfl) | (simp [*, errW_none, errW_some] <;> rfl), by repeat (first | (with_reducible first | exact HB.out | apply below_alloc | apply pw_below_drewN | apply below_drew1 | refine below_set ?_ GE1197.out) | exact HB.out)⟩
 ·replace c3 := Bool.eq_false_iff.mpr c3
  subst c3
  have H1 : (graduslaw3_TurnBack.l0 k 0 l0_0 l0_1 l0_2) = some r := by rw [if_neg (show ¬ (false = true) by decide)] at H; exact H
  clear H
  have H := H1
  clear H1
  have H' := Aside0.mk H
  clear H
  go_enter Try.func12, Try.ntmps12
  go_wp2_with (first | ((with_reducible refine gate_dst (N := 1) rfl ?_); (try (refine gate_guard (by rfl) ?_; dsimp only)); refine box_event ?hg (N := 1) ?hd (cs := #[.slice A0_0 l0_0.length c0_0, .slice A0_1 l0_1.length c0_1, .slice A0_2 l0_2.length c0_2]) (t := 67) ?hr ?_; (case hd => rfl); (case hg => rfl); (case hr => first | (go_simp; done) | (go_simp; rfl)); intro gb1197 hg w7 hbox hb; have n0_ := Aside0.mk (below_step (by repeat (first | (with_reducible first | exact HB.out | apply below_alloc | apply pw_below_drewN | apply below_drew1) | exact HB.out)) hb); have n1_ := Aside0.mk (hbox); have n2_ := Aside0.mk ((by rw [hg]; exact (below_size (by repeat (first | (with_reducible first | exact HB.out | apply below_alloc | apply pw_below_drewN | apply below_drew1) | exact HB.out))) : w.heap.size ≤ gb1197)); have n3_ := Aside0.mk ((by rw [hg]; exact (below_size (by repeat (first | (with_reducible first | exact HB.out | apply below_alloc | apply pw_below_drewN | apply below_drew1) | exact HB.out))) : w.heap.size ≤ gb1197)); clear HB; have HB := n0_; have BK1197 := n1_; have GW1197 := n2_; have GE1197 := n3_; clear n0_ n1_ n2_ n3_; clear hb hbox hg; have hcz8_0 : w7.cell? ⟨gb1197, 0, none⟩ = some (.slice A0_0 l0_0.length c0_0) := (blk_cell BK1197.out 0).trans rfl; have hcz8_1 : w7.cell? ⟨gb1197, 1, none⟩ = some (.slice A0_1 l0_1.length c0_1) := (blk_cell BK1197.out 1).trans rfl; have hcz8_2 : w7.cell? ⟨gb1197, 2, none⟩ = some (.slice A0_2 l0_2.length c0_2) := (blk_cell BK1197.out 2).trans rfl; have hfz8_0 := blk_frozen BK1197.out 0; have hfz8_1 := blk_frozen BK1197.out 1; have hfz8_2 := blk_frozen BK1197.out 2) | ((with_reducible refine gate_callee (f := 62) rfl ?_); refine goesL_ (some 12) rfl rfl Try.func62 (by kernel_rfl) rfl #[.agg #[.slice A0_0 l0_0.length c0_0, .slice A0_1 l0_1.length c0_1, .slice A0_2 l0_2.length c0_2]] rfl (by (try simp only [List.map_toArray, List.map_cons, List.map_nil]); first | done | rfl | (simp only [List.length_drop, List.length_take]; rfl)) ?_; (with_reducible refine (graduslaw3_Heavy.calls k _ _ l0_0 _ _ l0_1 _ _ l0_2 false _ ?side1 ?side2 ?side3 ?side4 ?side5 ?side6 A2.out).mono ?_); (case side1 => repeat (first | exact (Kd.C_below HR0_0.out HB.out) | (with_reducible refine Kd.C_alloc ?_ _) | (with_reducible refine Kd.C_drewN ?_ _) | (with_reducible refine Kd.C_drew ?_))); (case side2 => exact HC0_0.out); (case side3 => repeat (first | exact (Kd.C_below HR0_1.out HB.out) | (with_reducible refine Kd.C_alloc ?_ _) | (with_reducible refine Kd.C_drewN ?_ _) | (with_reducible refine Kd.C_drew ?_))); (case side4 => exact HC0_1.out); (case side5 => repeat (first | exact (Kd.C_below HR0_2.out HB.out) | (with_reducible refine Kd.C_alloc ?_ _) | (with_reducible refine Kd.C_drewN ?_ _) | (with_reducible refine Kd.C_drew ?_))); (case side6 => exact HC0_2.out); rintro e w9 ⟨rfl, hb⟩; refine ⟨_, rfl, ?_⟩; have n0_ := Aside0.mk (blk_below (g := gb1197) (o := .cells #[.slice A0_0 l0_0.length c0_0, .slice A0_1 l0_1.length c0_1, .slice A0_2 l0_2.length c0_2] 67 (0, 0)) (by (with_reducible repeat (first | refine blk_drewN ?_ _ | refine blk_drew ?_ | refine blk_alloc ?_ _)); exact BK1197.out) hb); have n1_ := Aside0.mk (below_step (by repeat (first | (with_reducible first | exact HB.out | apply below_alloc | apply pw_below_drewN | apply below_drew1 | refine below_set ?_ GE1197.out) | exact HB.out)) hb); clear BK1197; clear HB; have BK1197 := n0_; have HB := n1_; clear n0_ n1_; (try clear hb); (try clear hb2); (try clear hk); (try clear hi)))
  go_loopg [3] k (fun kq v3 w' => ∃ (x3_1 : Int), v3 = .int .i64 x3_1 ∧ Aside0 (graduslaw3_TurnBack.l0 kq x3_1 l0_0 l0_1 l0_2 = some r) ∧ Aside0 (kq ≤ k) ∧ Aside0 (w'.heap[gb1197]? = some (.cells #[(.slice A0_0 l0_0.length c0_0), (.slice A0_1 l0_1.length c0_1), (.slice A0_2 l0_2.length c0_2)] 67 (0, 0))) ∧ Aside0 (Below w.heap.size w w'))
  case atStart => exact ⟨(0), (by first | rfl | (simp; done) | (simp [*]; done)), H', ⟨Nat.le_refl _⟩, ⟨by (with_reducible repeat (first | refine blk_drewN ?_ _ | refine blk_drew ?_ | refine blk_alloc ?_ _)); exact BK1197.out⟩, ⟨by repeat (first | (with_reducible first | exact HB.out | apply below_alloc | apply pw_below_drewN | apply below_drew1 | refine below_set ?_ GE1197.out) | exact HB.out)⟩⟩
  case round =>
   clear H'
   try clear c1
   try clear p2
   try clear c3
   try clear c6
   try clear hcz5_0
   try clear hcz5_1
   try clear hcz5_2
   try clear hcz8_0
   try clear hcz8_1
   try clear hcz8_2
   try clear hfz5_0
   try clear hfz5_1
   try clear hfz5_2
   try clear hfz8_0
   try clear hfz8_1
   try clear hfz8_2
   obtain ⟨x3_1, rfl, HA, HK1, BK1197, HB⟩ := hrel
   cases gk with
   | zero => exact absurd HA.out (by simp [graduslaw3_TurnBack.l0])
   | succ k1 =>
    have H := HA.out
    clear HA
    simp only [graduslaw3_TurnBack.l0] at H
    have HC10 := Aside0.mk H
    clear H
    go_upto_region 4 with (fail)
    go_cut [22] (fun v22 wc => ∃ (kq : Nat) (x22_9 : Bool), v22 = .bool x22_9 ∧ Aside0 (graduslaw3_TurnBack.j1 kq x3_1 x22_9 l0_0 l0_1 l0_2 = some r) ∧ Aside0 (kq ≤ k1) ∧ Aside0 (wc.heap[gb1197]? = some (.cells #[(.slice A0_0 l0_0.length c0_0), (.slice A0_1 l0_1.length c0_1), (.slice A0_2 l0_2.length c0_2)] 67 (0, 0))) ∧ Aside0 (Below w.heap.size w wc))
    case first =>
     have H := HC10.out
     clear HC10
     by_cases c11 : x3_1 < (l0_0.length : Int)
     ·rw [if_pos c11] at H
      have c11b0 : decide (x3_1 < (l0_0.length : Int)) = true := decide_eq_true c11
      clear c11
      (first | rw [c11b0] | (simp only [i64_w, i32_w]; rw [c11b0]) | skip)
      have H' := Aside0.mk H
      clear H
      have hcz12_0 : wr.cell? ⟨gb1197, 0, none⟩ = some (.slice A0_0 l0_0.length c0_0) := (blk_cell BK1197.out 0).trans rfl
      have hcz12_1 : wr.cell? ⟨gb1197, 1, none⟩ = some (.slice A0_1 l0_1.length c0_1) := (blk_cell BK1197.out 1).trans rfl
      have hcz12_2 : wr.cell? ⟨gb1197, 2, none⟩ = some (.slice A0_2 l0_2.length c0_2) := (blk_cell BK1197.out 2).trans rfl
      have hfz12_0 := blk_frozen BK1197.out 0
      have hfz12_1 := blk_frozen BK1197.out 1
      have hfz12_2 := blk_frozen BK1197.out 2
      go_wp2
      go_meet
      case rel => exact ⟨_, (decide (x3_1 < 5)), (by first | rfl | (simp; done) | (simp [*]; done)), H', ⟨by have := HK1.out; first | omega | exact Nat.le_refl _⟩, ⟨by (with_reducible repeat (first | refine blk_drewN ?_ _ | refine blk_drew ?_ | refine blk_alloc ?_ _)); exact BK1197.out⟩, ⟨by repeat (first | (with_reducible first | exact HB.out | apply below_alloc | apply pw_below_drewN | apply below_drew1 | refine below_set ?_ GE1197.out) | exact HB.out)⟩⟩
     ·rw [if_neg c11] at H
      have c11b0 : decide (x3_1 < (l0_0.length : Int)) = false := decide_eq_false c11
      clear c11
      (first | rw [c11b0] | (simp only [i64_w, i32_w]; rw [c11b0]) | skip)
      have H' := Aside0.mk H
      clear H
      have hcz13_0 : wr.cell? ⟨gb1197, 0, none⟩ = some (.slice A0_0 l0_0.length c0_0) := (blk_cell BK1197.out 0).trans rfl
      have hcz13_1 : wr.cell? ⟨gb1197, 1, none⟩ = some (.slice A0_1 l0_1.length c0_1) := (blk_cell BK1197.out 1).trans rfl
      have hcz13_2 : wr.cell? ⟨gb1197, 2, none⟩ = some (.slice A0_2 l0_2.length c0_2) := (blk_cell BK1197.out 2).trans rfl
      have hfz13_0 := blk_frozen BK1197.out 0
      have hfz13_1 := blk_frozen BK1197.out 1
      have hfz13_2 := blk_frozen BK1197.out 2
      go_wp2
      go_meet
      case rel => exact ⟨_, (false), (by first | rfl | (simp; done) | (simp [*]; done)), H', ⟨by have := HK1.out; first | omega | exact Nat.le_refl _⟩, ⟨by (with_reducible repeat (first | refine blk_drewN ?_ _ | refine blk_drew ?_ | refine blk_alloc ?_ _)); exact BK1197.out⟩, ⟨by repeat (first | (with_reducible first | exact HB.out | apply below_alloc | apply pw_below_drewN | apply below_drew1 | refine below_set ?_ GE1197.out) | exact HB.out)⟩⟩
    case rest =>
     clear HC10
     try clear c1
     try clear p2
     try clear c3
     try clear c6
     try clear c11
     try clear c11b0
     try clear c12
     try clear hcz12_0
     try clear hcz12_1
     try clear hcz12_2
     try clear hcz13_0
     try clear hcz13_1
     try clear hcz13_2
     try clear hcz5_0
     try clear hcz5_1
     try clear hcz5_2
     try clear hcz8_0
     try clear hcz8_1
     try clear hcz8_2
     try clear hfz12_0
     try clear hfz12_1
     try clear hfz12_2
     try clear hfz13_0
     try clear hfz13_1
     try clear hfz13_2
     try clear hfz5_0
     try clear hfz5_1
     try clear hfz5_2
     try clear hfz8_0
     try clear hfz8_1
     try clear hfz8_2
     try clear p2
     obtain ⟨kq, x22_9, rfl, HA, HJ9, BK1197, HB⟩ := hcut
     cases kq with
     | zero => exact absurd HA.out (by simp [graduslaw3_TurnBack.j1])
     | succ kj9 =>
      have H := HA.out
      clear HA
      simp only [graduslaw3_TurnBack.j1] at H
      by_cases c14 : x22_9 = true
      ·subst c14
       have H1 : (if 0 ≤ x3_1 then (if x3_1 < (l0_0.length : Int) then ((graduslaw3_dims.f kj9 l0_0 l0_1 l0_2 ((rd_T34 l0_0 x3_1).f0) ((rd_T34 l0_0 x3_1).f1)).bind fun t1202 => (graduslaw3_TurnBack.l1 kj9 x3_1 t1202 0 l0_0 l0_1 l0_2 ((rd_T34 l0_0 x3_1).f0) ((rd_T34 l0_0 x3_1).f1))) else (none)) else (none)) = some r := by rw [if_pos rfl] at H; exact H
       clear H
       have H := H1
       clear H1
       by_cases c15 : 0 ≤ x3_1
       ·rw [if_pos c15] at H
        have c15b0 : decide (0 ≤ x3_1) = true := decide_eq_true c15
        clear c15
        by_cases c16 : x3_1 < (l0_0.length : Int)
        ·rw [if_pos c16] at H
         have c16b0 : decide (x3_1 < (l0_0.length : Int)) = true := decide_eq_true c16
         clear c16
         replace H := Option.bind_eq_some_iff.mp H
         obtain ⟨t1202, A170, H⟩ := H
         replace H : (graduslaw3_TurnBack.l1 kj9 x3_1 t1202 0 l0_0 l0_1 l0_2 ((rd_T34 l0_0 x3_1).f0) ((rd_T34 l0_0 x3_1).f1)) = some r := H
         have A17 := Aside0.mk A170
         clear A170
         have H' := Aside0.mk H
         clear H
         have hcz18_0 : wc.cell? ⟨gb1197, 0, none⟩ = some (.slice A0_0 l0_0.length c0_0) := (blk_cell BK1197.out 0).trans rfl
         have hcz18_1 : wc.cell? ⟨gb1197, 1, none⟩ = some (.slice A0_1 l0_1.length c0_1) := (blk_cell BK1197.out 1).trans rfl
         have hcz18_2 : wc.cell? ⟨gb1197, 2, none⟩ = some (.slice A0_2 l0_2.length c0_2) := (blk_cell BK1197.out 2).trans rfl
         have hfz18_0 := blk_frozen BK1197.out 0
         have hfz18_1 := blk_frozen BK1197.out 1
         have hfz18_2 := blk_frozen BK1197.out 2
         have p1200 : 0 ≤ (x3_1 : Int) := of_decide_eq_true (by first | (with_reducible assumption) | assumption)
         have q1200 : x3_1 < (l0_0.length : Int) := of_decide_eq_true (by first | (with_reducible assumption) | assumption)
         obtain ⟨ad1200, A1200_0, c1200_0, A1200_1, c1200_1, e1200, hx1200_0, hx1200_1, hl1200_0, hi1200_0, hl1200_1, hi1200_1⟩ := at_T34 HR0_0.out x3_1 p1200 q1200
         cases e1200
         replace hx1200_0 := (HB.out.cell (World.block_lt_of_cell? w _ hx1200_0)).trans hx1200_0
         replace hx1200_1 := (HB.out.cell (World.block_lt_of_cell? w _ hx1200_1)).trans hx1200_1
         have HR1200_0 := Aside0.mk hi1200_0
         have HC1200_0 := Aside0.mk hl1200_0
         clear hi1200_0 hl1200_0
         have HR1200_1 := Aside0.mk hi1200_1
         have HC1200_1 := Aside0.mk hl1200_1
         clear hi1200_1 hl1200_1
         replace p1200 := eq_true p1200
         replace q1200 := eq_true q1200
         go_wp2_with (first | ((with_reducible refine gate_dst (N := 4) rfl ?_); (try (refine gate_guard (by rfl) ?_; dsimp only)); refine box_event ?hg (N := 4) ?hd (cs := #[.slice none 0 0, .slice none 0 0]) (t := 34) ?hr ?_; (case hd => rfl); (case hg => rfl); (case hr => first | (go_simp; done) | (go_simp; rfl)); intro gb1201 hg w19 hbox hb; have n0_ := Aside0.mk (blk_below (g := gb1197) (o := .cells #[.slice (some ad1200) l0_0.length c0_0, .slice A0_1 l0_1.length c0_1, .slice A0_2 l0_2.length c0_2] 67 (0, 0)) (by (with_reducible repeat (first | refine blk_drewN ?_ _ | refine blk_drew ?_ | refine blk_alloc ?_ _)); exact BK1197.out) hb); have n1_ := Aside0.mk (below_step (by repeat (first | (with_reducible first | exact HB.out | apply below_alloc | apply pw_below_drewN | apply below_drew1 | refine below_set ?_ GE1197.out) | exact HB.out)) hb); have n2_ := Aside0.mk (hbox); have n3_ := Aside0.mk ((by rw [hg]; exact (below_size (by repeat (first | (with_reducible first | exact HB.out | apply below_alloc | apply pw_below_drewN | apply below_drew1 | refine below_set ?_ GE1197.out) | exact HB.out))) : w.heap.size ≤ gb1201)); have n4_ := Aside0.mk ((by rw [hg]; exact (below_size (by repeat (first | (with_reducible first | exact HB.out | apply below_alloc | apply pw_below_drewN | apply below_drew1 | refine below_set ?_ GE1197.out) | exact HB.out))) : w.heap.size ≤ gb1201)); have n5_ := Aside0.mk ((by rw [hg]; exact Nat.ne_of_lt (blk_lt (g := gb1197) (o := .cells #[.slice (some ad1200) l0_0.length c0_0, .slice A0_1 l0_1.length c0_1, .slice A0_2 l0_2.length c0_2] 67 (0, 0)) (by (with_reducible repeat (first | refine blk_drewN ?_ _ | refine blk_drew ?_ | refine blk_alloc ?_ _)); exact BK1197.out)) : gb1197 ≠ gb1201)); have n6_ := Aside0.mk ((by rw [hg]; exact Nat.ne_of_gt (blk_lt (g := gb1197) (o := .cells #[.slice (some ad1200) l0_0.length c0_0, .slice A0_1 l0_1.length c0_1, .slice A0_2 l0_2.length c0_2] 67 (0, 0)) (by (with_reducible repeat (first | refine blk_drewN ?_ _ | refine blk_drew ?_ | refine blk_alloc ?_ _)); exact BK1197.out)) : gb1201 ≠ gb1197)); clear BK1197; clear HB; have BK1197 := n0_; have HB := n1_; have BK1201 := n2_; have GW1201 := n3_; have GE1201 := n4_; have NB1197_1201 := n5_; have NB1201_1197 := n6_; clear n0_ n1_ n2_ n3_ n4_ n5_ n6_; clear hb hbox hg; have hnb20 := NB1201_1197.out; have hnc20 := NB1197_1201.out; have hcz21_0 : w19.cell? ⟨gb1201, 0, none⟩ = some (.slice none 0 0) := (blk_cell BK1201.out 0).trans rfl; have hcz21_1 : w19.cell? ⟨gb1201, 1, none⟩ = some (.slice none 0 0) := (blk_cell BK1201.out 1).trans rfl; have hfz21_0 := blk_frozen BK1201.out 0; have hfz21_1 := blk_frozen BK1201.out 1) | ((with_reducible refine gate_store (t := 34) (p := 4) rfl ?_); refine store_event (t := 34) (p := 4) (v := ?vo_w22) (w1 := ((w19.setCell ⟨gb1201, 0, none⟩ (.slice A1200_0 ((rd_T34 l0_0 x3_1).f0).length c1200_0)).setCell ⟨gb1201, 1, none⟩ (.slice A1200_1 ((rd_T34 l0_0 x3_1).f1).length c1200_1))) ?hg ?ho ?hn ?hr ?_; (case ho => rfl); (case hg => rfl); (case hn => rfl); (case hr => first | (go_simp; done) | (go_simp; rfl)); intro w22 hw; have n0_ : Aside0 (w22.heap[gb1197]? = some (.cells #[.slice (some ad1200) l0_0.length c0_0, .slice A0_1 l0_1.length c0_1, .slice A0_2 l0_2.length c0_2] 67 (0, 0))) := ⟨(by rw [hw]; exact (by (with_reducible repeat (first | refine blk_drewN ?_ _ | refine blk_drew ?_ | refine blk_alloc ?_ _)); refine blk_far ?_ NB1197_1201.out _; (with_reducible repeat (first | refine blk_drewN ?_ _ | refine blk_drew ?_ | refine blk_alloc ?_ _)); refine blk_far ?_ NB1197_1201.out _; (with_reducible repeat (first | refine blk_drewN ?_ _ | refine blk_drew ?_ | refine blk_alloc ?_ _)); exact BK1197.out))⟩; have n1_ : Aside0 (w22.heap[gb1201]? = some (.cells #[.slice A1200_0 ((rd_T34 l0_0 x3_1).f0).length c1200_0, .slice A1200_1 ((rd_T34 l0_0 x3_1).f1).length c1200_1] 34 (0, 0))) := ⟨(by rw [hw]; exact (by (with_reducible repeat (first | refine blk_drewN ?_ _ | refine blk_drew ?_ | refine blk_alloc ?_ _)); refine blk_put (cs := #[.slice A1200_0 ((rd_T34 l0_0 x3_1).f0).length c1200_0, .slice none 0 0]) ?_ 1 _ rfl; (with_reducible repeat (first | refine blk_drewN ?_ _ | refine blk_drew ?_ | refine blk_alloc ?_ _)); refine blk_put (cs := #[.slice none 0 0, .slice none 0 0]) ?_ 0 _ rfl; (with_reducible repeat (first | refine blk_drewN ?_ _ | refine blk_drew ?_ | refine blk_alloc ?_ _)); exact BK1201.out))⟩; have n2_ : Aside0 (Below w.heap.size w w22) := ⟨(by rw [hw]; exact (by repeat (first | (with_reducible first | exact HB.out | apply below_alloc | apply pw_below_drewN | apply below_drew1 | refine below_set ?_ GE1197.out | refine below_set ?_ GE1201.out) | exact HB.out)))⟩; clear hw; clear BK1197; clear BK1201; clear HB; have BK1197 := n0_; have BK1201 := n1_; have HB := n2_; clear n0_ n1_ n2_; have hcz23_0 : w22.cell? ⟨gb1197, 0, none⟩ = some (.slice (some ad1200) l0_0.length c0_0) := (blk_cell BK1197.out 0).trans rfl; have hcz23_1 : w22.cell? ⟨gb1197, 1, none⟩ = some (.slice A0_1 l0_1.length c0_1) := (blk_cell BK1197.out 1).trans rfl; have hcz23_2 : w22.cell? ⟨gb1197, 2, none⟩ = some (.slice A0_2 l0_2.length c0_2) := (blk_cell BK1197.out 2).trans rfl; have hfz23_0 := blk_frozen BK1197.out 0; have hfz23_1 := blk_frozen BK1197.out 1; have hfz23_2 := blk_frozen BK1197.out 2; have hcz24_0 : w22.cell? ⟨gb1201, 0, none⟩ = some (.slice A1200_0 ((rd_T34 l0_0 x3_1).f0).length c1200_0) := (blk_cell BK1201.out 0).trans rfl; have hcz24_1 : w22.cell? ⟨gb1201, 1, none⟩ = some (.slice A1200_1 ((rd_T34 l0_0 x3_1).f1).length c1200_1) := (blk_cell BK1201.out 1).trans rfl; have hfz24_0 := blk_frozen BK1201.out 0; have hfz24_1 := blk_frozen BK1201.out 1) | ((with_reducible refine gate_callee (f := 63) rfl ?_); refine goesL_ (some 33) rfl rfl Try.func63 (by kernel_rfl) rfl #[.agg #[.slice (some ad1200) l0_0.length c0_0, .slice A0_1 l0_1.length c0_1, .slice A0_2 l0_2.length c0_2], .agg #[.slice A1200_0 ((rd_T34 l0_0 x3_1).f0).length c1200_0, .slice A1200_1 ((rd_T34 l0_0 x3_1).f1).length c1200_1]] rfl (by (try simp only [List.map_toArray, List.map_cons, List.map_nil]); first | done | rfl | (simp only [List.length_drop, List.length_take]; rfl)) ?_; (with_reducible refine (graduslaw3_dims.calls kj9 _ _ l0_0 _ _ l0_1 (fun k_ => k_ < w.heap.size) _ _ l0_2 _ _ ((rd_T34 l0_0 x3_1).f0) _ _ ((rd_T34 l0_0 x3_1).f1) t1202 _ ?side1 ?side2 ?side3 ?side4 ?side5 ?side6 ?side7 ?side8 ?side9 A17.out).mono ?_); (case side1 => repeat (first | exact (Kd.C_below HR0_0.out HB.out) | (with_reducible refine Kd.C_alloc ?_ _) | (with_reducible refine Kd.C_drewN ?_ _) | (with_reducible refine Kd.C_drew ?_))); (case side2 => exact HC0_0.out); (case side3 => repeat (first | exact (Kd.C_below HR0_1.out HB.out) | (with_reducible refine Kd.C_alloc ?_ _) | (with_reducible refine Kd.C_drewN ?_ _) | (with_reducible refine Kd.C_drew ?_))); (case side4 => exact HC0_1.out); (case side5 => exact Kd.V_mk HC0_2.out (Kd.F_below (Kd.C_F (Kd.heap_slice 3 (Kd.heap_int .i64)) HR0_2.out) (by repeat (first | (with_reducible first | exact HB.out | apply below_alloc | apply pw_below_drewN | apply below_drew1 | refine below_set ?_ GE1197.out | refine below_set ?_ GE1201.out) | exact HB.out)))); (case side6 => repeat (first | exact (Kd.C_below HR1200_0.out HB.out) | (with_reducible refine Kd.C_alloc ?_ _) | (with_reducible refine Kd.C_drewN ?_ _) | (with_reducible refine Kd.C_drew ?_))); (case side7 => exact HC1200_0.out); (case side8 => repeat (first | exact (Kd.C_below HR1200_1.out HB.out) | (with_reducible refine Kd.C_alloc ?_ _) | (with_reducible refine Kd.C_drewN ?_ _) | (with_reducible refine Kd.C_drew ?_))); (case side9 => exact HC1200_1.out); rintro e w25 ⟨v1203, rfl, ho0, hb⟩; refine ⟨_, rfl, ?_⟩; have n0_ := Aside0.mk (Kd.N_lower (Kd.N_mono (ok' := fun k_ => k_ ≠ gb1197 ∧ k_ ≠ gb1201) ho0 (fun k_ hk_ => ⟨Or.elim hk_ (fun hs_ => fun e_ => Nat.not_le.2 hs_ (by rw [e_]; exact GW1197.out)) (fun hn_ => (Kd.freshB (g := gb1197) (o := .cells #[.slice (some ad1200) l0_0.length c0_0, .slice A0_1 l0_1.length c0_1, .slice A0_2 l0_2.length c0_2] 67 (0, 0)) (by (with_reducible repeat (first | refine blk_drewN ?_ _ | refine blk_drew ?_ | refine blk_alloc ?_ _)); exact BK1197.out) k_ hn_)), Or.elim hk_ (fun hs_ => fun e_ => Nat.not_le.2 hs_ (by rw [e_]; exact GW1201.out)) (fun hn_ => (Kd.freshB (g := gb1201) (o := .cells #[.slice A1200_0 ((rd_T34 l0_0 x3_1).f0).length c1200_0, .slice A1200_1 ((rd_T34 l0_0 x3_1).f1).length c1200_1] 34 (0, 0)) (by (with_reducible repeat (first | refine blk_drewN ?_ _ | refine blk_drew ?_ | refine blk_alloc ?_ _)); exact BK1201.out) k_ hn_))⟩)) (below_size (by repeat (first | (with_reducible first | exact HB.out | apply below_alloc | apply pw_below_drewN | apply below_drew1 | refine below_set ?_ GE1197.out | refine below_set ?_ GE1201.out) | exact HB.out)))); have n1_ := Aside0.mk (blk_below (g := gb1197) (o := .cells #[.slice (some ad1200) l0_0.length c0_0, .slice A0_1 l0_1.length c0_1, .slice A0_2 l0_2.length c0_2] 67 (0, 0)) (by (with_reducible repeat (first | refine blk_drewN ?_ _ | refine blk_drew ?_ | refine blk_alloc ?_ _)); exact BK1197.out) hb); have n2_ := Aside0.mk (blk_below (g := gb1201) (o := .cells #[.slice A1200_0 ((rd_T34 l0_0 x3_1).f0).length c1200_0, .slice A1200_1 ((rd_T34 l0_0 x3_1).f1).length c1200_1] 34 (0, 0)) (by (with_reducible repeat (first | refine blk_drewN ?_ _ | refine blk_drew ?_ | refine blk_alloc ?_ _)); exact BK1201.out) hb); have n3_ := Aside0.mk (below_step (by repeat (first | (with_reducible first | exact HB.out | apply below_alloc | apply pw_below_drewN | apply below_drew1 | refine below_set ?_ GE1197.out | refine below_set ?_ GE1201.out) | exact HB.out)) hb); clear BK1197; clear BK1201; clear HB; have HO1204 := n0_; have BK1197 := n1_; have BK1201 := n2_; have HB := n3_; clear n0_ n1_ n2_ n3_; (try clear hb); (try clear hb2); (try clear hk); (try clear hi); (try clear ho0)))
         go_loopg [6] kj9 (fun kq v6 w' => ∃ (x6_3 : Int), v6 = .int .i64 x6_3 ∧ Aside0 (graduslaw3_TurnBack.l1 kq x3_1 t1202 x6_3 l0_0 l0_1 l0_2 ((rd_T34 l0_0 x3_1).f0) ((rd_T34 l0_0 x3_1).f1) = some r) ∧ Aside0 (kq ≤ kj9) ∧ Aside0 (Kd.N (Kd.slice 3 (Kd.int .i64)) 23 w' w.heap.size (fun k_ => k_ ≠ gb1197 ∧ k_ ≠ gb1201) v1203 t1202) ∧ Aside0 (w'.heap[gb1197]? = some (.cells #[(.slice (some ad1200) l0_0.length c0_0), (.slice A0_1 l0_1.length c0_1), (.slice A0_2 l0_2.length c0_2)] 67 (0, 0))) ∧ Aside0 (w'.heap[gb1201]? = some (.cells #[(.slice A1200_0 ((rd_T34 l0_0 x3_1).f0).length c1200_0), (.slice A1200_1 ((rd_T34 l0_0 x3_1).f1).length c1200_1)] 34 (0, 0))) ∧ Aside0 (Below w.heap.size w w'))
         case atStart => exact ⟨(0), (by first | rfl | (simp; done) | (simp [*]; done)), H', ⟨Nat.le_refl _⟩, ⟨by (with_reducible repeat (first | apply Kd.N_alloc | apply Kd.N_drewN | apply Kd.N_drew)); exact HO1204.out⟩, ⟨by (with_reducible repeat (first | refine blk_drewN ?_ _ | refine blk_drew ?_ | refine blk_alloc ?_ _)); exact BK1197.out⟩, ⟨by (with_reducible repeat (first | refine blk_drewN ?_ _ | refine blk_drew ?_ | refine blk_alloc ?_ _)); exact BK1201.out⟩, ⟨by repeat (first | (with_reducible first | exact HB.out | apply below_alloc | apply pw_below_drewN | apply below_drew1 | refine below_set ?_ GE1197.out | refine below_set ?_ GE1201.out) | exact HB.out)⟩⟩
         case round =>
          clear H'
          try clear c1
          try clear p1
          try clear q1
          try clear hx1
          try clear c2
          try clear p2
          try clear c3
          try clear c6
          try clear c11
          try clear c11b0
          try clear c12
          try clear p12
          try clear q12
          try clear hx12
          try clear c14
          try clear c15
          try clear c15b0
          try clear c16
          try clear c16b0
          try clear c20
          try clear hcz12_0
          try clear hcz12_1
          try clear hcz12_2
          try clear hcz13_0
          try clear hcz13_1
          try clear hcz13_2
          try clear hcz18_0
          try clear hcz18_1
          try clear hcz18_2
          try clear hcz21_0
          try clear hcz21_1
          try clear hcz23_0
          try clear hcz23_1
          try clear hcz23_2
          try clear hcz24_0
          try clear hcz24_1
          try clear hcz5_0
          try clear hcz5_1
          try clear hcz5_2
          try clear hcz8_0
          try clear hcz8_1
          try clear hcz8_2
          try clear hfz12_0
          try clear hfz12_1
          try clear hfz12_2
          try clear hfz13_0
          try clear hfz13_1
          try clear hfz13_2
          try clear hfz18_0
          try clear hfz18_1
          try clear hfz18_2
          try clear hfz21_0
          try clear hfz21_1
          try clear hfz23_0
          try clear hfz23_1
          try clear hfz23_2
          try clear hfz24_0
          try clear hfz24_1
          try clear hfz5_0
          try clear hfz5_1
          try clear hfz5_2
          try clear hfz8_0
          try clear hfz8_1
          try clear hfz8_2
          try clear hx1200_0
          try clear hx1200_1
          try clear p1200
          try clear p2
          try clear q1200
          obtain ⟨x6_3, rfl, HA, HK3, HO_5, BK1197, BK1201, HB⟩ := hrel
          cases gk with
          | zero => exact absurd HA.out (by simp [graduslaw3_TurnBack.l1])
          | succ k3 =>
           have H := HA.out
           clear HA
           simp only [graduslaw3_TurnBack.l1] at H
           by_cases c26 : x6_3 < (t1202.length : Int)
           ·rw [if_pos c26] at H
            have c26b0 : decide (x6_3 < (t1202.length : Int)) = true := decide_eq_true c26
            clear c26
            by_cases c27 : 0 ≤ x6_3
            ·rw [if_pos c27] at H
             have c27b0 : decide (0 ≤ x6_3) = true := decide_eq_true c27
             clear c27
             replace H := Option.bind_eq_some_iff.mp H
             obtain ⟨⟨t1206, t1209, t1212⟩, A280, H⟩ := H
             replace H : ((graduslaw3_num.f t1212).bind fun t1214 => (if t1214 = 0 then ((turn_Sum.f k3 t1206 t1209 ((rd_T34 l0_0 x3_1).f0)).bind fun bt1215 => ((graduslaw3_num.f bt1215.2.2).bind fun t1223 => (if t1223 = 0 then (if (bt1215.2.1.length : Int) = (((rd_T34 l0_0 x3_1).f1).length : Int) then (if (((rd_T34 l0_0 x3_1).f1).length : Int) = 0 then (graduslaw3_TurnBack.j3 k3 x3_1 t1202 x6_3 true l0_0 l0_1 l0_2 ((rd_T34 l0_0 x3_1).f0) ((rd_T34 l0_0 x3_1).f1) t1206 t1209 bt1215.1 bt1215.2.1) else (graduslaw3_TurnBack.j3 k3 x3_1 t1202 x6_3 (((t1209.length : Int) % (((rd_T34 l0_0 x3_1).f1).length : Int)) != 0) l0_0 l0_1 l0_2 ((rd_T34 l0_0 x3_1).f0) ((rd_T34 l0_0 x3_1).f1) t1206 t1209 bt1215.1 bt1215.2.1)) else (graduslaw3_TurnBack.j3 k3 x3_1 t1202 x6_3 true l0_0 l0_1 l0_2 ((rd_T34 l0_0 x3_1).f0) ((rd_T34 l0_0 x3_1).f1) t1206 t1209 bt1215.1 bt1215.2.1)) else (graduslaw3_TurnBack.j3 k3 x3_1 t1202 x6_3 true l0_0 l0_1 l0_2 ((rd_T34 l0_0 x3_1).f0) ((rd_T34 l0_0 x3_1).f1) t1206 t1209 bt1215.1 bt1215.2.1)))) else (graduslaw3_TurnBack.l1 k3 x3_1 t1202 (wrap64 (x6_3 + 1)) l0_0 l0_1 l0_2 ((rd_T34 l0_0 x3_1).f0) ((rd_T34 l0_0 x3_1).f1)))) = some r := H
             have A28 := Aside0.mk A280
             clear A280
             replace H := Option.bind_eq_some_iff.mp H
             obtain ⟨t1214, A290, H⟩ := H
             replace H : (if t1214 = 0 then ((turn_Sum.f k3 t1206 t1209 ((rd_T34 l0_0 x3_1).f0)).bind fun bt1215 => ((graduslaw3_num.f bt1215.2.2).bind fun t1223 => (if t1223 = 0 then (if (bt1215.2.1.length : Int) = (((rd_T34 l0_0 x3_1).f1).length : Int) then (if (((rd_T34 l0_0 x3_1).f1).length : Int) = 0 then (graduslaw3_TurnBack.j3 k3 x3_1 t1202 x6_3 true l0_0 l0_1 l0_2 ((rd_T34 l0_0 x3_1).f0) ((rd_T34 l0_0 x3_1).f1) t1206 t1209 bt1215.1 bt1215.2.1) else (graduslaw3_TurnBack.j3 k3 x3_1 t1202 x6_3 (((t1209.length : Int) % (((rd_T34 l0_0 x3_1).f1).length : Int)) != 0) l0_0 l0_1 l0_2 ((rd_T34 l0_0 x3_1).f0) ((rd_T34 l0_0 x3_1).f1) t1206 t1209 bt1215.1 bt1215.2.1)) else (graduslaw3_TurnBack.j3 k3 x3_1 t1202 x6_3 true l0_0 l0_1 l0_2 ((rd_T34 l0_0 x3_1).f0) ((rd_T34 l0_0 x3_1).f1) t1206 t1209 bt1215.1 bt1215.2.1)) else (graduslaw3_TurnBack.j3 k3 x3_1 t1202 x6_3 true l0_0 l0_1 l0_2 ((rd_T34 l0_0 x3_1).f0) ((rd_T34 l0_0 x3_1).f1) t1206 t1209 bt1215.1 bt1215.2.1)))) else (graduslaw3_TurnBack.l1 k3 x3_1 t1202 (wrap64 (x6_3 + 1)) l0_0 l0_1 l0_2 ((rd_T34 l0_0 x3_1).f0) ((rd_T34 l0_0 x3_1).f1))) = some r := H
             have A29 := Aside0.mk A290
             clear A290
             by_cases c30 : t1214 = 0
             ·rw [if_pos c30] at H
              have c30b0 : (t1214 == 0) = true := beq_iff_eq.mpr c30
              have c30b1 : (t1214 != 0) = false := bne_eq_false_iff_eq.mpr c30
              clear c30
              replace H := Option.bind_eq_some_iff.mp H
              obtain ⟨⟨t1215, t1218, t1221⟩, A310, H⟩ := H
              replace H : ((graduslaw3_num.f t1221).bind fun t1223 => (if t1223 = 0 then (if (t1218.length : Int) = (((rd_T34 l0_0 x3_1).f1).length : Int) then (if (((rd_T34 l0_0 x3_1).f1).length : Int) = 0 then (graduslaw3_TurnBack.j3 k3 x3_1 t1202 x6_3 true l0_0 l0_1 l0_2 ((rd_T34 l0_0 x3_1).f0) ((rd_T34 l0_0 x3_1).f1) t1206 t1209 t1215 t1218) else (graduslaw3_TurnBack.j3 k3 x3_1 t1202 x6_3 (((t1209.length : Int) % (((rd_T34 l0_0 x3_1).f1).length : Int)) != 0) l0_0 l0_1 l0_2 ((rd_T34 l0_0 x3_1).f0) ((rd_T34 l0_0 x3_1).f1) t1206 t1209 t1215 t1218)) else (graduslaw3_TurnBack.j3 k3 x3_1 t1202 x6_3 true l0_0 l0_1 l0_2 ((rd_T34 l0_0 x3_1).f0) ((rd_T34 l0_0 x3_1).f1) t1206 t1209 t1215 t1218)) else (graduslaw3_TurnBack.j3 k3 x3_1 t1202 x6_3 true l0_0 l0_1 l0_2 ((rd_T34 l0_0 x3_1).f0) ((rd_T34 l0_0 x3_1).f1) t1206 t1209 t1215 t1218))) = some r := H
              have A31 := Aside0.mk A310
              clear A310
              have HC32 := Aside0.mk H
              clear H
              obtain ⟨Ao33, co33, eo33⟩ := Kd.N_slice HO_5.out
              subst eo33
              try go_wp2
              have n0_ := Aside0.mk (Kd.N_drew HO_5.out)
              have n1_ := Aside0.mk (blk_drew BK1197.out)
              have n2_ := Aside0.mk (blk_drew BK1201.out)
              have n3_ := Aside0.mk (below_drew1 HB.out)
              clear HO_5
              clear BK1197
              clear BK1201
              clear HB
              have HO_5 := n0_
              have BK1197 := n1_
              have BK1201 := n2_
              have HB := n3_
              clear n0_ n1_ n2_ n3_
              have p1205 : 0 ≤ (x6_3 : Int) := of_decide_eq_true (by first | (with_reducible assumption) | assumption)
              have q1205 : x6_3 < (t1202.length : Int) := of_decide_eq_true (by first | (with_reducible assumption) | assumption)
              obtain ⟨ad1205, A1205_0, c1205_0, e1205, hx1205_0, hl1205_0, hi1205_0⟩ := at_L1 (Kd.N_reads' HO_5.out).2.2 x6_3 p1205 q1205
              cases e1205
              obtain ⟨ce1205, hce1205, hMe1205, hcc1205⟩ := Kd.N_get HO_5.out [] x6_3 p1205 (by first | exact q1205 | exact of_decide_eq_true (by first | (with_reducible assumption) | assumption) | (have e_ := (Kd.N_reads' HO_5.out).1; omega))
              obtain ⟨ua1205_0, uc1205_0, rfl, ul1205_0, ge1205_0⟩ := Kd.FK_slice_open hMe1205
              have hv1205_0 := hcc1205 0 _ rfl
              rw [Nat.add_zero, show ((Kd.slice 3 (Kd.int .i64))).sz = 1 from rfl, Nat.mul_one] at hv1205_0
              replace hv1205_0 := Option.some.inj (hv1205_0.symm.trans hx1205_0)
              injection hv1205_0 with hva_ hvn_ hvc_
              rw [hva_] at ge1205_0
              rw [hvc_] at ul1205_0
              have HL1205_0 := Aside0.mk (show Kd.V (Kd.int .i64) 3 _ w.heap.size _ _ (rd_L1 t1202 x6_3) from Kd.V_mk ul1205_0 ge1205_0)
              clear hva_ hvn_ hvc_ ge1205_0 ul1205_0
              clear hcc1205 hce1205
              have HR1205_0 := Aside0.mk hi1205_0
              have HC1205_0 := Aside0.mk hl1205_0
              clear hi1205_0 hl1205_0
              replace p1205 := eq_true p1205
              replace q1205 := eq_true q1205
              refine start_ (n := 12) (S := fun w' => w'.cell? ⟨gb1201, 0, none⟩ = some (.slice A1200_0 ((rd_T34 l0_0 x3_1).f0).length c1200_0) ∧ w'.cell? ⟨gb1201, 1, none⟩ = some (.slice A1200_1 ((rd_T34 l0_0 x3_1).f1).length c1200_1) ∧ w'.cell? (ad1205.add (x6_3).toNat) = some (.slice A1205_0 (rd_L1 t1202 x6_3).length c1205_0)) (ds := []) #[false, false, false, false, false, false, false, false, false, false, false, false] (by kernel_rfl) rfl rfl ⟨(blk_cell BK1201.out 0).trans rfl, (blk_cell BK1201.out 1).trans rfl, hx1205_0⟩ (fun hHeld => ?_); refine with_tabW graduslaw3_TurnBack.tab11 graduslaw3_TurnBack.bits11 (fun HT_ HW_ => ?_)
              generalize wr.drew = w34 at HO_5 BK1197 BK1201 HB HL1205_0 HR1205_0 hx1205_0 hHeld ⊢
              refine pure_ (i := 1) (N := some 42) (v := ?_) (a' := ?_) #[false, true, false, false, false, false, false, false, false, false, false, false] rfl rfl (any_of HT_.out (by kernel_rfl)) (fun _ _ _ h => h) (Or.inl ⟨by rfl, ?_⟩) ?_ ?_
              rotate_left
              ·intro w'
               go_simp
               with_reducible rfl
              rotate_left
              ·simp only [Act.put, List.setIfInBounds_toArray, List.set_cons_zero, List.set_cons_succ, i64_w, i32_w]
               rfl
              refine pure_ (i := 2) (N := some 43) (v := ?_) (a' := ?_) #[false, true, true, false, false, false, false, false, false, false, false, false] rfl rfl (any_of HT_.out (by kernel_rfl)) (fun _ _ _ h => h) (Or.inl ⟨by rfl, ?_⟩) ?_ ?_
              rotate_left
              ·intro w'
               go_simp
               with_reducible rfl
              rotate_left
              ·simp only [Act.put, List.setIfInBounds_toArray, List.set_cons_zero, List.set_cons_succ, i64_w, i32_w]
               rfl
              refine pure_ (i := 3) (N := some 44) (v := ?_) (a' := ?_) #[false, true, true, true, false, false, false, false, false, false, false, false] rfl rfl (any_of HT_.out (by kernel_rfl)) (fun _ _ _ h => h) (Or.inl ⟨by rfl, ?_⟩) ?_ ?_
              rotate_left
              ·intro w'
               go_simp
               with_reducible rfl
              rotate_left
              ·simp only [Act.put, List.setIfInBounds_toArray, List.set_cons_zero, List.set_cons_succ, i64_w, i32_w]
               rfl
              refine take_ (i := 0) (N := some 41) (v := ?_) (a' := ?_) #[true, true, true, true, false, false, false, false, false, false, false, false] rfl rfl (take_ofW HT_.out HW_.out (by kernel_rfl)) (fun _ _ _ h => h) (Or.inl ⟨by rfl, ?_⟩) hHeld ?_ ?_
              rotate_left
              ·rintro w' ⟨s0, s1, s2⟩
               go_simp
               with_reducible rfl
              rotate_left
              ·simp only [Act.put, List.setIfInBounds_toArray, List.set_cons_zero, List.set_cons_succ, i64_w, i32_w]
               rfl
              refine take_ (i := 4) (N := some 45) (v := ?_) (a' := ?_) #[true, true, true, true, true, false, false, false, false, false, false, false] rfl rfl (take_ofW HT_.out HW_.out (by kernel_rfl)) (fun _ _ _ h => h) (Or.inl ⟨by rfl, ?_⟩) hHeld ?_ ?_
              rotate_left
              ·rintro w' ⟨s0, s1, s2⟩
               go_simp
               with_reducible rfl
              rotate_left
              ·simp only [Act.put, List.setIfInBounds_toArray, List.set_cons_zero, List.set_cons_succ, i64_w, i32_w]
               rfl
              refine join_ (σ := Value × Value × Nat) 2 #[true, true, true, true, true, true, true, true, true, true, false, false] (fun s_ => [(46, .tuple #[.agg #[s_.1, s_.2.1], .int .i64 t1212]), (7, .pointer (some ⟨s_.2.2, 0, none⟩)), (40, .tuple #[.agg #[s_.1, s_.2.1], .int .i64 t1212]), (47, .agg #[s_.1, s_.2.1]), (48, .int .i64 t1212)]) (fun s_ w' => (w'.cell? ⟨gb1201, 0, none⟩ = some (.slice A1200_0 ((rd_T34 l0_0 x3_1).f0).length c1200_0) ∧ w'.cell? ⟨gb1201, 1, none⟩ = some (.slice A1200_1 ((rd_T34 l0_0 x3_1).f1).length c1200_1) ∧ w'.cell? (ad1205.add (x6_3).toNat) = some (.slice A1205_0 (rd_L1 t1202 x6_3).length c1205_0)) ∧ (Kd.V (Kd.int .i64) 3 w' w.heap.size (fun k_ => some k_ ≠ (s_.1 : Value).ownBlock ∧ some k_ ≠ (s_.2.1 : Value).ownBlock ∧ some k_ ≠ (.slice (some ad1205) t1202.length co33 : Value).ownBlock ∧ k_ ≠ gb1197 ∧ k_ ≠ gb1201 ∧ k_ ≠ s_.2.2) (.slice A1205_0 (rd_L1 t1202 x6_3).length c1205_0) (rd_L1 t1202 x6_3)) ∧ (Kd.R (Kd.int .i64) 3 w' w.heap.size (fun k_ => some k_ ≠ (s_.2.1 : Value).ownBlock) s_.1 t1206) ∧ (Kd.R (Kd.int .i64) 3 w' w.heap.size (fun k_ => some k_ ≠ (s_.1 : Value).ownBlock) s_.2.1 t1209) ∧ (Kd.N (Kd.slice 3 (Kd.int .i64)) 23 w' w.heap.size (fun k_ => some k_ ≠ (s_.1 : Value).ownBlock ∧ some k_ ≠ (s_.2.1 : Value).ownBlock ∧ k_ ≠ gb1197 ∧ k_ ≠ gb1201 ∧ k_ ≠ s_.2.2) (.slice (some ad1205) t1202.length co33) t1202) ∧ (w'.heap[gb1197]? = some (.cells #[.slice (some ad1200) l0_0.length c0_0, .slice A0_1 l0_1.length c0_1, .slice A0_2 l0_2.length c0_2] 67 (0, 0))) ∧ (w'.heap[gb1201]? = some (.cells #[.slice A1200_0 ((rd_T34 l0_0 x3_1).f0).length c1200_0, .slice A1200_1 ((rd_T34 l0_0 x3_1).f1).length c1200_1] 34 (0, 0))) ∧ (w'.heap[s_.2.2]? = some (.cells #[.slice none 0 0, .slice none 0 0] 34 (0, 0))) ∧ (w.heap.size ≤ s_.2.2) ∧ (w.heap.size ≤ s_.2.2) ∧ (gb1197 ≠ s_.2.2) ∧ (s_.2.2 ≠ gb1197) ∧ (gb1201 ≠ s_.2.2) ∧ (s_.2.2 ≠ gb1201) ∧ (Below w.heap.size w w')) ?_ ?_
              rotate_left
              ·intro hCont
               refine two_ (i := 5) (j := 9) (Ni := some 46) (Nj := some 7) #[true, true, true, true, true, true, false, false, false, false, false, false] #[true, true, true, true, true, false, false, false, false, true, false, false] rfl rfl rfl rfl (two_of HT_.out (by kernel_rfl)) (by decide) (by decide) (fun K hK => ?_) (fun K hK => ?_)
               ·skip
                refine goes_ Try.func64 (by kernel_rfl) rfl #[.agg #[.slice A1200_0 ((rd_T34 l0_0 x3_1).f0).length c1200_0, .slice A1200_1 ((rd_T34 l0_0 x3_1).f1).length c1200_1], .slice A1205_0 (rd_L1 t1202 x6_3).length c1205_0] (by rfl) rfl rfl (by (try simp only [List.map_toArray, List.map_cons, List.map_nil]); first | done | rfl | (simp only [List.length_drop, List.length_take]; rfl)) ?_
                with_reducible refine (turn_Wide.calls k3 _ _ ((rd_T34 l0_0 x3_1).f0) _ _ ((rd_T34 l0_0 x3_1).f1) _ _ (rd_L1 t1202 x6_3) t1206 t1209 t1212 _ ?side1 ?side2 ?side3 ?side4 ?side5 ?side6 A28.out).mono ?_
                (case side1 => repeat (first | exact (Kd.C_below HR1200_0.out HB.out) | (with_reducible refine Kd.C_alloc ?_ _) | (with_reducible refine Kd.C_drewN ?_ _) | (with_reducible refine Kd.C_drew ?_)))
                (case side2 => exact HC1200_0.out)
                (case side3 => repeat (first | exact (Kd.C_below HR1200_1.out HB.out) | (with_reducible refine Kd.C_alloc ?_ _) | (with_reducible refine Kd.C_drewN ?_ _) | (with_reducible refine Kd.C_drew ?_)))
                (case side4 => exact HC1200_1.out)
                (case side5 => repeat (first | exact (by repeat (first | (with_reducible exact HR1205_0.out) | (with_reducible refine Kd.C_alloc ?_ _) | (with_reducible refine Kd.C_drewN ?_ _) | (with_reducible refine Kd.C_drew ?_) | exact HR1205_0.out)) | (with_reducible refine Kd.C_alloc ?_ _) | (with_reducible refine Kd.C_drewN ?_ _) | (with_reducible refine Kd.C_drew ?_)))
                (case side6 => exact HC1205_0.out)
                rintro e w35 ⟨v1207, v1210, rfl, ho0, ho1, hb⟩
                have HS2_ := (hb.cell (World.block_lt_of_cell? _ _ (hHeld.2.2))).trans (hHeld.2.2)
                refine ⟨_, rfl, ?_⟩
                have n0_ := Aside0.mk (Kd.N_mono (Kd.N_told (Kd.N_told (Kd.N_old (by (with_reducible repeat (first | apply Kd.N_alloc | apply Kd.N_drewN | apply Kd.N_drew)); exact HO_5.out) hb) (Kd.R_base ho0)) (Kd.R_base ho1)) (fun _ h_ => h_.1))
                have n1_ := Aside0.mk (Kd.V_mono (Kd.V_told (Kd.V_told (Kd.V_old (by (with_reducible repeat (first | apply Kd.V_alloc | apply Kd.V_drewN | apply Kd.V_drew)); exact HL1205_0.out) hb) (Kd.R_base ho0)) (Kd.R_base ho1)) (fun _ h_ => h_.1))
                have n2_ := Aside0.mk (Kd.R_lower ho0 (below_size (by repeat (first | (with_reducible first | exact HB.out | apply below_alloc | apply pw_below_drewN | apply below_drew1 | refine below_set ?_ GE1197.out | refine below_set ?_ GE1201.out) | exact HB.out))))
                have n3_ := Aside0.mk (Kd.R_lower ho1 (below_size (by repeat (first | (with_reducible first | exact HB.out | apply below_alloc | apply pw_below_drewN | apply below_drew1 | refine below_set ?_ GE1197.out | refine below_set ?_ GE1201.out) | exact HB.out))))
                have n4_ := Aside0.mk (blk_below (g := gb1197) (o := .cells #[.slice (some ad1200) l0_0.length c0_0, .slice A0_1 l0_1.length c0_1, .slice A0_2 l0_2.length c0_2] 67 (0, 0)) (by (with_reducible repeat (first | refine blk_drewN ?_ _ | refine blk_drew ?_ | refine blk_alloc ?_ _)); exact BK1197.out) hb)
                have n5_ := Aside0.mk (blk_below (g := gb1201) (o := .cells #[.slice A1200_0 ((rd_T34 l0_0 x3_1).f0).length c1200_0, .slice A1200_1 ((rd_T34 l0_0 x3_1).f1).length c1200_1] 34 (0, 0)) (by (with_reducible repeat (first | refine blk_drewN ?_ _ | refine blk_drew ?_ | refine blk_alloc ?_ _)); exact BK1201.out) hb)
                have n6_ := Aside0.mk (Kd.C_below (by repeat (first | (with_reducible exact HR1205_0.out) | (with_reducible refine Kd.C_alloc ?_ _) | (with_reducible refine Kd.C_drewN ?_ _) | (with_reducible refine Kd.C_drew ?_) | exact HR1205_0.out)) hb)
                have n7_ := Aside0.mk (below_step (by repeat (first | (with_reducible first | exact HB.out | apply below_alloc | apply pw_below_drewN | apply below_drew1 | refine below_set ?_ GE1197.out | refine below_set ?_ GE1201.out) | exact HB.out)) hb)
                clear HO_5
                clear HL1205_0
                clear BK1197
                clear BK1201
                clear HR1205_0
                clear HB
                have HO_5 := n0_
                have HL1205_0 := n1_
                have HO1208 := n2_
                have HO1211 := n3_
                have BK1197 := n4_
                have BK1201 := n5_
                have HR1205_0 := n6_
                have HB := n7_
                clear n0_ n1_ n2_ n3_ n4_ n5_ n6_ n7_
                (try clear hb)
                (try clear hb2)
                (try clear hk)
                (try clear hi)
                (try clear ho0)
                (try clear ho1)
                refine hK.out _ _ ⟨(blk_cell BK1201.out 0).trans rfl, (blk_cell BK1201.out 1).trans rfl, HS2_⟩ (fun hHeld => ?_)
                clear hK K
                refine norm_ (a' := ?_) ?_ ?_
                rotate_left
                ·show Act.put _ (some 46) _ = _
                 simp only [Act.put, List.setIfInBounds_toArray, List.set_cons_zero, List.set_cons_succ, i64_w, i32_w]
                 rfl
                refine pure_ (i := 6) (N := some 40) (v := ?_) (a' := ?_) #[true, true, true, true, true, true, true, false, false, false, false, false] rfl rfl (any_of HT_.out (by kernel_rfl)) (fun _ _ _ h => h) (Or.inl ⟨by rfl, ?_⟩) ?_ ?_
                rotate_left
                ·intro w'
                 go_simp
                 with_reducible rfl
                rotate_left
                ·simp only [Act.put, List.setIfInBounds_toArray, List.set_cons_zero, List.set_cons_succ, i64_w, i32_w]
                 rfl
                refine pure_ (i := 7) (N := some 47) (v := ?_) (a' := ?_) #[true, true, true, true, true, true, true, true, false, false, false, false] rfl rfl (any_of HT_.out (by kernel_rfl)) (fun _ _ _ h => h) (Or.inl ⟨by rfl, ?_⟩) ?_ ?_
                rotate_left
                ·intro w'
                 go_simp
                 with_reducible rfl
                rotate_left
                ·simp only [Act.put, List.setIfInBounds_toArray, List.set_cons_zero, List.set_cons_succ, i64_w, i32_w]
                 rfl
                refine pure_ (i := 8) (N := some 48) (v := ?_) (a' := ?_) #[true, true, true, true, true, true, true, true, true, false, false, false] rfl rfl (any_of HT_.out (by kernel_rfl)) (fun _ _ _ h => h) (Or.inl ⟨by rfl, ?_⟩) ?_ ?_
                rotate_left
                ·intro w'
                 go_simp
                 with_reducible rfl
                rotate_left
                ·simp only [Act.put, List.setIfInBounds_toArray, List.set_cons_zero, List.set_cons_succ, i64_w, i32_w]
                 rfl
                refine one_ (i := 9) (N := some 7) #[true, true, true, true, true, true, true, true, true, true, false, false] rfl rfl (one_of HT_.out (by kernel_rfl)) (by decide) (fun K hK => ?_)
                refine box_step ?hg (N := 7) ?hd (cs := #[.slice none 0 0, .slice none 0 0]) (t := 34) ?hr ?_; (case hd => rfl); (case hg => rfl); (case hr => first | (go_simp; done) | (go_simp; rfl))
                intro gb1213 hg w36 hbox hb
                have HS2_ := (hb.cell (World.block_lt_of_cell? _ _ (hHeld.2.2))).trans (hHeld.2.2)
                have n0_ := Aside0.mk (Kd.N_below (Kd.N_elderB (by (with_reducible repeat (first | apply Kd.N_alloc | apply Kd.N_drewN | apply Kd.N_drew)); exact HO_5.out) gb1213 (Nat.le_of_eq hg.symm)) hb)
                have n1_ := Aside0.mk (Kd.V_below (Kd.V_elderB (by (with_reducible repeat (first | apply Kd.V_alloc | apply Kd.V_drewN | apply Kd.V_drew)); exact HL1205_0.out) gb1213 (Nat.le_of_eq hg.symm)) hb)
                have n2_ := Aside0.mk (Kd.R_below (by (with_reducible repeat (first | apply Kd.R_alloc | apply Kd.R_drewN | apply Kd.R_drew)); exact HO1208.out) hb)
                have n3_ := Aside0.mk (Kd.R_below (by (with_reducible repeat (first | apply Kd.R_alloc | apply Kd.R_drewN | apply Kd.R_drew)); exact HO1211.out) hb)
                have n4_ := Aside0.mk (blk_below (g := gb1197) (o := .cells #[.slice (some ad1200) l0_0.length c0_0, .slice A0_1 l0_1.length c0_1, .slice A0_2 l0_2.length c0_2] 67 (0, 0)) (by (with_reducible repeat (first | refine blk_drewN ?_ _ | refine blk_drew ?_ | refine blk_alloc ?_ _)); exact BK1197.out) hb)
                have n5_ := Aside0.mk (blk_below (g := gb1201) (o := .cells #[.slice A1200_0 ((rd_T34 l0_0 x3_1).f0).length c1200_0, .slice A1200_1 ((rd_T34 l0_0 x3_1).f1).length c1200_1] 34 (0, 0)) (by (with_reducible repeat (first | refine blk_drewN ?_ _ | refine blk_drew ?_ | refine blk_alloc ?_ _)); exact BK1201.out) hb)
                have n6_ := Aside0.mk (Kd.C_below (by repeat (first | (with_reducible exact HR1205_0.out) | (with_reducible refine Kd.C_alloc ?_ _) | (with_reducible refine Kd.C_drewN ?_ _) | (with_reducible refine Kd.C_drew ?_) | exact HR1205_0.out)) hb)
                have n7_ := Aside0.mk (below_step (by repeat (first | (with_reducible first | exact HB.out | apply below_alloc | apply pw_below_drewN | apply below_drew1 | refine below_set ?_ GE1197.out | refine below_set ?_ GE1201.out) | exact HB.out)) hb)
                have n8_ := Aside0.mk (hbox)
                have n9_ := Aside0.mk ((by rw [hg]; exact (below_size (by repeat (first | (with_reducible first | exact HB.out | apply below_alloc | apply pw_below_drewN | apply below_drew1 | refine below_set ?_ GE1197.out | refine below_set ?_ GE1201.out) | exact HB.out))) : w.heap.size ≤ gb1213))
                have n10_ := Aside0.mk ((by rw [hg]; exact (below_size (by repeat (first | (with_reducible first | exact HB.out | apply below_alloc | apply pw_below_drewN | apply below_drew1 | refine below_set ?_ GE1197.out | refine below_set ?_ GE1201.out) | exact HB.out))) : w.heap.size ≤ gb1213))
                have n11_ := Aside0.mk ((by rw [hg]; exact Nat.ne_of_lt (blk_lt (g := gb1197) (o := .cells #[.slice (some ad1200) l0_0.length c0_0, .slice A0_1 l0_1.length c0_1, .slice A0_2 l0_2.length c0_2] 67 (0, 0)) (by (with_reducible repeat (first | refine blk_drewN ?_ _ | refine blk_drew ?_ | refine blk_alloc ?_ _)); exact BK1197.out)) : gb1197 ≠ gb1213))
                have n12_ := Aside0.mk ((by rw [hg]; exact Nat.ne_of_gt (blk_lt (g := gb1197) (o := .cells #[.slice (some ad1200) l0_0.length c0_0, .slice A0_1 l0_1.length c0_1, .slice A0_2 l0_2.length c0_2] 67 (0, 0)) (by (with_reducible repeat (first | refine blk_drewN ?_ _ | refine blk_drew ?_ | refine blk_alloc ?_ _)); exact BK1197.out)) : gb1213 ≠ gb1197))
                have n13_ := Aside0.mk ((by rw [hg]; exact Nat.ne_of_lt (blk_lt (g := gb1201) (o := .cells #[.slice A1200_0 ((rd_T34 l0_0 x3_1).f0).length c1200_0, .slice A1200_1 ((rd_T34 l0_0 x3_1).f1).length c1200_1] 34 (0, 0)) (by (with_reducible repeat (first | refine blk_drewN ?_ _ | refine blk_drew ?_ | refine blk_alloc ?_ _)); exact BK1201.out)) : gb1201 ≠ gb1213))
                have n14_ := Aside0.mk ((by rw [hg]; exact Nat.ne_of_gt (blk_lt (g := gb1201) (o := .cells #[.slice A1200_0 ((rd_T34 l0_0 x3_1).f0).length c1200_0, .slice A1200_1 ((rd_T34 l0_0 x3_1).f1).length c1200_1] 34 (0, 0)) (by (with_reducible repeat (first | refine blk_drewN ?_ _ | refine blk_drew ?_ | refine blk_alloc ?_ _)); exact BK1201.out)) : gb1213 ≠ gb1201))
                clear HO_5
                clear HL1205_0
                clear HO1208
                clear HO1211
                clear BK1197
                clear BK1201
                clear HR1205_0
                clear HB
                have HO_5 := n0_
                have HL1205_0 := n1_
                have HO1208 := n2_
                have HO1211 := n3_
                have BK1197 := n4_
                have BK1201 := n5_
                have HR1205_0 := n6_
                have HB := n7_
                have BK1213 := n8_
                have GW1213 := n9_
                have GE1213 := n10_
                have NB1197_1213 := n11_
                have NB1213_1197 := n12_
                have NB1201_1213 := n13_
                have NB1213_1201 := n14_
                clear n0_ n1_ n2_ n3_ n4_ n5_ n6_ n7_ n8_ n9_ n10_ n11_ n12_ n13_ n14_
                clear hb hbox hg
                refine hK.out _ _ ⟨(blk_cell BK1201.out 0).trans rfl, (blk_cell BK1201.out 1).trans rfl, HS2_⟩ (fun hHeld => ?_)
                clear hK K
                refine norm_ (a' := ?_) ?_ ?_
                rotate_left
                ·show Act.put _ (some 7) _ = _
                 simp only [Act.put, List.setIfInBounds_toArray, List.set_cons_zero, List.set_cons_succ, i64_w, i32_w]
                 rfl
                exact norm_ (by simp only [putAll, Act.put, List.setIfInBounds_toArray, List.set_cons_zero, List.set_cons_succ]) (hCont (v1207, v1210, gb1213) _ ⟨hHeld, (by (with_reducible repeat (first | apply Kd.V_alloc | apply Kd.V_drewN | apply Kd.V_drew)); exact Kd.V_mono HL1205_0.out (fun _ hk => ⟨hk.1.1.2, ⟨hk.1.2, ⟨hk.1.1.1.2, ⟨hk.1.1.1.1.1, ⟨hk.1.1.1.1.2, hk.2⟩⟩⟩⟩⟩)), (by (with_reducible repeat (first | apply Kd.R_alloc | apply Kd.R_drewN | apply Kd.R_drew)); exact HO1208.out), (by (with_reducible repeat (first | apply Kd.R_alloc | apply Kd.R_drewN | apply Kd.R_drew)); exact HO1211.out), (by (with_reducible repeat (first | apply Kd.N_alloc | apply Kd.N_drewN | apply Kd.N_drew)); exact Kd.N_mono HO_5.out (fun _ hk => ⟨hk.1.1.2, ⟨hk.1.2, ⟨hk.1.1.1.1, ⟨hk.1.1.1.2, hk.2⟩⟩⟩⟩)), (by (with_reducible repeat (first | refine blk_drewN ?_ _ | refine blk_drew ?_ | refine blk_alloc ?_ _)); exact BK1197.out), (by (with_reducible repeat (first | refine blk_drewN ?_ _ | refine blk_drew ?_ | refine blk_alloc ?_ _)); exact BK1201.out), (by (with_reducible repeat (first | refine blk_drewN ?_ _ | refine blk_drew ?_ | refine blk_alloc ?_ _)); exact BK1213.out), GW1213.out, GE1213.out, NB1197_1213.out, NB1213_1197.out, NB1201_1213.out, NB1213_1201.out, (by repeat (first | (with_reducible first | exact HB.out | apply below_alloc | apply pw_below_drewN | apply below_drew1 | refine below_set ?_ GE1197.out | refine below_set ?_ GE1201.out | refine below_set ?_ GE1213.out) | exact HB.out))⟩)
               ·skip
                refine box_step ?hg (N := 7) ?hd (cs := #[.slice none 0 0, .slice none 0 0]) (t := 34) ?hr ?_; (case hd => rfl); (case hg => rfl); (case hr => first | (go_simp; done) | (go_simp; rfl))
                intro gb1213 hg w35 hbox hb
                have HS2_ := (hb.cell (World.block_lt_of_cell? _ _ (hHeld.2.2))).trans (hHeld.2.2)
                have n0_ := Aside0.mk (Kd.N_below (Kd.N_elderB (by (with_reducible repeat (first | apply Kd.N_alloc | apply Kd.N_drewN | apply Kd.N_drew)); exact HO_5.out) gb1213 (Nat.le_of_eq hg.symm)) hb)
                have n1_ := Aside0.mk (Kd.V_below (Kd.V_elderB (by (with_reducible repeat (first | apply Kd.V_alloc | apply Kd.V_drewN | apply Kd.V_drew)); exact HL1205_0.out) gb1213 (Nat.le_of_eq hg.symm)) hb)
                have n2_ := Aside0.mk (blk_below (g := gb1197) (o := .cells #[.slice (some ad1200) l0_0.length c0_0, .slice A0_1 l0_1.length c0_1, .slice A0_2 l0_2.length c0_2] 67 (0, 0)) (by (with_reducible repeat (first | refine blk_drewN ?_ _ | refine blk_drew ?_ | refine blk_alloc ?_ _)); exact BK1197.out) hb)
                have n3_ := Aside0.mk (blk_below (g := gb1201) (o := .cells #[.slice A1200_0 ((rd_T34 l0_0 x3_1).f0).length c1200_0, .slice A1200_1 ((rd_T34 l0_0 x3_1).f1).length c1200_1] 34 (0, 0)) (by (with_reducible repeat (first | refine blk_drewN ?_ _ | refine blk_drew ?_ | refine blk_alloc ?_ _)); exact BK1201.out) hb)
                have n4_ := Aside0.mk (Kd.C_below (by repeat (first | (with_reducible exact HR1205_0.out) | (with_reducible refine Kd.C_alloc ?_ _) | (with_reducible refine Kd.C_drewN ?_ _) | (with_reducible refine Kd.C_drew ?_) | exact HR1205_0.out)) hb)
                have n5_ := Aside0.mk (below_step (by repeat (first | (with_reducible first | exact HB.out | apply below_alloc | apply pw_below_drewN | apply below_drew1 | refine below_set ?_ GE1197.out | refine below_set ?_ GE1201.out) | exact HB.out)) hb)
                have n6_ := Aside0.mk (hbox)
                have n7_ := Aside0.mk ((by rw [hg]; exact (below_size (by repeat (first | (with_reducible first | exact HB.out | apply below_alloc | apply pw_below_drewN | apply below_drew1 | refine below_set ?_ GE1197.out | refine below_set ?_ GE1201.out) | exact HB.out))) : w.heap.size ≤ gb1213))
                have n8_ := Aside0.mk ((by rw [hg]; exact (below_size (by repeat (first | (with_reducible first | exact HB.out | apply below_alloc | apply pw_below_drewN | apply below_drew1 | refine below_set ?_ GE1197.out | refine below_set ?_ GE1201.out) | exact HB.out))) : w.heap.size ≤ gb1213))
                have n9_ := Aside0.mk ((by rw [hg]; exact Nat.ne_of_lt (blk_lt (g := gb1197) (o := .cells #[.slice (some ad1200) l0_0.length c0_0, .slice A0_1 l0_1.length c0_1, .slice A0_2 l0_2.length c0_2] 67 (0, 0)) (by (with_reducible repeat (first | refine blk_drewN ?_ _ | refine blk_drew ?_ | refine blk_alloc ?_ _)); exact BK1197.out)) : gb1197 ≠ gb1213))
                have n10_ := Aside0.mk ((by rw [hg]; exact Nat.ne_of_gt (blk_lt (g := gb1197) (o := .cells #[.slice (some ad1200) l0_0.length c0_0, .slice A0_1 l0_1.length c0_1, .slice A0_2 l0_2.length c0_2] 67 (0, 0)) (by (with_reducible repeat (first | refine blk_drewN ?_ _ | refine blk_drew ?_ | refine blk_alloc ?_ _)); exact BK1197.out)) : gb1213 ≠ gb1197))
                have n11_ := Aside0.mk ((by rw [hg]; exact Nat.ne_of_lt (blk_lt (g := gb1201) (o := .cells #[.slice A1200_0 ((rd_T34 l0_0 x3_1).f0).length c1200_0, .slice A1200_1 ((rd_T34 l0_0 x3_1).f1).length c1200_1] 34 (0, 0)) (by (with_reducible repeat (first | refine blk_drewN ?_ _ | refine blk_drew ?_ | refine blk_alloc ?_ _)); exact BK1201.out)) : gb1201 ≠ gb1213))
                have n12_ := Aside0.mk ((by rw [hg]; exact Nat.ne_of_gt (blk_lt (g := gb1201) (o := .cells #[.slice A1200_0 ((rd_T34 l0_0 x3_1).f0).length c1200_0, .slice A1200_1 ((rd_T34 l0_0 x3_1).f1).length c1200_1] 34 (0, 0)) (by (with_reducible repeat (first | refine blk_drewN ?_ _ | refine blk_drew ?_ | refine blk_alloc ?_ _)); exact BK1201.out)) : gb1213 ≠ gb1201))
                clear HO_5
                clear HL1205_0
                clear BK1197
                clear BK1201
                clear HR1205_0
                clear HB
                have HO_5 := n0_
                have HL1205_0 := n1_
                have BK1197 := n2_
                have BK1201 := n3_
                have HR1205_0 := n4_
                have HB := n5_
                have BK1213 := n6_
                have GW1213 := n7_
                have GE1213 := n8_
                have NB1197_1213 := n9_
                have NB1213_1197 := n10_
                have NB1201_1213 := n11_
                have NB1213_1201 := n12_
                clear n0_ n1_ n2_ n3_ n4_ n5_ n6_ n7_ n8_ n9_ n10_ n11_ n12_
                clear hb hbox hg
                refine hK.out _ _ ⟨(blk_cell BK1201.out 0).trans rfl, (blk_cell BK1201.out 1).trans rfl, HS2_⟩ (fun hHeld => ?_)
                clear hK K
                refine norm_ (a' := ?_) ?_ ?_
                rotate_left
                ·show Act.put _ (some 7) _ = _
                 simp only [Act.put, List.setIfInBounds_toArray, List.set_cons_zero, List.set_cons_succ, i64_w, i32_w]
                 rfl
                refine one_ (i := 5) (N := some 46) #[true, true, true, true, true, true, false, false, false, true, false, false] rfl rfl (one_of HT_.out (by kernel_rfl)) (by decide) (fun K hK => ?_)
                refine goes_ Try.func64 (by kernel_rfl) rfl #[.agg #[.slice A1200_0 ((rd_T34 l0_0 x3_1).f0).length c1200_0, .slice A1200_1 ((rd_T34 l0_0 x3_1).f1).length c1200_1], .slice A1205_0 (rd_L1 t1202 x6_3).length c1205_0] (by rfl) rfl rfl (by (try simp only [List.map_toArray, List.map_cons, List.map_nil]); first | done | rfl | (simp only [List.length_drop, List.length_take]; rfl)) ?_
                with_reducible refine (turn_Wide.calls k3 _ _ ((rd_T34 l0_0 x3_1).f0) _ _ ((rd_T34 l0_0 x3_1).f1) _ _ (rd_L1 t1202 x6_3) t1206 t1209 t1212 _ ?side1 ?side2 ?side3 ?side4 ?side5 ?side6 A28.out).mono ?_
                (case side1 => repeat (first | exact (Kd.C_below HR1200_0.out HB.out) | (with_reducible refine Kd.C_alloc ?_ _) | (with_reducible refine Kd.C_drewN ?_ _) | (with_reducible refine Kd.C_drew ?_)))
                (case side2 => exact HC1200_0.out)
                (case side3 => repeat (first | exact (Kd.C_below HR1200_1.out HB.out) | (with_reducible refine Kd.C_alloc ?_ _) | (with_reducible refine Kd.C_drewN ?_ _) | (with_reducible refine Kd.C_drew ?_)))
                (case side4 => exact HC1200_1.out)
                (case side5 => repeat (first | exact (by repeat (first | (with_reducible exact HR1205_0.out) | (with_reducible refine Kd.C_alloc ?_ _) | (with_reducible refine Kd.C_drewN ?_ _) | (with_reducible refine Kd.C_drew ?_) | exact HR1205_0.out)) | (with_reducible refine Kd.C_alloc ?_ _) | (with_reducible refine Kd.C_drewN ?_ _) | (with_reducible refine Kd.C_drew ?_)))
                (case side6 => exact HC1205_0.out)
                rintro e w36 ⟨v1207, v1210, rfl, ho0, ho1, hb⟩
                have HS2_ := (hb.cell (World.block_lt_of_cell? _ _ (hHeld.2.2))).trans (hHeld.2.2)
                refine ⟨_, rfl, ?_⟩
                have n0_ := Aside0.mk (Kd.N_mono (Kd.N_told (Kd.N_told (Kd.N_old (by (with_reducible repeat (first | apply Kd.N_alloc | apply Kd.N_drewN | apply Kd.N_drew)); exact HO_5.out) hb) (Kd.R_base ho0)) (Kd.R_base ho1)) (fun _ h_ => h_.1))
                have n1_ := Aside0.mk (Kd.V_mono (Kd.V_told (Kd.V_told (Kd.V_old (by (with_reducible repeat (first | apply Kd.V_alloc | apply Kd.V_drewN | apply Kd.V_drew)); exact HL1205_0.out) hb) (Kd.R_base ho0)) (Kd.R_base ho1)) (fun _ h_ => h_.1))
                have n2_ := Aside0.mk (Kd.R_lower ho0 (below_size (by repeat (first | (with_reducible first | exact HB.out | apply below_alloc | apply pw_below_drewN | apply below_drew1 | refine below_set ?_ GE1197.out | refine below_set ?_ GE1201.out | refine below_set ?_ GE1213.out) | exact HB.out))))
                have n3_ := Aside0.mk (Kd.R_lower ho1 (below_size (by repeat (first | (with_reducible first | exact HB.out | apply below_alloc | apply pw_below_drewN | apply below_drew1 | refine below_set ?_ GE1197.out | refine below_set ?_ GE1201.out | refine below_set ?_ GE1213.out) | exact HB.out))))
                have n4_ := Aside0.mk (blk_below (g := gb1197) (o := .cells #[.slice (some ad1200) l0_0.length c0_0, .slice A0_1 l0_1.length c0_1, .slice A0_2 l0_2.length c0_2] 67 (0, 0)) (by (with_reducible repeat (first | refine blk_drewN ?_ _ | refine blk_drew ?_ | refine blk_alloc ?_ _)); exact BK1197.out) hb)
                have n5_ := Aside0.mk (blk_below (g := gb1201) (o := .cells #[.slice A1200_0 ((rd_T34 l0_0 x3_1).f0).length c1200_0, .slice A1200_1 ((rd_T34 l0_0 x3_1).f1).length c1200_1] 34 (0, 0)) (by (with_reducible repeat (first | refine blk_drewN ?_ _ | refine blk_drew ?_ | refine blk_alloc ?_ _)); exact BK1201.out) hb)
                have n6_ := Aside0.mk (Kd.C_below (by repeat (first | (with_reducible exact HR1205_0.out) | (with_reducible refine Kd.C_alloc ?_ _) | (with_reducible refine Kd.C_drewN ?_ _) | (with_reducible refine Kd.C_drew ?_) | exact HR1205_0.out)) hb)
                have n7_ := Aside0.mk (blk_below (g := gb1213) (o := .cells #[.slice none 0 0, .slice none 0 0] 34 (0, 0)) (by (with_reducible repeat (first | refine blk_drewN ?_ _ | refine blk_drew ?_ | refine blk_alloc ?_ _)); exact BK1213.out) hb)
                have n8_ := Aside0.mk (below_step (by repeat (first | (with_reducible first | exact HB.out | apply below_alloc | apply pw_below_drewN | apply below_drew1 | refine below_set ?_ GE1197.out | refine below_set ?_ GE1201.out | refine below_set ?_ GE1213.out) | exact HB.out)) hb)
                clear HO_5
                clear HL1205_0
                clear BK1197
                clear BK1201
                clear HR1205_0
                clear BK1213
                clear HB
                have HO_5 := n0_
                have HL1205_0 := n1_
                have HO1208 := n2_
                have HO1211 := n3_
                have BK1197 := n4_
                have BK1201 := n5_
                have HR1205_0 := n6_
                have BK1213 := n7_
                have HB := n8_
                clear n0_ n1_ n2_ n3_ n4_ n5_ n6_ n7_ n8_
                (try clear hb)
                (try clear hb2)
                (try clear hk)
                (try clear hi)
                (try clear ho0)
                (try clear ho1)
                refine hK.out _ _ ⟨(blk_cell BK1201.out 0).trans rfl, (blk_cell BK1201.out 1).trans rfl, HS2_⟩ (fun hHeld => ?_)
                clear hK K
                refine norm_ (a' := ?_) ?_ ?_
                rotate_left
                ·show Act.put _ (some 46) _ = _
                 simp only [Act.put, List.setIfInBounds_toArray, List.set_cons_zero, List.set_cons_succ, i64_w, i32_w]
                 rfl
                refine pure_ (i := 6) (N := some 40) (v := ?_) (a' := ?_) #[true, true, true, true, true, true, true, false, false, true, false, false] rfl rfl (any_of HT_.out (by kernel_rfl)) (fun _ _ _ h => h) (Or.inl ⟨by rfl, ?_⟩) ?_ ?_
                rotate_left
                ·intro w'
                 go_simp
                 with_reducible rfl
                rotate_left
                ·simp only [Act.put, List.setIfInBounds_toArray, List.set_cons_zero, List.set_cons_succ, i64_w, i32_w]
                 rfl
                refine pure_ (i := 7) (N := some 47) (v := ?_) (a' := ?_) #[true, true, true, true, true, true, true, true, false, true, false, false] rfl rfl (any_of HT_.out (by kernel_rfl)) (fun _ _ _ h => h) (Or.inl ⟨by rfl, ?_⟩) ?_ ?_
                rotate_left
                ·intro w'
                 go_simp
                 with_reducible rfl
                rotate_left
                ·simp only [Act.put, List.setIfInBounds_toArray, List.set_cons_zero, List.set_cons_succ, i64_w, i32_w]
                 rfl
                refine pure_ (i := 8) (N := some 48) (v := ?_) (a' := ?_) #[true, true, true, true, true, true, true, true, true, true, false, false] rfl rfl (any_of HT_.out (by kernel_rfl)) (fun _ _ _ h => h) (Or.inl ⟨by rfl, ?_⟩) ?_ ?_
                rotate_left
                ·intro w'
                 go_simp
                 with_reducible rfl
                rotate_left
                ·simp only [Act.put, List.setIfInBounds_toArray, List.set_cons_zero, List.set_cons_succ, i64_w, i32_w]
                 rfl
                exact norm_ (by simp only [putAll, Act.put, List.setIfInBounds_toArray, List.set_cons_zero, List.set_cons_succ]) (hCont (v1207, v1210, gb1213) _ ⟨hHeld, (by (with_reducible repeat (first | apply Kd.V_alloc | apply Kd.V_drewN | apply Kd.V_drew)); exact Kd.V_mono HL1205_0.out (fun _ hk => ⟨hk.1.2, ⟨hk.2, ⟨hk.1.1.1.2, ⟨hk.1.1.1.1.1, ⟨hk.1.1.1.1.2, hk.1.1.2⟩⟩⟩⟩⟩)), (by (with_reducible repeat (first | apply Kd.R_alloc | apply Kd.R_drewN | apply Kd.R_drew)); exact HO1208.out), (by (with_reducible repeat (first | apply Kd.R_alloc | apply Kd.R_drewN | apply Kd.R_drew)); exact HO1211.out), (by (with_reducible repeat (first | apply Kd.N_alloc | apply Kd.N_drewN | apply Kd.N_drew)); exact Kd.N_mono HO_5.out (fun _ hk => ⟨hk.1.2, ⟨hk.2, ⟨hk.1.1.1.1, ⟨hk.1.1.1.2, hk.1.1.2⟩⟩⟩⟩)), (by (with_reducible repeat (first | refine blk_drewN ?_ _ | refine blk_drew ?_ | refine blk_alloc ?_ _)); exact BK1197.out), (by (with_reducible repeat (first | refine blk_drewN ?_ _ | refine blk_drew ?_ | refine blk_alloc ?_ _)); exact BK1201.out), (by (with_reducible repeat (first | refine blk_drewN ?_ _ | refine blk_drew ?_ | refine blk_alloc ?_ _)); exact BK1213.out), GW1213.out, GE1213.out, NB1197_1213.out, NB1213_1197.out, NB1201_1213.out, NB1213_1201.out, (by repeat (first | (with_reducible first | exact HB.out | apply below_alloc | apply pw_below_drewN | apply below_drew1 | refine below_set ?_ GE1197.out | refine below_set ?_ GE1201.out | refine below_set ?_ GE1213.out) | exact HB.out))⟩)
              rintro ⟨v1207, v1210, gb1213⟩ w37 ⟨hS_, h0_, h1_, h2_, h3_, h4_, h5_, h6_, h7_, h8_, h9_, h10_, h11_, h12_, h13_⟩
              have n0_ : Aside0 (Kd.V (Kd.int .i64) 3 w37 w.heap.size (fun k_ => some k_ ≠ (v1207 : Value).ownBlock ∧ some k_ ≠ (v1210 : Value).ownBlock ∧ some k_ ≠ (.slice (some ad1205) t1202.length co33 : Value).ownBlock ∧ k_ ≠ gb1197 ∧ k_ ≠ gb1201 ∧ k_ ≠ gb1213) (.slice A1205_0 (rd_L1 t1202 x6_3).length c1205_0) (rd_L1 t1202 x6_3)) := ⟨h0_⟩
              have n1_ : Aside0 (Kd.R (Kd.int .i64) 3 w37 w.heap.size (fun k_ => some k_ ≠ (v1210 : Value).ownBlock) v1207 t1206) := ⟨h1_⟩
              have n2_ : Aside0 (Kd.R (Kd.int .i64) 3 w37 w.heap.size (fun k_ => some k_ ≠ (v1207 : Value).ownBlock) v1210 t1209) := ⟨h2_⟩
              have n3_ : Aside0 (Kd.N (Kd.slice 3 (Kd.int .i64)) 23 w37 w.heap.size (fun k_ => some k_ ≠ (v1207 : Value).ownBlock ∧ some k_ ≠ (v1210 : Value).ownBlock ∧ k_ ≠ gb1197 ∧ k_ ≠ gb1201 ∧ k_ ≠ gb1213) (.slice (some ad1205) t1202.length co33) t1202) := ⟨h3_⟩
              have n4_ : Aside0 (w37.heap[gb1197]? = some (.cells #[.slice (some ad1200) l0_0.length c0_0, .slice A0_1 l0_1.length c0_1, .slice A0_2 l0_2.length c0_2] 67 (0, 0))) := ⟨h4_⟩
              have n5_ : Aside0 (w37.heap[gb1201]? = some (.cells #[.slice A1200_0 ((rd_T34 l0_0 x3_1).f0).length c1200_0, .slice A1200_1 ((rd_T34 l0_0 x3_1).f1).length c1200_1] 34 (0, 0))) := ⟨h5_⟩
              have n6_ : Aside0 (w37.heap[gb1213]? = some (.cells #[.slice none 0 0, .slice none 0 0] 34 (0, 0))) := ⟨h6_⟩
              have n7_ : Aside0 (w.heap.size ≤ gb1213) := ⟨h7_⟩
              have n8_ : Aside0 (w.heap.size ≤ gb1213) := ⟨h8_⟩
              have n9_ : Aside0 (gb1197 ≠ gb1213) := ⟨h9_⟩
              have n10_ : Aside0 (gb1213 ≠ gb1197) := ⟨h10_⟩
              have n11_ : Aside0 (gb1201 ≠ gb1213) := ⟨h11_⟩
              have n12_ : Aside0 (gb1213 ≠ gb1201) := ⟨h12_⟩
              have n13_ : Aside0 (Below w.heap.size w w37) := ⟨h13_⟩
              clear HO_5
              clear BK1197
              clear BK1201
              clear HB
              clear h0_ h1_ h2_ h3_ h4_ h5_ h6_ h7_ h8_ h9_ h10_ h11_ h12_ h13_
              have HL1205_0 := n0_
              have HO1208 := n1_
              have HO1211 := n2_
              have HO_5 := n3_
              have BK1197 := n4_
              have BK1201 := n5_
              have BK1213 := n6_
              have GW1213 := n7_
              have GE1213 := n8_
              have NB1197_1213 := n9_
              have NB1213_1197 := n10_
              have NB1201_1213 := n11_
              have NB1213_1201 := n12_
              have HB := n13_
              clear n0_ n1_ n2_ n3_ n4_ n5_ n6_ n7_ n8_ n9_ n10_ n11_ n12_ n13_
              have hHeld : w37.cell? ⟨gb1201, 0, none⟩ = some (.slice A1200_0 ((rd_T34 l0_0 x3_1).f0).length c1200_0) ∧ w37.cell? ⟨gb1201, 1, none⟩ = some (.slice A1200_1 ((rd_T34 l0_0 x3_1).f1).length c1200_1) ∧ w37.cell? (ad1205.add (x6_3).toNat) = some (.slice A1205_0 (rd_L1 t1202 x6_3).length c1205_0) := hS_
              obtain ⟨Ao38, co38, eo38⟩ := Kd.R_slice HO1208.out
              (first | subst eo38 | (injection eo38 with f1_ f2_ f3_; have f4_ := f1_.symm; have f5_ := f3_.symm; clear f1_ f2_ f3_; subst f4_; subst f5_))
              obtain ⟨Ao40, co40, eo40⟩ := Kd.R_slice HO1211.out
              (first | subst eo40 | (injection eo40 with f1_ f2_ f3_; have f4_ := f1_.symm; have f5_ := f3_.symm; clear f1_ f2_ f3_; subst f4_; subst f5_))
              refine norm_ (a' := ?_) ?_ ?_
              rotate_left
              ·simp only [putAll, Act.put, List.setIfInBounds_toArray, List.set_cons_zero, List.set_cons_succ]
               rfl
              refine one_ (i := 10) (N := none) #[true, true, true, true, true, true, true, true, true, true, true, false] rfl rfl (one_of HT_.out (by kernel_rfl)) (by decide) (fun K hK => ?_)
              have hs39 : w37.cell? ⟨gb1213, 0, none⟩ = some (.slice none 0 0) := (blk_cell BK1213.out 0).trans rfl
              have hfs39 := blk_frozen BK1213.out 0
              have hns39_0 := NB1197_1213.out
              have hns39_1 := NB1201_1213.out
              have hms39_0 := NB1213_1197.out
              have hms39_1 := NB1213_1201.out
              have hs41 : w37.cell? ⟨gb1213, 1, none⟩ = some (.slice none 0 0) := (blk_cell BK1213.out 1).trans rfl
              have hfs41 := blk_frozen BK1213.out 1
              have hns41_0 := NB1197_1213.out
              have hns41_1 := NB1201_1213.out
              have hms41_0 := NB1213_1197.out
              have hms41_1 := NB1213_1201.out
              refine skip_ (w1 := ?_) (by rfl) rfl ?_ ?_
              rotate_left
              ·go_simp
               rfl
              refine hK.out _ _ ⟨((cell_far (p := ⟨gb1213, _, none⟩) NB1201_1213.out _).trans (((cell_far (p := ⟨gb1213, _, none⟩) NB1201_1213.out _).trans (hHeld.1)))), ((cell_far (p := ⟨gb1213, _, none⟩) NB1201_1213.out _).trans (((cell_far (p := ⟨gb1213, _, none⟩) NB1201_1213.out _).trans (hHeld.2.1)))), ((cell_far (p := ⟨gb1213, _, none⟩) (by first | exact Kd.own_blk (Kd.N_away HO_5.out (fun _ hk => hk.2.2.2.2)) | (rw [add_block]; exact Kd.own_blk (Kd.N_away HO_5.out (fun _ hk => hk.2.2.2.2))) | (show (Addr.add _ _).block ≠ _; rw [add_block]; exact Kd.own_blk (Kd.N_away HO_5.out (fun _ hk => hk.2.2.2.2))) | (dsimp only; exact Kd.own_blk (Kd.N_away HO_5.out (fun _ hk => hk.2.2.2.2)))) _).trans (((cell_far (p := ⟨gb1213, _, none⟩) (by first | exact Kd.own_blk (Kd.N_away HO_5.out (fun _ hk => hk.2.2.2.2)) | (rw [add_block]; exact Kd.own_blk (Kd.N_away HO_5.out (fun _ hk => hk.2.2.2.2))) | (show (Addr.add _ _).block ≠ _; rw [add_block]; exact Kd.own_blk (Kd.N_away HO_5.out (fun _ hk => hk.2.2.2.2))) | (dsimp only; exact Kd.own_blk (Kd.N_away HO_5.out (fun _ hk => hk.2.2.2.2)))) _).trans (hHeld.2.2))))⟩ (fun hHeld => ?_)
              clear hK K
              refine pure_ (i := 11) (N := some 8) (v := ?_) (a' := ?_) #[true, true, true, true, true, true, true, true, true, true, true, true] rfl rfl (any_of HT_.out (by kernel_rfl)) (fun _ _ _ h => h) (Or.inl ⟨by rfl, ?_⟩) ?_ ?_
              rotate_left
              ·intro w'
               go_simp
               with_reducible rfl
              rotate_left
              ·simp only [Act.put, List.setIfInBounds_toArray, List.set_cons_zero, List.set_cons_succ, i64_w, i32_w]
               rfl
              refine done_ (done_of HT_.out (by kernel_rfl)) ?_
              go_upto_region 14 with (first | ((with_reducible refine gate_callee (f := 65) rfl ?_); refine goesL_ (some 50) rfl rfl Try.func65 (by kernel_rfl) rfl #[.int .i64 t1212] rfl (by (try simp only [List.map_toArray, List.map_cons, List.map_nil]); first | done | rfl | (simp only [List.length_drop, List.length_take]; rfl)) ?_; (with_reducible refine (graduslaw3_num.calls t1212 t1214 _ A29.out).mono ?_); rintro e w' ⟨rfl, ⟨nd, rfl⟩⟩; refine ⟨_, rfl, ?_⟩; have hnb42 := NB1213_1197.out; have hnc42 := NB1197_1213.out; have hnb43 := NB1213_1201.out; have hnc43 := NB1201_1213.out; have hcz44_0 : w37.cell? ⟨gb1213, 0, none⟩ = some (.slice none 0 0) := (blk_cell BK1213.out 0).trans rfl; have hcz44_1 : w37.cell? ⟨gb1213, 1, none⟩ = some (.slice none 0 0) := (blk_cell BK1213.out 1).trans rfl; have hfz44_0 := blk_frozen BK1213.out 0; have hfz44_1 := blk_frozen BK1213.out 1; have hnb45 := NB1201_1197.out; have hnc45 := NB1197_1201.out; have hcz46_0 : w37.cell? ⟨gb1201, 0, none⟩ = some (.slice A1200_0 ((rd_T34 l0_0 x3_1).f0).length c1200_0) := (blk_cell BK1201.out 0).trans rfl; have hcz46_1 : w37.cell? ⟨gb1201, 1, none⟩ = some (.slice A1200_1 ((rd_T34 l0_0 x3_1).f1).length c1200_1) := (blk_cell BK1201.out 1).trans rfl; have hfz46_0 := blk_frozen BK1201.out 0; have hfz46_1 := blk_frozen BK1201.out 1) | ((with_reducible refine gate_callee (f := 66) rfl ?_); refine goesL_ (some 56) rfl rfl Try.func66 (by kernel_rfl) rfl #[.agg #[.slice Ao38 t1206.length co38, .slice Ao40 t1209.length co40], .slice A1200_0 ((rd_T34 l0_0 x3_1).f0).length c1200_0] rfl (by (try simp only [List.map_toArray, List.map_cons, List.map_nil]); first | done | rfl | (simp only [List.length_drop, List.length_take]; rfl)) ?_; (with_reducible refine (turn_Sum.calls k3 _ _ t1206 _ _ t1209 _ _ ((rd_T34 l0_0 x3_1).f0) t1215 t1218 t1221 _ ?side1 ?side2 ?side3 ?side4 ?side5 ?side6 A31.out).mono ?_); (case side1 => refine (Kd.R_reads' (e := 3) (base := w.heap.size) (ok := fun k_ => some k_ ≠ (.slice Ao40 t1209.length co40 : Value).ownBlock) (n := t1206.length) (c := co38) ?_).2.2; exact (by (with_reducible repeat (first | apply Kd.R_alloc | apply Kd.R_drewN | apply Kd.R_drew)); exact (Kd.R_mono (Kd.R_far (p := ⟨gb1213, 1, none⟩) (Kd.R_far (p := ⟨gb1213, 0, none⟩) (Kd.R_types HO1208.out BK1213.out (by decide)) (fun _ hk => hk.2) (.slice Ao38 t1206.length co38)) (fun _ hk => hk.2) (.slice Ao40 t1209.length co40)) (fun _ h_ => h_.1)))); (case side2 => exact (Kd.R_reads' HO1208.out).2.1); (case side3 => refine (Kd.R_reads' (e := 3) (base := w.heap.size) (ok := fun k_ => some k_ ≠ (.slice Ao38 t1206.length co38 : Value).ownBlock) (n := t1209.length) (c := co40) ?_).2.2; exact (by (with_reducible repeat (first | apply Kd.R_alloc | apply Kd.R_drewN | apply Kd.R_drew)); exact (Kd.R_mono (Kd.R_far (p := ⟨gb1213, 1, none⟩) (Kd.R_far (p := ⟨gb1213, 0, none⟩) (Kd.R_types HO1211.out BK1213.out (by decide)) (fun _ hk => hk.2) (.slice Ao38 t1206.length co38)) (fun _ hk => hk.2) (.slice Ao40 t1209.length co40)) (fun _ h_ => h_.1)))); (case side4 => exact (Kd.R_reads' HO1211.out).2.1); (case side5 => exact Kd.C_below HR1200_0.out (by repeat (first | (with_reducible first | exact HB.out | apply below_alloc | apply pw_below_drewN | apply below_drew1 | refine below_set ?_ GE1197.out | refine below_set ?_ GE1201.out | refine below_set ?_ GE1213.out) | exact HB.out))); (case side6 => exact HC1200_0.out); rintro e w47 ⟨v1216, v1219, rfl, ho0, ho1, hb⟩; refine ⟨_, rfl, ?_⟩; have n0_ := Aside0.mk (Kd.N_mono (Kd.N_told (Kd.N_told (Kd.N_old (by (with_reducible repeat (first | apply Kd.N_alloc | apply Kd.N_drewN | apply Kd.N_drew)); exact (Kd.N_mono (Kd.N_far (p := ⟨gb1213, 1, none⟩) (Kd.N_far (p := ⟨gb1213, 0, none⟩) (Kd.N_mono HO_5.out (fun k_ hk => (⟨hk, hk.2.2.2.2⟩ : _ ∧ k_ ≠ gb1213))) (fun _ hk => hk.2) (.slice Ao38 t1206.length co38)) (fun _ hk => hk.2) (.slice Ao40 t1209.length co40)) (fun _ h_ => h_.1))) hb) (Kd.R_base ho0)) (Kd.R_base ho1)) (fun _ h_ => h_.1)); have n1_ := Aside0.mk (Kd.V_mono (Kd.V_told (Kd.V_told (Kd.V_old (by (with_reducible repeat (first | apply Kd.V_alloc | apply Kd.V_drewN | apply Kd.V_drew)); exact (Kd.V_mono (Kd.V_far (p := ⟨gb1213, 1, none⟩) (Kd.V_far (p := ⟨gb1213, 0, none⟩) (Kd.V_mono HL1205_0.out (fun k_ hk => (⟨hk, hk.2.2.2.2.2⟩ : _ ∧ k_ ≠ gb1213))) (fun _ hk => hk.2) (.slice Ao38 t1206.length co38)) (fun _ hk => hk.2) (.slice Ao40 t1209.length co40)) (fun _ h_ => h_.1))) hb) (Kd.R_base ho0)) (Kd.R_base ho1)) (fun _ h_ => h_.1)); have n2_ := Aside0.mk (Kd.R_mono (Kd.R_told (Kd.R_told (Kd.R_old (by (with_reducible repeat (first | apply Kd.R_alloc | apply Kd.R_drewN | apply Kd.R_drew)); exact (Kd.R_mono (Kd.R_far (p := ⟨gb1213, 1, none⟩) (Kd.R_far (p := ⟨gb1213, 0, none⟩) (Kd.R_types HO1208.out BK1213.out (by decide)) (fun _ hk => hk.2) (.slice Ao38 t1206.length co38)) (fun _ hk => hk.2) (.slice Ao40 t1209.length co40)) (fun _ h_ => h_.1))) hb) (Kd.R_base ho0)) (Kd.R_base ho1)) (fun _ h_ => h_.1)); have n3_ := Aside0.mk (Kd.R_mono (Kd.R_told (Kd.R_told (Kd.R_old (by (with_reducible repeat (first | apply Kd.R_alloc | apply Kd.R_drewN | apply Kd.R_drew)); exact (Kd.R_mono (Kd.R_far (p := ⟨gb1213, 1, none⟩) (Kd.R_far (p := ⟨gb1213, 0, none⟩) (Kd.R_types HO1211.out BK1213.out (by decide)) (fun _ hk => hk.2) (.slice Ao38 t1206.length co38)) (fun _ hk => hk.2) (.slice Ao40 t1209.length co40)) (fun _ h_ => h_.1))) hb) (Kd.R_base ho0)) (Kd.R_base ho1)) (fun _ h_ => h_.1)); have n4_ := Aside0.mk (Kd.R_lower (Kd.R_new' (Kd.R_new' ho0 (Kd.R_lt (by (with_reducible repeat (first | apply Kd.R_alloc | apply Kd.R_drewN | apply Kd.R_drew)); exact (Kd.R_mono (Kd.R_far (p := ⟨gb1213, 1, none⟩) (Kd.R_far (p := ⟨gb1213, 0, none⟩) (Kd.R_types HO1208.out BK1213.out (by decide)) (fun _ hk => hk.2) (.slice Ao38 t1206.length co38)) (fun _ hk => hk.2) (.slice Ao40 t1209.length co40)) (fun _ h_ => h_.1))))) (Kd.R_lt (by (with_reducible repeat (first | apply Kd.R_alloc | apply Kd.R_drewN | apply Kd.R_drew)); exact (Kd.R_mono (Kd.R_far (p := ⟨gb1213, 1, none⟩) (Kd.R_far (p := ⟨gb1213, 0, none⟩) (Kd.R_types HO1211.out BK1213.out (by decide)) (fun _ hk => hk.2) (.slice Ao38 t1206.length co38)) (fun _ hk => hk.2) (.slice Ao40 t1209.length co40)) (fun _ h_ => h_.1))))) (below_size (by repeat (first | (with_reducible first | exact HB.out | apply below_alloc | apply pw_below_drewN | apply below_drew1 | refine below_set ?_ GE1197.out | refine below_set ?_ GE1201.out | refine below_set ?_ GE1213.out) | exact HB.out)))); have n5_ := Aside0.mk (Kd.R_lower (Kd.R_new' (Kd.R_new' ho1 (Kd.R_lt (by (with_reducible repeat (first | apply Kd.R_alloc | apply Kd.R_drewN | apply Kd.R_drew)); exact (Kd.R_mono (Kd.R_far (p := ⟨gb1213, 1, none⟩) (Kd.R_far (p := ⟨gb1213, 0, none⟩) (Kd.R_types HO1208.out BK1213.out (by decide)) (fun _ hk => hk.2) (.slice Ao38 t1206.length co38)) (fun _ hk => hk.2) (.slice Ao40 t1209.length co40)) (fun _ h_ => h_.1))))) (Kd.R_lt (by (with_reducible repeat (first | apply Kd.R_alloc | apply Kd.R_drewN | apply Kd.R_drew)); exact (Kd.R_mono (Kd.R_far (p := ⟨gb1213, 1, none⟩) (Kd.R_far (p := ⟨gb1213, 0, none⟩) (Kd.R_types HO1211.out BK1213.out (by decide)) (fun _ hk => hk.2) (.slice Ao38 t1206.length co38)) (fun _ hk => hk.2) (.slice Ao40 t1209.length co40)) (fun _ h_ => h_.1))))) (below_size (by repeat (first | (with_reducible first | exact HB.out | apply below_alloc | apply pw_below_drewN | apply below_drew1 | refine below_set ?_ GE1197.out | refine below_set ?_ GE1201.out | refine below_set ?_ GE1213.out) | exact HB.out)))); have n6_ := Aside0.mk (blk_below (g := gb1197) (o := .cells #[.slice (some ad1200) l0_0.length c0_0, .slice A0_1 l0_1.length c0_1, .slice A0_2 l0_2.length c0_2] 67 (0, 0)) (by (with_reducible repeat (first | refine blk_drewN ?_ _ | refine blk_drew ?_ | refine blk_alloc ?_ _)); refine blk_far ?_ NB1197_1213.out _; (with_reducible repeat (first | refine blk_drewN ?_ _ | refine blk_drew ?_ | refine blk_alloc ?_ _)); refine blk_far ?_ NB1197_1213.out _; (with_reducible repeat (first | refine blk_drewN ?_ _ | refine blk_drew ?_ | refine blk_alloc ?_ _)); exact BK1197.out) hb); have n7_ := Aside0.mk (blk_below (g := gb1201) (o := .cells #[.slice A1200_0 ((rd_T34 l0_0 x3_1).f0).length c1200_0, .slice A1200_1 ((rd_T34 l0_0 x3_1).f1).length c1200_1] 34 (0, 0)) (by (with_reducible repeat (first | refine blk_drewN ?_ _ | refine blk_drew ?_ | refine blk_alloc ?_ _)); refine blk_far ?_ NB1201_1213.out _; (with_reducible repeat (first | refine blk_drewN ?_ _ | refine blk_drew ?_ | refine blk_alloc ?_ _)); refine blk_far ?_ NB1201_1213.out _; (with_reducible repeat (first | refine blk_drewN ?_ _ | refine blk_drew ?_ | refine blk_alloc ?_ _)); exact BK1201.out) hb); have n8_ := Aside0.mk (blk_below (g := gb1213) (o := .cells #[.slice Ao38 t1206.length co38, .slice Ao40 t1209.length co40] 34 (0, 0)) (by (with_reducible repeat (first | refine blk_drewN ?_ _ | refine blk_drew ?_ | refine blk_alloc ?_ _)); refine blk_put (cs := #[.slice Ao38 t1206.length co38, .slice none 0 0]) ?_ 1 _ rfl; (with_reducible repeat (first | refine blk_drewN ?_ _ | refine blk_drew ?_ | refine blk_alloc ?_ _)); refine blk_put (cs := #[.slice none 0 0, .slice none 0 0]) ?_ 0 _ rfl; (with_reducible repeat (first | refine blk_drewN ?_ _ | refine blk_drew ?_ | refine blk_alloc ?_ _)); exact BK1213.out) hb); have n9_ := Aside0.mk (below_step (by repeat (first | (with_reducible first | exact HB.out | apply below_alloc | apply pw_below_drewN | apply below_drew1 | refine below_set ?_ GE1197.out | refine below_set ?_ GE1201.out | refine below_set ?_ GE1213.out) | exact HB.out)) hb); clear HO_5; clear HL1205_0; clear HO1208; clear HO1211; clear BK1197; clear BK1201; clear BK1213; clear HB; have HO_5 := n0_; have HL1205_0 := n1_; have HO1208 := n2_; have HO1211 := n3_; have HO1217 := n4_; have HO1220 := n5_; have BK1197 := n6_; have BK1201 := n7_; have BK1213 := n8_; have HB := n9_; clear n0_ n1_ n2_ n3_ n4_ n5_ n6_ n7_ n8_ n9_; (try clear hb); (try clear hb2); (try clear hk); (try clear hi); (try clear ho0); (try clear ho1)) | ((with_reducible refine gate_dst (N := 9) rfl ?_); (try (refine gate_guard (by rfl) ?_; dsimp only)); refine box_event ?hg (N := 9) ?hd (cs := #[.slice none 0 0, .slice none 0 0]) (t := 34) ?hr ?_; (case hd => rfl); (case hg => rfl); (case hr => first | (go_simp; done) | (go_simp; rfl)); intro gb1222 hg w48 hbox hb; have n0_ := Aside0.mk (Kd.N_below (Kd.N_elderB (by (with_reducible repeat (first | apply Kd.N_alloc | apply Kd.N_drewN | apply Kd.N_drew)); exact HO_5.out) gb1222 (Nat.le_of_eq hg.symm)) hb); have n1_ := Aside0.mk (Kd.V_below (Kd.V_elderB (by (with_reducible repeat (first | apply Kd.V_alloc | apply Kd.V_drewN | apply Kd.V_drew)); exact HL1205_0.out) gb1222 (Nat.le_of_eq hg.symm)) hb); have n2_ := Aside0.mk (Kd.R_below (by (with_reducible repeat (first | apply Kd.R_alloc | apply Kd.R_drewN | apply Kd.R_drew)); exact HO1208.out) hb); have n3_ := Aside0.mk (Kd.R_below (by (with_reducible repeat (first | apply Kd.R_alloc | apply Kd.R_drewN | apply Kd.R_drew)); exact HO1211.out) hb); have n4_ := Aside0.mk (Kd.R_below (by (with_reducible repeat (first | apply Kd.R_alloc | apply Kd.R_drewN | apply Kd.R_drew)); exact HO1217.out) hb); have n5_ := Aside0.mk (Kd.R_below (by (with_reducible repeat (first | apply Kd.R_alloc | apply Kd.R_drewN | apply Kd.R_drew)); exact HO1220.out) hb); have n6_ := Aside0.mk (blk_below (g := gb1197) (o := .cells #[.slice (some ad1200) l0_0.length c0_0, .slice A0_1 l0_1.length c0_1, .slice A0_2 l0_2.length c0_2] 67 (0, 0)) (by (with_reducible repeat (first | refine blk_drewN ?_ _ | refine blk_drew ?_ | refine blk_alloc ?_ _)); exact BK1197.out) hb); have n7_ := Aside0.mk (blk_below (g := gb1201) (o := .cells #[.slice A1200_0 ((rd_T34 l0_0 x3_1).f0).length c1200_0, .slice A1200_1 ((rd_T34 l0_0 x3_1).f1).length c1200_1] 34 (0, 0)) (by (with_reducible repeat (first | refine blk_drewN ?_ _ | refine blk_drew ?_ | refine blk_alloc ?_ _)); exact BK1201.out) hb); have n8_ := Aside0.mk (blk_below (g := gb1213) (o := .cells #[.slice Ao38 t1206.length co38, .slice Ao40 t1209.length co40] 34 (0, 0)) (by (with_reducible repeat (first | refine blk_drewN ?_ _ | refine blk_drew ?_ | refine blk_alloc ?_ _)); exact BK1213.out) hb); have n9_ := Aside0.mk (below_step (by repeat (first | (with_reducible first | exact HB.out | apply below_alloc | apply pw_below_drewN | apply below_drew1 | refine below_set ?_ GE1197.out | refine below_set ?_ GE1201.out | refine below_set ?_ GE1213.out) | exact HB.out)) hb); have n10_ := Aside0.mk (hbox); have n11_ := Aside0.mk ((by rw [hg]; exact (below_size (by repeat (first | (with_reducible first | exact HB.out | apply below_alloc | apply pw_below_drewN | apply below_drew1 | refine below_set ?_ GE1197.out | refine below_set ?_ GE1201.out | refine below_set ?_ GE1213.out) | exact HB.out))) : w.heap.size ≤ gb1222)); have n12_ := Aside0.mk ((by rw [hg]; exact (below_size (by repeat (first | (with_reducible first | exact HB.out | apply below_alloc | apply pw_below_drewN | apply below_drew1 | refine below_set ?_ GE1197.out | refine below_set ?_ GE1201.out | refine below_set ?_ GE1213.out) | exact HB.out))) : w.heap.size ≤ gb1222)); have n13_ := Aside0.mk ((by rw [hg]; exact Nat.ne_of_lt (blk_lt (g := gb1197) (o := .cells #[.slice (some ad1200) l0_0.length c0_0, .slice A0_1 l0_1.length c0_1, .slice A0_2 l0_2.length c0_2] 67 (0, 0)) (by (with_reducible repeat (first | refine blk_drewN ?_ _ | refine blk_drew ?_ | refine blk_alloc ?_ _)); exact BK1197.out)) : gb1197 ≠ gb1222)); have n14_ := Aside0.mk ((by rw [hg]; exact Nat.ne_of_gt (blk_lt (g := gb1197) (o := .cells #[.slice (some ad1200) l0_0.length c0_0, .slice A0_1 l0_1.length c0_1, .slice A0_2 l0_2.length c0_2] 67 (0, 0)) (by (with_reducible repeat (first | refine blk_drewN ?_ _ | refine blk_drew ?_ | refine blk_alloc ?_ _)); exact BK1197.out)) : gb1222 ≠ gb1197)); have n15_ := Aside0.mk ((by rw [hg]; exact Nat.ne_of_lt (blk_lt (g := gb1201) (o := .cells #[.slice A1200_0 ((rd_T34 l0_0 x3_1).f0).length c1200_0, .slice A1200_1 ((rd_T34 l0_0 x3_1).f1).length c1200_1] 34 (0, 0)) (by (with_reducible repeat (first | refine blk_drewN ?_ _ | refine blk_drew ?_ | refine blk_alloc ?_ _)); exact BK1201.out)) : gb1201 ≠ gb1222)); have n16_ := Aside0.mk ((by rw [hg]; exact Nat.ne_of_gt (blk_lt (g := gb1201) (o := .cells #[.slice A1200_0 ((rd_T34 l0_0 x3_1).f0).length c1200_0, .slice A1200_1 ((rd_T34 l0_0 x3_1).f1).length c1200_1] 34 (0, 0)) (by (with_reducible repeat (first | refine blk_drewN ?_ _ | refine blk_drew ?_ | refine blk_alloc ?_ _)); exact BK1201.out)) : gb1222 ≠ gb1201)); have n17_ := Aside0.mk ((by rw [hg]; exact Nat.ne_of_lt (blk_lt (g := gb1213) (o := .cells #[.slice Ao38 t1206.length co38, .slice Ao40 t1209.length co40] 34 (0, 0)) (by (with_reducible repeat (first | refine blk_drewN ?_ _ | refine blk_drew ?_ | refine blk_alloc ?_ _)); exact BK1213.out)) : gb1213 ≠ gb1222)); have n18_ := Aside0.mk ((by rw [hg]; exact Nat.ne_of_gt (blk_lt (g := gb1213) (o := .cells #[.slice Ao38 t1206.length co38, .slice Ao40 t1209.length co40] 34 (0, 0)) (by (with_reducible repeat (first | refine blk_drewN ?_ _ | refine blk_drew ?_ | refine blk_alloc ?_ _)); exact BK1213.out)) : gb1222 ≠ gb1213)); clear HO_5; clear HL1205_0; clear HO1208; clear HO1211; clear HO1217; clear HO1220; clear BK1197; clear BK1201; clear BK1213; clear HB; have HO_5 := n0_; have HL1205_0 := n1_; have HO1208 := n2_; have HO1211 := n3_; have HO1217 := n4_; have HO1220 := n5_; have BK1197 := n6_; have BK1201 := n7_; have BK1213 := n8_; have HB := n9_; have BK1222 := n10_; have GW1222 := n11_; have GE1222 := n12_; have NB1197_1222 := n13_; have NB1222_1197 := n14_; have NB1201_1222 := n15_; have NB1222_1201 := n16_; have NB1213_1222 := n17_; have NB1222_1213 := n18_; clear n0_ n1_ n2_ n3_ n4_ n5_ n6_ n7_ n8_ n9_ n10_ n11_ n12_ n13_ n14_ n15_ n16_ n17_ n18_; clear hb hbox hg; obtain ⟨Ao49, co49, eo49⟩ := Kd.R_slice HO1217.out; subst eo49; have hnb50 := NB1222_1197.out; have hnc50 := NB1197_1222.out; have hnb51 := NB1222_1201.out; have hnc51 := NB1201_1222.out; have hnb52 := NB1222_1213.out; have hnc52 := NB1213_1222.out; have hcz53_0 : w48.cell? ⟨gb1222, 0, none⟩ = some (.slice none 0 0) := (blk_cell BK1222.out 0).trans rfl; have hcz53_1 : w48.cell? ⟨gb1222, 1, none⟩ = some (.slice none 0 0) := (blk_cell BK1222.out 1).trans rfl; have hfz53_0 := blk_frozen BK1222.out 0; have hfz53_1 := blk_frozen BK1222.out 1; obtain ⟨Ao54, co54, eo54⟩ := Kd.R_slice HO1220.out; subst eo54))
              (try simp only [Act.put, List.setIfInBounds_toArray, List.set_cons_zero, List.set_cons_succ])
              go_cut [86] (fun v86 wc => ∃ (kq : Nat) (x86_31 : Bool), v86 = .bool x86_31 ∧ Aside0 (graduslaw3_TurnBack.j3 kq x3_1 t1202 x6_3 x86_31 l0_0 l0_1 l0_2 ((rd_T34 l0_0 x3_1).f0) ((rd_T34 l0_0 x3_1).f1) t1206 t1209 t1215 t1218 = some r) ∧ Aside0 (kq ≤ k3) ∧ Aside0 (Kd.N (Kd.slice 3 (Kd.int .i64)) 23 wc w.heap.size (fun k_ => some k_ ≠ ((.slice Ao38 t1206.length co38) : Value).ownBlock ∧ some k_ ≠ ((.slice Ao40 t1209.length co40) : Value).ownBlock ∧ some k_ ≠ ((.slice Ao49 t1215.length co49) : Value).ownBlock ∧ some k_ ≠ ((.slice Ao54 t1218.length co54) : Value).ownBlock ∧ k_ ≠ gb1197 ∧ k_ ≠ gb1201 ∧ k_ ≠ gb1213 ∧ k_ ≠ gb1222) (.slice (some ad1205) t1202.length co33) t1202) ∧ Aside0 (Kd.R (Kd.int .i64) 3 wc w.heap.size (fun k_ => some k_ ≠ ((.slice Ao40 t1209.length co40) : Value).ownBlock ∧ some k_ ≠ ((.slice Ao49 t1215.length co49) : Value).ownBlock ∧ some k_ ≠ ((.slice Ao54 t1218.length co54) : Value).ownBlock) (.slice Ao38 t1206.length co38) t1206) ∧ Aside0 (Kd.R (Kd.int .i64) 3 wc w.heap.size (fun k_ => some k_ ≠ ((.slice Ao38 t1206.length co38) : Value).ownBlock ∧ some k_ ≠ ((.slice Ao49 t1215.length co49) : Value).ownBlock ∧ some k_ ≠ ((.slice Ao54 t1218.length co54) : Value).ownBlock) (.slice Ao40 t1209.length co40) t1209) ∧ Aside0 (Kd.R (Kd.int .i64) 3 wc w.heap.size (fun k_ => some k_ ≠ ((.slice Ao38 t1206.length co38) : Value).ownBlock ∧ some k_ ≠ ((.slice Ao40 t1209.length co40) : Value).ownBlock ∧ some k_ ≠ ((.slice Ao54 t1218.length co54) : Value).ownBlock) (.slice Ao49 t1215.length co49) t1215) ∧ Aside0 (Kd.R (Kd.int .i64) 3 wc w.heap.size (fun k_ => some k_ ≠ ((.slice Ao38 t1206.length co38) : Value).ownBlock ∧ some k_ ≠ ((.slice Ao40 t1209.length co40) : Value).ownBlock ∧ some k_ ≠ ((.slice Ao49 t1215.length co49) : Value).ownBlock) (.slice Ao54 t1218.length co54) t1218) ∧ Aside0 (wc.heap[gb1197]? = some (.cells #[(.slice (some ad1200) l0_0.length c0_0), (.slice A0_1 l0_1.length c0_1), (.slice A0_2 l0_2.length c0_2)] 67 (0, 0))) ∧ Aside0 (wc.heap[gb1201]? = some (.cells #[(.slice A1200_0 ((rd_T34 l0_0 x3_1).f0).length c1200_0), (.slice A1200_1 ((rd_T34 l0_0 x3_1).f1).length c1200_1)] 34 (0, 0))) ∧ Aside0 (wc.heap[gb1213]? = some (.cells #[(.slice Ao38 t1206.length co38), (.slice Ao40 t1209.length co40)] 34 (0, 0))) ∧ Aside0 (wc.heap[gb1222]? = some (.cells #[(.slice Ao49 t1215.length co49), (.slice Ao54 t1218.length co54)] 34 (0, 0))) ∧ Aside0 (Below w.heap.size w wc))
              case first =>
               have H := HC32.out
               clear HC32
               replace H := Option.bind_eq_some_iff.mp H
               obtain ⟨t1223, A550, H⟩ := H
               replace H : (if t1223 = 0 then (if (t1218.length : Int) = (((rd_T34 l0_0 x3_1).f1).length : Int) then (if (((rd_T34 l0_0 x3_1).f1).length : Int) = 0 then (graduslaw3_TurnBack.j3 k3 x3_1 t1202 x6_3 true l0_0 l0_1 l0_2 ((rd_T34 l0_0 x3_1).f0) ((rd_T34 l0_0 x3_1).f1) t1206 t1209 t1215 t1218) else (graduslaw3_TurnBack.j3 k3 x3_1 t1202 x6_3 (((t1209.length : Int) % (((rd_T34 l0_0 x3_1).f1).length : Int)) != 0) l0_0 l0_1 l0_2 ((rd_T34 l0_0 x3_1).f0) ((rd_T34 l0_0 x3_1).f1) t1206 t1209 t1215 t1218)) else (graduslaw3_TurnBack.j3 k3 x3_1 t1202 x6_3 true l0_0 l0_1 l0_2 ((rd_T34 l0_0 x3_1).f0) ((rd_T34 l0_0 x3_1).f1) t1206 t1209 t1215 t1218)) else (graduslaw3_TurnBack.j3 k3 x3_1 t1202 x6_3 true l0_0 l0_1 l0_2 ((rd_T34 l0_0 x3_1).f0) ((rd_T34 l0_0 x3_1).f1) t1206 t1209 t1215 t1218)) = some r := H
               have A55 := Aside0.mk A550
               clear A550
               by_cases c56 : t1223 = 0
               ·rw [if_pos c56] at H
                have c56b0 : (t1223 == 0) = true := beq_iff_eq.mpr c56
                have c56b1 : (t1223 != 0) = false := bne_eq_false_iff_eq.mpr c56
                clear c56
                (first | rw [c56b0] | (simp only [i64_w, i32_w]; rw [c56b0]) | skip)
                by_cases c57 : (t1218.length : Int) = (((rd_T34 l0_0 x3_1).f1).length : Int)
                ·rw [if_pos c57] at H
                 have c57b0 : ((t1218.length : Int) == (((rd_T34 l0_0 x3_1).f1).length : Int)) = true := beq_iff_eq.mpr c57
                 have c57b1 : ((t1218.length : Int) != (((rd_T34 l0_0 x3_1).f1).length : Int)) = false := bne_eq_false_iff_eq.mpr c57
                 have c57b2 : (t1218.length == ((rd_T34 l0_0 x3_1).f1).length) = true := by first | simpa using c57 | (simp at c57 ⊢; omega)
                 clear c57
                 by_cases c58 : (((rd_T34 l0_0 x3_1).f1).length : Int) = 0
                 ·rw [if_pos c58] at H
                  have c58b0 : ((((rd_T34 l0_0 x3_1).f1).length : Int) == 0) = true := beq_iff_eq.mpr c58
                  have c58b1 : ((((rd_T34 l0_0 x3_1).f1).length : Int) != 0) = false := bne_eq_false_iff_eq.mpr c58
                  clear c58
                  have H' := Aside0.mk H
                  clear H
                  go_wp2_with (first | ((with_reducible refine gate_callee (f := 65) rfl ?_); refine goesL_ (some 60) rfl rfl Try.func65 (by kernel_rfl) rfl #[.int .i64 t1221] rfl (by (try simp only [List.map_toArray, List.map_cons, List.map_nil]); first | done | rfl | (simp only [List.length_drop, List.length_take]; rfl)) ?_; (with_reducible refine (graduslaw3_num.calls t1221 t1223 _ A55.out).mono ?_); rintro e w' ⟨rfl, ⟨nd, rfl⟩⟩; refine ⟨_, rfl, ?_⟩; have hnb59 := NB1222_1197.out; have hnc59 := NB1197_1222.out; have hnb60 := NB1222_1201.out; have hnc60 := NB1201_1222.out; have hnb61 := NB1222_1213.out; have hnc61 := NB1213_1222.out; have hcz62_0 : w48.cell? ⟨gb1222, 0, none⟩ = some (.slice none 0 0) := (blk_cell BK1222.out 0).trans rfl; have hcz62_1 : w48.cell? ⟨gb1222, 1, none⟩ = some (.slice none 0 0) := (blk_cell BK1222.out 1).trans rfl; have hfz62_0 := blk_frozen BK1222.out 0; have hfz62_1 := blk_frozen BK1222.out 1; have hnb63 := NB1201_1197.out; have hnc63 := NB1197_1201.out; have hnb64 := NB1201_1213.out; have hnc64 := NB1213_1201.out; have hcz65_0 : w48.cell? ⟨gb1201, 0, none⟩ = some (.slice A1200_0 ((rd_T34 l0_0 x3_1).f0).length c1200_0) := (blk_cell BK1201.out 0).trans rfl; have hcz65_1 : w48.cell? ⟨gb1201, 1, none⟩ = some (.slice A1200_1 ((rd_T34 l0_0 x3_1).f1).length c1200_1) := (blk_cell BK1201.out 1).trans rfl; have hfz65_0 := blk_frozen BK1201.out 0; have hfz65_1 := blk_frozen BK1201.out 1))
                  go_meet
                  case rel => exact ⟨_, (true), (by first | rfl | (simp; done) | (simp [*]; done)), H', ⟨by have := HK1.out; have := HJ9.out; have := HK3.out; first | omega | exact Nat.le_refl _⟩, ⟨by (with_reducible repeat (first | apply Kd.N_alloc | apply Kd.N_drewN | apply Kd.N_drew)); exact Kd.N_mono (Kd.N_far (p := ⟨gb1222, 1, none⟩) (Kd.N_far (p := ⟨gb1222, 0, none⟩) (Kd.N_mono HO_5.out (fun k_ hk => (⟨hk, hk.2⟩ : _ ∧ k_ ≠ gb1222))) (fun _ hk => hk.2) (.slice Ao49 t1215.length co49)) (fun _ hk => hk.2) (.slice Ao54 t1218.length co54)) (fun _ hk => ⟨hk.1.1.1.1.1, ⟨hk.1.1.1.1.2.1, ⟨hk.1.1.1.2, ⟨hk.1.1.2, ⟨hk.1.1.1.1.2.2.1, ⟨hk.1.1.1.1.2.2.2.1, ⟨hk.1.1.1.1.2.2.2.2, hk.1.2⟩⟩⟩⟩⟩⟩⟩)⟩, ⟨by (with_reducible repeat (first | apply Kd.R_alloc | apply Kd.R_drewN | apply Kd.R_drew)); exact Kd.R_mono (Kd.R_far (p := ⟨gb1222, 1, none⟩) (Kd.R_far (p := ⟨gb1222, 0, none⟩) (Kd.R_types HO1208.out BK1222.out (by decide)) (fun _ hk => hk.2) (.slice Ao49 t1215.length co49)) (fun _ hk => hk.2) (.slice Ao54 t1218.length co54)) (fun _ hk => ⟨hk.1.1.1, ⟨hk.1.1.2, hk.1.2⟩⟩)⟩, ⟨by (with_reducible repeat (first | apply Kd.R_alloc | apply Kd.R_drewN | apply Kd.R_drew)); exact Kd.R_mono (Kd.R_far (p := ⟨gb1222, 1, none⟩) (Kd.R_far (p := ⟨gb1222, 0, none⟩) (Kd.R_types HO1211.out BK1222.out (by decide)) (fun _ hk => hk.2) (.slice Ao49 t1215.length co49)) (fun _ hk => hk.2) (.slice Ao54 t1218.length co54)) (fun _ hk => ⟨hk.1.1.1, ⟨hk.1.1.2, hk.1.2⟩⟩)⟩, ⟨by (with_reducible repeat (first | apply Kd.R_alloc | apply Kd.R_drewN | apply Kd.R_drew)); exact Kd.R_mono (Kd.R_far (p := ⟨gb1222, 1, none⟩) (Kd.R_far (p := ⟨gb1222, 0, none⟩) (Kd.R_types HO1217.out BK1222.out (by decide)) (fun _ hk => hk.2) (.slice Ao49 t1215.length co49)) (fun _ hk => hk.2) (.slice Ao54 t1218.length co54)) (fun _ hk => ⟨hk.1.1.2, ⟨hk.1.2, hk.1.1.1⟩⟩)⟩, ⟨by (with_reducible repeat (first | apply Kd.R_alloc | apply Kd.R_drewN | apply Kd.R_drew)); exact Kd.R_mono (Kd.R_far (p := ⟨gb1222, 1, none⟩) (Kd.R_far (p := ⟨gb1222, 0, none⟩) (Kd.R_types HO1220.out BK1222.out (by decide)) (fun _ hk => hk.2) (.slice Ao49 t1215.length co49)) (fun _ hk => hk.2) (.slice Ao54 t1218.length co54)) (fun _ hk => ⟨hk.1.1.2, ⟨hk.1.2, hk.1.1.1⟩⟩)⟩, ⟨by (with_reducible repeat (first | refine blk_drewN ?_ _ | refine blk_drew ?_ | refine blk_alloc ?_ _)); refine blk_far ?_ NB1197_1222.out _; (with_reducible repeat (first | refine blk_drewN ?_ _ | refine blk_drew ?_ | refine blk_alloc ?_ _)); refine blk_far ?_ NB1197_1222.out _; (with_reducible repeat (first | refine blk_drewN ?_ _ | refine blk_drew ?_ | refine blk_alloc ?_ _)); exact BK1197.out⟩, ⟨by (with_reducible repeat (first | refine blk_drewN ?_ _ | refine blk_drew ?_ | refine blk_alloc ?_ _)); refine blk_far ?_ NB1201_1222.out _; (with_reducible repeat (first | refine blk_drewN ?_ _ | refine blk_drew ?_ | refine blk_alloc ?_ _)); refine blk_far ?_ NB1201_1222.out _; (with_reducible repeat (first | refine blk_drewN ?_ _ | refine blk_drew ?_ | refine blk_alloc ?_ _)); exact BK1201.out⟩, ⟨by (with_reducible repeat (first | refine blk_drewN ?_ _ | refine blk_drew ?_ | refine blk_alloc ?_ _)); refine blk_far ?_ NB1213_1222.out _; (with_reducible repeat (first | refine blk_drewN ?_ _ | refine blk_drew ?_ | refine blk_alloc ?_ _)); refine blk_far ?_ NB1213_1222.out _; (with_reducible repeat (first | refine blk_drewN ?_ _ | refine blk_drew ?_ | refine blk_alloc ?_ _)); exact BK1213.out⟩, ⟨by (with_reducible repeat (first | refine blk_drewN ?_ _ | refine blk_drew ?_ | refine blk_alloc ?_ _)); refine blk_put (cs := #[.slice Ao49 t1215.length co49, .slice none 0 0]) ?_ 1 _ rfl; (with_reducible repeat (first | refine blk_drewN ?_ _ | refine blk_drew ?_ | refine blk_alloc ?_ _)); refine blk_put (cs := #[.slice none 0 0, .slice none 0 0]) ?_ 0 _ rfl; (with_reducible repeat (first | refine blk_drewN ?_ _ | refine blk_drew ?_ | refine blk_alloc ?_ _)); exact BK1222.out⟩, ⟨by repeat (first | (with_reducible first | exact HB.out | apply below_alloc | apply pw_below_drewN | apply below_drew1 | refine below_set ?_ GE1197.out | refine below_set ?_ GE1201.out | refine below_set ?_ GE1213.out | refine below_set ?_ GE1222.out) | exact HB.out)⟩⟩
                 ·rw [if_neg c58] at H
                  have c58b0 : ((((rd_T34 l0_0 x3_1).f1).length : Int) == 0) = false := beq_eq_false_iff_ne.mpr c58
                  have c58b1 : ((((rd_T34 l0_0 x3_1).f1).length : Int) != 0) = true := bne_iff_ne.mpr c58
                  have c58b2 : ¬ (((rd_T34 l0_0 x3_1).f1) = []) := fun h_ => c58 (by rw [h_]; rfl)
                  have H' := Aside0.mk H
                  clear H
                  go_wp2_with (first | ((with_reducible refine gate_callee (f := 65) rfl ?_); refine goesL_ (some 60) rfl rfl Try.func65 (by kernel_rfl) rfl #[.int .i64 t1221] rfl (by (try simp only [List.map_toArray, List.map_cons, List.map_nil]); first | done | rfl | (simp only [List.length_drop, List.length_take]; rfl)) ?_; (with_reducible refine (graduslaw3_num.calls t1221 t1223 _ A55.out).mono ?_); rintro e w' ⟨rfl, ⟨nd, rfl⟩⟩; refine ⟨_, rfl, ?_⟩; have hnb66 := NB1222_1197.out; have hnc66 := NB1197_1222.out; have hnb67 := NB1222_1201.out; have hnc67 := NB1201_1222.out; have hnb68 := NB1222_1213.out; have hnc68 := NB1213_1222.out; have hcz69_0 : w48.cell? ⟨gb1222, 0, none⟩ = some (.slice none 0 0) := (blk_cell BK1222.out 0).trans rfl; have hcz69_1 : w48.cell? ⟨gb1222, 1, none⟩ = some (.slice none 0 0) := (blk_cell BK1222.out 1).trans rfl; have hfz69_0 := blk_frozen BK1222.out 0; have hfz69_1 := blk_frozen BK1222.out 1; have hnb70 := NB1201_1197.out; have hnc70 := NB1197_1201.out; have hnb71 := NB1201_1213.out; have hnc71 := NB1213_1201.out; have hcz72_0 : w48.cell? ⟨gb1201, 0, none⟩ = some (.slice A1200_0 ((rd_T34 l0_0 x3_1).f0).length c1200_0) := (blk_cell BK1201.out 0).trans rfl; have hcz72_1 : w48.cell? ⟨gb1201, 1, none⟩ = some (.slice A1200_1 ((rd_T34 l0_0 x3_1).f1).length c1200_1) := (blk_cell BK1201.out 1).trans rfl; have hfz72_0 := blk_frozen BK1201.out 0; have hfz72_1 := blk_frozen BK1201.out 1; have hnb73 := NB1213_1197.out; have hnc73 := NB1197_1213.out; have hcz74_0 : w48.cell? ⟨gb1213, 0, none⟩ = some (.slice Ao38 t1206.length co38) := (blk_cell BK1213.out 0).trans rfl; have hcz74_1 : w48.cell? ⟨gb1213, 1, none⟩ = some (.slice Ao40 t1209.length co40) := (blk_cell BK1213.out 1).trans rfl; have hfz74_0 := blk_frozen BK1213.out 0; have hfz74_1 := blk_frozen BK1213.out 1))
                  go_meet
                  case rel => exact ⟨_, ((((t1209.length : Int) % (((rd_T34 l0_0 x3_1).f1).length : Int)) != 0)), (by first | rfl | (simp; done) | (simp [*]; done)), H', ⟨by have := HK1.out; have := HJ9.out; have := HK3.out; first | omega | exact Nat.le_refl _⟩, ⟨by (with_reducible repeat (first | apply Kd.N_alloc | apply Kd.N_drewN | apply Kd.N_drew)); exact Kd.N_mono (Kd.N_far (p := ⟨gb1222, 1, none⟩) (Kd.N_far (p := ⟨gb1222, 0, none⟩) (Kd.N_mono HO_5.out (fun k_ hk => (⟨hk, hk.2⟩ : _ ∧ k_ ≠ gb1222))) (fun _ hk => hk.2) (.slice Ao49 t1215.length co49)) (fun _ hk => hk.2) (.slice Ao54 t1218.length co54)) (fun _ hk => ⟨hk.1.1.1.1.1, ⟨hk.1.1.1.1.2.1, ⟨hk.1.1.1.2, ⟨hk.1.1.2, ⟨hk.1.1.1.1.2.2.1, ⟨hk.1.1.1.1.2.2.2.1, ⟨hk.1.1.1.1.2.2.2.2, hk.1.2⟩⟩⟩⟩⟩⟩⟩)⟩, ⟨by (with_reducible repeat (first | apply Kd.R_alloc | apply Kd.R_drewN | apply Kd.R_drew)); exact Kd.R_mono (Kd.R_far (p := ⟨gb1222, 1, none⟩) (Kd.R_far (p := ⟨gb1222, 0, none⟩) (Kd.R_types HO1208.out BK1222.out (by decide)) (fun _ hk => hk.2) (.slice Ao49 t1215.length co49)) (fun _ hk => hk.2) (.slice Ao54 t1218.length co54)) (fun _ hk => ⟨hk.1.1.1, ⟨hk.1.1.2, hk.1.2⟩⟩)⟩, ⟨by (with_reducible repeat (first | apply Kd.R_alloc | apply Kd.R_drewN | apply Kd.R_drew)); exact Kd.R_mono (Kd.R_far (p := ⟨gb1222, 1, none⟩) (Kd.R_far (p := ⟨gb1222, 0, none⟩) (Kd.R_types HO1211.out BK1222.out (by decide)) (fun _ hk => hk.2) (.slice Ao49 t1215.length co49)) (fun _ hk => hk.2) (.slice Ao54 t1218.length co54)) (fun _ hk => ⟨hk.1.1.1, ⟨hk.1.1.2, hk.1.2⟩⟩)⟩, ⟨by (with_reducible repeat (first | apply Kd.R_alloc | apply Kd.R_drewN | apply Kd.R_drew)); exact Kd.R_mono (Kd.R_far (p := ⟨gb1222, 1, none⟩) (Kd.R_far (p := ⟨gb1222, 0, none⟩) (Kd.R_types HO1217.out BK1222.out (by decide)) (fun _ hk => hk.2) (.slice Ao49 t1215.length co49)) (fun _ hk => hk.2) (.slice Ao54 t1218.length co54)) (fun _ hk => ⟨hk.1.1.2, ⟨hk.1.2, hk.1.1.1⟩⟩)⟩, ⟨by (with_reducible repeat (first | apply Kd.R_alloc | apply Kd.R_drewN | apply Kd.R_drew)); exact Kd.R_mono (Kd.R_far (p := ⟨gb1222, 1, none⟩) (Kd.R_far (p := ⟨gb1222, 0, none⟩) (Kd.R_types HO1220.out BK1222.out (by decide)) (fun _ hk => hk.2) (.slice Ao49 t1215.length co49)) (fun _ hk => hk.2) (.slice Ao54 t1218.length co54)) (fun _ hk => ⟨hk.1.1.2, ⟨hk.1.2, hk.1.1.1⟩⟩)⟩, ⟨by (with_reducible repeat (first | refine blk_drewN ?_ _ | refine blk_drew ?_ | refine blk_alloc ?_ _)); refine blk_far ?_ NB1197_1222.out _; (with_reducible repeat (first | refine blk_drewN ?_ _ | refine blk_drew ?_ | refine blk_alloc ?_ _)); refine blk_far ?_ NB1197_1222.out _; (with_reducible repeat (first | refine blk_drewN ?_ _ | refine blk_drew ?_ | refine blk_alloc ?_ _)); exact BK1197.out⟩, ⟨by (with_reducible repeat (first | refine blk_drewN ?_ _ | refine blk_drew ?_ | refine blk_alloc ?_ _)); refine blk_far ?_ NB1201_1222.out _; (with_reducible repeat (first | refine blk_drewN ?_ _ | refine blk_drew ?_ | refine blk_alloc ?_ _)); refine blk_far ?_ NB1201_1222.out _; (with_reducible repeat (first | refine blk_drewN ?_ _ | refine blk_drew ?_ | refine blk_alloc ?_ _)); exact BK1201.out⟩, ⟨by (with_reducible repeat (first | refine blk_drewN ?_ _ | refine blk_drew ?_ | refine blk_alloc ?_ _)); refine blk_far ?_ NB1213_1222.out _; (with_reducible repeat (first | refine blk_drewN ?_ _ | refine blk_drew ?_ | refine blk_alloc ?_ _)); refine blk_far ?_ NB1213_1222.out _; (with_reducible repeat (first | refine blk_drewN ?_ _ | refine blk_drew ?_ | refine blk_alloc ?_ _)); exact BK1213.out⟩, ⟨by (with_reducible repeat (first | refine blk_drewN ?_ _ | refine blk_drew ?_ | refine blk_alloc ?_ _)); refine blk_put (cs := #[.slice Ao49 t1215.length co49, .slice none 0 0]) ?_ 1 _ rfl; (with_reducible repeat (first | refine blk_drewN ?_ _ | refine blk_drew ?_ | refine blk_alloc ?_ _)); refine blk_put (cs := #[.slice none 0 0, .slice none 0 0]) ?_ 0 _ rfl; (with_reducible repeat (first | refine blk_drewN ?_ _ | refine blk_drew ?_ | refine blk_alloc ?_ _)); exact BK1222.out⟩, ⟨by repeat (first | (with_reducible first | exact HB.out | apply below_alloc | apply pw_below_drewN | apply below_drew1 | refine below_set ?_ GE1197.out | refine below_set ?_ GE1201.out | refine below_set ?_ GE1213.out | refine below_set ?_ GE1222.out) | exact HB.out)⟩⟩
                ·rw [if_neg c57] at H
                 have c57b0 : ((t1218.length : Int) == (((rd_T34 l0_0 x3_1).f1).length : Int)) = false := beq_eq_false_iff_ne.mpr c57
                 have c57b1 : ((t1218.length : Int) != (((rd_T34 l0_0 x3_1).f1).length : Int)) = true := bne_iff_ne.mpr c57
                 have c57b2 : (t1218.length == ((rd_T34 l0_0 x3_1).f1).length) = false := by first | simpa using c57 | (simp at c57 ⊢; omega)
                 have H' := Aside0.mk H
                 clear H
                 go_wp2_with (first | ((with_reducible refine gate_callee (f := 65) rfl ?_); refine goesL_ (some 60) rfl rfl Try.func65 (by kernel_rfl) rfl #[.int .i64 t1221] rfl (by (try simp only [List.map_toArray, List.map_cons, List.map_nil]); first | done | rfl | (simp only [List.length_drop, List.length_take]; rfl)) ?_; (with_reducible refine (graduslaw3_num.calls t1221 t1223 _ A55.out).mono ?_); rintro e w' ⟨rfl, ⟨nd, rfl⟩⟩; refine ⟨_, rfl, ?_⟩; have hnb75 := NB1222_1197.out; have hnc75 := NB1197_1222.out; have hnb76 := NB1222_1201.out; have hnc76 := NB1201_1222.out; have hnb77 := NB1222_1213.out; have hnc77 := NB1213_1222.out; have hcz78_0 : w48.cell? ⟨gb1222, 0, none⟩ = some (.slice none 0 0) := (blk_cell BK1222.out 0).trans rfl; have hcz78_1 : w48.cell? ⟨gb1222, 1, none⟩ = some (.slice none 0 0) := (blk_cell BK1222.out 1).trans rfl; have hfz78_0 := blk_frozen BK1222.out 0; have hfz78_1 := blk_frozen BK1222.out 1; have hnb79 := NB1201_1197.out; have hnc79 := NB1197_1201.out; have hnb80 := NB1201_1213.out; have hnc80 := NB1213_1201.out; have hcz81_0 : w48.cell? ⟨gb1201, 0, none⟩ = some (.slice A1200_0 ((rd_T34 l0_0 x3_1).f0).length c1200_0) := (blk_cell BK1201.out 0).trans rfl; have hcz81_1 : w48.cell? ⟨gb1201, 1, none⟩ = some (.slice A1200_1 ((rd_T34 l0_0 x3_1).f1).length c1200_1) := (blk_cell BK1201.out 1).trans rfl; have hfz81_0 := blk_frozen BK1201.out 0; have hfz81_1 := blk_frozen BK1201.out 1))
                 go_meet
                 case rel => exact ⟨_, (true), (by first | rfl | (simp; done) | (simp [*]; done)), H', ⟨by have := HK1.out; have := HJ9.out; have := HK3.out; first | omega | exact Nat.le_refl _⟩, ⟨by (with_reducible repeat (first | apply Kd.N_alloc | apply Kd.N_drewN | apply Kd.N_drew)); exact Kd.N_mono (Kd.N_far (p := ⟨gb1222, 1, none⟩) (Kd.N_far (p := ⟨gb1222, 0, none⟩) (Kd.N_mono HO_5.out (fun k_ hk => (⟨hk, hk.2⟩ : _ ∧ k_ ≠ gb1222))) (fun _ hk => hk.2) (.slice Ao49 t1215.length co49)) (fun _ hk => hk.2) (.slice Ao54 t1218.length co54)) (fun _ hk => ⟨hk.1.1.1.1.1, ⟨hk.1.1.1.1.2.1, ⟨hk.1.1.1.2, ⟨hk.1.1.2, ⟨hk.1.1.1.1.2.2.1, ⟨hk.1.1.1.1.2.2.2.1, ⟨hk.1.1.1.1.2.2.2.2, hk.1.2⟩⟩⟩⟩⟩⟩⟩)⟩, ⟨by (with_reducible repeat (first | apply Kd.R_alloc | apply Kd.R_drewN | apply Kd.R_drew)); exact Kd.R_mono (Kd.R_far (p := ⟨gb1222, 1, none⟩) (Kd.R_far (p := ⟨gb1222, 0, none⟩) (Kd.R_types HO1208.out BK1222.out (by decide)) (fun _ hk => hk.2) (.slice Ao49 t1215.length co49)) (fun _ hk => hk.2) (.slice Ao54 t1218.length co54)) (fun _ hk => ⟨hk.1.1.1, ⟨hk.1.1.2, hk.1.2⟩⟩)⟩, ⟨by (with_reducible repeat (first | apply Kd.R_alloc | apply Kd.R_drewN | apply Kd.R_drew)); exact Kd.R_mono (Kd.R_far (p := ⟨gb1222, 1, none⟩) (Kd.R_far (p := ⟨gb1222, 0, none⟩) (Kd.R_types HO1211.out BK1222.out (by decide)) (fun _ hk => hk.2) (.slice Ao49 t1215.length co49)) (fun _ hk => hk.2) (.slice Ao54 t1218.length co54)) (fun _ hk => ⟨hk.1.1.1, ⟨hk.1.1.2, hk.1.2⟩⟩)⟩, ⟨by (with_reducible repeat (first | apply Kd.R_alloc | apply Kd.R_drewN | apply Kd.R_drew)); exact Kd.R_mono (Kd.R_far (p := ⟨gb1222, 1, none⟩) (Kd.R_far (p := ⟨gb1222, 0, none⟩) (Kd.R_types HO1217.out BK1222.out (by decide)) (fun _ hk => hk.2) (.slice Ao49 t1215.length co49)) (fun _ hk => hk.2) (.slice Ao54 t1218.length co54)) (fun _ hk => ⟨hk.1.1.2, ⟨hk.1.2, hk.1.1.1⟩⟩)⟩, ⟨by (with_reducible repeat (first | apply Kd.R_alloc | apply Kd.R_drewN | apply Kd.R_drew)); exact Kd.R_mono (Kd.R_far (p := ⟨gb1222, 1, none⟩) (Kd.R_far (p := ⟨gb1222, 0, none⟩) (Kd.R_types HO1220.out BK1222.out (by decide)) (fun _ hk => hk.2) (.slice Ao49 t1215.length co49)) (fun _ hk => hk.2) (.slice Ao54 t1218.length co54)) (fun _ hk => ⟨hk.1.1.2, ⟨hk.1.2, hk.1.1.1⟩⟩)⟩, ⟨by (with_reducible repeat (first | refine blk_drewN ?_ _ | refine blk_drew ?_ | refine blk_alloc ?_ _)); refine blk_far ?_ NB1197_1222.out _; (with_reducible repeat (first | refine blk_drewN ?_ _ | refine blk_drew ?_ | refine blk_alloc ?_ _)); refine blk_far ?_ NB1197_1222.out _; (with_reducible repeat (first | refine blk_drewN ?_ _ | refine blk_drew ?_ | refine blk_alloc ?_ _)); exact BK1197.out⟩, ⟨by (with_reducible repeat (first | refine blk_drewN ?_ _ | refine blk_drew ?_ | refine blk_alloc ?_ _)); refine blk_far ?_ NB1201_1222.out _; (with_reducible repeat (first | refine blk_drewN ?_ _ | refine blk_drew ?_ | refine blk_alloc ?_ _)); refine blk_far ?_ NB1201_1222.out _; (with_reducible repeat (first | refine blk_drewN ?_ _ | refine blk_drew ?_ | refine blk_alloc ?_ _)); exact BK1201.out⟩, ⟨by (with_reducible repeat (first | refine blk_drewN ?_ _ | refine blk_drew ?_ | refine blk_alloc ?_ _)); refine blk_far ?_ NB1213_1222.out _; (with_reducible repeat (first | refine blk_drewN ?_ _ | refine blk_drew ?_ | refine blk_alloc ?_ _)); refine blk_far ?_ NB1213_1222.out _; (with_reducible repeat (first | refine blk_drewN ?_ _ | refine blk_drew ?_ | refine blk_alloc ?_ _)); exact BK1213.out⟩, ⟨by (with_reducible repeat (first | refine blk_drewN ?_ _ | refine blk_drew ?_ | refine blk_alloc ?_ _)); refine blk_put (cs := #[.slice Ao49 t1215.length co49, .slice none 0 0]) ?_ 1 _ rfl; (with_reducible repeat (first | refine blk_drewN ?_ _ | refine blk_drew ?_ | refine blk_alloc ?_ _)); refine blk_put (cs := #[.slice none 0 0, .slice none 0 0]) ?_ 0 _ rfl; (with_reducible repeat (first | refine blk_drewN ?_ _ | refine blk_drew ?_ | refine blk_alloc ?_ _)); exact BK1222.out⟩, ⟨by repeat (first | (with_reducible first | exact HB.out | apply below_alloc | apply pw_below_drewN | apply below_drew1 | refine below_set ?_ GE1197.out | refine below_set ?_ GE1201.out | refine below_set ?_ GE1213.out | refine below_set ?_ GE1222.out) | exact HB.out)⟩⟩
               ·rw [if_neg c56] at H
                have c56b0 : (t1223 == 0) = false := beq_eq_false_iff_ne.mpr c56
                have c56b1 : (t1223 != 0) = true := bne_iff_ne.mpr c56
                (first | rw [c56b0] | (simp only [i64_w, i32_w]; rw [c56b0]) | skip)
                have H' := Aside0.mk H
                clear H
                go_wp2_with (first | ((with_reducible refine gate_callee (f := 65) rfl ?_); refine goesL_ (some 60) rfl rfl Try.func65 (by kernel_rfl) rfl #[.int .i64 t1221] rfl (by (try simp only [List.map_toArray, List.map_cons, List.map_nil]); first | done | rfl | (simp only [List.length_drop, List.length_take]; rfl)) ?_; (with_reducible refine (graduslaw3_num.calls t1221 t1223 _ A55.out).mono ?_); rintro e w' ⟨rfl, ⟨nd, rfl⟩⟩; refine ⟨_, rfl, ?_⟩))
                go_meet
                case rel => exact ⟨_, (true), (by first | rfl | (simp; done) | (simp [*]; done)), H', ⟨by have := HK1.out; have := HJ9.out; have := HK3.out; first | omega | exact Nat.le_refl _⟩, ⟨by (with_reducible repeat (first | apply Kd.N_alloc | apply Kd.N_drewN | apply Kd.N_drew)); exact Kd.N_mono (Kd.N_far (p := ⟨gb1222, 1, none⟩) (Kd.N_far (p := ⟨gb1222, 0, none⟩) (Kd.N_mono HO_5.out (fun k_ hk => (⟨hk, hk.2⟩ : _ ∧ k_ ≠ gb1222))) (fun _ hk => hk.2) (.slice Ao49 t1215.length co49)) (fun _ hk => hk.2) (.slice Ao54 t1218.length co54)) (fun _ hk => ⟨hk.1.1.1.1.1, ⟨hk.1.1.1.1.2.1, ⟨hk.1.1.1.2, ⟨hk.1.1.2, ⟨hk.1.1.1.1.2.2.1, ⟨hk.1.1.1.1.2.2.2.1, ⟨hk.1.1.1.1.2.2.2.2, hk.1.2⟩⟩⟩⟩⟩⟩⟩)⟩, ⟨by (with_reducible repeat (first | apply Kd.R_alloc | apply Kd.R_drewN | apply Kd.R_drew)); exact Kd.R_mono (Kd.R_far (p := ⟨gb1222, 1, none⟩) (Kd.R_far (p := ⟨gb1222, 0, none⟩) (Kd.R_types HO1208.out BK1222.out (by decide)) (fun _ hk => hk.2) (.slice Ao49 t1215.length co49)) (fun _ hk => hk.2) (.slice Ao54 t1218.length co54)) (fun _ hk => ⟨hk.1.1.1, ⟨hk.1.1.2, hk.1.2⟩⟩)⟩, ⟨by (with_reducible repeat (first | apply Kd.R_alloc | apply Kd.R_drewN | apply Kd.R_drew)); exact Kd.R_mono (Kd.R_far (p := ⟨gb1222, 1, none⟩) (Kd.R_far (p := ⟨gb1222, 0, none⟩) (Kd.R_types HO1211.out BK1222.out (by decide)) (fun _ hk => hk.2) (.slice Ao49 t1215.length co49)) (fun _ hk => hk.2) (.slice Ao54 t1218.length co54)) (fun _ hk => ⟨hk.1.1.1, ⟨hk.1.1.2, hk.1.2⟩⟩)⟩, ⟨by (with_reducible repeat (first | apply Kd.R_alloc | apply Kd.R_drewN | apply Kd.R_drew)); exact Kd.R_mono (Kd.R_far (p := ⟨gb1222, 1, none⟩) (Kd.R_far (p := ⟨gb1222, 0, none⟩) (Kd.R_types HO1217.out BK1222.out (by decide)) (fun _ hk => hk.2) (.slice Ao49 t1215.length co49)) (fun _ hk => hk.2) (.slice Ao54 t1218.length co54)) (fun _ hk => ⟨hk.1.1.2, ⟨hk.1.2, hk.1.1.1⟩⟩)⟩, ⟨by (with_reducible repeat (first | apply Kd.R_alloc | apply Kd.R_drewN | apply Kd.R_drew)); exact Kd.R_mono (Kd.R_far (p := ⟨gb1222, 1, none⟩) (Kd.R_far (p := ⟨gb1222, 0, none⟩) (Kd.R_types HO1220.out BK1222.out (by decide)) (fun _ hk => hk.2) (.slice Ao49 t1215.length co49)) (fun _ hk => hk.2) (.slice Ao54 t1218.length co54)) (fun _ hk => ⟨hk.1.1.2, ⟨hk.1.2, hk.1.1.1⟩⟩)⟩, ⟨by (with_reducible repeat (first | refine blk_drewN ?_ _ | refine blk_drew ?_ | refine blk_alloc ?_ _)); refine blk_far ?_ NB1197_1222.out _; (with_reducible repeat (first | refine blk_drewN ?_ _ | refine blk_drew ?_ | refine blk_alloc ?_ _)); refine blk_far ?_ NB1197_1222.out _; (with_reducible repeat (first | refine blk_drewN ?_ _ | refine blk_drew ?_ | refine blk_alloc ?_ _)); exact BK1197.out⟩, ⟨by (with_reducible repeat (first | refine blk_drewN ?_ _ | refine blk_drew ?_ | refine blk_alloc ?_ _)); refine blk_far ?_ NB1201_1222.out _; (with_reducible repeat (first | refine blk_drewN ?_ _ | refine blk_drew ?_ | refine blk_alloc ?_ _)); refine blk_far ?_ NB1201_1222.out _; (with_reducible repeat (first | refine blk_drewN ?_ _ | refine blk_drew ?_ | refine blk_alloc ?_ _)); exact BK1201.out⟩, ⟨by (with_reducible repeat (first | refine blk_drewN ?_ _ | refine blk_drew ?_ | refine blk_alloc ?_ _)); refine blk_far ?_ NB1213_1222.out _; (with_reducible repeat (first | refine blk_drewN ?_ _ | refine blk_drew ?_ | refine blk_alloc ?_ _)); refine blk_far ?_ NB1213_1222.out _; (with_reducible repeat (first | refine blk_drewN ?_ _ | refine blk_drew ?_ | refine blk_alloc ?_ _)); exact BK1213.out⟩, ⟨by (with_reducible repeat (first | refine blk_drewN ?_ _ | refine blk_drew ?_ | refine blk_alloc ?_ _)); refine blk_put (cs := #[.slice Ao49 t1215.length co49, .slice none 0 0]) ?_ 1 _ rfl; (with_reducible repeat (first | refine blk_drewN ?_ _ | refine blk_drew ?_ | refine blk_alloc ?_ _)); refine blk_put (cs := #[.slice none 0 0, .slice none 0 0]) ?_ 0 _ rfl; (with_reducible repeat (first | refine blk_drewN ?_ _ | refine blk_drew ?_ | refine blk_alloc ?_ _)); exact BK1222.out⟩, ⟨by repeat (first | (with_reducible first | exact HB.out | apply below_alloc | apply pw_below_drewN | apply below_drew1 | refine below_set ?_ GE1197.out | refine below_set ?_ GE1201.out | refine below_set ?_ GE1213.out | refine below_set ?_ GE1222.out) | exact HB.out)⟩⟩
              case rest =>
               clear HC32
               try clear c1
               try clear p1
               try clear q1
               try clear hx1
               try clear c2
               try clear p2
               try clear c3
               try clear c4
               try clear c5
               try clear c6
               try clear p6
               try clear c7
               try clear c8
               try clear c11
               try clear c11b0
               try clear c12
               try clear p12
               try clear q12
               try clear hx12
               try clear c14
               try clear c15
               try clear c15b0
               try clear c16
               try clear c16b0
               try clear c20
               try clear c26
               try clear c26b0
               try clear c27
               try clear c27b0
               try clear c30
               try clear c30b0
               try clear c30b1
               try clear c42
               try clear c43
               try clear c45
               try clear c50
               try clear c51
               try clear c52
               try clear c56
               try clear c56b0
               try clear c56b1
               try clear c57
               try clear c57b0
               try clear c57b1
               try clear c57b2
               try clear c58
               try clear c58b0
               try clear c58b1
               try clear c58b2
               try clear c59
               try clear c60
               try clear c61
               try clear c63
               try clear c64
               try clear p64
               try clear c65
               try clear c66
               try clear c67
               try clear c68
               try clear c70
               try clear c71
               try clear c73
               try clear c75
               try clear c76
               try clear c77
               try clear c79
               try clear c80
               try clear hcz12_0
               try clear hcz12_1
               try clear hcz12_2
               try clear hcz13_0
               try clear hcz13_1
               try clear hcz13_2
               try clear hcz18_0
               try clear hcz18_1
               try clear hcz18_2
               try clear hcz21_0
               try clear hcz21_1
               try clear hcz23_0
               try clear hcz23_1
               try clear hcz23_2
               try clear hcz24_0
               try clear hcz24_1
               try clear hcz44_0
               try clear hcz44_1
               try clear hcz46_0
               try clear hcz46_1
               try clear hcz53_0
               try clear hcz53_1
               try clear hcz5_0
               try clear hcz5_1
               try clear hcz5_2
               try clear hcz62_0
               try clear hcz62_1
               try clear hcz65_0
               try clear hcz65_1
               try clear hcz69_0
               try clear hcz69_1
               try clear hcz72_0
               try clear hcz72_1
               try clear hcz74_0
               try clear hcz74_1
               try clear hcz78_0
               try clear hcz78_1
               try clear hcz81_0
               try clear hcz81_1
               try clear hcz8_0
               try clear hcz8_1
               try clear hcz8_2
               try clear hfz12_0
               try clear hfz12_1
               try clear hfz12_2
               try clear hfz13_0
               try clear hfz13_1
               try clear hfz13_2
               try clear hfz18_0
               try clear hfz18_1
               try clear hfz18_2
               try clear hfz21_0
               try clear hfz21_1
               try clear hfz23_0
               try clear hfz23_1
               try clear hfz23_2
               try clear hfz24_0
               try clear hfz24_1
               try clear hfz44_0
               try clear hfz44_1
               try clear hfz46_0
               try clear hfz46_1
               try clear hfz53_0
               try clear hfz53_1
               try clear hfz5_0
               try clear hfz5_1
               try clear hfz5_2
               try clear hfz62_0
               try clear hfz62_1
               try clear hfz65_0
               try clear hfz65_1
               try clear hfz69_0
               try clear hfz69_1
               try clear hfz72_0
               try clear hfz72_1
               try clear hfz74_0
               try clear hfz74_1
               try clear hfz78_0
               try clear hfz78_1
               try clear hfz81_0
               try clear hfz81_1
               try clear hfz8_0
               try clear hfz8_1
               try clear hfz8_2
               try clear hx1200_0
               try clear hx1200_1
               try clear hx1205_0
               try clear p1
               try clear p12
               try clear p1200
               try clear p1205
               try clear p2
               try clear q1
               try clear q12
               try clear q1200
               try clear q1205
               obtain ⟨kq, x86_31, rfl, HA, HJ31, HO_5, HO_1214000, HO_1214001, HO_1223000, HO_1223001, BK1197, BK1201, BK1213, BK1222, HB⟩ := hcut
               cases kq with
               | zero => exact absurd HA.out (by simp [graduslaw3_TurnBack.j3])
               | succ kj31 =>
                have H := HA.out
                clear HA
                simp only [graduslaw3_TurnBack.j3] at H
                by_cases c82 : x86_31 = true
                ·subst c82
                 have H1 : (none) = some r := by rw [if_pos rfl] at H; exact H
                 clear H
                 have H := H1
                 clear H1
                 exact absurd H (by simp)
                ·replace c82 := Bool.eq_false_iff.mpr c82
                 subst c82
                 have H1 : (if (((rd_T34 l0_0 x3_1).f1).length : Int) = 0 then (none) else ((gradusref1_Scale.f kj31 ((rd_T34 l0_0 x3_1).f0) ((rd_T34 l0_0 x3_1).f1) (wrap64 ((t1209.length : Int) / (((rd_T34 l0_0 x3_1).f1).length : Int)))).bind fun bt1224 => ((gradusref0_EqTensor.f kj31 t1215 t1218 bt1224.1 bt1224.2).bind fun t1230 => (if t1230 = true then (graduslaw3_TurnBack.l1 kj31 x3_1 t1202 (wrap64 (x6_3 + 1)) l0_0 l0_1 l0_2 ((rd_T34 l0_0 x3_1).f0) ((rd_T34 l0_0 x3_1).f1)) else (none))))) = some r := by rw [if_neg (show ¬ (false = true) by decide)] at H; exact H
                 clear H
                 have H := H1
                 clear H1
                 by_cases c83 : (((rd_T34 l0_0 x3_1).f1).length : Int) = 0
                 ·rw [if_pos c83] at H
                  exact absurd H (by simp)
                 ·rw [if_neg c83] at H
                  have c83b0 : ((((rd_T34 l0_0 x3_1).f1).length : Int) == 0) = false := beq_eq_false_iff_ne.mpr c83
                  have c83b1 : ((((rd_T34 l0_0 x3_1).f1).length : Int) != 0) = true := bne_iff_ne.mpr c83
                  have c83b2 : ¬ (((rd_T34 l0_0 x3_1).f1) = []) := fun h_ => c83 (by rw [h_]; rfl)
                  replace H := Option.bind_eq_some_iff.mp H
                  obtain ⟨⟨t1224, t1227⟩, A840, H⟩ := H
                  replace H : ((gradusref0_EqTensor.f kj31 t1215 t1218 t1224 t1227).bind fun t1230 => (if t1230 = true then (graduslaw3_TurnBack.l1 kj31 x3_1 t1202 (wrap64 (x6_3 + 1)) l0_0 l0_1 l0_2 ((rd_T34 l0_0 x3_1).f0) ((rd_T34 l0_0 x3_1).f1)) else (none))) = some r := H
                  have A84 := Aside0.mk A840
                  clear A840
                  replace H := Option.bind_eq_some_iff.mp H
                  obtain ⟨t1230, A850, H⟩ := H
                  replace H : (if t1230 = true then (graduslaw3_TurnBack.l1 kj31 x3_1 t1202 (wrap64 (x6_3 + 1)) l0_0 l0_1 l0_2 ((rd_T34 l0_0 x3_1).f0) ((rd_T34 l0_0 x3_1).f1)) else (none)) = some r := H
                  have A85 := Aside0.mk A850
                  clear A850
                  by_cases c86 : t1230 = true
                  ·subst c86
                   have H1 : (graduslaw3_TurnBack.l1 kj31 x3_1 t1202 (wrap64 (x6_3 + 1)) l0_0 l0_1 l0_2 ((rd_T34 l0_0 x3_1).f0) ((rd_T34 l0_0 x3_1).f1)) = some r := by rw [if_pos rfl] at H; exact H
                   clear H
                   have H := H1
                   clear H1
                   have H' := Aside0.mk H
                   clear H
                   try go_wp2
                   have n0_ := Aside0.mk (Kd.N_drew HO_5.out)
                   have n1_ := Aside0.mk (Kd.R_drew HO_1214000.out)
                   have n2_ := Aside0.mk (Kd.R_drew HO_1214001.out)
                   have n3_ := Aside0.mk (Kd.R_drew HO_1223000.out)
                   have n4_ := Aside0.mk (Kd.R_drew HO_1223001.out)
                   have n5_ := Aside0.mk (blk_drew BK1197.out)
                   have n6_ := Aside0.mk (blk_drew BK1201.out)
                   have n7_ := Aside0.mk (blk_drew BK1213.out)
                   have n8_ := Aside0.mk (blk_drew BK1222.out)
                   have n9_ := Aside0.mk (below_drew1 HB.out)
                   clear HO_5
                   clear HO_1214000
                   clear HO_1214001
                   clear HO_1223000
                   clear HO_1223001
                   clear BK1197
                   clear BK1201
                   clear BK1213
                   clear BK1222
                   clear HB
                   have HO_5 := n0_
                   have HO_1214000 := n1_
                   have HO_1214001 := n2_
                   have HO_1223000 := n3_
                   have HO_1223001 := n4_
                   have BK1197 := n5_
                   have BK1201 := n6_
                   have BK1213 := n7_
                   have BK1222 := n8_
                   have HB := n9_
                   clear n0_ n1_ n2_ n3_ n4_ n5_ n6_ n7_ n8_ n9_
                   refine start_ (n := 12) (S := fun w' => w'.cell? ⟨gb1222, 0, none⟩ = some (.slice Ao49 t1215.length co49) ∧ w'.cell? ⟨gb1222, 1, none⟩ = some (.slice Ao54 t1218.length co54) ∧ w'.cell? ⟨gb1201, 0, none⟩ = some (.slice A1200_0 ((rd_T34 l0_0 x3_1).f0).length c1200_0) ∧ w'.cell? ⟨gb1201, 1, none⟩ = some (.slice A1200_1 ((rd_T34 l0_0 x3_1).f1).length c1200_1) ∧ w'.cell? ⟨gb1213, 0, none⟩ = some (.slice Ao38 t1206.length co38) ∧ w'.cell? ⟨gb1213, 1, none⟩ = some (.slice Ao40 t1209.length co40)) (ds := []) #[false, false, false, false, false, false, false, false, false, false, false, false] (by kernel_rfl) rfl rfl ⟨(blk_cell BK1222.out 0).trans rfl, (blk_cell BK1222.out 1).trans rfl, (blk_cell BK1201.out 0).trans rfl, (blk_cell BK1201.out 1).trans rfl, (blk_cell BK1213.out 0).trans rfl, (blk_cell BK1213.out 1).trans rfl⟩ (fun hHeld => ?_); refine with_tabW graduslaw3_TurnBack.tab16 graduslaw3_TurnBack.bits16 (fun HT_ HW_ => ?_)
                   generalize wc.drew = w87 at HO_5 HO_1214000 HO_1214001 HO_1223000 HO_1223001 BK1197 BK1201 BK1213 BK1222 HB hHeld ⊢
                   refine pure_ (i := 2) (N := some 89) (v := ?_) (a' := ?_) #[false, false, true, false, false, false, false, false, false, false, false, false] rfl rfl (any_of HT_.out (by kernel_rfl)) (fun _ _ _ h => h) (Or.inl ⟨by rfl, ?_⟩) ?_ ?_
                   rotate_left
                   ·intro w'
                    go_simp
                    with_reducible rfl
                   rotate_left
                   ·simp only [Act.put, List.setIfInBounds_toArray, List.set_cons_zero, List.set_cons_succ, i64_w, i32_w]
                    rfl
                   refine pure_ (i := 5) (N := some 92) (v := ?_) (a' := ?_) #[false, false, true, false, false, true, false, false, false, false, false, false] rfl rfl (any_of HT_.out (by kernel_rfl)) (fun _ _ _ h => h) (Or.inl ⟨by rfl, ?_⟩) ?_ ?_
                   rotate_left
                   ·intro w'
                    go_simp
                    with_reducible rfl
                   rotate_left
                   ·simp only [Act.put, List.setIfInBounds_toArray, List.set_cons_zero, List.set_cons_succ, i64_w, i32_w]
                    rfl
                   refine take_ (i := 0) (N := some 87) (v := ?_) (a' := ?_) #[true, false, true, false, false, true, false, false, false, false, false, false] rfl rfl (take_ofW HT_.out HW_.out (by kernel_rfl)) (fun _ _ _ h => h) (Or.inl ⟨by rfl, ?_⟩) hHeld ?_ ?_
                   rotate_left
                   ·rintro w' ⟨s0, s1, s2, s3, s4, s5⟩
                    go_simp
                    with_reducible rfl
                   rotate_left
                   ·simp only [Act.put, List.setIfInBounds_toArray, List.set_cons_zero, List.set_cons_succ, i64_w, i32_w]
                    rfl
                   refine take_ (i := 1) (N := some 88) (v := ?_) (a' := ?_) #[true, true, true, false, false, true, false, false, false, false, false, false] rfl rfl (take_ofW HT_.out HW_.out (by kernel_rfl)) (fun _ _ _ h => h) (Or.inl ⟨by rfl, ?_⟩) hHeld ?_ ?_
                   rotate_left
                   ·rintro w' ⟨s0, s1, s2, s3, s4, s5⟩
                    go_simp
                    with_reducible rfl
                   rotate_left
                   ·simp only [Act.put, List.setIfInBounds_toArray, List.set_cons_zero, List.set_cons_succ, i64_w, i32_w]
                    rfl
                   refine take_ (i := 3) (N := some 90) (v := ?_) (a' := ?_) #[true, true, true, true, false, true, false, false, false, false, false, false] rfl rfl (take_ofW HT_.out HW_.out (by kernel_rfl)) (fun _ _ _ h => h) (Or.inl ⟨by rfl, ?_⟩) hHeld ?_ ?_
                   rotate_left
                   ·rintro w' ⟨s0, s1, s2, s3, s4, s5⟩
                    go_simp
                    with_reducible rfl
                   rotate_left
                   ·simp only [Act.put, List.setIfInBounds_toArray, List.set_cons_zero, List.set_cons_succ, i64_w, i32_w]
                    rfl
                   refine pure_ (i := 4) (N := some 91) (v := ?_) (a' := ?_) #[true, true, true, true, true, true, false, false, false, false, false, false] rfl rfl (any_of HT_.out (by kernel_rfl)) (fun _ _ _ h => h) (Or.inl ⟨by rfl, ?_⟩) ?_ ?_
                   rotate_left
                   ·intro w'
                    go_simp
                    with_reducible rfl
                   rotate_left
                   ·simp only [Act.put, List.setIfInBounds_toArray, List.set_cons_zero, List.set_cons_succ, i64_w, i32_w]
                    rfl
                   refine take_ (i := 6) (N := some 93) (v := ?_) (a' := ?_) #[true, true, true, true, true, true, true, false, false, false, false, false] rfl rfl (take_ofW HT_.out HW_.out (by kernel_rfl)) (fun _ _ _ h => h) (Or.inl ⟨by rfl, ?_⟩) hHeld ?_ ?_
                   rotate_left
                   ·rintro w' ⟨s0, s1, s2, s3, s4, s5⟩
                    go_simp
                    with_reducible rfl
                   rotate_left
                   ·simp only [Act.put, List.setIfInBounds_toArray, List.set_cons_zero, List.set_cons_succ, i64_w, i32_w]
                    rfl
                   refine pure_ (i := 7) (N := some 94) (v := ?_) (a' := ?_) #[true, true, true, true, true, true, true, true, false, false, false, false] rfl rfl (any_of HT_.out (by kernel_rfl)) (fun _ _ _ h => h) (Or.inl ⟨by rfl, ?_⟩) ?_ ?_
                   rotate_left
                   ·intro w'
                    go_simp
                    with_reducible rfl
                   rotate_left
                   ·simp only [Act.put, List.setIfInBounds_toArray, List.set_cons_zero, List.set_cons_succ, i64_w, i32_w]
                    rfl
                   refine pure_ (i := 8) (N := some 95) (v := ?_) (a' := ?_) #[true, true, true, true, true, true, true, true, true, false, false, false] rfl rfl (any_of HT_.out (by kernel_rfl)) (fun _ _ _ h => h) (Or.inl ⟨by rfl, ?_⟩) ?_ ?_
                   rotate_left
                   ·intro w'
                    go_simp
                    with_reducible rfl
                   rotate_left
                   ·simp only [Act.put, List.setIfInBounds_toArray, List.set_cons_zero, List.set_cons_succ, i64_w, i32_w]
                    rfl
                   refine one_ (i := 9) (N := some 96) #[true, true, true, true, true, true, true, true, true, true, false, false] rfl rfl (one_of HT_.out (by kernel_rfl)) (by decide) (fun K hK => ?_)
                   refine goes_ Try.func60 (by kernel_rfl) rfl #[.agg #[.slice A1200_0 ((rd_T34 l0_0 x3_1).f0).length c1200_0, .slice A1200_1 ((rd_T34 l0_0 x3_1).f1).length c1200_1], .int .i64 (wrap64 ((t1209.length : Int) / (((rd_T34 l0_0 x3_1).f1).length : Int)))] (by rfl) rfl rfl (by (try simp only [List.map_toArray, List.map_cons, List.map_nil]); first | done | rfl | (simp only [List.length_drop, List.length_take]; rfl)) ?_
                   with_reducible refine (gradusref1_Scale.calls kj31 _ _ ((rd_T34 l0_0 x3_1).f0) _ _ ((rd_T34 l0_0 x3_1).f1) (wrap64 ((t1209.length : Int) / (((rd_T34 l0_0 x3_1).f1).length : Int))) t1224 t1227 _ ?side1 ?side2 ?side3 ?side4 A84.out).mono ?_
                   (case side1 => repeat (first | exact (Kd.C_below HR1200_0.out HB.out) | (with_reducible refine Kd.C_alloc ?_ _) | (with_reducible refine Kd.C_drewN ?_ _) | (with_reducible refine Kd.C_drew ?_)))
                   (case side2 => exact HC1200_0.out)
                   (case side3 => repeat (first | exact (Kd.C_below HR1200_1.out HB.out) | (with_reducible refine Kd.C_alloc ?_ _) | (with_reducible refine Kd.C_drewN ?_ _) | (with_reducible refine Kd.C_drew ?_)))
                   (case side4 => exact HC1200_1.out)
                   rintro e w88 ⟨v1225, v1228, rfl, ho0, ho1, hb⟩
                   refine ⟨_, rfl, ?_⟩
                   have n0_ := Aside0.mk (Kd.N_mono (Kd.N_told (Kd.N_told (Kd.N_old (by (with_reducible repeat (first | apply Kd.N_alloc | apply Kd.N_drewN | apply Kd.N_drew)); exact HO_5.out) hb) (Kd.R_base ho0)) (Kd.R_base ho1)) (fun _ h_ => h_.1))
                   have n1_ := Aside0.mk (Kd.R_mono (Kd.R_told (Kd.R_told (Kd.R_old (by (with_reducible repeat (first | apply Kd.R_alloc | apply Kd.R_drewN | apply Kd.R_drew)); exact HO_1214000.out) hb) (Kd.R_base ho0)) (Kd.R_base ho1)) (fun _ h_ => h_.1))
                   have n2_ := Aside0.mk (Kd.R_mono (Kd.R_told (Kd.R_told (Kd.R_old (by (with_reducible repeat (first | apply Kd.R_alloc | apply Kd.R_drewN | apply Kd.R_drew)); exact HO_1214001.out) hb) (Kd.R_base ho0)) (Kd.R_base ho1)) (fun _ h_ => h_.1))
                   have n3_ := Aside0.mk (Kd.R_mono (Kd.R_told (Kd.R_told (Kd.R_old (by (with_reducible repeat (first | apply Kd.R_alloc | apply Kd.R_drewN | apply Kd.R_drew)); exact HO_1223000.out) hb) (Kd.R_base ho0)) (Kd.R_base ho1)) (fun _ h_ => h_.1))
                   have n4_ := Aside0.mk (Kd.R_mono (Kd.R_told (Kd.R_told (Kd.R_old (by (with_reducible repeat (first | apply Kd.R_alloc | apply Kd.R_drewN | apply Kd.R_drew)); exact HO_1223001.out) hb) (Kd.R_base ho0)) (Kd.R_base ho1)) (fun _ h_ => h_.1))
                   have n5_ := Aside0.mk (Kd.R_lower (Kd.R_new' (Kd.R_new' (Kd.R_new' (Kd.R_new' ho0 (Kd.R_lt (by (with_reducible repeat (first | apply Kd.R_alloc | apply Kd.R_drewN | apply Kd.R_drew)); exact HO_1214000.out))) (Kd.R_lt (by (with_reducible repeat (first | apply Kd.R_alloc | apply Kd.R_drewN | apply Kd.R_drew)); exact HO_1214001.out))) (Kd.R_lt (by (with_reducible repeat (first | apply Kd.R_alloc | apply Kd.R_drewN | apply Kd.R_drew)); exact HO_1223000.out))) (Kd.R_lt (by (with_reducible repeat (first | apply Kd.R_alloc | apply Kd.R_drewN | apply Kd.R_drew)); exact HO_1223001.out))) (below_size (by repeat (first | (with_reducible first | exact HB.out | apply below_alloc | apply pw_below_drewN | apply below_drew1 | refine below_set ?_ GE1197.out | refine below_set ?_ GE1201.out | refine below_set ?_ GE1213.out | refine below_set ?_ GE1222.out) | exact HB.out))))
                   have n6_ := Aside0.mk (Kd.R_lower (Kd.R_new' (Kd.R_new' (Kd.R_new' (Kd.R_new' ho1 (Kd.R_lt (by (with_reducible repeat (first | apply Kd.R_alloc | apply Kd.R_drewN | apply Kd.R_drew)); exact HO_1214000.out))) (Kd.R_lt (by (with_reducible repeat (first | apply Kd.R_alloc | apply Kd.R_drewN | apply Kd.R_drew)); exact HO_1214001.out))) (Kd.R_lt (by (with_reducible repeat (first | apply Kd.R_alloc | apply Kd.R_drewN | apply Kd.R_drew)); exact HO_1223000.out))) (Kd.R_lt (by (with_reducible repeat (first | apply Kd.R_alloc | apply Kd.R_drewN | apply Kd.R_drew)); exact HO_1223001.out))) (below_size (by repeat (first | (with_reducible first | exact HB.out | apply below_alloc | apply pw_below_drewN | apply below_drew1 | refine below_set ?_ GE1197.out | refine below_set ?_ GE1201.out | refine below_set ?_ GE1213.out | refine below_set ?_ GE1222.out) | exact HB.out))))
                   have n7_ := Aside0.mk (blk_below (g := gb1197) (o := .cells #[.slice (some ad1200) l0_0.length c0_0, .slice A0_1 l0_1.length c0_1, .slice A0_2 l0_2.length c0_2] 67 (0, 0)) (by (with_reducible repeat (first | refine blk_drewN ?_ _ | refine blk_drew ?_ | refine blk_alloc ?_ _)); exact BK1197.out) hb)
                   have n8_ := Aside0.mk (blk_below (g := gb1201) (o := .cells #[.slice A1200_0 ((rd_T34 l0_0 x3_1).f0).length c1200_0, .slice A1200_1 ((rd_T34 l0_0 x3_1).f1).length c1200_1] 34 (0, 0)) (by (with_reducible repeat (first | refine blk_drewN ?_ _ | refine blk_drew ?_ | refine blk_alloc ?_ _)); exact BK1201.out) hb)
                   have n9_ := Aside0.mk (blk_below (g := gb1213) (o := .cells #[.slice Ao38 t1206.length co38, .slice Ao40 t1209.length co40] 34 (0, 0)) (by (with_reducible repeat (first | refine blk_drewN ?_ _ | refine blk_drew ?_ | refine blk_alloc ?_ _)); exact BK1213.out) hb)
                   have n10_ := Aside0.mk (blk_below (g := gb1222) (o := .cells #[.slice Ao49 t1215.length co49, .slice Ao54 t1218.length co54] 34 (0, 0)) (by (with_reducible repeat (first | refine blk_drewN ?_ _ | refine blk_drew ?_ | refine blk_alloc ?_ _)); exact BK1222.out) hb)
                   have n11_ := Aside0.mk (below_step (by repeat (first | (with_reducible first | exact HB.out | apply below_alloc | apply pw_below_drewN | apply below_drew1 | refine below_set ?_ GE1197.out | refine below_set ?_ GE1201.out | refine below_set ?_ GE1213.out | refine below_set ?_ GE1222.out) | exact HB.out)) hb)
                   clear HO_5
                   clear HO_1214000
                   clear HO_1214001
                   clear HO_1223000
                   clear HO_1223001
                   clear BK1197
                   clear BK1201
                   clear BK1213
                   clear BK1222
                   clear HB
                   have HO_5 := n0_
                   have HO_1214000 := n1_
                   have HO_1214001 := n2_
                   have HO_1223000 := n3_
                   have HO_1223001 := n4_
                   have HO1226 := n5_
                   have HO1229 := n6_
                   have BK1197 := n7_
                   have BK1201 := n8_
                   have BK1213 := n9_
                   have BK1222 := n10_
                   have HB := n11_
                   clear n0_ n1_ n2_ n3_ n4_ n5_ n6_ n7_ n8_ n9_ n10_ n11_
                   (try clear hb)
                   (try clear hb2)
                   (try clear hk)
                   (try clear hi)
                   (try clear ho0)
                   (try clear ho1)
                   obtain ⟨Ao89, co89, eo89⟩ := Kd.R_slice HO1226.out
                   (first | subst eo89 | (injection eo89 with f1_ f2_ f3_; have f4_ := f1_.symm; have f5_ := f3_.symm; clear f1_ f2_ f3_; subst f4_; subst f5_))
                   obtain ⟨Ao90, co90, eo90⟩ := Kd.R_slice HO1229.out
                   (first | subst eo90 | (injection eo90 with f1_ f2_ f3_; have f4_ := f1_.symm; have f5_ := f3_.symm; clear f1_ f2_ f3_; subst f4_; subst f5_))
                   refine hK.out _ _ ⟨(blk_cell BK1222.out 0).trans rfl, (blk_cell BK1222.out 1).trans rfl, (blk_cell BK1201.out 0).trans rfl, (blk_cell BK1201.out 1).trans rfl, (blk_cell BK1213.out 0).trans rfl, (blk_cell BK1213.out 1).trans rfl⟩ (fun hHeld => ?_)
                   clear hK K
                   refine norm_ (a' := ?_) ?_ ?_
                   rotate_left
                   ·show Act.put _ (some 96) _ = _
                    simp only [Act.put, List.setIfInBounds_toArray, List.set_cons_zero, List.set_cons_succ, i64_w, i32_w]
                    rfl
                   refine one_ (i := 10) (N := some 97) #[true, true, true, true, true, true, true, true, true, true, true, false] rfl rfl (one_of HT_.out (by kernel_rfl)) (by decide) (fun K hK => ?_)
                   refine goes_ Try.func39 (by kernel_rfl) rfl #[.agg #[.slice Ao49 t1215.length co49, .slice Ao54 t1218.length co54], .agg #[.slice Ao89 t1224.length co89, .slice Ao90 t1227.length co90]] (by rfl) rfl rfl (by (try simp only [List.map_toArray, List.map_cons, List.map_nil]); first | done | rfl | (simp only [List.length_drop, List.length_take]; rfl)) ?_
                   with_reducible refine (gradusref0_EqTensor.calls kj31 _ _ t1215 _ _ t1218 _ _ t1224 _ _ t1227 true _ ?side1 ?side2 ?side3 ?side4 ?side5 ?side6 ?side7 ?side8 A85.out).mono ?_
                   (case side1 => repeat (first | exact (Kd.R_reads' HO_1223000.out).2.2 | (with_reducible refine Kd.C_alloc ?_ _) | (with_reducible refine Kd.C_drewN ?_ _) | (with_reducible refine Kd.C_drew ?_)))
                   (case side2 => exact (Kd.R_reads' HO_1223000.out).2.1)
                   (case side3 => repeat (first | exact (Kd.R_reads' HO_1223001.out).2.2 | (with_reducible refine Kd.C_alloc ?_ _) | (with_reducible refine Kd.C_drewN ?_ _) | (with_reducible refine Kd.C_drew ?_)))
                   (case side4 => exact (Kd.R_reads' HO_1223001.out).2.1)
                   (case side5 => repeat (first | exact (Kd.R_reads' HO1226.out).2.2 | (with_reducible refine Kd.C_alloc ?_ _) | (with_reducible refine Kd.C_drewN ?_ _) | (with_reducible refine Kd.C_drew ?_)))
                   (case side6 => exact (Kd.R_reads' HO1226.out).2.1)
                   (case side7 => repeat (first | exact (Kd.R_reads' HO1229.out).2.2 | (with_reducible refine Kd.C_alloc ?_ _) | (with_reducible refine Kd.C_drewN ?_ _) | (with_reducible refine Kd.C_drew ?_)))
                   (case side8 => exact (Kd.R_reads' HO1229.out).2.1)
                   rintro e w91 ⟨rfl, hb⟩
                   refine ⟨_, rfl, ?_⟩
                   have n0_ := Aside0.mk (Kd.N_below (by (with_reducible repeat (first | apply Kd.N_alloc | apply Kd.N_drewN | apply Kd.N_drew)); exact HO_5.out) hb)
                   have n1_ := Aside0.mk (Kd.R_below (by (with_reducible repeat (first | apply Kd.R_alloc | apply Kd.R_drewN | apply Kd.R_drew)); exact HO_1214000.out) hb)
                   have n2_ := Aside0.mk (Kd.R_below (by (with_reducible repeat (first | apply Kd.R_alloc | apply Kd.R_drewN | apply Kd.R_drew)); exact HO_1214001.out) hb)
                   have n3_ := Aside0.mk (Kd.R_below (by (with_reducible repeat (first | apply Kd.R_alloc | apply Kd.R_drewN | apply Kd.R_drew)); exact HO_1223000.out) hb)
                   have n4_ := Aside0.mk (Kd.R_below (by (with_reducible repeat (first | apply Kd.R_alloc | apply Kd.R_drewN | apply Kd.R_drew)); exact HO_1223001.out) hb)
                   have n5_ := Aside0.mk (Kd.R_below (by (with_reducible repeat (first | apply Kd.R_alloc | apply Kd.R_drewN | apply Kd.R_drew)); exact HO1226.out) hb)
                   have n6_ := Aside0.mk (Kd.R_below (by (with_reducible repeat (first | apply Kd.R_alloc | apply Kd.R_drewN | apply Kd.R_drew)); exact HO1229.out) hb)
                   have n7_ := Aside0.mk (blk_below (g := gb1197) (o := .cells #[.slice (some ad1200) l0_0.length c0_0, .slice A0_1 l0_1.length c0_1, .slice A0_2 l0_2.length c0_2] 67 (0, 0)) (by (with_reducible repeat (first | refine blk_drewN ?_ _ | refine blk_drew ?_ | refine blk_alloc ?_ _)); exact BK1197.out) hb)
                   have n8_ := Aside0.mk (blk_below (g := gb1201) (o := .cells #[.slice A1200_0 ((rd_T34 l0_0 x3_1).f0).length c1200_0, .slice A1200_1 ((rd_T34 l0_0 x3_1).f1).length c1200_1] 34 (0, 0)) (by (with_reducible repeat (first | refine blk_drewN ?_ _ | refine blk_drew ?_ | refine blk_alloc ?_ _)); exact BK1201.out) hb)
                   have n9_ := Aside0.mk (blk_below (g := gb1213) (o := .cells #[.slice Ao38 t1206.length co38, .slice Ao40 t1209.length co40] 34 (0, 0)) (by (with_reducible repeat (first | refine blk_drewN ?_ _ | refine blk_drew ?_ | refine blk_alloc ?_ _)); exact BK1213.out) hb)
                   have n10_ := Aside0.mk (blk_below (g := gb1222) (o := .cells #[.slice Ao49 t1215.length co49, .slice Ao54 t1218.length co54] 34 (0, 0)) (by (with_reducible repeat (first | refine blk_drewN ?_ _ | refine blk_drew ?_ | refine blk_alloc ?_ _)); exact BK1222.out) hb)
                   have n11_ := Aside0.mk (below_step (by repeat (first | (with_reducible first | exact HB.out | apply below_alloc | apply pw_below_drewN | apply below_drew1 | refine below_set ?_ GE1197.out | refine below_set ?_ GE1201.out | refine below_set ?_ GE1213.out | refine below_set ?_ GE1222.out) | exact HB.out)) hb)
                   clear HO_5
                   clear HO_1214000
                   clear HO_1214001
                   clear HO_1223000
                   clear HO_1223001
                   clear HO1226
                   clear HO1229
                   clear BK1197
                   clear BK1201
                   clear BK1213
                   clear BK1222
                   clear HB
                   have HO_5 := n0_
                   have HO_1214000 := n1_
                   have HO_1214001 := n2_
                   have HO_1223000 := n3_
                   have HO_1223001 := n4_
                   have HO1226 := n5_
                   have HO1229 := n6_
                   have BK1197 := n7_
                   have BK1201 := n8_
                   have BK1213 := n9_
                   have BK1222 := n10_
                   have HB := n11_
                   clear n0_ n1_ n2_ n3_ n4_ n5_ n6_ n7_ n8_ n9_ n10_ n11_
                   (try clear hb)
                   (try clear hb2)
                   (try clear hk)
                   (try clear hi)
                   refine hK.out _ _ ⟨(blk_cell BK1222.out 0).trans rfl, (blk_cell BK1222.out 1).trans rfl, (blk_cell BK1201.out 0).trans rfl, (blk_cell BK1201.out 1).trans rfl, (blk_cell BK1213.out 0).trans rfl, (blk_cell BK1213.out 1).trans rfl⟩ (fun hHeld => ?_)
                   clear hK K
                   refine norm_ (a' := ?_) ?_ ?_
                   rotate_left
                   ·show Act.put _ (some 97) _ = _
                    simp only [Act.put, List.setIfInBounds_toArray, List.set_cons_zero, List.set_cons_succ, i64_w, i32_w]
                    rfl
                   refine pure_ (i := 11) (N := some 98) (v := ?_) (a' := ?_) #[true, true, true, true, true, true, true, true, true, true, true, true] rfl rfl (any_of HT_.out (by kernel_rfl)) (fun _ _ _ h => h) (Or.inl ⟨by rfl, ?_⟩) ?_ ?_
                   rotate_left
                   ·intro w'
                    go_simp
                    with_reducible rfl
                   rotate_left
                   ·simp only [Act.put, List.setIfInBounds_toArray, List.set_cons_zero, List.set_cons_succ, i64_w, i32_w]
                    rfl
                   refine done_ (done_of HT_.out (by kernel_rfl)) ?_
                   try go_wp2
                   go_roundg kj31
                   case measure => have := HK1.out; have := HJ9.out; have := HK3.out; have := HJ31.out; omega
                   case rel => exact ⟨(wrap64 (x6_3 + 1)), (by first | rfl | (simp; done) | (simp [*]; done)), H', ⟨by have := HK1.out; have := HJ9.out; have := HK3.out; have := HJ31.out; omega⟩, ⟨by (with_reducible repeat (first | apply Kd.N_alloc | apply Kd.N_drewN | apply Kd.N_drew)); exact Kd.N_mono HO_5.out (fun _ hk => ⟨hk.1.1.2.2.2.2.1, hk.1.1.2.2.2.2.2.1⟩)⟩, ⟨by (with_reducible repeat (first | refine blk_drewN ?_ _ | refine blk_drew ?_ | refine blk_alloc ?_ _)); exact BK1197.out⟩, ⟨by (with_reducible repeat (first | refine blk_drewN ?_ _ | refine blk_drew ?_ | refine blk_alloc ?_ _)); exact BK1201.out⟩, ⟨by repeat (first | (with_reducible first | exact HB.out | apply below_alloc | apply pw_below_drewN | apply below_drew1 | refine below_set ?_ GE1197.out | refine below_set ?_ GE1201.out | refine below_set ?_ GE1213.out | refine below_set ?_ GE1222.out) | exact HB.out)⟩⟩
                  ·replace c86 := Bool.eq_false_iff.mpr c86
                   subst c86
                   have H1 : (none) = some r := by rw [if_neg (show ¬ (false = true) by decide)] at H; exact H
                   clear H
                   have H := H1
                   clear H1
                   exact absurd H (by simp)
             ·rw [if_neg c30] at H
              have c30b0 : (t1214 == 0) = false := beq_eq_false_iff_ne.mpr c30
              have c30b1 : (t1214 != 0) = true := bne_iff_ne.mpr c30
              have H' := Aside0.mk H
              clear H
              obtain ⟨Ao92, co92, eo92⟩ := Kd.N_slice HO_5.out
              subst eo92
              try go_wp2
              have n0_ := Aside0.mk (Kd.N_drew HO_5.out)
              have n1_ := Aside0.mk (blk_drew BK1197.out)
              have n2_ := Aside0.mk (blk_drew BK1201.out)
              have n3_ := Aside0.mk (below_drew1 HB.out)
              clear HO_5
              clear BK1197
              clear BK1201
              clear HB
              have HO_5 := n0_
              have BK1197 := n1_
              have BK1201 := n2_
              have HB := n3_
              clear n0_ n1_ n2_ n3_
              have p1205 : 0 ≤ (x6_3 : Int) := of_decide_eq_true (by first | (with_reducible assumption) | assumption)
              have q1205 : x6_3 < (t1202.length : Int) := of_decide_eq_true (by first | (with_reducible assumption) | assumption)
              obtain ⟨ad1205, A1205_0, c1205_0, e1205, hx1205_0, hl1205_0, hi1205_0⟩ := at_L1 (Kd.N_reads' HO_5.out).2.2 x6_3 p1205 q1205
              cases e1205
              obtain ⟨ce1205, hce1205, hMe1205, hcc1205⟩ := Kd.N_get HO_5.out [] x6_3 p1205 (by first | exact q1205 | exact of_decide_eq_true (by first | (with_reducible assumption) | assumption) | (have e_ := (Kd.N_reads' HO_5.out).1; omega))
              obtain ⟨ua1205_0, uc1205_0, rfl, ul1205_0, ge1205_0⟩ := Kd.FK_slice_open hMe1205
              have hv1205_0 := hcc1205 0 _ rfl
              rw [Nat.add_zero, show ((Kd.slice 3 (Kd.int .i64))).sz = 1 from rfl, Nat.mul_one] at hv1205_0
              replace hv1205_0 := Option.some.inj (hv1205_0.symm.trans hx1205_0)
              injection hv1205_0 with hva_ hvn_ hvc_
              rw [hva_] at ge1205_0
              rw [hvc_] at ul1205_0
              have HL1205_0 := Aside0.mk (show Kd.V (Kd.int .i64) 3 _ w.heap.size _ _ (rd_L1 t1202 x6_3) from Kd.V_mk ul1205_0 ge1205_0)
              clear hva_ hvn_ hvc_ ge1205_0 ul1205_0
              clear hcc1205 hce1205
              have HR1205_0 := Aside0.mk hi1205_0
              have HC1205_0 := Aside0.mk hl1205_0
              clear hi1205_0 hl1205_0
              replace p1205 := eq_true p1205
              replace q1205 := eq_true q1205
              refine start_ (n := 12) (S := fun w' => w'.cell? ⟨gb1201, 0, none⟩ = some (.slice A1200_0 ((rd_T34 l0_0 x3_1).f0).length c1200_0) ∧ w'.cell? ⟨gb1201, 1, none⟩ = some (.slice A1200_1 ((rd_T34 l0_0 x3_1).f1).length c1200_1) ∧ w'.cell? (ad1205.add (x6_3).toNat) = some (.slice A1205_0 (rd_L1 t1202 x6_3).length c1205_0)) (ds := []) #[false, false, false, false, false, false, false, false, false, false, false, false] (by kernel_rfl) rfl rfl ⟨(blk_cell BK1201.out 0).trans rfl, (blk_cell BK1201.out 1).trans rfl, hx1205_0⟩ (fun hHeld => ?_); refine with_tabW graduslaw3_TurnBack.tab11 graduslaw3_TurnBack.bits11 (fun HT_ HW_ => ?_)
              generalize wr.drew = w93 at HO_5 BK1197 BK1201 HB HL1205_0 HR1205_0 hx1205_0 hHeld ⊢
              refine pure_ (i := 1) (N := some 42) (v := ?_) (a' := ?_) #[false, true, false, false, false, false, false, false, false, false, false, false] rfl rfl (any_of HT_.out (by kernel_rfl)) (fun _ _ _ h => h) (Or.inl ⟨by rfl, ?_⟩) ?_ ?_
              rotate_left
              ·intro w'
               go_simp
               with_reducible rfl
              rotate_left
              ·simp only [Act.put, List.setIfInBounds_toArray, List.set_cons_zero, List.set_cons_succ, i64_w, i32_w]
               rfl
              refine pure_ (i := 2) (N := some 43) (v := ?_) (a' := ?_) #[false, true, true, false, false, false, false, false, false, false, false, false] rfl rfl (any_of HT_.out (by kernel_rfl)) (fun _ _ _ h => h) (Or.inl ⟨by rfl, ?_⟩) ?_ ?_
              rotate_left
              ·intro w'
               go_simp
               with_reducible rfl
              rotate_left
              ·simp only [Act.put, List.setIfInBounds_toArray, List.set_cons_zero, List.set_cons_succ, i64_w, i32_w]
               rfl
              refine pure_ (i := 3) (N := some 44) (v := ?_) (a' := ?_) #[false, true, true, true, false, false, false, false, false, false, false, false] rfl rfl (any_of HT_.out (by kernel_rfl)) (fun _ _ _ h => h) (Or.inl ⟨by rfl, ?_⟩) ?_ ?_
              rotate_left
              ·intro w'
               go_simp
               with_reducible rfl
              rotate_left
              ·simp only [Act.put, List.setIfInBounds_toArray, List.set_cons_zero, List.set_cons_succ, i64_w, i32_w]
               rfl
              refine take_ (i := 0) (N := some 41) (v := ?_) (a' := ?_) #[true, true, true, true, false, false, false, false, false, false, false, false] rfl rfl (take_ofW HT_.out HW_.out (by kernel_rfl)) (fun _ _ _ h => h) (Or.inl ⟨by rfl, ?_⟩) hHeld ?_ ?_
              rotate_left
              ·rintro w' ⟨s0, s1, s2⟩
               go_simp
               with_reducible rfl
              rotate_left
              ·simp only [Act.put, List.setIfInBounds_toArray, List.set_cons_zero, List.set_cons_succ, i64_w, i32_w]
               rfl
              refine take_ (i := 4) (N := some 45) (v := ?_) (a' := ?_) #[true, true, true, true, true, false, false, false, false, false, false, false] rfl rfl (take_ofW HT_.out HW_.out (by kernel_rfl)) (fun _ _ _ h => h) (Or.inl ⟨by rfl, ?_⟩) hHeld ?_ ?_
              rotate_left
              ·rintro w' ⟨s0, s1, s2⟩
               go_simp
               with_reducible rfl
              rotate_left
              ·simp only [Act.put, List.setIfInBounds_toArray, List.set_cons_zero, List.set_cons_succ, i64_w, i32_w]
               rfl
              refine join_ (σ := Value × Value × Nat) 2 #[true, true, true, true, true, true, true, true, true, true, false, false] (fun s_ => [(46, .tuple #[.agg #[s_.1, s_.2.1], .int .i64 t1212]), (7, .pointer (some ⟨s_.2.2, 0, none⟩)), (40, .tuple #[.agg #[s_.1, s_.2.1], .int .i64 t1212]), (47, .agg #[s_.1, s_.2.1]), (48, .int .i64 t1212)]) (fun s_ w' => (w'.cell? ⟨gb1201, 0, none⟩ = some (.slice A1200_0 ((rd_T34 l0_0 x3_1).f0).length c1200_0) ∧ w'.cell? ⟨gb1201, 1, none⟩ = some (.slice A1200_1 ((rd_T34 l0_0 x3_1).f1).length c1200_1) ∧ w'.cell? (ad1205.add (x6_3).toNat) = some (.slice A1205_0 (rd_L1 t1202 x6_3).length c1205_0)) ∧ (Kd.V (Kd.int .i64) 3 w' w.heap.size (fun k_ => some k_ ≠ (s_.1 : Value).ownBlock ∧ some k_ ≠ (s_.2.1 : Value).ownBlock ∧ some k_ ≠ (.slice (some ad1205) t1202.length co92 : Value).ownBlock ∧ k_ ≠ gb1197 ∧ k_ ≠ gb1201 ∧ k_ ≠ s_.2.2) (.slice A1205_0 (rd_L1 t1202 x6_3).length c1205_0) (rd_L1 t1202 x6_3)) ∧ (Kd.R (Kd.int .i64) 3 w' w.heap.size (fun k_ => some k_ ≠ (s_.2.1 : Value).ownBlock) s_.1 t1206) ∧ (Kd.R (Kd.int .i64) 3 w' w.heap.size (fun k_ => some k_ ≠ (s_.1 : Value).ownBlock) s_.2.1 t1209) ∧ (Kd.N (Kd.slice 3 (Kd.int .i64)) 23 w' w.heap.size (fun k_ => some k_ ≠ (s_.1 : Value).ownBlock ∧ some k_ ≠ (s_.2.1 : Value).ownBlock ∧ k_ ≠ gb1197 ∧ k_ ≠ gb1201 ∧ k_ ≠ s_.2.2) (.slice (some ad1205) t1202.length co92) t1202) ∧ (w'.heap[gb1197]? = some (.cells #[.slice (some ad1200) l0_0.length c0_0, .slice A0_1 l0_1.length c0_1, .slice A0_2 l0_2.length c0_2] 67 (0, 0))) ∧ (w'.heap[gb1201]? = some (.cells #[.slice A1200_0 ((rd_T34 l0_0 x3_1).f0).length c1200_0, .slice A1200_1 ((rd_T34 l0_0 x3_1).f1).length c1200_1] 34 (0, 0))) ∧ (w'.heap[s_.2.2]? = some (.cells #[.slice none 0 0, .slice none 0 0] 34 (0, 0))) ∧ (w.heap.size ≤ s_.2.2) ∧ (w.heap.size ≤ s_.2.2) ∧ (gb1197 ≠ s_.2.2) ∧ (s_.2.2 ≠ gb1197) ∧ (gb1201 ≠ s_.2.2) ∧ (s_.2.2 ≠ gb1201) ∧ (Below w.heap.size w w')) ?_ ?_
              rotate_left
              ·intro hCont
               refine two_ (i := 5) (j := 9) (Ni := some 46) (Nj := some 7) #[true, true, true, true, true, true, false, false, false, false, false, false] #[true, true, true, true, true, false, false, false, false, true, false, false] rfl rfl rfl rfl (two_of HT_.out (by kernel_rfl)) (by decide) (by decide) (fun K hK => ?_) (fun K hK => ?_)
               ·skip
                refine goes_ Try.func64 (by kernel_rfl) rfl #[.agg #[.slice A1200_0 ((rd_T34 l0_0 x3_1).f0).length c1200_0, .slice A1200_1 ((rd_T34 l0_0 x3_1).f1).length c1200_1], .slice A1205_0 (rd_L1 t1202 x6_3).length c1205_0] (by rfl) rfl rfl (by (try simp only [List.map_toArray, List.map_cons, List.map_nil]); first | done | rfl | (simp only [List.length_drop, List.length_take]; rfl)) ?_
                with_reducible refine (turn_Wide.calls k3 _ _ ((rd_T34 l0_0 x3_1).f0) _ _ ((rd_T34 l0_0 x3_1).f1) _ _ (rd_L1 t1202 x6_3) t1206 t1209 t1212 _ ?side1 ?side2 ?side3 ?side4 ?side5 ?side6 A28.out).mono ?_
                (case side1 => repeat (first | exact (Kd.C_below HR1200_0.out HB.out) | (with_reducible refine Kd.C_alloc ?_ _) | (with_reducible refine Kd.C_drewN ?_ _) | (with_reducible refine Kd.C_drew ?_)))
                (case side2 => exact HC1200_0.out)
                (case side3 => repeat (first | exact (Kd.C_below HR1200_1.out HB.out) | (with_reducible refine Kd.C_alloc ?_ _) | (with_reducible refine Kd.C_drewN ?_ _) | (with_reducible refine Kd.C_drew ?_)))
                (case side4 => exact HC1200_1.out)
                (case side5 => repeat (first | exact (by repeat (first | (with_reducible exact HR1205_0.out) | (with_reducible refine Kd.C_alloc ?_ _) | (with_reducible refine Kd.C_drewN ?_ _) | (with_reducible refine Kd.C_drew ?_) | exact HR1205_0.out)) | (with_reducible refine Kd.C_alloc ?_ _) | (with_reducible refine Kd.C_drewN ?_ _) | (with_reducible refine Kd.C_drew ?_)))
                (case side6 => exact HC1205_0.out)
                rintro e w94 ⟨v1207, v1210, rfl, ho0, ho1, hb⟩
                have HS2_ := (hb.cell (World.block_lt_of_cell? _ _ (hHeld.2.2))).trans (hHeld.2.2)
                refine ⟨_, rfl, ?_⟩
                have n0_ := Aside0.mk (Kd.N_mono (Kd.N_told (Kd.N_told (Kd.N_old (by (with_reducible repeat (first | apply Kd.N_alloc | apply Kd.N_drewN | apply Kd.N_drew)); exact HO_5.out) hb) (Kd.R_base ho0)) (Kd.R_base ho1)) (fun _ h_ => h_.1))
                have n1_ := Aside0.mk (Kd.V_mono (Kd.V_told (Kd.V_told (Kd.V_old (by (with_reducible repeat (first | apply Kd.V_alloc | apply Kd.V_drewN | apply Kd.V_drew)); exact HL1205_0.out) hb) (Kd.R_base ho0)) (Kd.R_base ho1)) (fun _ h_ => h_.1))
                have n2_ := Aside0.mk (Kd.R_lower ho0 (below_size (by repeat (first | (with_reducible first | exact HB.out | apply below_alloc | apply pw_below_drewN | apply below_drew1 | refine below_set ?_ GE1197.out | refine below_set ?_ GE1201.out) | exact HB.out))))
                have n3_ := Aside0.mk (Kd.R_lower ho1 (below_size (by repeat (first | (with_reducible first | exact HB.out | apply below_alloc | apply pw_below_drewN | apply below_drew1 | refine below_set ?_ GE1197.out | refine below_set ?_ GE1201.out) | exact HB.out))))
                have n4_ := Aside0.mk (blk_below (g := gb1197) (o := .cells #[.slice (some ad1200) l0_0.length c0_0, .slice A0_1 l0_1.length c0_1, .slice A0_2 l0_2.length c0_2] 67 (0, 0)) (by (with_reducible repeat (first | refine blk_drewN ?_ _ | refine blk_drew ?_ | refine blk_alloc ?_ _)); exact BK1197.out) hb)
                have n5_ := Aside0.mk (blk_below (g := gb1201) (o := .cells #[.slice A1200_0 ((rd_T34 l0_0 x3_1).f0).length c1200_0, .slice A1200_1 ((rd_T34 l0_0 x3_1).f1).length c1200_1] 34 (0, 0)) (by (with_reducible repeat (first | refine blk_drewN ?_ _ | refine blk_drew ?_ | refine blk_alloc ?_ _)); exact BK1201.out) hb)
                have n6_ := Aside0.mk (Kd.C_below (by repeat (first | (with_reducible exact HR1205_0.out) | (with_reducible refine Kd.C_alloc ?_ _) | (with_reducible refine Kd.C_drewN ?_ _) | (with_reducible refine Kd.C_drew ?_) | exact HR1205_0.out)) hb)
                have n7_ := Aside0.mk (below_step (by repeat (first | (with_reducible first | exact HB.out | apply below_alloc | apply pw_below_drewN | apply below_drew1 | refine below_set ?_ GE1197.out | refine below_set ?_ GE1201.out) | exact HB.out)) hb)
                clear HO_5
                clear HL1205_0
                clear BK1197
                clear BK1201
                clear HR1205_0
                clear HB
                have HO_5 := n0_
                have HL1205_0 := n1_
                have HO1208 := n2_
                have HO1211 := n3_
                have BK1197 := n4_
                have BK1201 := n5_
                have HR1205_0 := n6_
                have HB := n7_
                clear n0_ n1_ n2_ n3_ n4_ n5_ n6_ n7_
                (try clear hb)
                (try clear hb2)
                (try clear hk)
                (try clear hi)
                (try clear ho0)
                (try clear ho1)
                refine hK.out _ _ ⟨(blk_cell BK1201.out 0).trans rfl, (blk_cell BK1201.out 1).trans rfl, HS2_⟩ (fun hHeld => ?_)
                clear hK K
                refine norm_ (a' := ?_) ?_ ?_
                rotate_left
                ·show Act.put _ (some 46) _ = _
                 simp only [Act.put, List.setIfInBounds_toArray, List.set_cons_zero, List.set_cons_succ, i64_w, i32_w]
                 rfl
                refine pure_ (i := 6) (N := some 40) (v := ?_) (a' := ?_) #[true, true, true, true, true, true, true, false, false, false, false, false] rfl rfl (any_of HT_.out (by kernel_rfl)) (fun _ _ _ h => h) (Or.inl ⟨by rfl, ?_⟩) ?_ ?_
                rotate_left
                ·intro w'
                 go_simp
                 with_reducible rfl
                rotate_left
                ·simp only [Act.put, List.setIfInBounds_toArray, List.set_cons_zero, List.set_cons_succ, i64_w, i32_w]
                 rfl
                refine pure_ (i := 7) (N := some 47) (v := ?_) (a' := ?_) #[true, true, true, true, true, true, true, true, false, false, false, false] rfl rfl (any_of HT_.out (by kernel_rfl)) (fun _ _ _ h => h) (Or.inl ⟨by rfl, ?_⟩) ?_ ?_
                rotate_left
                ·intro w'
                 go_simp
                 with_reducible rfl
                rotate_left
                ·simp only [Act.put, List.setIfInBounds_toArray, List.set_cons_zero, List.set_cons_succ, i64_w, i32_w]
                 rfl
                refine pure_ (i := 8) (N := some 48) (v := ?_) (a' := ?_) #[true, true, true, true, true, true, true, true, true, false, false, false] rfl rfl (any_of HT_.out (by kernel_rfl)) (fun _ _ _ h => h) (Or.inl ⟨by rfl, ?_⟩) ?_ ?_
                rotate_left
                ·intro w'
                 go_simp
                 with_reducible rfl
                rotate_left
                ·simp only [Act.put, List.setIfInBounds_toArray, List.set_cons_zero, List.set_cons_succ, i64_w, i32_w]
                 rfl
                refine one_ (i := 9) (N := some 7) #[true, true, true, true, true, true, true, true, true, true, false, false] rfl rfl (one_of HT_.out (by kernel_rfl)) (by decide) (fun K hK => ?_)
                refine box_step ?hg (N := 7) ?hd (cs := #[.slice none 0 0, .slice none 0 0]) (t := 34) ?hr ?_; (case hd => rfl); (case hg => rfl); (case hr => first | (go_simp; done) | (go_simp; rfl))
                intro gb1213 hg w95 hbox hb
                have HS2_ := (hb.cell (World.block_lt_of_cell? _ _ (hHeld.2.2))).trans (hHeld.2.2)
                have n0_ := Aside0.mk (Kd.N_below (Kd.N_elderB (by (with_reducible repeat (first | apply Kd.N_alloc | apply Kd.N_drewN | apply Kd.N_drew)); exact HO_5.out) gb1213 (Nat.le_of_eq hg.symm)) hb)
                have n1_ := Aside0.mk (Kd.V_below (Kd.V_elderB (by (with_reducible repeat (first | apply Kd.V_alloc | apply Kd.V_drewN | apply Kd.V_drew)); exact HL1205_0.out) gb1213 (Nat.le_of_eq hg.symm)) hb)
                have n2_ := Aside0.mk (Kd.R_below (by (with_reducible repeat (first | apply Kd.R_alloc | apply Kd.R_drewN | apply Kd.R_drew)); exact HO1208.out) hb)
                have n3_ := Aside0.mk (Kd.R_below (by (with_reducible repeat (first | apply Kd.R_alloc | apply Kd.R_drewN | apply Kd.R_drew)); exact HO1211.out) hb)
                have n4_ := Aside0.mk (blk_below (g := gb1197) (o := .cells #[.slice (some ad1200) l0_0.length c0_0, .slice A0_1 l0_1.length c0_1, .slice A0_2 l0_2.length c0_2] 67 (0, 0)) (by (with_reducible repeat (first | refine blk_drewN ?_ _ | refine blk_drew ?_ | refine blk_alloc ?_ _)); exact BK1197.out) hb)
                have n5_ := Aside0.mk (blk_below (g := gb1201) (o := .cells #[.slice A1200_0 ((rd_T34 l0_0 x3_1).f0).length c1200_0, .slice A1200_1 ((rd_T34 l0_0 x3_1).f1).length c1200_1] 34 (0, 0)) (by (with_reducible repeat (first | refine blk_drewN ?_ _ | refine blk_drew ?_ | refine blk_alloc ?_ _)); exact BK1201.out) hb)
                have n6_ := Aside0.mk (Kd.C_below (by repeat (first | (with_reducible exact HR1205_0.out) | (with_reducible refine Kd.C_alloc ?_ _) | (with_reducible refine Kd.C_drewN ?_ _) | (with_reducible refine Kd.C_drew ?_) | exact HR1205_0.out)) hb)
                have n7_ := Aside0.mk (below_step (by repeat (first | (with_reducible first | exact HB.out | apply below_alloc | apply pw_below_drewN | apply below_drew1 | refine below_set ?_ GE1197.out | refine below_set ?_ GE1201.out) | exact HB.out)) hb)
                have n8_ := Aside0.mk (hbox)
                have n9_ := Aside0.mk ((by rw [hg]; exact (below_size (by repeat (first | (with_reducible first | exact HB.out | apply below_alloc | apply pw_below_drewN | apply below_drew1 | refine below_set ?_ GE1197.out | refine below_set ?_ GE1201.out) | exact HB.out))) : w.heap.size ≤ gb1213))
                have n10_ := Aside0.mk ((by rw [hg]; exact (below_size (by repeat (first | (with_reducible first | exact HB.out | apply below_alloc | apply pw_below_drewN | apply below_drew1 | refine below_set ?_ GE1197.out | refine below_set ?_ GE1201.out) | exact HB.out))) : w.heap.size ≤ gb1213))
                have n11_ := Aside0.mk ((by rw [hg]; exact Nat.ne_of_lt (blk_lt (g := gb1197) (o := .cells #[.slice (some ad1200) l0_0.length c0_0, .slice A0_1 l0_1.length c0_1, .slice A0_2 l0_2.length c0_2] 67 (0, 0)) (by (with_reducible repeat (first | refine blk_drewN ?_ _ | refine blk_drew ?_ | refine blk_alloc ?_ _)); exact BK1197.out)) : gb1197 ≠ gb1213))
                have n12_ := Aside0.mk ((by rw [hg]; exact Nat.ne_of_gt (blk_lt (g := gb1197) (o := .cells #[.slice (some ad1200) l0_0.length c0_0, .slice A0_1 l0_1.length c0_1, .slice A0_2 l0_2.length c0_2] 67 (0, 0)) (by (with_reducible repeat (first | refine blk_drewN ?_ _ | refine blk_drew ?_ | refine blk_alloc ?_ _)); exact BK1197.out)) : gb1213 ≠ gb1197))
                have n13_ := Aside0.mk ((by rw [hg]; exact Nat.ne_of_lt (blk_lt (g := gb1201) (o := .cells #[.slice A1200_0 ((rd_T34 l0_0 x3_1).f0).length c1200_0, .slice A1200_1 ((rd_T34 l0_0 x3_1).f1).length c1200_1] 34 (0, 0)) (by (with_reducible repeat (first | refine blk_drewN ?_ _ | refine blk_drew ?_ | refine blk_alloc ?_ _)); exact BK1201.out)) : gb1201 ≠ gb1213))
                have n14_ := Aside0.mk ((by rw [hg]; exact Nat.ne_of_gt (blk_lt (g := gb1201) (o := .cells #[.slice A1200_0 ((rd_T34 l0_0 x3_1).f0).length c1200_0, .slice A1200_1 ((rd_T34 l0_0 x3_1).f1).length c1200_1] 34 (0, 0)) (by (with_reducible repeat (first | refine blk_drewN ?_ _ | refine blk_drew ?_ | refine blk_alloc ?_ _)); exact BK1201.out)) : gb1213 ≠ gb1201))
                clear HO_5
                clear HL1205_0
                clear HO1208
                clear HO1211
                clear BK1197
                clear BK1201
                clear HR1205_0
                clear HB
                have HO_5 := n0_
                have HL1205_0 := n1_
                have HO1208 := n2_
                have HO1211 := n3_
                have BK1197 := n4_
                have BK1201 := n5_
                have HR1205_0 := n6_
                have HB := n7_
                have BK1213 := n8_
                have GW1213 := n9_
                have GE1213 := n10_
                have NB1197_1213 := n11_
                have NB1213_1197 := n12_
                have NB1201_1213 := n13_
                have NB1213_1201 := n14_
                clear n0_ n1_ n2_ n3_ n4_ n5_ n6_ n7_ n8_ n9_ n10_ n11_ n12_ n13_ n14_
                clear hb hbox hg
                refine hK.out _ _ ⟨(blk_cell BK1201.out 0).trans rfl, (blk_cell BK1201.out 1).trans rfl, HS2_⟩ (fun hHeld => ?_)
                clear hK K
                refine norm_ (a' := ?_) ?_ ?_
                rotate_left
                ·show Act.put _ (some 7) _ = _
                 simp only [Act.put, List.setIfInBounds_toArray, List.set_cons_zero, List.set_cons_succ, i64_w, i32_w]
                 rfl
                exact norm_ (by simp only [putAll, Act.put, List.setIfInBounds_toArray, List.set_cons_zero, List.set_cons_succ]) (hCont (v1207, v1210, gb1213) _ ⟨hHeld, (by (with_reducible repeat (first | apply Kd.V_alloc | apply Kd.V_drewN | apply Kd.V_drew)); exact Kd.V_mono HL1205_0.out (fun _ hk => ⟨hk.1.1.2, ⟨hk.1.2, ⟨hk.1.1.1.2, ⟨hk.1.1.1.1.1, ⟨hk.1.1.1.1.2, hk.2⟩⟩⟩⟩⟩)), (by (with_reducible repeat (first | apply Kd.R_alloc | apply Kd.R_drewN | apply Kd.R_drew)); exact HO1208.out), (by (with_reducible repeat (first | apply Kd.R_alloc | apply Kd.R_drewN | apply Kd.R_drew)); exact HO1211.out), (by (with_reducible repeat (first | apply Kd.N_alloc | apply Kd.N_drewN | apply Kd.N_drew)); exact Kd.N_mono HO_5.out (fun _ hk => ⟨hk.1.1.2, ⟨hk.1.2, ⟨hk.1.1.1.1, ⟨hk.1.1.1.2, hk.2⟩⟩⟩⟩)), (by (with_reducible repeat (first | refine blk_drewN ?_ _ | refine blk_drew ?_ | refine blk_alloc ?_ _)); exact BK1197.out), (by (with_reducible repeat (first | refine blk_drewN ?_ _ | refine blk_drew ?_ | refine blk_alloc ?_ _)); exact BK1201.out), (by (with_reducible repeat (first | refine blk_drewN ?_ _ | refine blk_drew ?_ | refine blk_alloc ?_ _)); exact BK1213.out), GW1213.out, GE1213.out, NB1197_1213.out, NB1213_1197.out, NB1201_1213.out, NB1213_1201.out, (by repeat (first | (with_reducible first | exact HB.out | apply below_alloc | apply pw_below_drewN | apply below_drew1 | refine below_set ?_ GE1197.out | refine below_set ?_ GE1201.out | refine below_set ?_ GE1213.out) | exact HB.out))⟩)
               ·skip
                refine box_step ?hg (N := 7) ?hd (cs := #[.slice none 0 0, .slice none 0 0]) (t := 34) ?hr ?_; (case hd => rfl); (case hg => rfl); (case hr => first | (go_simp; done) | (go_simp; rfl))
                intro gb1213 hg w94 hbox hb
                have HS2_ := (hb.cell (World.block_lt_of_cell? _ _ (hHeld.2.2))).trans (hHeld.2.2)
                have n0_ := Aside0.mk (Kd.N_below (Kd.N_elderB (by (with_reducible repeat (first | apply Kd.N_alloc | apply Kd.N_drewN | apply Kd.N_drew)); exact HO_5.out) gb1213 (Nat.le_of_eq hg.symm)) hb)
                have n1_ := Aside0.mk (Kd.V_below (Kd.V_elderB (by (with_reducible repeat (first | apply Kd.V_alloc | apply Kd.V_drewN | apply Kd.V_drew)); exact HL1205_0.out) gb1213 (Nat.le_of_eq hg.symm)) hb)
                have n2_ := Aside0.mk (blk_below (g := gb1197) (o := .cells #[.slice (some ad1200) l0_0.length c0_0, .slice A0_1 l0_1.length c0_1, .slice A0_2 l0_2.length c0_2] 67 (0, 0)) (by (with_reducible repeat (first | refine blk_drewN ?_ _ | refine blk_drew ?_ | refine blk_alloc ?_ _)); exact BK1197.out) hb)
                have n3_ := Aside0.mk (blk_below (g := gb1201) (o := .cells #[.slice A1200_0 ((rd_T34 l0_0 x3_1).f0).length c1200_0, .slice A1200_1 ((rd_T34 l0_0 x3_1).f1).length c1200_1] 34 (0, 0)) (by (with_reducible repeat (first | refine blk_drewN ?_ _ | refine blk_drew ?_ | refine blk_alloc ?_ _)); exact BK1201.out) hb)
                have n4_ := Aside0.mk (Kd.C_below (by repeat (first | (with_reducible exact HR1205_0.out) | (with_reducible refine Kd.C_alloc ?_ _) | (with_reducible refine Kd.C_drewN ?_ _) | (with_reducible refine Kd.C_drew ?_) | exact HR1205_0.out)) hb)
                have n5_ := Aside0.mk (below_step (by repeat (first | (with_reducible first | exact HB.out | apply below_alloc | apply pw_below_drewN | apply below_drew1 | refine below_set ?_ GE1197.out | refine below_set ?_ GE1201.out) | exact HB.out)) hb)
                have n6_ := Aside0.mk (hbox)
                have n7_ := Aside0.mk ((by rw [hg]; exact (below_size (by repeat (first | (with_reducible first | exact HB.out | apply below_alloc | apply pw_below_drewN | apply below_drew1 | refine below_set ?_ GE1197.out | refine below_set ?_ GE1201.out) | exact HB.out))) : w.heap.size ≤ gb1213))
                have n8_ := Aside0.mk ((by rw [hg]; exact (below_size (by repeat (first | (with_reducible first | exact HB.out | apply below_alloc | apply pw_below_drewN | apply below_drew1 | refine below_set ?_ GE1197.out | refine below_set ?_ GE1201.out) | exact HB.out))) : w.heap.size ≤ gb1213))
                have n9_ := Aside0.mk ((by rw [hg]; exact Nat.ne_of_lt (blk_lt (g := gb1197) (o := .cells #[.slice (some ad1200) l0_0.length c0_0, .slice A0_1 l0_1.length c0_1, .slice A0_2 l0_2.length c0_2] 67 (0, 0)) (by (with_reducible repeat (first | refine blk_drewN ?_ _ | refine blk_drew ?_ | refine blk_alloc ?_ _)); exact BK1197.out)) : gb1197 ≠ gb1213))
                have n10_ := Aside0.mk ((by rw [hg]; exact Nat.ne_of_gt (blk_lt (g := gb1197) (o := .cells #[.slice (some ad1200) l0_0.length c0_0, .slice A0_1 l0_1.length c0_1, .slice A0_2 l0_2.length c0_2] 67 (0, 0)) (by (with_reducible repeat (first | refine blk_drewN ?_ _ | refine blk_drew ?_ | refine blk_alloc ?_ _)); exact BK1197.out)) : gb1213 ≠ gb1197))
                have n11_ := Aside0.mk ((by rw [hg]; exact Nat.ne_of_lt (blk_lt (g := gb1201) (o := .cells #[.slice A1200_0 ((rd_T34 l0_0 x3_1).f0).length c1200_0, .slice A1200_1 ((rd_T34 l0_0 x3_1).f1).length c1200_1] 34 (0, 0)) (by (with_reducible repeat (first | refine blk_drewN ?_ _ | refine blk_drew ?_ | refine blk_alloc ?_ _)); exact BK1201.out)) : gb1201 ≠ gb1213))
                have n12_ := Aside0.mk ((by rw [hg]; exact Nat.ne_of_gt (blk_lt (g := gb1201) (o := .cells #[.slice A1200_0 ((rd_T34 l0_0 x3_1).f0).length c1200_0, .slice A1200_1 ((rd_T34 l0_0 x3_1).f1).length c1200_1] 34 (0, 0)) (by (with_reducible repeat (first | refine blk_drewN ?_ _ | refine blk_drew ?_ | refine blk_alloc ?_ _)); exact BK1201.out)) : gb1213 ≠ gb1201))
                clear HO_5
                clear HL1205_0
                clear BK1197
                clear BK1201
                clear HR1205_0
                clear HB
                have HO_5 := n0_
                have HL1205_0 := n1_
                have BK1197 := n2_
                have BK1201 := n3_
                have HR1205_0 := n4_
                have HB := n5_
                have BK1213 := n6_
                have GW1213 := n7_
                have GE1213 := n8_
                have NB1197_1213 := n9_
                have NB1213_1197 := n10_
                have NB1201_1213 := n11_
                have NB1213_1201 := n12_
                clear n0_ n1_ n2_ n3_ n4_ n5_ n6_ n7_ n8_ n9_ n10_ n11_ n12_
                clear hb hbox hg
                refine hK.out _ _ ⟨(blk_cell BK1201.out 0).trans rfl, (blk_cell BK1201.out 1).trans rfl, HS2_⟩ (fun hHeld => ?_)
                clear hK K
                refine norm_ (a' := ?_) ?_ ?_
                rotate_left
                ·show Act.put _ (some 7) _ = _
                 simp only [Act.put, List.setIfInBounds_toArray, List.set_cons_zero, List.set_cons_succ, i64_w, i32_w]
                 rfl
                refine one_ (i := 5) (N := some 46) #[true, true, true, true, true, true, false, false, false, true, false, false] rfl rfl (one_of HT_.out (by kernel_rfl)) (by decide) (fun K hK => ?_)
                refine goes_ Try.func64 (by kernel_rfl) rfl #[.agg #[.slice A1200_0 ((rd_T34 l0_0 x3_1).f0).length c1200_0, .slice A1200_1 ((rd_T34 l0_0 x3_1).f1).length c1200_1], .slice A1205_0 (rd_L1 t1202 x6_3).length c1205_0] (by rfl) rfl rfl (by (try simp only [List.map_toArray, List.map_cons, List.map_nil]); first | done | rfl | (simp only [List.length_drop, List.length_take]; rfl)) ?_
                with_reducible refine (turn_Wide.calls k3 _ _ ((rd_T34 l0_0 x3_1).f0) _ _ ((rd_T34 l0_0 x3_1).f1) _ _ (rd_L1 t1202 x6_3) t1206 t1209 t1212 _ ?side1 ?side2 ?side3 ?side4 ?side5 ?side6 A28.out).mono ?_
                (case side1 => repeat (first | exact (Kd.C_below HR1200_0.out HB.out) | (with_reducible refine Kd.C_alloc ?_ _) | (with_reducible refine Kd.C_drewN ?_ _) | (with_reducible refine Kd.C_drew ?_)))
                (case side2 => exact HC1200_0.out)
                (case side3 => repeat (first | exact (Kd.C_below HR1200_1.out HB.out) | (with_reducible refine Kd.C_alloc ?_ _) | (with_reducible refine Kd.C_drewN ?_ _) | (with_reducible refine Kd.C_drew ?_)))
                (case side4 => exact HC1200_1.out)
                (case side5 => repeat (first | exact (by repeat (first | (with_reducible exact HR1205_0.out) | (with_reducible refine Kd.C_alloc ?_ _) | (with_reducible refine Kd.C_drewN ?_ _) | (with_reducible refine Kd.C_drew ?_) | exact HR1205_0.out)) | (with_reducible refine Kd.C_alloc ?_ _) | (with_reducible refine Kd.C_drewN ?_ _) | (with_reducible refine Kd.C_drew ?_)))
                (case side6 => exact HC1205_0.out)
                rintro e w95 ⟨v1207, v1210, rfl, ho0, ho1, hb⟩
                have HS2_ := (hb.cell (World.block_lt_of_cell? _ _ (hHeld.2.2))).trans (hHeld.2.2)
                refine ⟨_, rfl, ?_⟩
                have n0_ := Aside0.mk (Kd.N_mono (Kd.N_told (Kd.N_told (Kd.N_old (by (with_reducible repeat (first | apply Kd.N_alloc | apply Kd.N_drewN | apply Kd.N_drew)); exact HO_5.out) hb) (Kd.R_base ho0)) (Kd.R_base ho1)) (fun _ h_ => h_.1))
                have n1_ := Aside0.mk (Kd.V_mono (Kd.V_told (Kd.V_told (Kd.V_old (by (with_reducible repeat (first | apply Kd.V_alloc | apply Kd.V_drewN | apply Kd.V_drew)); exact HL1205_0.out) hb) (Kd.R_base ho0)) (Kd.R_base ho1)) (fun _ h_ => h_.1))
                have n2_ := Aside0.mk (Kd.R_lower ho0 (below_size (by repeat (first | (with_reducible first | exact HB.out | apply below_alloc | apply pw_below_drewN | apply below_drew1 | refine below_set ?_ GE1197.out | refine below_set ?_ GE1201.out | refine below_set ?_ GE1213.out) | exact HB.out))))
                have n3_ := Aside0.mk (Kd.R_lower ho1 (below_size (by repeat (first | (with_reducible first | exact HB.out | apply below_alloc | apply pw_below_drewN | apply below_drew1 | refine below_set ?_ GE1197.out | refine below_set ?_ GE1201.out | refine below_set ?_ GE1213.out) | exact HB.out))))
                have n4_ := Aside0.mk (blk_below (g := gb1197) (o := .cells #[.slice (some ad1200) l0_0.length c0_0, .slice A0_1 l0_1.length c0_1, .slice A0_2 l0_2.length c0_2] 67 (0, 0)) (by (with_reducible repeat (first | refine blk_drewN ?_ _ | refine blk_drew ?_ | refine blk_alloc ?_ _)); exact BK1197.out) hb)
                have n5_ := Aside0.mk (blk_below (g := gb1201) (o := .cells #[.slice A1200_0 ((rd_T34 l0_0 x3_1).f0).length c1200_0, .slice A1200_1 ((rd_T34 l0_0 x3_1).f1).length c1200_1] 34 (0, 0)) (by (with_reducible repeat (first | refine blk_drewN ?_ _ | refine blk_drew ?_ | refine blk_alloc ?_ _)); exact BK1201.out) hb)
                have n6_ := Aside0.mk (Kd.C_below (by repeat (first | (with_reducible exact HR1205_0.out) | (with_reducible refine Kd.C_alloc ?_ _) | (with_reducible refine Kd.C_drewN ?_ _) | (with_reducible refine Kd.C_drew ?_) | exact HR1205_0.out)) hb)
                have n7_ := Aside0.mk (blk_below (g := gb1213) (o := .cells #[.slice none 0 0, .slice none 0 0] 34 (0, 0)) (by (with_reducible repeat (first | refine blk_drewN ?_ _ | refine blk_drew ?_ | refine blk_alloc ?_ _)); exact BK1213.out) hb)
                have n8_ := Aside0.mk (below_step (by repeat (first | (with_reducible first | exact HB.out | apply below_alloc | apply pw_below_drewN | apply below_drew1 | refine below_set ?_ GE1197.out | refine below_set ?_ GE1201.out | refine below_set ?_ GE1213.out) | exact HB.out)) hb)
                clear HO_5
                clear HL1205_0
                clear BK1197
                clear BK1201
                clear HR1205_0
                clear BK1213
                clear HB
                have HO_5 := n0_
                have HL1205_0 := n1_
                have HO1208 := n2_
                have HO1211 := n3_
                have BK1197 := n4_
                have BK1201 := n5_
                have HR1205_0 := n6_
                have BK1213 := n7_
                have HB := n8_
                clear n0_ n1_ n2_ n3_ n4_ n5_ n6_ n7_ n8_
                (try clear hb)
                (try clear hb2)
                (try clear hk)
                (try clear hi)
                (try clear ho0)
                (try clear ho1)
                refine hK.out _ _ ⟨(blk_cell BK1201.out 0).trans rfl, (blk_cell BK1201.out 1).trans rfl, HS2_⟩ (fun hHeld => ?_)
                clear hK K
                refine norm_ (a' := ?_) ?_ ?_
                rotate_left
                ·show Act.put _ (some 46) _ = _
                 simp only [Act.put, List.setIfInBounds_toArray, List.set_cons_zero, List.set_cons_succ, i64_w, i32_w]
                 rfl
                refine pure_ (i := 6) (N := some 40) (v := ?_) (a' := ?_) #[true, true, true, true, true, true, true, false, false, true, false, false] rfl rfl (any_of HT_.out (by kernel_rfl)) (fun _ _ _ h => h) (Or.inl ⟨by rfl, ?_⟩) ?_ ?_
                rotate_left
                ·intro w'
                 go_simp
                 with_reducible rfl
                rotate_left
                ·simp only [Act.put, List.setIfInBounds_toArray, List.set_cons_zero, List.set_cons_succ, i64_w, i32_w]
                 rfl
                refine pure_ (i := 7) (N := some 47) (v := ?_) (a' := ?_) #[true, true, true, true, true, true, true, true, false, true, false, false] rfl rfl (any_of HT_.out (by kernel_rfl)) (fun _ _ _ h => h) (Or.inl ⟨by rfl, ?_⟩) ?_ ?_
                rotate_left
                ·intro w'
                 go_simp
                 with_reducible rfl
                rotate_left
                ·simp only [Act.put, List.setIfInBounds_toArray, List.set_cons_zero, List.set_cons_succ, i64_w, i32_w]
                 rfl
                refine pure_ (i := 8) (N := some 48) (v := ?_) (a' := ?_) #[true, true, true, true, true, true, true, true, true, true, false, false] rfl rfl (any_of HT_.out (by kernel_rfl)) (fun _ _ _ h => h) (Or.inl ⟨by rfl, ?_⟩) ?_ ?_
                rotate_left
                ·intro w'
                 go_simp
                 with_reducible rfl
                rotate_left
                ·simp only [Act.put, List.setIfInBounds_toArray, List.set_cons_zero, List.set_cons_succ, i64_w, i32_w]
                 rfl
                exact norm_ (by simp only [putAll, Act.put, List.setIfInBounds_toArray, List.set_cons_zero, List.set_cons_succ]) (hCont (v1207, v1210, gb1213) _ ⟨hHeld, (by (with_reducible repeat (first | apply Kd.V_alloc | apply Kd.V_drewN | apply Kd.V_drew)); exact Kd.V_mono HL1205_0.out (fun _ hk => ⟨hk.1.2, ⟨hk.2, ⟨hk.1.1.1.2, ⟨hk.1.1.1.1.1, ⟨hk.1.1.1.1.2, hk.1.1.2⟩⟩⟩⟩⟩)), (by (with_reducible repeat (first | apply Kd.R_alloc | apply Kd.R_drewN | apply Kd.R_drew)); exact HO1208.out), (by (with_reducible repeat (first | apply Kd.R_alloc | apply Kd.R_drewN | apply Kd.R_drew)); exact HO1211.out), (by (with_reducible repeat (first | apply Kd.N_alloc | apply Kd.N_drewN | apply Kd.N_drew)); exact Kd.N_mono HO_5.out (fun _ hk => ⟨hk.1.2, ⟨hk.2, ⟨hk.1.1.1.1, ⟨hk.1.1.1.2, hk.1.1.2⟩⟩⟩⟩)), (by (with_reducible repeat (first | refine blk_drewN ?_ _ | refine blk_drew ?_ | refine blk_alloc ?_ _)); exact BK1197.out), (by (with_reducible repeat (first | refine blk_drewN ?_ _ | refine blk_drew ?_ | refine blk_alloc ?_ _)); exact BK1201.out), (by (with_reducible repeat (first | refine blk_drewN ?_ _ | refine blk_drew ?_ | refine blk_alloc ?_ _)); exact BK1213.out), GW1213.out, GE1213.out, NB1197_1213.out, NB1213_1197.out, NB1201_1213.out, NB1213_1201.out, (by repeat (first | (with_reducible first | exact HB.out | apply below_alloc | apply pw_below_drewN | apply below_drew1 | refine below_set ?_ GE1197.out | refine below_set ?_ GE1201.out | refine below_set ?_ GE1213.out) | exact HB.out))⟩)
              rintro ⟨v1207, v1210, gb1213⟩ w96 ⟨hS_, h0_, h1_, h2_, h3_, h4_, h5_, h6_, h7_, h8_, h9_, h10_, h11_, h12_, h13_⟩
              have n0_ : Aside0 (Kd.V (Kd.int .i64) 3 w96 w.heap.size (fun k_ => some k_ ≠ (v1207 : Value).ownBlock ∧ some k_ ≠ (v1210 : Value).ownBlock ∧ some k_ ≠ (.slice (some ad1205) t1202.length co92 : Value).ownBlock ∧ k_ ≠ gb1197 ∧ k_ ≠ gb1201 ∧ k_ ≠ gb1213) (.slice A1205_0 (rd_L1 t1202 x6_3).length c1205_0) (rd_L1 t1202 x6_3)) := ⟨h0_⟩
              have n1_ : Aside0 (Kd.R (Kd.int .i64) 3 w96 w.heap.size (fun k_ => some k_ ≠ (v1210 : Value).ownBlock) v1207 t1206) := ⟨h1_⟩
              have n2_ : Aside0 (Kd.R (Kd.int .i64) 3 w96 w.heap.size (fun k_ => some k_ ≠ (v1207 : Value).ownBlock) v1210 t1209) := ⟨h2_⟩
              have n3_ : Aside0 (Kd.N (Kd.slice 3 (Kd.int .i64)) 23 w96 w.heap.size (fun k_ => some k_ ≠ (v1207 : Value).ownBlock ∧ some k_ ≠ (v1210 : Value).ownBlock ∧ k_ ≠ gb1197 ∧ k_ ≠ gb1201 ∧ k_ ≠ gb1213) (.slice (some ad1205) t1202.length co92) t1202) := ⟨h3_⟩
              have n4_ : Aside0 (w96.heap[gb1197]? = some (.cells #[.slice (some ad1200) l0_0.length c0_0, .slice A0_1 l0_1.length c0_1, .slice A0_2 l0_2.length c0_2] 67 (0, 0))) := ⟨h4_⟩
              have n5_ : Aside0 (w96.heap[gb1201]? = some (.cells #[.slice A1200_0 ((rd_T34 l0_0 x3_1).f0).length c1200_0, .slice A1200_1 ((rd_T34 l0_0 x3_1).f1).length c1200_1] 34 (0, 0))) := ⟨h5_⟩
              have n6_ : Aside0 (w96.heap[gb1213]? = some (.cells #[.slice none 0 0, .slice none 0 0] 34 (0, 0))) := ⟨h6_⟩
              have n7_ : Aside0 (w.heap.size ≤ gb1213) := ⟨h7_⟩
              have n8_ : Aside0 (w.heap.size ≤ gb1213) := ⟨h8_⟩
              have n9_ : Aside0 (gb1197 ≠ gb1213) := ⟨h9_⟩
              have n10_ : Aside0 (gb1213 ≠ gb1197) := ⟨h10_⟩
              have n11_ : Aside0 (gb1201 ≠ gb1213) := ⟨h11_⟩
              have n12_ : Aside0 (gb1213 ≠ gb1201) := ⟨h12_⟩
              have n13_ : Aside0 (Below w.heap.size w w96) := ⟨h13_⟩
              clear HO_5
              clear BK1197
              clear BK1201
              clear HB
              clear h0_ h1_ h2_ h3_ h4_ h5_ h6_ h7_ h8_ h9_ h10_ h11_ h12_ h13_
              have HL1205_0 := n0_
              have HO1208 := n1_
              have HO1211 := n2_
              have HO_5 := n3_
              have BK1197 := n4_
              have BK1201 := n5_
              have BK1213 := n6_
              have GW1213 := n7_
              have GE1213 := n8_
              have NB1197_1213 := n9_
              have NB1213_1197 := n10_
              have NB1201_1213 := n11_
              have NB1213_1201 := n12_
              have HB := n13_
              clear n0_ n1_ n2_ n3_ n4_ n5_ n6_ n7_ n8_ n9_ n10_ n11_ n12_ n13_
              have hHeld : w96.cell? ⟨gb1201, 0, none⟩ = some (.slice A1200_0 ((rd_T34 l0_0 x3_1).f0).length c1200_0) ∧ w96.cell? ⟨gb1201, 1, none⟩ = some (.slice A1200_1 ((rd_T34 l0_0 x3_1).f1).length c1200_1) ∧ w96.cell? (ad1205.add (x6_3).toNat) = some (.slice A1205_0 (rd_L1 t1202 x6_3).length c1205_0) := hS_
              obtain ⟨Ao97, co97, eo97⟩ := Kd.R_slice HO1208.out
              (first | subst eo97 | (injection eo97 with f1_ f2_ f3_; have f4_ := f1_.symm; have f5_ := f3_.symm; clear f1_ f2_ f3_; subst f4_; subst f5_))
              obtain ⟨Ao99, co99, eo99⟩ := Kd.R_slice HO1211.out
              (first | subst eo99 | (injection eo99 with f1_ f2_ f3_; have f4_ := f1_.symm; have f5_ := f3_.symm; clear f1_ f2_ f3_; subst f4_; subst f5_))
              refine norm_ (a' := ?_) ?_ ?_
              rotate_left
              ·simp only [putAll, Act.put, List.setIfInBounds_toArray, List.set_cons_zero, List.set_cons_succ]
               rfl
              refine one_ (i := 10) (N := none) #[true, true, true, true, true, true, true, true, true, true, true, false] rfl rfl (one_of HT_.out (by kernel_rfl)) (by decide) (fun K hK => ?_)
              have hs98 : w96.cell? ⟨gb1213, 0, none⟩ = some (.slice none 0 0) := (blk_cell BK1213.out 0).trans rfl
              have hfs98 := blk_frozen BK1213.out 0
              have hns98_0 := NB1197_1213.out
              have hns98_1 := NB1201_1213.out
              have hms98_0 := NB1213_1197.out
              have hms98_1 := NB1213_1201.out
              have hs100 : w96.cell? ⟨gb1213, 1, none⟩ = some (.slice none 0 0) := (blk_cell BK1213.out 1).trans rfl
              have hfs100 := blk_frozen BK1213.out 1
              have hns100_0 := NB1197_1213.out
              have hns100_1 := NB1201_1213.out
              have hms100_0 := NB1213_1197.out
              have hms100_1 := NB1213_1201.out
              refine skip_ (w1 := ?_) (by rfl) rfl ?_ ?_
              rotate_left
              ·go_simp
               rfl
              refine hK.out _ _ ⟨((cell_far (p := ⟨gb1213, _, none⟩) NB1201_1213.out _).trans (((cell_far (p := ⟨gb1213, _, none⟩) NB1201_1213.out _).trans (hHeld.1)))), ((cell_far (p := ⟨gb1213, _, none⟩) NB1201_1213.out _).trans (((cell_far (p := ⟨gb1213, _, none⟩) NB1201_1213.out _).trans (hHeld.2.1)))), ((cell_far (p := ⟨gb1213, _, none⟩) (by first | exact Kd.own_blk (Kd.N_away HO_5.out (fun _ hk => hk.2.2.2.2)) | (rw [add_block]; exact Kd.own_blk (Kd.N_away HO_5.out (fun _ hk => hk.2.2.2.2))) | (show (Addr.add _ _).block ≠ _; rw [add_block]; exact Kd.own_blk (Kd.N_away HO_5.out (fun _ hk => hk.2.2.2.2))) | (dsimp only; exact Kd.own_blk (Kd.N_away HO_5.out (fun _ hk => hk.2.2.2.2)))) _).trans (((cell_far (p := ⟨gb1213, _, none⟩) (by first | exact Kd.own_blk (Kd.N_away HO_5.out (fun _ hk => hk.2.2.2.2)) | (rw [add_block]; exact Kd.own_blk (Kd.N_away HO_5.out (fun _ hk => hk.2.2.2.2))) | (show (Addr.add _ _).block ≠ _; rw [add_block]; exact Kd.own_blk (Kd.N_away HO_5.out (fun _ hk => hk.2.2.2.2))) | (dsimp only; exact Kd.own_blk (Kd.N_away HO_5.out (fun _ hk => hk.2.2.2.2)))) _).trans (hHeld.2.2))))⟩ (fun hHeld => ?_)
              clear hK K
              refine pure_ (i := 11) (N := some 8) (v := ?_) (a' := ?_) #[true, true, true, true, true, true, true, true, true, true, true, true] rfl rfl (any_of HT_.out (by kernel_rfl)) (fun _ _ _ h => h) (Or.inl ⟨by rfl, ?_⟩) ?_ ?_
              rotate_left
              ·intro w'
               go_simp
               with_reducible rfl
              rotate_left
              ·simp only [Act.put, List.setIfInBounds_toArray, List.set_cons_zero, List.set_cons_succ, i64_w, i32_w]
               rfl
              refine done_ (done_of HT_.out (by kernel_rfl)) ?_
              try go_wp2_with (first | ((with_reducible refine gate_callee (f := 65) rfl ?_); refine goesL_ (some 50) rfl rfl Try.func65 (by kernel_rfl) rfl #[.int .i64 t1212] rfl (by (try simp only [List.map_toArray, List.map_cons, List.map_nil]); first | done | rfl | (simp only [List.length_drop, List.length_take]; rfl)) ?_; (with_reducible refine (graduslaw3_num.calls t1212 t1214 _ A29.out).mono ?_); rintro e w' ⟨rfl, ⟨nd, rfl⟩⟩; refine ⟨_, rfl, ?_⟩))
              go_roundg k3
              case measure => have := HK1.out; have := HJ9.out; have := HK3.out; omega
              case rel => exact ⟨(wrap64 (x6_3 + 1)), (by first | rfl | (simp; done) | (simp [*]; done)), H', ⟨by have := HK1.out; have := HJ9.out; have := HK3.out; omega⟩, ⟨by (with_reducible repeat (first | apply Kd.N_alloc | apply Kd.N_drewN | apply Kd.N_drew)); exact Kd.N_mono (Kd.N_far (p := ⟨gb1213, 1, none⟩) (Kd.N_far (p := ⟨gb1213, 0, none⟩) (Kd.N_mono HO_5.out (fun k_ hk => (⟨hk, hk.2.2.2.2⟩ : _ ∧ k_ ≠ gb1213))) (fun _ hk => hk.2) (.slice Ao97 t1206.length co97)) (fun _ hk => hk.2) (.slice Ao99 t1209.length co99)) (fun _ hk => ⟨hk.1.2.2.1, hk.1.2.2.2.1⟩)⟩, ⟨by (with_reducible repeat (first | refine blk_drewN ?_ _ | refine blk_drew ?_ | refine blk_alloc ?_ _)); refine blk_far ?_ NB1197_1213.out _; (with_reducible repeat (first | refine blk_drewN ?_ _ | refine blk_drew ?_ | refine blk_alloc ?_ _)); refine blk_far ?_ NB1197_1213.out _; (with_reducible repeat (first | refine blk_drewN ?_ _ | refine blk_drew ?_ | refine blk_alloc ?_ _)); exact BK1197.out⟩, ⟨by (with_reducible repeat (first | refine blk_drewN ?_ _ | refine blk_drew ?_ | refine blk_alloc ?_ _)); refine blk_far ?_ NB1201_1213.out _; (with_reducible repeat (first | refine blk_drewN ?_ _ | refine blk_drew ?_ | refine blk_alloc ?_ _)); refine blk_far ?_ NB1201_1213.out _; (with_reducible repeat (first | refine blk_drewN ?_ _ | refine blk_drew ?_ | refine blk_alloc ?_ _)); exact BK1201.out⟩, ⟨by repeat (first | (with_reducible first | exact HB.out | apply below_alloc | apply pw_below_drewN | apply below_drew1 | refine below_set ?_ GE1197.out | refine below_set ?_ GE1201.out | refine below_set ?_ GE1213.out) | exact HB.out)⟩⟩
            ·rw [if_neg c27] at H
             exact absurd H (by simp)
           ·rw [if_neg c26] at H
            have c26b0 : decide (x6_3 < (t1202.length : Int)) = false := decide_eq_false c26
            clear c26
            have H' := Aside0.mk H
            clear H
            obtain ⟨Ao101, co101, eo101⟩ := Kd.N_slice HO_5.out
            subst eo101
            go_wp2
            go_roundg k3
            case measure => have := HK1.out; have := HJ9.out; have := HK3.out; omega
            case rel => exact ⟨(wrap64 (x3_1 + 1)), (by first | rfl | (simp; done) | (simp [*]; done)), H', ⟨by have := HK1.out; have := HJ9.out; have := HK3.out; omega⟩, ⟨by (with_reducible repeat (first | refine blk_drewN ?_ _ | refine blk_drew ?_ | refine blk_alloc ?_ _)); exact BK1197.out⟩, ⟨by repeat (first | (with_reducible first | exact HB.out | apply below_alloc | apply pw_below_drewN | apply below_drew1 | refine below_set ?_ GE1197.out | refine below_set ?_ GE1201.out) | exact HB.out)⟩⟩
        ·rw [if_neg c16] at H
         exact absurd H (by simp)
       ·rw [if_neg c15] at H
        exact absurd H (by simp)
      ·replace c14 := Bool.eq_false_iff.mpr c14
       subst c14
       have H1 : ((graduslaw3_wakes.f kj9).bind fun t1199 => (some t1199)) = some r := by rw [if_neg (show ¬ (false = true) by decide)] at H; exact H
       clear H
       have H := H1
       clear H1
       replace H := Option.bind_eq_some_iff.mp H
       obtain ⟨t1199, A1020, H⟩ := H
       replace H : (some t1199) = some r := H
       have A102 := Aside0.mk A1020
       clear A1020
       obtain rfl := Option.some.inj H
       go_wp2_with (first | (go_at_call 67; (with_reducible refine (graduslaw3_wakes.calls kj9  t1199 _ A102.out).mono ?_); rintro e w103 ⟨rfl, hb⟩; have n0_ := Aside0.mk (blk_below (g := gb1197) (o := .cells #[.slice A0_0 l0_0.length c0_0, .slice A0_1 l0_1.length c0_1, .slice A0_2 l0_2.length c0_2] 67 (0, 0)) (by (with_reducible repeat (first | refine blk_drewN ?_ _ | refine blk_drew ?_ | refine blk_alloc ?_ _)); exact BK1197.out) hb); have n1_ := Aside0.mk (below_step (by repeat (first | (with_reducible first | exact HB.out | apply below_alloc | apply pw_below_drewN | apply below_drew1 | refine below_set ?_ GE1197.out) | exact HB.out)) hb); clear BK1197; clear HB; have BK1197 := n0_; have HB := n1_; clear n0_ n1_; (try clear hb); (try clear hb2); (try clear hk); (try clear hi)))
       go_ret
       exact ⟨by first | rfl | (simp [errW_none, errW_some] <;> rfl) | (simp [*, errW_none, errW_some] <;> rfl), by repeat (first | (with_reducible first | exact HB.out | apply below_alloc | apply pw_below_drewN | apply below_drew1 | refine below_set ?_ GE1197.out) | exact HB.out)⟩

end Go.Proofs.Ytpjcidlkdfebhaa.PT
