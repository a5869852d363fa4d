-- Made by a program of this session (wip/xprint.py): the kit's print with changes of ours; not print.sh's own text.
import Derived.Test.YtpjcidlkdfebhaaPTx0
import Derived.Test.YtpjcidlkdfebhaaPTx4
import Derived.Test.YtpjcidlkdfebhaaPTx7
import Derived.Test.YtpjcidlkdfebhaaPTx8
import Derived.Test.YtpjcidlkdfebhaaPTx9
namespace Go.Proofs.Ytpjcidlkdfebhaa.PT
open Go.RowKit Go.Proofs.YtpjcidlkdfebhaaW.PrintWords Go.Proofs.YtpjcidlkdfebhaaW.PrintLast Go.Proofs.YtpjcidlkdfebhaaW.PrintMore
attribute [local go_sem] max2_int min2_int max_two min_two max_three min_three max_four min_four   -- for this text's walks alone
set_option linter.unusedVariables false
set_option linter.unusedSimpArgs false

attribute [local go_sem] Go.Proofs.XW.sg8 Go.Proofs.XW.sg16 Go.Proofs.XW.sg32 Go.Proofs.XW.sg64
/-! ### graduslaw3_Heavy: function 62 -/
def graduslaw3_Heavy.f (k : Nat) (l0_0 : List (S34)) (l0_1 : List Int) (l0_2 : List (List Int)) : Option (Bool) := (graduslaw0_Lists.f k l0_2).bind fun t1082 => (if t1082 > 300 then (some true) else ((graduslaw2_Heavy.f k l0_0 l0_1).bind fun t1083 => (some t1083)))
theorem graduslaw3_Heavy.mono : ∀ a0 a1 a2 k, LeO (graduslaw3_Heavy.f k a0 a1 a2) (graduslaw3_Heavy.f (k + 1) a0 a1 a2) := by
 intro a0 a1 a2 k
 unfold graduslaw3_Heavy.f
 repeat' first
   | (with_reducible exact graduslaw0_Lists.mono _ _)
   | (with_reducible exact graduslaw2_Heavy.mono _ _ _)
   | (with_reducible exact LeO.refl _)
   | (with_reducible exact LeO.none _)
   | (with_reducible refine LeO.ite ?_ ?_)
   | (with_reducible refine LeO.bind ?_ (fun _ => ?_))
   | exact graduslaw0_Lists.mono _ _
   | exact graduslaw2_Heavy.mono _ _ _
   | exact LeO.none _
   | refine LeO.ite ?_ ?_
   | refine LeO.bind ?_ (fun _ => ?_)
set_option maxHeartbeats 8000000 in
set_option maxRecDepth 100000 in
theorem graduslaw3_Heavy.calls (k : Nat) (A0_0 : Option Addr) (c0_0 : Nat) (l0_0 : List (S34)) (A0_1 : Option Addr) (c0_1 : Nat) (l0_1 : List Int) (A0_2 : Option Addr) (c0_2 : Nat) (l0_2 : List (List Int)) (r : Bool) (w : World) (hr0_0 : Kd.C k34 w A0_0 l0_0.length l0_0) (hc0_0 : l0_0.length ≤ c0_0) (hr0_1 : Kd.C (Kd.int .i64) w A0_1 l0_1.length l0_1) (hc0_1 : l0_1.length ≤ c0_1) (hr0_2 : Kd.C (Kd.slice 3 (Kd.int .i64)) w A0_2 l0_2.length l0_2) (hc0_2 : l0_2.length ≤ c0_2) (h : graduslaw3_Heavy.f k l0_0 l0_1 l0_2 = some r) :
  Calls Try.prog 62 #[.agg #[.slice A0_0 l0_0.length c0_0, .slice A0_1 l0_1.length c0_1, .slice A0_2 l0_2.length c0_2]] w fun e w' => e = .returned (.bool r) ∧ Below w.heap.size w w' := by
 have hu67 := Try.underlying67
 have hu46 := Try.underlying46
 have HR0_0 := Aside0.mk hr0_0
 have HC0_0 := Aside0.mk hc0_0
 clear hr0_0 hc0_0
 have HR0_1 := Aside0.mk hr0_1
 have HC0_1 := Aside0.mk hc0_1
 clear hr0_1 hc0_1
 have HR0_2 := Aside0.mk hr0_2
 have HC0_2 := Aside0.mk hc0_2
 clear hr0_2 hc0_2
 have HB := Aside0.mk (Below.refl w.heap.size w)
 have H : ((graduslaw0_Lists.f k l0_2).bind fun t1082 => (if t1082 > 300 then (some true) else ((graduslaw2_Heavy.f k l0_0 l0_1).bind fun t1083 => (some t1083)))) = some r := h
 clear h
 replace H := Option.bind_eq_some_iff.mp H
 obtain ⟨t1082, A20, H⟩ := H
 replace H : (if t1082 > 300 then (some true) else ((graduslaw2_Heavy.f k l0_0 l0_1).bind fun t1083 => (some t1083))) = some r := H
 have A2 := Aside0.mk A20
 clear A20
 by_cases c3 : t1082 > 300
 ·rw [if_pos c3] at H
  have c3b0 : decide (300 < t1082) = true := decide_eq_true c3
  clear c3
  obtain rfl := Option.some.inj H
  go_enter Try.func62, Try.ntmps62
  go_wp2_with (first | ((with_reducible refine gate_dst (N := 1) rfl ?_); refine box_event ?hg (N := 1) ?hd (cs := #[.slice A0_0 l0_0.length c0_0, .slice A0_1 l0_1.length c0_1, .slice A0_2 l0_2.length c0_2]) (t := 67) ?hr ?_; (case hd => rfl); (case hg => rfl); (case hr => first | (go_simp; done) | (go_simp; rfl)); intro gb1081 hg w4 hbox hb; have n0_ := Aside0.mk (below_step (by repeat (first | (with_reducible first | exact HB.out | apply below_alloc | apply pw_below_drewN | apply below_drew1) | exact HB.out)) hb); have n1_ := Aside0.mk (hbox); have n2_ := Aside0.mk ((by rw [hg]; exact (below_size (by repeat (first | (with_reducible first | exact HB.out | apply below_alloc | apply pw_below_drewN | apply below_drew1) | exact HB.out))) : w.heap.size ≤ gb1081)); have n3_ := Aside0.mk ((by rw [hg]; exact (below_size (by repeat (first | (with_reducible first | exact HB.out | apply below_alloc | apply pw_below_drewN | apply below_drew1) | exact HB.out))) : w.heap.size ≤ gb1081)); clear HB; have HB := n0_; have BK1081 := n1_; have GW1081 := n2_; have GE1081 := n3_; clear n0_ n1_ n2_ n3_; clear hb hbox hg; have hcz5_0 : w4.cell? ⟨gb1081, 0, none⟩ = some (.slice A0_0 l0_0.length c0_0) := (blk_cell BK1081.out 0).trans rfl; have hcz5_1 : w4.cell? ⟨gb1081, 1, none⟩ = some (.slice A0_1 l0_1.length c0_1) := (blk_cell BK1081.out 1).trans rfl; have hcz5_2 : w4.cell? ⟨gb1081, 2, none⟩ = some (.slice A0_2 l0_2.length c0_2) := (blk_cell BK1081.out 2).trans rfl; have hfz5_0 := blk_frozen BK1081.out 0; have hfz5_1 := blk_frozen BK1081.out 1; have hfz5_2 := blk_frozen BK1081.out 2) | ((with_reducible refine gate_callee (f := 96) rfl ?_); refine goesL_ (some 5) rfl rfl Try.func96 (by kernel_rfl) rfl #[.slice A0_2 l0_2.length c0_2] rfl (by (try simp only [List.map_toArray, List.map_cons, List.map_nil]); first | done | rfl | (simp only [List.length_drop, List.length_take]; rfl)) ?_; (with_reducible refine (graduslaw0_Lists.calls k _ _ l0_2 t1082 _ ?side1 ?side2 A2.out).mono ?_); (case side1 => repeat (first | exact (Kd.C_below HR0_2.out HB.out) | (with_reducible refine Kd.C_alloc ?_ _) | (with_reducible refine Kd.C_drewN ?_ _) | (with_reducible refine Kd.C_drew ?_))); (case side2 => exact HC0_2.out); rintro e w' ⟨rfl, ⟨nd, rfl⟩⟩; refine ⟨_, rfl, ?_⟩))
  go_ret
  exact ⟨by first | rfl | (simp [errW_none, errW_some] <;> rfl) | (simp [*, errW_none, errW_some] <;> rfl), by repeat (first | (with_reducible first | exact HB.out | apply below_alloc | apply pw_below_drewN | apply below_drew1 | refine below_set ?_ GE1081.out) | exact HB.out)⟩
 ·rw [if_neg c3] at H
  have c3b0 : decide (300 < t1082) = false := decide_eq_false c3
  clear c3
  replace H := Option.bind_eq_some_iff.mp H
  obtain ⟨t1083, A60, H⟩ := H
  replace H : (some t1083) = some r := H
  have A6 := Aside0.mk A60
  clear A60
  obtain rfl := Option.some.inj H
  go_enter Try.func62, Try.ntmps62
  go_wp2_with (first | ((with_reducible refine gate_dst (N := 1) rfl ?_); refine box_event ?hg (N := 1) ?hd (cs := #[.slice A0_0 l0_0.length c0_0, .slice A0_1 l0_1.length c0_1, .slice A0_2 l0_2.length c0_2]) (t := 67) ?hr ?_; (case hd => rfl); (case hg => rfl); (case hr => first | (go_simp; done) | (go_simp; rfl)); intro gb1081 hg w7 hbox hb; have n0_ := Aside0.mk (below_step (by repeat (first | (with_reducible first | exact HB.out | apply below_alloc | apply pw_below_drewN | apply below_drew1) | exact HB.out)) hb); have n1_ := Aside0.mk (hbox); have n2_ := Aside0.mk ((by rw [hg]; exact (below_size (by repeat (first | (with_reducible first | exact HB.out | apply below_alloc | apply pw_below_drewN | apply below_drew1) | exact HB.out))) : w.heap.size ≤ gb1081)); have n3_ := Aside0.mk ((by rw [hg]; exact (below_size (by repeat (first | (with_reducible first | exact HB.out | apply below_alloc | apply pw_below_drewN | apply below_drew1) | exact HB.out))) : w.heap.size ≤ gb1081)); clear HB; have HB := n0_; have BK1081 := n1_; have GW1081 := n2_; have GE1081 := n3_; clear n0_ n1_ n2_ n3_; clear hb hbox hg; have hcz8_0 : w7.cell? ⟨gb1081, 0, none⟩ = some (.slice A0_0 l0_0.length c0_0) := (blk_cell BK1081.out 0).trans rfl; have hcz8_1 : w7.cell? ⟨gb1081, 1, none⟩ = some (.slice A0_1 l0_1.length c0_1) := (blk_cell BK1081.out 1).trans rfl; have hcz8_2 : w7.cell? ⟨gb1081, 2, none⟩ = some (.slice A0_2 l0_2.length c0_2) := (blk_cell BK1081.out 2).trans rfl; have hfz8_0 := blk_frozen BK1081.out 0; have hfz8_1 := blk_frozen BK1081.out 1; have hfz8_2 := blk_frozen BK1081.out 2) | ((with_reducible refine gate_callee (f := 96) rfl ?_); refine goesL_ (some 5) rfl rfl Try.func96 (by kernel_rfl) rfl #[.slice A0_2 l0_2.length c0_2] rfl (by (try simp only [List.map_toArray, List.map_cons, List.map_nil]); first | done | rfl | (simp only [List.length_drop, List.length_take]; rfl)) ?_; (with_reducible refine (graduslaw0_Lists.calls k _ _ l0_2 t1082 _ ?side1 ?side2 A2.out).mono ?_); (case side1 => repeat (first | exact (Kd.C_below HR0_2.out HB.out) | (with_reducible refine Kd.C_alloc ?_ _) | (with_reducible refine Kd.C_drewN ?_ _) | (with_reducible refine Kd.C_drew ?_))); (case side2 => exact HC0_2.out); rintro e w' ⟨rfl, ⟨nd, rfl⟩⟩; refine ⟨_, rfl, ?_⟩) | (go_at_call 33; (with_reducible refine (graduslaw2_Heavy.calls k _ _ l0_0 _ _ l0_1 t1083 _ ?side1 ?side2 ?side3 ?side4 A6.out).mono ?_); (case side1 => repeat (first | exact (Kd.C_below HR0_0.out (by repeat (first | (with_reducible first | exact HB.out | apply below_alloc | apply pw_below_drewN | apply below_drew1 | refine below_set ?_ GE1081.out) | exact HB.out))) | (with_reducible refine Kd.C_alloc ?_ _) | (with_reducible refine Kd.C_drewN ?_ _) | (with_reducible refine Kd.C_drew ?_))); (case side2 => exact HC0_0.out); (case side3 => repeat (first | exact (Kd.C_below HR0_1.out (by repeat (first | (with_reducible first | exact HB.out | apply below_alloc | apply pw_below_drewN | apply below_drew1 | refine below_set ?_ GE1081.out) | exact HB.out))) | (with_reducible refine Kd.C_alloc ?_ _) | (with_reducible refine Kd.C_drewN ?_ _) | (with_reducible refine Kd.C_drew ?_))); (case side4 => exact HC0_1.out); rintro e w9 ⟨rfl, hb⟩; have n0_ := Aside0.mk (blk_below (g := gb1081) (o := .cells #[.slice A0_0 l0_0.length c0_0, .slice A0_1 l0_1.length c0_1, .slice A0_2 l0_2.length c0_2] 67 (0, 0)) (by (with_reducible repeat (first | refine blk_drewN ?_ _ | refine blk_drew ?_ | refine blk_alloc ?_ _)); exact BK1081.out) hb); have n1_ := Aside0.mk (below_step (by repeat (first | (with_reducible first | exact HB.out | apply below_alloc | apply pw_below_drewN | apply below_drew1 | refine below_set ?_ GE1081.out) | exact HB.out)) hb); clear BK1081; clear HB; have BK1081 := n0_; have HB := n1_; clear n0_ n1_; (try clear hb); (try clear hb2); (try clear hk); (try clear hi)))
  go_ret
  exact ⟨by first | rfl | (simp [errW_none, errW_some] <;> rfl) | (simp [*, errW_none, errW_some] <;> rfl), by repeat (first | (with_reducible first | exact HB.out | apply below_alloc | apply pw_below_drewN | apply below_drew1 | refine below_set ?_ GE1081.out) | exact HB.out)⟩

/-! ### graduslaw3_dims: function 63 -/
mutual
def graduslaw3_dims.j0 : Nat → List (List Int) → List Int → List Int → Option ((List (List Int)))
 | 0, _, _, _ => none
 | k + 1, x5, x1086000, x1086001 => (gradusref1_Tensor.f k x1086000 x1086001).bind fun t1104 => (if t1104 = true then ((gradusref0_CopyNumbers.f k x1086000).bind fun t1108 => ((some (([(([1, (x1086001.length : Int) % 9] : List Int)), t1108] : List (List Int)) : List (List Int))).bind fun y1111 => (if x5.length + y1111.length < 5864062014805 then (graduslaw3_dims.l0 k (x5 ++ y1111) 0 x1086000 x1086001) else (none)))) else (some x5))
def graduslaw3_dims.l0 : Nat → List (List Int) → Int → List Int → List Int → Option ((List (List Int)))
 | 0, _, _, _, _ => none
 | k + 1, x5, x6, x1086000, x1086001 => if x6 < (x1086000.length : Int) then ((gradusref0_CopyNumbers.f k x1086000).bind fun t1117 => (if 0 ≤ x6 then (if x6 < (t1117.length : Int) then ((some (t1117.set (x6 : Int).toNat 1 : List Int)).bind fun y1120 => ((gradusref0_CopyNumbers.f k x1086000).bind fun t1121 => (if x6 < (t1121.length : Int) then (if (rd t1121 x6) = 1 then ((some (([y1120, (t1121.set (x6 : Int).toNat 3)] : List (List Int)) : List (List Int))).bind fun y1126 => (if x5.length + y1126.length < 5864062014805 then (graduslaw3_dims.l0 k (x5 ++ y1126) (wrap64 (x6 + 1)) x1086000 x1086001) else (none))) else ((some (([y1120, t1121] : List (List Int)) : List (List Int))).bind fun y1132 => (if x5.length + y1132.length < 5864062014805 then (graduslaw3_dims.l0 k (x5 ++ y1132) (wrap64 (x6 + 1)) x1086000 x1086001) else (none)))) else (none)))) else (none)) else (none))) else (some x5)
end
def graduslaw3_dims.f (k : Nat) (l0_0 : List (S34)) (l0_1 : List Int) (l0_2 : List (List Int)) (l1_0 : List Int) (l1_1 : List Int) : Option ((List (List Int))) := (some (([(([1] : List Int)), (([1, 1] : List Int)), (([] : List Int))] : List (List Int)) : List (List Int))).bind fun y1095 => (if y1095.length + l0_2.length < 5864062014805 then ((some (y1095 ++ l0_2 : List (List Int))).bind fun y1098 => (if (y1098.length : Int) > 8 then (if 8 ≤ (y1098.length : Int) then (graduslaw3_dims.j0 k (y1098.take (8 : Int).toNat) l1_0 l1_1) else (none)) else (graduslaw3_dims.j0 k y1098 l1_0 l1_1))) else (none))
theorem graduslaw3_dims.mono_l : ∀ k, (∀ y0 y1 y2, LeO (graduslaw3_dims.j0 k y0 y1 y2) (graduslaw3_dims.j0 (k + 1) y0 y1 y2)) ∧ (∀ y0 y1 y2 y3, LeO (graduslaw3_dims.l0 k y0 y1 y2 y3) (graduslaw3_dims.l0 (k + 1) y0 y1 y2 y3))
 | 0 => ⟨fun _ _ _ r h => by simp [graduslaw3_dims.j0] at h, fun _ _ _ _ r h => by simp [graduslaw3_dims.l0] at h⟩
 | k + 1 => by
  obtain ⟨ih0, ih1⟩ := graduslaw3_dims.mono_l k
  refine ⟨?_, ?_⟩
  ·intro y0 y1 y2
   unfold graduslaw3_dims.j0
   repeat' first
   | (with_reducible exact ih0 _ _ _)
   | (with_reducible exact ih1 _ _ _ _)
   | (with_reducible exact gradusref0_CopyNumbers.mono _ _)
   | (with_reducible exact gradusref1_Tensor.mono _ _ _)
   | (with_reducible exact LeO.refl _)
   | (with_reducible exact LeO.none _)
   | (with_reducible refine LeO.ite ?_ ?_)
   | (with_reducible refine LeO.bind ?_ (fun _ => ?_))
   | exact ih0 _ _ _
   | exact ih1 _ _ _ _
   | exact gradusref0_CopyNumbers.mono _ _
   | exact gradusref1_Tensor.mono _ _ _
   | exact LeO.none _
   | refine LeO.ite ?_ ?_
   | refine LeO.bind ?_ (fun _ => ?_)
  ·intro y0 y1 y2 y3
   unfold graduslaw3_dims.l0
   repeat' first
   | (with_reducible exact ih0 _ _ _)
   | (with_reducible exact ih1 _ _ _ _)
   | (with_reducible exact gradusref0_CopyNumbers.mono _ _)
   | (with_reducible exact gradusref1_Tensor.mono _ _ _)
   | (with_reducible exact LeO.refl _)
   | (with_reducible exact LeO.none _)
   | (with_reducible refine LeO.ite ?_ ?_)
   | (with_reducible refine LeO.bind ?_ (fun _ => ?_))
   | exact ih0 _ _ _
   | exact ih1 _ _ _ _
   | exact gradusref0_CopyNumbers.mono _ _
   | exact gradusref1_Tensor.mono _ _ _
   | exact LeO.none _
   | refine LeO.ite ?_ ?_
   | refine LeO.bind ?_ (fun _ => ?_)
theorem graduslaw3_dims.mono : ∀ a0 a1 a2 a3 a4 k, LeO (graduslaw3_dims.f k a0 a1 a2 a3 a4) (graduslaw3_dims.f (k + 1) a0 a1 a2 a3 a4) := by
 intro a0 a1 a2 a3 a4 k
 obtain ⟨ih0, ih1⟩ := graduslaw3_dims.mono_l k
 unfold graduslaw3_dims.f
 repeat' first
   | (with_reducible exact ih0 _ _ _)
   | (with_reducible exact ih1 _ _ _ _)
   | (with_reducible exact gradusref0_CopyNumbers.mono _ _)
   | (with_reducible exact gradusref1_Tensor.mono _ _ _)
   | (with_reducible exact LeO.refl _)
   | (with_reducible exact LeO.none _)
   | (with_reducible refine LeO.ite ?_ ?_)
   | (with_reducible refine LeO.bind ?_ (fun _ => ?_))
   | exact ih0 _ _ _
   | exact ih1 _ _ _ _
   | exact gradusref0_CopyNumbers.mono _ _
   | exact gradusref1_Tensor.mono _ _ _
   | exact LeO.none _
   | refine LeO.ite ?_ ?_
   | refine LeO.bind ?_ (fun _ => ?_)
def graduslaw3_dims.T5 : Bool × List (List Nat × List Nat) := (true, [([], []), ([], []), ([1], [1]), ([2], [2]), ([3], [3]), ([4], [4]), ([], []), ([6], [6]), ([7], [7]), ([5, 8], [5, 8]), ([0, 9, 8], [0, 9]), ([10, 10, 0, 1, 2, 3, 4, 5, 6, 7, 8, 9, 10], [0, 10])])
def graduslaw3_dims.B5 : List Nat := [0, 0, 2, 6, 14, 30, 0, 64, 192, 510, 1023, 2047]
theorem graduslaw3_dims.tab5 : rtab .any (opsOf Try.f63 5) = graduslaw3_dims.T5 := by kernel_rfl
theorem graduslaw3_dims.bits5 : waitsOk graduslaw3_dims.T5.2 graduslaw3_dims.B5 = true := by kernel_rfl
set_option maxHeartbeats 8000000 in
set_option maxRecDepth 100000 in
theorem graduslaw3_dims.calls (k : Nat) (A0_0 : Option Addr) (c0_0 : Nat) (l0_0 : List (S34)) (A0_1 : Option Addr) (c0_1 : Nat) (l0_1 : List Int) (P0_2_ : Nat → Prop) (A0_2 : Option Addr) (c0_2 : Nat) (l0_2 : List (List Int)) (A1_0 : Option Addr) (c1_0 : Nat) (l1_0 : List Int) (A1_1 : Option Addr) (c1_1 : Nat) (l1_1 : List Int) (r : List (List Int)) (w : World) (hr0_0 : Kd.C k34 w A0_0 l0_0.length l0_0) (hc0_0 : l0_0.length ≤ c0_0) (hr0_1 : Kd.C (Kd.int .i64) w A0_1 l0_1.length l0_1) (hc0_1 : l0_1.length ≤ c0_1) (hs0_2 : Kd.V (Kd.slice 3 (Kd.int .i64)) 23 w w.heap.size (fun k_ => P0_2_ k_) (.slice A0_2 l0_2.length c0_2) l0_2) (hr1_0 : Kd.C (Kd.int .i64) w A1_0 l1_0.length l1_0) (hc1_0 : l1_0.length ≤ c1_0) (hr1_1 : Kd.C (Kd.int .i64) w A1_1 l1_1.length l1_1) (hc1_1 : l1_1.length ≤ c1_1) (h : graduslaw3_dims.f k l0_0 l0_1 l0_2 l1_0 l1_1 = some r) :
  Calls Try.prog 63 #[.agg #[.slice A0_0 l0_0.length c0_0, .slice A0_1 l0_1.length c0_1, .slice A0_2 l0_2.length c0_2], .agg #[.slice A1_0 l1_0.length c1_0, .slice A1_1 l1_1.length c1_1]] w fun e w' => ∃ v0_ : Value, e = .returned (v0_) ∧ Kd.N (Kd.slice 3 (Kd.int .i64)) 23 w' w.heap.size (fun k_ => (P0_2_ k_ ∨ w.heap.size ≤ k_)) v0_ r ∧ Below w.heap.size w w' := by
 have hu67 := Try.underlying67
 have hu34 := Try.underlying34
 have HR0_0 := Aside0.mk hr0_0
 have HC0_0 := Aside0.mk hc0_0
 clear hr0_0 hc0_0
 have HR0_1 := Aside0.mk hr0_1
 have HC0_1 := Aside0.mk hc0_1
 clear hr0_1 hc0_1
 have HO0_2 := Aside0.mk (show Kd.V (Kd.slice 3 (Kd.int .i64)) 23 w w.heap.size (fun k_ => (P0_2_ k_ ∨ w.heap.size ≤ k_)) (.slice A0_2 l0_2.length c0_2) l0_2 from Kd.V_mono hs0_2 (fun k_ hk => .inl hk))
 have HR1_0 := Aside0.mk hr1_0
 have HC1_0 := Aside0.mk hc1_0
 clear hr1_0 hc1_0
 have HR1_1 := Aside0.mk hr1_1
 have HC1_1 := Aside0.mk hc1_1
 clear hr1_1 hc1_1
 have HB := Aside0.mk (Below.refl w.heap.size w)
 have H : ((some (([(([1] : List Int)), (([1, 1] : List Int)), (([] : List Int))] : List (List Int)) : List (List Int))).bind fun y1095 => (if y1095.length + l0_2.length < 5864062014805 then ((some (y1095 ++ l0_2 : List (List Int))).bind fun y1098 => (if (y1098.length : Int) > 8 then (if 8 ≤ (y1098.length : Int) then (graduslaw3_dims.j0 k (y1098.take (8 : Int).toNat) l1_0 l1_1) else (none)) else (graduslaw3_dims.j0 k y1098 l1_0 l1_1))) else (none))) = some r := h
 clear h
 obtain ⟨y1086, hy1086⟩ : ∃ y_ : List Int, y_ = (([1] : List Int)) := ⟨_, rfl⟩
 replace H : ((some (([y1086, (([1, 1] : List Int)), (([] : List Int))] : List (List Int)) : List (List Int))).bind fun y1095 => (if y1095.length + l0_2.length < 5864062014805 then ((some (y1095 ++ l0_2 : List (List Int))).bind fun y1098 => (if (y1098.length : Int) > 8 then (if 8 ≤ (y1098.length : Int) then (graduslaw3_dims.j0 k (y1098.take (8 : Int).toNat) l1_0 l1_1) else (none)) else (graduslaw3_dims.j0 k y1098 l1_0 l1_1))) else (none))) = some r := by first | (rw [hy1086]; with_reducible exact H) | (have H2_ := (Option.bind_some _ _).symm.trans H; rw [hy1086]; with_reducible exact H2_) | (have H2_ := (Option.bind_some _ _).symm.trans H; with_reducible exact H2_) | with_reducible exact H | (rw [hy1086]; exact H) | exact H
 have Ny1086 := Aside0.mk hy1086
 clear hy1086
 obtain ⟨y1089, hy1089⟩ : ∃ y_ : List Int, y_ = (([1, 1] : List Int)) := ⟨_, rfl⟩
 replace H : ((some (([y1086, y1089, (([] : List Int))] : List (List Int)) : List (List Int))).bind fun y1095 => (if y1095.length + l0_2.length < 5864062014805 then ((some (y1095 ++ l0_2 : List (List Int))).bind fun y1098 => (if (y1098.length : Int) > 8 then (if 8 ≤ (y1098.length : Int) then (graduslaw3_dims.j0 k (y1098.take (8 : Int).toNat) l1_0 l1_1) else (none)) else (graduslaw3_dims.j0 k y1098 l1_0 l1_1))) else (none))) = some r := by first | (rw [hy1089]; with_reducible exact H) | (have H2_ := (Option.bind_some _ _).symm.trans H; rw [hy1089]; with_reducible exact H2_) | (have H2_ := (Option.bind_some _ _).symm.trans H; with_reducible exact H2_) | with_reducible exact H | (rw [hy1089]; exact H) | exact H
 have Ny1089 := Aside0.mk hy1089
 clear hy1089
 obtain ⟨y1092, hy1092⟩ : ∃ y_ : List Int, y_ = (([] : List Int)) := ⟨_, rfl⟩
 replace H : ((some (([y1086, y1089, y1092] : List (List Int)) : List (List Int))).bind fun y1095 => (if y1095.length + l0_2.length < 5864062014805 then ((some (y1095 ++ l0_2 : List (List Int))).bind fun y1098 => (if (y1098.length : Int) > 8 then (if 8 ≤ (y1098.length : Int) then (graduslaw3_dims.j0 k (y1098.take (8 : Int).toNat) l1_0 l1_1) else (none)) else (graduslaw3_dims.j0 k y1098 l1_0 l1_1))) else (none))) = some r := by first | (rw [hy1092]; with_reducible exact H) | (have H2_ := (Option.bind_some _ _).symm.trans H; rw [hy1092]; with_reducible exact H2_) | (have H2_ := (Option.bind_some _ _).symm.trans H; with_reducible exact H2_) | with_reducible exact H | (rw [hy1092]; exact H) | exact H
 have Ny1092 := Aside0.mk hy1092
 clear hy1092
 obtain ⟨y1095, hy1095⟩ : ∃ y_ : List (List Int), y_ = (([y1086, y1089, y1092] : List (List Int))) := ⟨_, rfl⟩
 replace H : (if y1095.length + l0_2.length < 5864062014805 then ((some (y1095 ++ l0_2 : List (List Int))).bind fun y1098 => (if (y1098.length : Int) > 8 then (if 8 ≤ (y1098.length : Int) then (graduslaw3_dims.j0 k (y1098.take (8 : Int).toNat) l1_0 l1_1) else (none)) else (graduslaw3_dims.j0 k y1098 l1_0 l1_1))) else (none)) = some r := by first | (rw [hy1095]; with_reducible exact H) | (have H2_ := (Option.bind_some _ _).symm.trans H; rw [hy1095]; with_reducible exact H2_) | (have H2_ := (Option.bind_some _ _).symm.trans H; with_reducible exact H2_) | with_reducible exact H | (rw [hy1095]; exact H) | exact H
 have Ny1095 := Aside0.mk hy1095
 clear hy1095
 by_cases c3 : y1095.length + l0_2.length < 5864062014805
 ·rw [if_pos c3] at H
  have LMc3 := Aside0.mk c3
  clear c3
  obtain ⟨y1098, hy1098⟩ : ∃ y_ : List (List Int), y_ = (y1095 ++ l0_2) := ⟨_, rfl⟩
  replace H : (if (y1098.length : Int) > 8 then (if 8 ≤ (y1098.length : Int) then (graduslaw3_dims.j0 k (y1098.take (8 : Int).toNat) l1_0 l1_1) else (none)) else (graduslaw3_dims.j0 k y1098 l1_0 l1_1)) = some r := by first | (rw [hy1098]; with_reducible exact H) | (have H2_ := (Option.bind_some _ _).symm.trans H; rw [hy1098]; with_reducible exact H2_) | (have H2_ := (Option.bind_some _ _).symm.trans H; with_reducible exact H2_) | with_reducible exact H | (rw [hy1098]; exact H) | exact H
  have Ny1098 := Aside0.mk hy1098
  clear hy1098
  have HC4 := Aside0.mk H
  clear H
  go_enter Try.func63, Try.ntmps63
  go_upto_if 18 with (first | ((with_reducible refine gate_dst (N := 2) rfl ?_); refine box_event ?hg (N := 2) ?hd (cs := #[.slice A0_0 l0_0.length c0_0, .slice A0_1 l0_1.length c0_1, .slice A0_2 l0_2.length c0_2]) (t := 67) ?hr ?_; (case hd => rfl); (case hg => rfl); (case hr => first | (go_simp; done) | (go_simp; rfl)); intro gb1084 hg w5 hbox hb; have n0_ := Aside0.mk (Kd.V_below (Kd.V_elderB (by (with_reducible repeat (first | apply Kd.V_alloc | apply Kd.V_drewN | apply Kd.V_drew)); exact HO0_2.out) gb1084 (Nat.le_of_eq hg.symm)) hb); have n1_ := Aside0.mk (below_step (by repeat (first | (with_reducible first | exact HB.out | apply below_alloc | apply pw_below_drewN | apply below_drew1) | exact HB.out)) hb); have n2_ := Aside0.mk (hbox); have n3_ := Aside0.mk ((by rw [hg]; exact (below_size (by repeat (first | (with_reducible first | exact HB.out | apply below_alloc | apply pw_below_drewN | apply below_drew1) | exact HB.out))) : w.heap.size ≤ gb1084)); have n4_ := Aside0.mk ((by rw [hg]; exact (below_size (by repeat (first | (with_reducible first | exact HB.out | apply below_alloc | apply pw_below_drewN | apply below_drew1) | exact HB.out))) : w.heap.size ≤ gb1084)); clear HO0_2; clear HB; have HO0_2 := n0_; have HB := n1_; have BK1084 := n2_; have GW1084 := n3_; have GE1084 := n4_; clear n0_ n1_ n2_ n3_ n4_; clear hb hbox hg) | ((with_reducible refine gate_dst (N := 3) rfl ?_); refine box_event ?hg (N := 3) ?hd (cs := #[.slice A1_0 l1_0.length c1_0, .slice A1_1 l1_1.length c1_1]) (t := 34) ?hr ?_; (case hd => rfl); (case hg => rfl); (case hr => first | (go_simp; done) | (go_simp; rfl)); intro gb1085 hg w6 hbox hb; have n0_ := Aside0.mk (Kd.V_below (Kd.V_elderB (by (with_reducible repeat (first | apply Kd.V_alloc | apply Kd.V_drewN | apply Kd.V_drew)); exact HO0_2.out) gb1085 (Nat.le_of_eq hg.symm)) hb); have n1_ := Aside0.mk (blk_below (g := gb1084) (o := .cells #[.slice A0_0 l0_0.length c0_0, .slice A0_1 l0_1.length c0_1, .slice A0_2 l0_2.length c0_2] 67 (0, 0)) (by (with_reducible repeat (first | refine blk_drewN ?_ _ | refine blk_drew ?_ | refine blk_alloc ?_ _)); exact BK1084.out) hb); have n2_ := Aside0.mk (below_step (by repeat (first | (with_reducible first | exact HB.out | apply below_alloc | apply pw_below_drewN | apply below_drew1 | refine below_set ?_ GE1084.out) | exact HB.out)) hb); have n3_ := Aside0.mk (hbox); have n4_ := Aside0.mk ((by rw [hg]; exact (below_size (by repeat (first | (with_reducible first | exact HB.out | apply below_alloc | apply pw_below_drewN | apply below_drew1 | refine below_set ?_ GE1084.out) | exact HB.out))) : w.heap.size ≤ gb1085)); have n5_ := Aside0.mk ((by rw [hg]; exact (below_size (by repeat (first | (with_reducible first | exact HB.out | apply below_alloc | apply pw_below_drewN | apply below_drew1 | refine below_set ?_ GE1084.out) | exact HB.out))) : w.heap.size ≤ gb1085)); have n6_ := Aside0.mk ((by rw [hg]; exact Nat.ne_of_lt (blk_lt (g := gb1084) (o := .cells #[.slice A0_0 l0_0.length c0_0, .slice A0_1 l0_1.length c0_1, .slice A0_2 l0_2.length c0_2] 67 (0, 0)) (by (with_reducible repeat (first | refine blk_drewN ?_ _ | refine blk_drew ?_ | refine blk_alloc ?_ _)); exact BK1084.out)) : gb1084 ≠ gb1085)); have n7_ := Aside0.mk ((by rw [hg]; exact Nat.ne_of_gt (blk_lt (g := gb1084) (o := .cells #[.slice A0_0 l0_0.length c0_0, .slice A0_1 l0_1.length c0_1, .slice A0_2 l0_2.length c0_2] 67 (0, 0)) (by (with_reducible repeat (first | refine blk_drewN ?_ _ | refine blk_drew ?_ | refine blk_alloc ?_ _)); exact BK1084.out)) : gb1085 ≠ gb1084)); clear HO0_2; clear BK1084; clear HB; have HO0_2 := n0_; have BK1084 := n1_; have HB := n2_; have BK1085 := n3_; have GW1085 := n4_; have GE1085 := n5_; have NB1084_1085 := n6_; have NB1085_1084 := n7_; clear n0_ n1_ n2_ n3_ n4_ n5_ n6_ n7_; clear hb hbox hg) | ((with_reducible refine gate_dst (N := 9) rfl ?_); refine Kd.R_lit (Kd.int .i64) _ 3 ?hg (N := 9) ?hd (xs := ([1] : List Int)) (inner := [.int .i64 1]) (ok := fun _ => True) (okp := fun _ => True) ?hr ?hp (fun _ hk => hk) trivial (Below.refl _ _) (Nat.le_refl _) (by simp) ?_; (case hd => rfl); (case hg => rfl); (case hr => first | (go_simp; done) | (go_simp; rfl)); (case hp => exact (Reps.one (show Kd.M (Kd.int .i64) _ _ _ 1 [.int .i64 1] from rfl) (Reps.none _ _))); intro v1087 w7 ho8 hb hg_ hnew_; clear hg_ hnew_; (first | rw [← Ny1086.out] at ho8 | (simp only [Int.reduceToNat] at ho8; rw [← Ny1086.out] at ho8)); have n0_ := Aside0.mk (Kd.V_elder' (by (with_reducible repeat (first | apply Kd.V_alloc | apply Kd.V_drewN | apply Kd.V_drew)); exact HO0_2.out) (Kd.R_base ho8) hb); have n1_ := Aside0.mk (Kd.R_lower (Kd.R_newM (M := fun k_ => (w.heap.size ≤ k_)) ho8 (below_size (by repeat (first | (with_reducible first | exact HB.out | apply below_alloc | apply pw_below_drewN | apply below_drew1 | refine below_set ?_ GE1084.out | refine below_set ?_ GE1085.out) | exact HB.out))) (fun k_ h_ => h_)) (below_size (by repeat (first | (with_reducible first | exact HB.out | apply below_alloc | apply pw_below_drewN | apply below_drew1 | refine below_set ?_ GE1084.out | refine below_set ?_ GE1085.out) | exact HB.out)))); have n2_ := Aside0.mk (blk_below (g := gb1084) (o := .cells #[.slice A0_0 l0_0.length c0_0, .slice A0_1 l0_1.length c0_1, .slice A0_2 l0_2.length c0_2] 67 (0, 0)) (by (with_reducible repeat (first | refine blk_drewN ?_ _ | refine blk_drew ?_ | refine blk_alloc ?_ _)); exact BK1084.out) hb); have n3_ := Aside0.mk (blk_below (g := gb1085) (o := .cells #[.slice A1_0 l1_0.length c1_0, .slice A1_1 l1_1.length c1_1] 34 (0, 0)) (by (with_reducible repeat (first | refine blk_drewN ?_ _ | refine blk_drew ?_ | refine blk_alloc ?_ _)); exact BK1085.out) hb); have n4_ := Aside0.mk (below_step (by repeat (first | (with_reducible first | exact HB.out | apply below_alloc | apply pw_below_drewN | apply below_drew1 | refine below_set ?_ GE1084.out | refine below_set ?_ GE1085.out) | exact HB.out)) hb); clear HO0_2; clear BK1084; clear BK1085; clear HB; have HO0_2 := n0_; have HO1088 := n1_; have BK1084 := n2_; have BK1085 := n3_; have HB := n4_; clear n0_ n1_ n2_ n3_ n4_; clear hb ho8) | ((with_reducible refine gate_dst (N := 10) rfl ?_); refine Kd.R_lit (Kd.int .i64) _ 3 ?hg (N := 10) ?hd (xs := ([1, 1] : List Int)) (inner := [.int .i64 1, .int .i64 1]) (ok := fun _ => True) (okp := fun _ => True) ?hr ?hp (fun _ hk => hk) trivial (Below.refl _ _) (Nat.le_refl _) (by simp) ?_; (case hd => rfl); (case hg => rfl); (case hr => first | (go_simp; done) | (go_simp; rfl)); (case hp => exact (Reps.one (show Kd.M (Kd.int .i64) _ _ _ 1 [.int .i64 1] from rfl) (Reps.one (show Kd.M (Kd.int .i64) _ _ _ 1 [.int .i64 1] from rfl) (Reps.none _ _)))); intro v1090 w9 ho10 hb hg_ hnew_; clear hg_ hnew_; (first | rw [← Ny1089.out] at ho10 | (simp only [Int.reduceToNat] at ho10; rw [← Ny1089.out] at ho10)); have n0_ := Aside0.mk (Kd.V_elder' (by (with_reducible repeat (first | apply Kd.V_alloc | apply Kd.V_drewN | apply Kd.V_drew)); exact HO0_2.out) (Kd.R_base ho10) hb); have n1_ := Aside0.mk (Kd.R_elder' (by (with_reducible repeat (first | apply Kd.R_alloc | apply Kd.R_drewN | apply Kd.R_drew)); exact HO1088.out) (Kd.R_base ho10) hb); have n2_ := Aside0.mk (Kd.R_lower (Kd.R_new' (Kd.R_newM (M := fun k_ => (w.heap.size ≤ k_)) ho10 (below_size (by repeat (first | (with_reducible first | exact HB.out | apply below_alloc | apply pw_below_drewN | apply below_drew1 | refine below_set ?_ GE1084.out | refine below_set ?_ GE1085.out) | exact HB.out))) (fun k_ h_ => h_)) (Kd.R_lt (by (with_reducible repeat (first | apply Kd.R_alloc | apply Kd.R_drewN | apply Kd.R_drew)); exact HO1088.out))) (below_size (by repeat (first | (with_reducible first | exact HB.out | apply below_alloc | apply pw_below_drewN | apply below_drew1 | refine below_set ?_ GE1084.out | refine below_set ?_ GE1085.out) | exact HB.out)))); have n3_ := Aside0.mk (blk_below (g := gb1084) (o := .cells #[.slice A0_0 l0_0.length c0_0, .slice A0_1 l0_1.length c0_1, .slice A0_2 l0_2.length c0_2] 67 (0, 0)) (by (with_reducible repeat (first | refine blk_drewN ?_ _ | refine blk_drew ?_ | refine blk_alloc ?_ _)); exact BK1084.out) hb); have n4_ := Aside0.mk (blk_below (g := gb1085) (o := .cells #[.slice A1_0 l1_0.length c1_0, .slice A1_1 l1_1.length c1_1] 34 (0, 0)) (by (with_reducible repeat (first | refine blk_drewN ?_ _ | refine blk_drew ?_ | refine blk_alloc ?_ _)); exact BK1085.out) hb); have n5_ := Aside0.mk (below_step (by repeat (first | (with_reducible first | exact HB.out | apply below_alloc | apply pw_below_drewN | apply below_drew1 | refine below_set ?_ GE1084.out | refine below_set ?_ GE1085.out) | exact HB.out)) hb); clear HO0_2; clear HO1088; clear BK1084; clear BK1085; clear HB; have HO0_2 := n0_; have HO1088 := n1_; have HO1091 := n2_; have BK1084 := n3_; have BK1085 := n4_; have HB := n5_; clear n0_ n1_ n2_ n3_ n4_ n5_; clear hb ho10) | ((with_reducible refine gate_dst (N := 11) rfl ?_); refine Kd.R_lit (Kd.int .i64) _ 3 ?hg (N := 11) ?hd (xs := ([] : List Int)) (inner := []) (ok := fun _ => True) (okp := fun _ => True) ?hr ?hp (fun _ hk => hk) trivial (Below.refl _ _) (Nat.le_refl _) (by simp) ?_; (case hd => rfl); (case hg => rfl); (case hr => first | (go_simp; done) | (go_simp; rfl)); (case hp => exact (Reps.none _ _)); intro v1093 w11 ho12 hb hg_ hnew_; clear hg_ hnew_; (first | rw [← Ny1092.out] at ho12 | (simp only [Int.reduceToNat] at ho12; rw [← Ny1092.out] at ho12)); have n0_ := Aside0.mk (Kd.V_elder' (by (with_reducible repeat (first | apply Kd.V_alloc | apply Kd.V_drewN | apply Kd.V_drew)); exact HO0_2.out) (Kd.R_base ho12) hb); have n1_ := Aside0.mk (Kd.R_elder' (by (with_reducible repeat (first | apply Kd.R_alloc | apply Kd.R_drewN | apply Kd.R_drew)); exact HO1088.out) (Kd.R_base ho12) hb); have n2_ := Aside0.mk (Kd.R_elder' (by (with_reducible repeat (first | apply Kd.R_alloc | apply Kd.R_drewN | apply Kd.R_drew)); exact HO1091.out) (Kd.R_base ho12) hb); have n3_ := Aside0.mk (Kd.R_lower (Kd.R_new' (Kd.R_new' (Kd.R_newM (M := fun k_ => (w.heap.size ≤ k_)) ho12 (below_size (by repeat (first | (with_reducible first | exact HB.out | apply below_alloc | apply pw_below_drewN | apply below_drew1 | refine below_set ?_ GE1084.out | refine below_set ?_ GE1085.out) | exact HB.out))) (fun k_ h_ => h_)) (Kd.R_lt (by (with_reducible repeat (first | apply Kd.R_alloc | apply Kd.R_drewN | apply Kd.R_drew)); exact HO1088.out))) (Kd.R_lt (by (with_reducible repeat (first | apply Kd.R_alloc | apply Kd.R_drewN | apply Kd.R_drew)); exact HO1091.out))) (below_size (by repeat (first | (with_reducible first | exact HB.out | apply below_alloc | apply pw_below_drewN | apply below_drew1 | refine below_set ?_ GE1084.out | refine below_set ?_ GE1085.out) | exact HB.out)))); have n4_ := Aside0.mk (blk_below (g := gb1084) (o := .cells #[.slice A0_0 l0_0.length c0_0, .slice A0_1 l0_1.length c0_1, .slice A0_2 l0_2.length c0_2] 67 (0, 0)) (by (with_reducible repeat (first | refine blk_drewN ?_ _ | refine blk_drew ?_ | refine blk_alloc ?_ _)); exact BK1084.out) hb); have n5_ := Aside0.mk (blk_below (g := gb1085) (o := .cells #[.slice A1_0 l1_0.length c1_0, .slice A1_1 l1_1.length c1_1] 34 (0, 0)) (by (with_reducible repeat (first | refine blk_drewN ?_ _ | refine blk_drew ?_ | refine blk_alloc ?_ _)); exact BK1085.out) hb); have n6_ := Aside0.mk (below_step (by repeat (first | (with_reducible first | exact HB.out | apply below_alloc | apply pw_below_drewN | apply below_drew1 | refine below_set ?_ GE1084.out | refine below_set ?_ GE1085.out) | exact HB.out)) hb); clear HO0_2; clear HO1088; clear HO1091; clear BK1084; clear BK1085; clear HB; have HO0_2 := n0_; have HO1088 := n1_; have HO1091 := n2_; have HO1094 := n3_; have BK1084 := n4_; have BK1085 := n5_; have HB := n6_; clear n0_ n1_ n2_ n3_ n4_ n5_ n6_; clear hb ho12; obtain ⟨Ao13, co13, eo13⟩ := Kd.R_slice HO1088.out; subst eo13; obtain ⟨Ao14, co14, eo14⟩ := Kd.R_slice HO1091.out; subst eo14; obtain ⟨Ao15, co15, eo15⟩ := Kd.R_slice HO1094.out; subst eo15) | ((with_reducible refine gate_dst (N := 12) rfl ?_); refine Kd.N_lit (Kd.slice 3 (Kd.int .i64)) _ 23 ?hg (N' := 12) ?hd (xs := ([y1086, y1089, y1092] : List (List Int))) (inner := [.slice Ao13 y1086.length co13, .slice Ao14 y1089.length co14, .slice Ao15 y1092.length co15]) (ok := (fun k_ => (P0_2_ k_ ∨ w.heap.size ≤ k_) ∧ k_ ≠ gb1084 ∧ k_ ≠ gb1085)) (okp := (fun k_ => (P0_2_ k_ ∨ w.heap.size ≤ k_) ∧ k_ ≠ gb1084 ∧ k_ ≠ gb1085)) ?hr ?hp (fun _ hk => hk) ((show ∀ k_, w11.heap.size ≤ k_ → (fun k_ => (P0_2_ k_ ∨ w.heap.size ≤ k_) ∧ k_ ≠ gb1084 ∧ k_ ≠ gb1085) k_ from fun k_ hk => ⟨(.inr (Nat.le_trans (below_size (by repeat (first | (with_reducible first | exact HB.out | apply below_alloc | apply pw_below_drewN | apply below_drew1 | refine below_set ?_ GE1084.out | refine below_set ?_ GE1085.out) | exact HB.out))) hk)), Kd.freshB (g := gb1084) (o := .cells #[.slice A0_0 l0_0.length c0_0, .slice A0_1 l0_1.length c0_1, .slice A0_2 l0_2.length c0_2] 67 (0, 0)) (by (with_reducible repeat (first | refine blk_drewN ?_ _ | refine blk_drew ?_ | refine blk_alloc ?_ _)); exact BK1084.out) k_ hk, Kd.freshB (g := gb1085) (o := .cells #[.slice A1_0 l1_0.length c1_0, .slice A1_1 l1_1.length c1_1] 34 (0, 0)) (by (with_reducible repeat (first | refine blk_drewN ?_ _ | refine blk_drew ?_ | refine blk_alloc ?_ _)); exact BK1085.out) k_ hk⟩) _ (Nat.le_refl _)) (Below.refl _ _) (Nat.le_refl _) (by simp) ?_; (case hd => rfl); (case hg => rfl); (case hr => first | (go_simp; done) | (go_simp; rfl)); (case hp => exact (Reps.one (show Kd.FK (Kd.slice 3 (Kd.int .i64)) _ _ y1086 [.slice Ao13 y1086.length co13] from (Go.Proofs.XW.FK_of_R (Kd.R_mono (ok' := (fun k_ => (P0_2_ k_ ∨ w.heap.size ≤ k_) ∧ k_ ≠ gb1084 ∧ k_ ≠ gb1085)) (Kd.R_types (Kd.R_types (HO1088.out) BK1084.out (by decide)) BK1085.out (by decide)) (fun k_ hk => ⟨(.inr (hk.1.1.1.1.1)), ⟨hk.1.2, hk.2⟩⟩)))) (Reps.one (show Kd.FK (Kd.slice 3 (Kd.int .i64)) _ _ y1089 [.slice Ao14 y1089.length co14] from (Go.Proofs.XW.FK_of_R (Kd.R_mono (ok' := (fun k_ => (P0_2_ k_ ∨ w.heap.size ≤ k_) ∧ k_ ≠ gb1084 ∧ k_ ≠ gb1085)) (Kd.R_types (Kd.R_types (HO1091.out) BK1084.out (by decide)) BK1085.out (by decide)) (fun k_ hk => ⟨(.inr (hk.1.1.1.1.1)), ⟨hk.1.2, hk.2⟩⟩)))) (Reps.one (show Kd.FK (Kd.slice 3 (Kd.int .i64)) _ _ y1092 [.slice Ao15 y1092.length co15] from (Go.Proofs.XW.FK_of_R (Kd.R_mono (ok' := (fun k_ => (P0_2_ k_ ∨ w.heap.size ≤ k_) ∧ k_ ≠ gb1084 ∧ k_ ≠ gb1085)) (Kd.R_types (Kd.R_types (HO1094.out) BK1084.out (by decide)) BK1085.out (by decide)) (fun k_ hk => ⟨(.inr (hk.1.1.1.1.1)), ⟨hk.1.2, hk.2⟩⟩)))) (Reps.none _ _))))); intro v1096 w16 ho17 hb hg_ hnew_; clear hg_ hnew_; (first | rw [← Ny1095.out] at ho17 | (simp only [Int.reduceToNat] at ho17; rw [← Ny1095.out] at ho17)); have n0_ := Aside0.mk (Kd.V_elder' (by (with_reducible repeat (first | apply Kd.V_alloc | apply Kd.V_drewN | apply Kd.V_drew)); exact HO0_2.out) (Kd.N_base ho17) hb); have n1_ := Aside0.mk (Kd.N_lower ho17 (below_size (by repeat (first | (with_reducible first | exact HB.out | apply below_alloc | apply pw_below_drewN | apply below_drew1 | refine below_set ?_ GE1084.out | refine below_set ?_ GE1085.out) | exact HB.out)))); have n2_ := Aside0.mk (blk_below (g := gb1084) (o := .cells #[.slice A0_0 l0_0.length c0_0, .slice A0_1 l0_1.length c0_1, .slice A0_2 l0_2.length c0_2] 67 (0, 0)) (by (with_reducible repeat (first | refine blk_drewN ?_ _ | refine blk_drew ?_ | refine blk_alloc ?_ _)); exact BK1084.out) hb); have n3_ := Aside0.mk (blk_below (g := gb1085) (o := .cells #[.slice A1_0 l1_0.length c1_0, .slice A1_1 l1_1.length c1_1] 34 (0, 0)) (by (with_reducible repeat (first | refine blk_drewN ?_ _ | refine blk_drew ?_ | refine blk_alloc ?_ _)); exact BK1085.out) hb); have n4_ := Aside0.mk (below_step (by repeat (first | (with_reducible first | exact HB.out | apply below_alloc | apply pw_below_drewN | apply below_drew1 | refine below_set ?_ GE1084.out | refine below_set ?_ GE1085.out) | exact HB.out)) hb); clear HO0_2; clear BK1084; clear BK1085; clear HB; clear HO1088; clear HO1091; clear HO1094; have HO0_2 := n0_; have HO1097 := n1_; have BK1084 := n2_; have BK1085 := n3_; have HB := n4_; clear n0_ n1_ n2_ n3_ n4_; clear hb ho17; have hnb18 := NB1084_1085.out; have hnc18 := NB1085_1084.out; have hcz19_0 : w16.cell? ⟨gb1084, 0, none⟩ = some (.slice A0_0 l0_0.length c0_0) := (blk_cell BK1084.out 0).trans rfl; have hcz19_1 : w16.cell? ⟨gb1084, 1, none⟩ = some (.slice A0_1 l0_1.length c0_1) := (blk_cell BK1084.out 1).trans rfl; have hcz19_2 : w16.cell? ⟨gb1084, 2, none⟩ = some (.slice A0_2 l0_2.length c0_2) := (blk_cell BK1084.out 2).trans rfl; have hfz19_0 := blk_frozen BK1084.out 0; have hfz19_1 := blk_frozen BK1084.out 1; have hfz19_2 := blk_frozen BK1084.out 2) | ((with_reducible refine gate_builtin (b := .append) (xs := #[.tmp 12, .tmp 14]) rfl ?_); at_builtin; refine Kd.N_append_rows (Kd.slice 3 (Kd.int .i64)) (w0 := w) w.heap.size rfl (.tmp 12) (.tmp 14) 22 23 (.slice none 0 0) 24 rfl Try.underlying22 info23 rfl (by decide) (by omega) v1096 y1095 l0_2 _ _ _ (fun k_ => (P0_2_ k_ ∨ w.heap.size ≤ k_) ∧ k_ ≠ gb1084 ∧ k_ ≠ gb1085) (fun k_ => ((fun k_ => (P0_2_ k_ ∨ w.heap.size ≤ k_) ∧ k_ ≠ gb1084 ∧ k_ ≠ gb1085)) k_ ∧ some k_ ≠ (v1096 : Value).ownBlock) rfl rfl ?aO ?aR (fun _ hk => hk) ?aF ?aB ?aS ?aL ?_; (case aR => exact (by skip; exact Kd.V_F (Kd.V_mono (ok' := (fun k_ => ((fun k_ => (P0_2_ k_ ∨ w.heap.size ≤ k_) ∧ k_ ≠ gb1084 ∧ k_ ≠ gb1085)) k_ ∧ some k_ ≠ (v1096 : Value).ownBlock)) (HO0_2.out) (fun k_ hk => ⟨⟨hk.1.1.1.1.1.1, ⟨hk.1.1.1.1.1.2, hk.1.1.1.1.2⟩⟩, hk.2⟩)))); (case aB => exact (by repeat (first | (with_reducible first | exact HB.out | apply below_alloc | apply pw_below_drewN | apply below_drew1 | refine below_set ?_ GE1084.out | refine below_set ?_ GE1085.out) | exact HB.out))); (case aF => exact (fun k_ hk => ⟨(.inr (Nat.le_trans (below_size (by repeat (first | (with_reducible first | exact HB.out | apply below_alloc | apply pw_below_drewN | apply below_drew1 | refine below_set ?_ GE1084.out | refine below_set ?_ GE1085.out) | exact HB.out))) hk)), Kd.freshB (g := gb1084) (o := .cells #[.slice A0_0 l0_0.length c0_0, .slice A0_1 l0_1.length c0_1, .slice A0_2 l0_2.length c0_2] 67 (0, 0)) (by (with_reducible repeat (first | refine blk_drewN ?_ _ | refine blk_drew ?_ | refine blk_alloc ?_ _)); exact BK1084.out) k_ hk, Kd.freshB (g := gb1085) (o := .cells #[.slice A1_0 l1_0.length c1_0, .slice A1_1 l1_1.length c1_1] 34 (0, 0)) (by (with_reducible repeat (first | refine blk_drewN ?_ _ | refine blk_drew ?_ | refine blk_alloc ?_ _)); exact BK1085.out) k_ hk⟩)); (case aO => exact (by (with_reducible repeat (first | apply Kd.N_alloc | apply Kd.N_drewN | apply Kd.N_drew)); exact HO1097.out)); (case aS => exact (below_size (by repeat (first | (with_reducible first | exact HB.out | apply below_alloc | apply pw_below_drewN | apply below_drew1 | refine below_set ?_ GE1084.out | refine below_set ?_ GE1085.out) | exact HB.out)))); (case aL => have := LMc3.out; omega); intro v1099 w20 ho hb hg hat; rw [← Ny1098.out] at ho; have n0_ := Aside0.mk (Kd.V_afterv (ok := (fun k_ => (P0_2_ k_ ∨ w.heap.size ≤ k_) ∧ k_ ≠ gb1084 ∧ k_ ≠ gb1085)) (by (with_reducible repeat (first | apply Kd.V_alloc | apply Kd.V_drewN | apply Kd.V_drew)); exact Kd.V_mono HO0_2.out (fun _ hk => ⟨⟨hk.1.1.1.1.1.1, ⟨hk.1.1.1.1.1.2, hk.1.1.1.1.2⟩⟩, hk.2⟩)) hg hat); have n1_ := Aside0.mk (blk_grown (g := gb1084) (o := .cells #[.slice A0_0 l0_0.length c0_0, .slice A0_1 l0_1.length c0_1, .slice A0_2 l0_2.length c0_2] 67 (0, 0)) (by (with_reducible repeat (first | refine blk_drewN ?_ _ | refine blk_drew ?_ | refine blk_alloc ?_ _)); exact BK1084.out) hg (Kd.N_ne HO1097.out BK1084.out (by decide))); have n2_ := Aside0.mk (blk_grown (g := gb1085) (o := .cells #[.slice A1_0 l1_0.length c1_0, .slice A1_1 l1_1.length c1_1] 34 (0, 0)) (by (with_reducible repeat (first | refine blk_drewN ?_ _ | refine blk_drew ?_ | refine blk_alloc ?_ _)); exact BK1085.out) hg (Kd.N_ne HO1097.out BK1085.out (by decide))); have n3_ := Aside0.mk (hb); have n4_ := Aside0.mk (ho); clear HO0_2; clear BK1084; clear BK1085; clear HB; clear HO1097; have HO0_2 := n0_; have BK1084 := n1_; have BK1085 := n2_; have HB := n3_; have HO1100 := n4_; clear n0_ n1_ n2_ n3_ n4_; clear ho hb hg hat; obtain ⟨Ao21, co21, eo21⟩ := Kd.N_slice HO1100.out; subst eo21))
  (try simp only [Act.put, List.setIfInBounds_toArray, List.set_cons_zero, List.set_cons_succ])
  go_cut [5] (fun v5 wc => ∃ (kq : Nat) (x5_3 : List (List Int)), Aside0 (graduslaw3_dims.j0 kq x5_3 l1_0 l1_1 = some r) ∧ Aside0 (kq ≤ k) ∧ Aside0 (Kd.N (Kd.slice 3 (Kd.int .i64)) 23 wc w.heap.size (fun k_ => (P0_2_ k_ ∨ w.heap.size ≤ k_) ∧ k_ ≠ gb1084 ∧ k_ ≠ gb1085) v5 x5_3) ∧ Aside0 (Kd.V (Kd.slice 3 (Kd.int .i64)) 23 wc w.heap.size (fun k_ => (P0_2_ k_ ∨ w.heap.size ≤ k_) ∧ some k_ ≠ (v5 : Value).ownBlock ∧ k_ ≠ gb1084 ∧ k_ ≠ gb1085) (.slice A0_2 l0_2.length c0_2) l0_2) ∧ Aside0 (wc.heap[gb1084]? = some (.cells #[(.slice A0_0 l0_0.length c0_0), (.slice A0_1 l0_1.length c0_1), (.slice A0_2 l0_2.length c0_2)] 67 (0, 0))) ∧ Aside0 (wc.heap[gb1085]? = some (.cells #[(.slice A1_0 l1_0.length c1_0), (.slice A1_1 l1_1.length c1_1)] 34 (0, 0))) ∧ Aside0 (Below w.heap.size w wc))
  case first =>
   have H := HC4.out
   clear HC4
   by_cases c22 : (y1098.length : Int) > 8
   ·rw [if_pos c22] at H
    have c22b0 : decide (8 < (y1098.length : Int)) = true := decide_eq_true c22
    have c22b1 : decide (8 < y1098.length) = true := decide_eq_true (by omega)
    clear c22
    (first | rw [c22b0] | (simp only [i64_w, i32_w]; rw [c22b0]) | skip)
    by_cases c23 : 8 ≤ (y1098.length : Int)
    ·rw [if_pos c23] at H
     have c23b0 := eq_true c23
     have c23b1 : decide (8 ≤ (y1098.length : Int)) = true := decide_eq_true c23
     clear c23
     obtain ⟨y1101, hy1101⟩ : ∃ y_ : List (List Int), y_ = (y1098.take (8 : Int).toNat) := ⟨_, rfl⟩
     replace H : (graduslaw3_dims.j0 k y1101 l1_0 l1_1) = some r := by first | (rw [hy1101]; with_reducible exact H) | (have H2_ := (Option.bind_some _ _).symm.trans H; rw [hy1101]; with_reducible exact H2_) | (have H2_ := (Option.bind_some _ _).symm.trans H; with_reducible exact H2_) | with_reducible exact H | (rw [hy1101]; exact H) | exact H
     have Ny1101 := Aside0.mk hy1101
     clear hy1101
     have H' := Aside0.mk H
     clear H
     have q24 : (8 : Int) ≤ ((y1098.length : Int) : Int) := of_decide_eq_true (by first | (with_reducible assumption) | assumption)
     obtain ⟨i024, hi024, _, hsz24, _⟩ := info_parts info23
     have hcut24 := cut_to (P := Try.prog) 22 23 .i64 Try.underlying22 hi024 Ao21 y1098.length co21 8 (by omega) q24 (Kd.N_reads' HO1100.out).2.1
     have hr24 := Kd.N_take (m := (8 : Int).toNat) HO1100.out (by omega)
     have hy24 : y1101.length = (8 : Int).toNat := (by rw [Ny1101.out, List.length_take]; omega)
     rw [← Ny1101.out] at hr24
     rw [← hy24] at hr24 hcut24
     clear hy24 hi024 hsz24 HO1100
     have HO1103 := Aside0.mk hr24
     clear hr24
     replace q24 := eq_true q24
     (try rw [Go.Proofs.XW.ob_len Ao21 (y1098.length) (y1101.length) co21] at HO0_2)
     go_wp2
     go_meet
     case rel => exact ⟨_, (y1101), H', ⟨by first | omega | exact Nat.le_refl _⟩, ⟨by (with_reducible repeat (first | apply Kd.N_alloc | apply Kd.N_drewN | apply Kd.N_drew)); exact HO1103.out⟩, ⟨by (with_reducible repeat (first | apply Kd.V_alloc | apply Kd.V_drewN | apply Kd.V_drew)); exact Kd.V_mono HO0_2.out (fun _ hk => ⟨hk.1.1, ⟨hk.2, ⟨hk.1.2.1, hk.1.2.2⟩⟩⟩)⟩, ⟨by (with_reducible repeat (first | refine blk_drewN ?_ _ | refine blk_drew ?_ | refine blk_alloc ?_ _)); exact BK1084.out⟩, ⟨by (with_reducible repeat (first | refine blk_drewN ?_ _ | refine blk_drew ?_ | refine blk_alloc ?_ _)); exact BK1085.out⟩, ⟨by repeat (first | (with_reducible first | exact HB.out | apply below_alloc | apply pw_below_drewN | apply below_drew1 | refine below_set ?_ GE1084.out | refine below_set ?_ GE1085.out) | exact HB.out)⟩⟩
    ·rw [if_neg c23] at H
     exact absurd H (by simp)
   ·rw [if_neg c22] at H
    have c22b0 : decide (8 < (y1098.length : Int)) = false := decide_eq_false c22
    have c22b1 : decide (8 < y1098.length) = false := decide_eq_false (by omega)
    clear c22
    (first | rw [c22b0] | (simp only [i64_w, i32_w]; rw [c22b0]) | skip)
    have H' := Aside0.mk H
    clear H
    go_wp2
    go_meet
    case rel => exact ⟨_, (y1098), H', ⟨by first | omega | exact Nat.le_refl _⟩, ⟨by (with_reducible repeat (first | apply Kd.N_alloc | apply Kd.N_drewN | apply Kd.N_drew)); exact HO1100.out⟩, ⟨by (with_reducible repeat (first | apply Kd.V_alloc | apply Kd.V_drewN | apply Kd.V_drew)); exact Kd.V_mono HO0_2.out (fun _ hk => ⟨hk.1.1, ⟨hk.2, ⟨hk.1.2.1, hk.1.2.2⟩⟩⟩)⟩, ⟨by (with_reducible repeat (first | refine blk_drewN ?_ _ | refine blk_drew ?_ | refine blk_alloc ?_ _)); exact BK1084.out⟩, ⟨by (with_reducible repeat (first | refine blk_drewN ?_ _ | refine blk_drew ?_ | refine blk_alloc ?_ _)); exact BK1085.out⟩, ⟨by repeat (first | (with_reducible first | exact HB.out | apply below_alloc | apply pw_below_drewN | apply below_drew1 | refine below_set ?_ GE1084.out | refine below_set ?_ GE1085.out) | exact HB.out)⟩⟩
  case rest =>
   clear HC4
   try clear c1
   try clear c2
   try clear p2
   try clear q2
   try clear c3
   try clear c6
   try clear c18
   try clear c22
   try clear c22b0
   try clear c22b1
   try clear c23
   try clear c23b0
   try clear c23b1
   try clear q24
   try clear hcz19_0
   try clear hcz19_1
   try clear hcz19_2
   try clear hfz19_0
   try clear hfz19_1
   try clear hfz19_2
   try clear q24
   obtain ⟨kq, x5_3, HA, HJ3, HO_5, HO_1085002, BK1084, BK1085, HB⟩ := hcut
   cases kq with
   | zero => exact absurd HA.out (by simp [graduslaw3_dims.j0])
   | succ kj3 =>
    have H := HA.out
    clear HA
    simp only [graduslaw3_dims.j0] at H
    replace H := Option.bind_eq_some_iff.mp H
    obtain ⟨t1104, A250, H⟩ := H
    replace H : (if t1104 = true then ((gradusref0_CopyNumbers.f kj3 l1_0).bind fun t1108 => ((some (([(([1, (l1_1.length : Int) % 9] : List Int)), t1108] : List (List Int)) : List (List Int))).bind fun y1111 => (if x5_3.length + y1111.length < 5864062014805 then (graduslaw3_dims.l0 kj3 (x5_3 ++ y1111) 0 l1_0 l1_1) else (none)))) else (some x5_3)) = some r := H
    have A25 := Aside0.mk A250
    clear A250
    by_cases c26 : t1104 = true
    ·subst c26
     have H1 : ((gradusref0_CopyNumbers.f kj3 l1_0).bind fun t1108 => ((some (([(([1, (l1_1.length : Int) % 9] : List Int)), t1108] : List (List Int)) : List (List Int))).bind fun y1111 => (if x5_3.length + y1111.length < 5864062014805 then (graduslaw3_dims.l0 kj3 (x5_3 ++ y1111) 0 l1_0 l1_1) else (none)))) = some r := by rw [if_pos rfl] at H; exact H
     clear H
     have H := H1
     clear H1
     obtain ⟨y1105, hy1105⟩ : ∃ y_ : List Int, y_ = (([1, (l1_1.length : Int) % 9] : List Int)) := ⟨_, rfl⟩
     replace H : ((gradusref0_CopyNumbers.f kj3 l1_0).bind fun t1108 => ((some (([y1105, t1108] : List (List Int)) : List (List Int))).bind fun y1111 => (if x5_3.length + y1111.length < 5864062014805 then (graduslaw3_dims.l0 kj3 (x5_3 ++ y1111) 0 l1_0 l1_1) else (none)))) = some r := by first | (rw [hy1105]; with_reducible exact H) | (have H2_ := (Option.bind_some _ _).symm.trans H; rw [hy1105]; with_reducible exact H2_) | (have H2_ := (Option.bind_some _ _).symm.trans H; with_reducible exact H2_) | with_reducible exact H | (rw [hy1105]; exact H) | exact H
     have Ny1105 := Aside0.mk hy1105
     clear hy1105
     replace H := Option.bind_eq_some_iff.mp H
     obtain ⟨t1108, A270, H⟩ := H
     replace H : ((some (([y1105, t1108] : List (List Int)) : List (List Int))).bind fun y1111 => (if x5_3.length + y1111.length < 5864062014805 then (graduslaw3_dims.l0 kj3 (x5_3 ++ y1111) 0 l1_0 l1_1) else (none))) = some r := H
     have A27 := Aside0.mk A270
     clear A270
     obtain ⟨y1111, hy1111⟩ : ∃ y_ : List (List Int), y_ = (([y1105, t1108] : List (List Int))) := ⟨_, rfl⟩
     replace H : (if x5_3.length + y1111.length < 5864062014805 then (graduslaw3_dims.l0 kj3 (x5_3 ++ y1111) 0 l1_0 l1_1) else (none)) = some r := by first | (rw [hy1111]; with_reducible exact H) | (have H2_ := (Option.bind_some _ _).symm.trans H; rw [hy1111]; with_reducible exact H2_) | (have H2_ := (Option.bind_some _ _).symm.trans H; with_reducible exact H2_) | with_reducible exact H | (rw [hy1111]; exact H) | exact H
     have Ny1111 := Aside0.mk hy1111
     clear hy1111
     by_cases c28 : x5_3.length + y1111.length < 5864062014805
     ·rw [if_pos c28] at H
      have LMc28 := Aside0.mk c28
      clear c28
      obtain ⟨y1114, hy1114⟩ : ∃ y_ : List (List Int), y_ = (x5_3 ++ y1111) := ⟨_, rfl⟩
      replace H : (graduslaw3_dims.l0 kj3 y1114 0 l1_0 l1_1) = some r := by first | (rw [hy1114]; with_reducible exact H) | (have H2_ := (Option.bind_some _ _).symm.trans H; rw [hy1114]; with_reducible exact H2_) | (have H2_ := (Option.bind_some _ _).symm.trans H; with_reducible exact H2_) | with_reducible exact H | (rw [hy1114]; exact H) | exact H
      have Ny1114 := Aside0.mk hy1114
      clear hy1114
      have H' := Aside0.mk H
      clear H
      have hnb29 := NB1085_1084.out
      have hnc29 := NB1084_1085.out
      have hcz30_0 : wc.cell? ⟨gb1085, 0, none⟩ = some (.slice A1_0 l1_0.length c1_0) := (blk_cell BK1085.out 0).trans rfl
      have hcz30_1 : wc.cell? ⟨gb1085, 1, none⟩ = some (.slice A1_1 l1_1.length c1_1) := (blk_cell BK1085.out 1).trans rfl
      have hfz30_0 := blk_frozen BK1085.out 0
      have hfz30_1 := blk_frozen BK1085.out 1
      try go_wp2_with (first | ((with_reducible refine gate_callee (f := 36) rfl ?_); refine goesL_ (some 22) rfl rfl Try.func36 (by kernel_rfl) rfl #[.agg #[.slice A1_0 l1_0.length c1_0, .slice A1_1 l1_1.length c1_1]] rfl (by (try simp only [List.map_toArray, List.map_cons, List.map_nil]); first | done | rfl | (simp only [List.length_drop, List.length_take]; rfl)) ?_; (with_reducible refine (gradusref1_Tensor.calls kj3 _ _ l1_0 _ _ l1_1 true _ ?side1 ?side2 ?side3 ?side4 A25.out).mono ?_); (case side1 => repeat (first | exact (Kd.C_below HR1_0.out HB.out) | (with_reducible refine Kd.C_alloc ?_ _) | (with_reducible refine Kd.C_drewN ?_ _) | (with_reducible refine Kd.C_drew ?_))); (case side2 => exact HC1_0.out); (case side3 => repeat (first | exact (Kd.C_below HR1_1.out HB.out) | (with_reducible refine Kd.C_alloc ?_ _) | (with_reducible refine Kd.C_drewN ?_ _) | (with_reducible refine Kd.C_drew ?_))); (case side4 => exact HC1_1.out); rintro e w31 ⟨rfl, hb⟩; refine ⟨_, rfl, ?_⟩; have n0_ := Aside0.mk (Kd.N_below (by (with_reducible repeat (first | apply Kd.N_alloc | apply Kd.N_drewN | apply Kd.N_drew)); exact HO_5.out) hb); have n1_ := Aside0.mk (Kd.V_below (by (with_reducible repeat (first | apply Kd.V_alloc | apply Kd.V_drewN | apply Kd.V_drew)); exact HO_1085002.out) hb); have n2_ := Aside0.mk (blk_below (g := gb1084) (o := .cells #[.slice A0_0 l0_0.length c0_0, .slice A0_1 l0_1.length c0_1, .slice A0_2 l0_2.length c0_2] 67 (0, 0)) (by (with_reducible repeat (first | refine blk_drewN ?_ _ | refine blk_drew ?_ | refine blk_alloc ?_ _)); exact BK1084.out) hb); have n3_ := Aside0.mk (blk_below (g := gb1085) (o := .cells #[.slice A1_0 l1_0.length c1_0, .slice A1_1 l1_1.length c1_1] 34 (0, 0)) (by (with_reducible repeat (first | refine blk_drewN ?_ _ | refine blk_drew ?_ | refine blk_alloc ?_ _)); exact BK1085.out) hb); have n4_ := Aside0.mk (below_step (by repeat (first | (with_reducible first | exact HB.out | apply below_alloc | apply pw_below_drewN | apply below_drew1 | refine below_set ?_ GE1084.out | refine below_set ?_ GE1085.out) | exact HB.out)) hb); clear HO_5; clear HO_1085002; clear BK1084; clear BK1085; clear HB; have HO_5 := n0_; have HO_1085002 := n1_; have BK1084 := n2_; have BK1085 := n3_; have HB := n4_; clear n0_ n1_ n2_ n3_ n4_; (try clear hb); (try clear hb2); (try clear hk); (try clear hi); obtain ⟨Ao32, co32, eo32⟩ := Kd.N_slice HO_5.out; subst eo32))
      have n0_ := Aside0.mk (Kd.N_drew HO_5.out)
      have n1_ := Aside0.mk (Kd.V_drew HO_1085002.out)
      have n2_ := Aside0.mk (blk_drew BK1084.out)
      have n3_ := Aside0.mk (blk_drew BK1085.out)
      have n4_ := Aside0.mk (below_drew1 HB.out)
      clear HO_5
      clear HO_1085002
      clear BK1084
      clear BK1085
      clear HB
      have HO_5 := n0_
      have HO_1085002 := n1_
      have BK1084 := n2_
      have BK1085 := n3_
      have HB := n4_
      clear n0_ n1_ n2_ n3_ n4_
      refine start_ (n := 12) (S := fun w' => w'.cell? ⟨gb1085, 0, none⟩ = some (.slice A1_0 l1_0.length c1_0) ∧ w'.cell? ⟨gb1085, 1, none⟩ = some (.slice A1_1 l1_1.length c1_1)) (ds := []) #[false, false, false, false, false, false, false, false, false, false, false, false] (by kernel_rfl) rfl rfl ⟨(blk_cell BK1085.out 0).trans rfl, (blk_cell BK1085.out 1).trans rfl⟩ (fun hHeld => ?_); refine with_tabW graduslaw3_dims.tab5 graduslaw3_dims.bits5 (fun HT_ HW_ => ?_)
      generalize w31.drew = w33 at HO_5 HO_1085002 BK1084 BK1085 HB hHeld ⊢
      refine pure_ (i := 0) (N := some 23) (v := ?_) (a' := ?_) #[true, false, false, false, false, false, false, false, false, false, false, false] rfl rfl (any_of HT_.out (by kernel_rfl)) (fun _ _ _ h => h) (Or.inl ⟨by rfl, ?_⟩) ?_ ?_
      rotate_left
      ·intro w'
       go_simp
       with_reducible rfl
      rotate_left
      ·simp only [Act.put, List.setIfInBounds_toArray, List.set_cons_zero, List.set_cons_succ, i64_w, i32_w]
       rfl
      refine pure_ (i := 1) (N := some 24) (v := ?_) (a' := ?_) #[true, true, false, false, false, false, false, false, false, false, false, false] rfl rfl (any_of HT_.out (by kernel_rfl)) (fun _ _ _ h => h) (Or.inl ⟨by rfl, ?_⟩) ?_ ?_
      rotate_left
      ·intro w'
       go_simp
       with_reducible rfl
      rotate_left
      ·simp only [Act.put, List.setIfInBounds_toArray, List.set_cons_zero, List.set_cons_succ, i64_w, i32_w]
       rfl
      refine pure_ (i := 6) (N := some 29) (v := ?_) (a' := ?_) #[true, true, false, false, false, false, true, false, false, false, false, false] rfl rfl (any_of HT_.out (by kernel_rfl)) (fun _ _ _ h => h) (Or.inl ⟨by rfl, ?_⟩) ?_ ?_
      rotate_left
      ·intro w'
       go_simp
       with_reducible rfl
      rotate_left
      ·simp only [Act.put, List.setIfInBounds_toArray, List.set_cons_zero, List.set_cons_succ, i64_w, i32_w]
       rfl
      refine take_ (i := 2) (N := some 25) (v := ?_) (a' := ?_) #[true, true, true, false, false, false, true, false, false, false, false, false] rfl rfl (take_ofW HT_.out HW_.out (by kernel_rfl)) (fun _ _ _ h => h) (Or.inl ⟨by rfl, ?_⟩) hHeld ?_ ?_
      rotate_left
      ·rintro w' ⟨s0, s1⟩
       go_simp
       with_reducible rfl
      rotate_left
      ·simp only [Act.put, List.setIfInBounds_toArray, List.set_cons_zero, List.set_cons_succ, i64_w, i32_w]
       rfl
      refine pure_ (i := 3) (N := some 26) (v := ?_) (a' := ?_) #[true, true, true, true, false, false, true, false, false, false, false, false] rfl rfl (any_of HT_.out (by kernel_rfl)) (fun _ _ _ h => h) (Or.inl ⟨by rfl, ?_⟩) ?_ ?_
      rotate_left
      ·intro w'
       go_simp
       with_reducible rfl
      rotate_left
      ·simp only [Act.put, List.setIfInBounds_toArray, List.set_cons_zero, List.set_cons_succ, i64_w, i32_w]
       rfl
      refine pure_ (i := 4) (N := some 27) (v := ?_) (a' := ?_) #[true, true, true, true, true, false, true, false, false, false, false, false] rfl rfl (any_of HT_.out (by kernel_rfl)) (fun _ _ _ h => h) (Or.inl ⟨by rfl, ?_⟩) ?_ ?_
      rotate_left
      ·intro w'
       go_simp
       with_reducible rfl
      rotate_left
      ·simp only [Act.put, List.setIfInBounds_toArray, List.set_cons_zero, List.set_cons_succ, i64_w, i32_w]
       rfl
      refine take_ (i := 7) (N := some 30) (v := ?_) (a' := ?_) #[true, true, true, true, true, false, true, true, false, false, false, false] rfl rfl (take_ofW HT_.out HW_.out (by kernel_rfl)) (fun _ _ _ h => h) (Or.inl ⟨by rfl, ?_⟩) hHeld ?_ ?_
      rotate_left
      ·rintro w' ⟨s0, s1⟩
       go_simp
       with_reducible rfl
      rotate_left
      ·simp only [Act.put, List.setIfInBounds_toArray, List.set_cons_zero, List.set_cons_succ, i64_w, i32_w]
       rfl
      refine join_ (σ := Value × Value) 3 #[true, true, true, true, true, true, true, true, true, false, false, false] (fun s_ => [(28, s_.1), (31, s_.2)]) (fun s_ w' => (w'.cell? ⟨gb1085, 0, none⟩ = some (.slice A1_0 l1_0.length c1_0) ∧ w'.cell? ⟨gb1085, 1, none⟩ = some (.slice A1_1 l1_1.length c1_1)) ∧ (Kd.R (Kd.int .i64) 3 w' w.heap.size (fun k_ => (w.heap.size ≤ k_) ∧ some k_ ≠ (s_.2 : Value).ownBlock) s_.1 y1105) ∧ (Kd.R (Kd.int .i64) 3 w' w.heap.size (fun k_ => (w.heap.size ≤ k_) ∧ some k_ ≠ (s_.1 : Value).ownBlock) s_.2 t1108) ∧ (Kd.V (Kd.slice 3 (Kd.int .i64)) 23 w' w.heap.size (fun k_ => (P0_2_ k_ ∨ w.heap.size ≤ k_) ∧ some k_ ≠ (s_.1 : Value).ownBlock ∧ some k_ ≠ (s_.2 : Value).ownBlock ∧ some k_ ≠ (.slice Ao32 x5_3.length co32 : Value).ownBlock ∧ k_ ≠ gb1084 ∧ k_ ≠ gb1085) (.slice A0_2 l0_2.length c0_2) l0_2) ∧ (Kd.N (Kd.slice 3 (Kd.int .i64)) 23 w' w.heap.size (fun k_ => (P0_2_ k_ ∨ w.heap.size ≤ k_) ∧ some k_ ≠ (s_.1 : Value).ownBlock ∧ some k_ ≠ (s_.2 : Value).ownBlock ∧ k_ ≠ gb1084 ∧ k_ ≠ gb1085) (.slice Ao32 x5_3.length co32) x5_3) ∧ (w'.heap[gb1084]? = some (.cells #[.slice A0_0 l0_0.length c0_0, .slice A0_1 l0_1.length c0_1, .slice A0_2 l0_2.length c0_2] 67 (0, 0))) ∧ (w'.heap[gb1085]? = some (.cells #[.slice A1_0 l1_0.length c1_0, .slice A1_1 l1_1.length c1_1] 34 (0, 0))) ∧ (Below w.heap.size w w')) ?_ ?_
      rotate_left
      ·intro hCont
       refine two_ (i := 5) (j := 8) (Ni := some 28) (Nj := some 31) #[true, true, true, true, true, true, true, true, false, false, false, false] #[true, true, true, true, true, false, true, true, true, false, false, false] rfl rfl rfl rfl (two_of HT_.out (by kernel_rfl)) (by decide) (by decide) (fun K hK => ?_) (fun K hK => ?_)
       ·skip
        refine Kd.R_lit_step (Kd.int .i64) _ 3 ?hg (N := 28) ?hd (xs := ([1, (l1_1.length : Int) % 9] : List Int)) (inner := [.int .i64 1, .int .i64 ((l1_1.length : Int) % 9)]) (ok := fun _ => True) (okp := fun _ => True) ?hr ?hp (fun _ hk => hk) trivial (Below.refl _ _) (Nat.le_refl _) (by simp) ?_; (case hd => rfl); (case hg => rfl); (case hr => first | (go_simp; done) | (go_simp; rfl)); (case hp => exact (Reps.one (show Kd.M (Kd.int .i64) _ _ _ 1 [.int .i64 1] from rfl) (Reps.one (show Kd.M (Kd.int .i64) _ _ _ ((l1_1.length : Int) % 9) [.int .i64 ((l1_1.length : Int) % 9)] from rfl) (Reps.none _ _))))
        intro v1106 w34 ho35 hb hg_ hnew_
        clear hg_ hnew_
        (first | rw [← Ny1105.out] at ho35 | (simp only [Int.reduceToNat] at ho35; rw [← Ny1105.out] at ho35))
        have n0_ := Aside0.mk (Kd.N_elder' (by (with_reducible repeat (first | apply Kd.N_alloc | apply Kd.N_drewN | apply Kd.N_drew)); exact HO_5.out) (Kd.R_base ho35) hb)
        have n1_ := Aside0.mk (Kd.V_elder' (by (with_reducible repeat (first | apply Kd.V_alloc | apply Kd.V_drewN | apply Kd.V_drew)); exact HO_1085002.out) (Kd.R_base ho35) hb)
        have n2_ := Aside0.mk (Kd.R_lower (Kd.R_newM (M := fun k_ => (w.heap.size ≤ k_)) ho35 (below_size (by repeat (first | (with_reducible first | exact HB.out | apply below_alloc | apply pw_below_drewN | apply below_drew1 | refine below_set ?_ GE1084.out | refine below_set ?_ GE1085.out) | exact HB.out))) (fun k_ h_ => h_)) (below_size (by repeat (first | (with_reducible first | exact HB.out | apply below_alloc | apply pw_below_drewN | apply below_drew1 | refine below_set ?_ GE1084.out | refine below_set ?_ GE1085.out) | exact HB.out))))
        have n3_ := Aside0.mk (blk_below (g := gb1084) (o := .cells #[.slice A0_0 l0_0.length c0_0, .slice A0_1 l0_1.length c0_1, .slice A0_2 l0_2.length c0_2] 67 (0, 0)) (by (with_reducible repeat (first | refine blk_drewN ?_ _ | refine blk_drew ?_ | refine blk_alloc ?_ _)); exact BK1084.out) hb)
        have n4_ := Aside0.mk (blk_below (g := gb1085) (o := .cells #[.slice A1_0 l1_0.length c1_0, .slice A1_1 l1_1.length c1_1] 34 (0, 0)) (by (with_reducible repeat (first | refine blk_drewN ?_ _ | refine blk_drew ?_ | refine blk_alloc ?_ _)); exact BK1085.out) hb)
        have n5_ := Aside0.mk (below_step (by repeat (first | (with_reducible first | exact HB.out | apply below_alloc | apply pw_below_drewN | apply below_drew1 | refine below_set ?_ GE1084.out | refine below_set ?_ GE1085.out) | exact HB.out)) hb)
        clear HO_5
        clear HO_1085002
        clear BK1084
        clear BK1085
        clear HB
        have HO_5 := n0_
        have HO_1085002 := n1_
        have HO1107 := n2_
        have BK1084 := n3_
        have BK1085 := n4_
        have HB := n5_
        clear n0_ n1_ n2_ n3_ n4_ n5_
        clear hb ho35
        refine hK.out _ _ ⟨(blk_cell BK1085.out 0).trans rfl, (blk_cell BK1085.out 1).trans rfl⟩ (fun hHeld => ?_)
        clear hK K
        refine norm_ (a' := ?_) ?_ ?_
        rotate_left
        ·show Act.put _ (some 28) _ = _
         simp only [Act.put, List.setIfInBounds_toArray, List.set_cons_zero, List.set_cons_succ, i64_w, i32_w]
         rfl
        refine one_ (i := 8) (N := some 31) #[true, true, true, true, true, true, true, true, true, false, false, false] rfl rfl (one_of HT_.out (by kernel_rfl)) (by decide) (fun K hK => ?_)
        refine goes_ Try.func32 (by kernel_rfl) rfl #[.slice A1_0 l1_0.length c1_0] (by rfl) rfl rfl (by (try simp only [List.map_toArray, List.map_cons, List.map_nil]); first | done | rfl | (simp only [List.length_drop, List.length_take]; rfl)) ?_
        with_reducible refine (gradusref0_CopyNumbers.calls kj3 _ _ l1_0 t1108 _ ?side1 ?side2 A27.out).mono ?_
        (case side1 => repeat (first | exact (Kd.C_below HR1_0.out HB.out) | (with_reducible refine Kd.C_alloc ?_ _) | (with_reducible refine Kd.C_drewN ?_ _) | (with_reducible refine Kd.C_drew ?_)))
        (case side2 => exact HC1_0.out)
        rintro e w36 ⟨v1109, rfl, ho0, hb⟩
        refine ⟨_, rfl, ?_⟩
        have n0_ := Aside0.mk (Kd.N_elder' (by (with_reducible repeat (first | apply Kd.N_alloc | apply Kd.N_drewN | apply Kd.N_drew)); exact HO_5.out) (Kd.R_base ho0) hb)
        have n1_ := Aside0.mk (Kd.V_elder' (by (with_reducible repeat (first | apply Kd.V_alloc | apply Kd.V_drewN | apply Kd.V_drew)); exact HO_1085002.out) (Kd.R_base ho0) hb)
        have n2_ := Aside0.mk (Kd.R_elder' (by (with_reducible repeat (first | apply Kd.R_alloc | apply Kd.R_drewN | apply Kd.R_drew)); exact HO1107.out) (Kd.R_base ho0) hb)
        have n3_ := Aside0.mk (Kd.R_lower (Kd.R_new' (Kd.R_newM (M := fun k_ => (w.heap.size ≤ k_)) ho0 (below_size (by repeat (first | (with_reducible first | exact HB.out | apply below_alloc | apply pw_below_drewN | apply below_drew1 | refine below_set ?_ GE1084.out | refine below_set ?_ GE1085.out) | exact HB.out))) (fun k_ h_ => h_)) (Kd.R_lt (by (with_reducible repeat (first | apply Kd.R_alloc | apply Kd.R_drewN | apply Kd.R_drew)); exact HO1107.out))) (below_size (by repeat (first | (with_reducible first | exact HB.out | apply below_alloc | apply pw_below_drewN | apply below_drew1 | refine below_set ?_ GE1084.out | refine below_set ?_ GE1085.out) | exact HB.out))))
        have n4_ := Aside0.mk (blk_below (g := gb1084) (o := .cells #[.slice A0_0 l0_0.length c0_0, .slice A0_1 l0_1.length c0_1, .slice A0_2 l0_2.length c0_2] 67 (0, 0)) (by (with_reducible repeat (first | refine blk_drewN ?_ _ | refine blk_drew ?_ | refine blk_alloc ?_ _)); exact BK1084.out) hb)
        have n5_ := Aside0.mk (blk_below (g := gb1085) (o := .cells #[.slice A1_0 l1_0.length c1_0, .slice A1_1 l1_1.length c1_1] 34 (0, 0)) (by (with_reducible repeat (first | refine blk_drewN ?_ _ | refine blk_drew ?_ | refine blk_alloc ?_ _)); exact BK1085.out) hb)
        have n6_ := Aside0.mk (below_step (by repeat (first | (with_reducible first | exact HB.out | apply below_alloc | apply pw_below_drewN | apply below_drew1 | refine below_set ?_ GE1084.out | refine below_set ?_ GE1085.out) | exact HB.out)) hb)
        clear HO_5
        clear HO_1085002
        clear HO1107
        clear BK1084
        clear BK1085
        clear HB
        have HO_5 := n0_
        have HO_1085002 := n1_
        have HO1107 := n2_
        have HO1110 := n3_
        have BK1084 := n4_
        have BK1085 := n5_
        have HB := n6_
        clear n0_ n1_ n2_ n3_ n4_ n5_ n6_
        (try clear hb)
        (try clear hb2)
        (try clear hk)
        (try clear hi)
        (try clear ho0)
        refine hK.out _ _ ⟨(blk_cell BK1085.out 0).trans rfl, (blk_cell BK1085.out 1).trans rfl⟩ (fun hHeld => ?_)
        clear hK K
        refine norm_ (a' := ?_) ?_ ?_
        rotate_left
        ·show Act.put _ (some 31) _ = _
         simp only [Act.put, List.setIfInBounds_toArray, List.set_cons_zero, List.set_cons_succ, i64_w, i32_w]
         rfl
        exact norm_ (by simp only [putAll, Act.put, List.setIfInBounds_toArray, List.set_cons_zero, List.set_cons_succ]) (hCont (v1106, v1109) _ ⟨hHeld, (by (with_reducible repeat (first | apply Kd.R_alloc | apply Kd.R_drewN | apply Kd.R_drew)); exact Kd.R_mono HO1107.out (fun _ hk => ⟨hk.1.1, hk.2⟩)), (by (with_reducible repeat (first | apply Kd.R_alloc | apply Kd.R_drewN | apply Kd.R_drew)); exact Kd.R_mono HO1110.out (fun _ hk => ⟨hk.1.1, hk.2⟩)), (by (with_reducible repeat (first | apply Kd.V_alloc | apply Kd.V_drewN | apply Kd.V_drew)); exact Kd.V_mono HO_1085002.out (fun _ hk => ⟨hk.1.1.1, ⟨hk.1.2, ⟨hk.2, ⟨hk.1.1.2.1, ⟨hk.1.1.2.2.1, hk.1.1.2.2.2⟩⟩⟩⟩⟩)), (by (with_reducible repeat (first | apply Kd.N_alloc | apply Kd.N_drewN | apply Kd.N_drew)); exact Kd.N_mono HO_5.out (fun _ hk => ⟨hk.1.1.1, ⟨hk.1.2, ⟨hk.2, ⟨hk.1.1.2.1, hk.1.1.2.2⟩⟩⟩⟩)), (by (with_reducible repeat (first | refine blk_drewN ?_ _ | refine blk_drew ?_ | refine blk_alloc ?_ _)); exact BK1084.out), (by (with_reducible repeat (first | refine blk_drewN ?_ _ | refine blk_drew ?_ | refine blk_alloc ?_ _)); exact BK1085.out), (by repeat (first | (with_reducible first | exact HB.out | apply below_alloc | apply pw_below_drewN | apply below_drew1 | refine below_set ?_ GE1084.out | refine below_set ?_ GE1085.out) | exact HB.out))⟩)
       ·skip
        refine goes_ Try.func32 (by kernel_rfl) rfl #[.slice A1_0 l1_0.length c1_0] (by rfl) rfl rfl (by (try simp only [List.map_toArray, List.map_cons, List.map_nil]); first | done | rfl | (simp only [List.length_drop, List.length_take]; rfl)) ?_
        with_reducible refine (gradusref0_CopyNumbers.calls kj3 _ _ l1_0 t1108 _ ?side1 ?side2 A27.out).mono ?_
        (case side1 => repeat (first | exact (Kd.C_below HR1_0.out HB.out) | (with_reducible refine Kd.C_alloc ?_ _) | (with_reducible refine Kd.C_drewN ?_ _) | (with_reducible refine Kd.C_drew ?_)))
        (case side2 => exact HC1_0.out)
        rintro e w34 ⟨v1109, rfl, ho0, hb⟩
        refine ⟨_, rfl, ?_⟩
        have n0_ := Aside0.mk (Kd.N_elder' (by (with_reducible repeat (first | apply Kd.N_alloc | apply Kd.N_drewN | apply Kd.N_drew)); exact HO_5.out) (Kd.R_base ho0) hb)
        have n1_ := Aside0.mk (Kd.V_elder' (by (with_reducible repeat (first | apply Kd.V_alloc | apply Kd.V_drewN | apply Kd.V_drew)); exact HO_1085002.out) (Kd.R_base ho0) hb)
        have n2_ := Aside0.mk (Kd.R_lower (Kd.R_newM (M := fun k_ => (w.heap.size ≤ k_)) ho0 (below_size (by repeat (first | (with_reducible first | exact HB.out | apply below_alloc | apply pw_below_drewN | apply below_drew1 | refine below_set ?_ GE1084.out | refine below_set ?_ GE1085.out) | exact HB.out))) (fun k_ h_ => h_)) (below_size (by repeat (first | (with_reducible first | exact HB.out | apply below_alloc | apply pw_below_drewN | apply below_drew1 | refine below_set ?_ GE1084.out | refine below_set ?_ GE1085.out) | exact HB.out))))
        have n3_ := Aside0.mk (blk_below (g := gb1084) (o := .cells #[.slice A0_0 l0_0.length c0_0, .slice A0_1 l0_1.length c0_1, .slice A0_2 l0_2.length c0_2] 67 (0, 0)) (by (with_reducible repeat (first | refine blk_drewN ?_ _ | refine blk_drew ?_ | refine blk_alloc ?_ _)); exact BK1084.out) hb)
        have n4_ := Aside0.mk (blk_below (g := gb1085) (o := .cells #[.slice A1_0 l1_0.length c1_0, .slice A1_1 l1_1.length c1_1] 34 (0, 0)) (by (with_reducible repeat (first | refine blk_drewN ?_ _ | refine blk_drew ?_ | refine blk_alloc ?_ _)); exact BK1085.out) hb)
        have n5_ := Aside0.mk (below_step (by repeat (first | (with_reducible first | exact HB.out | apply below_alloc | apply pw_below_drewN | apply below_drew1 | refine below_set ?_ GE1084.out | refine below_set ?_ GE1085.out) | exact HB.out)) hb)
        clear HO_5
        clear HO_1085002
        clear BK1084
        clear BK1085
        clear HB
        have HO_5 := n0_
        have HO_1085002 := n1_
        have HO1110 := n2_
        have BK1084 := n3_
        have BK1085 := n4_
        have HB := n5_
        clear n0_ n1_ n2_ n3_ n4_ n5_
        (try clear hb)
        (try clear hb2)
        (try clear hk)
        (try clear hi)
        (try clear ho0)
        refine hK.out _ _ ⟨(blk_cell BK1085.out 0).trans rfl, (blk_cell BK1085.out 1).trans rfl⟩ (fun hHeld => ?_)
        clear hK K
        refine norm_ (a' := ?_) ?_ ?_
        rotate_left
        ·show Act.put _ (some 31) _ = _
         simp only [Act.put, List.setIfInBounds_toArray, List.set_cons_zero, List.set_cons_succ, i64_w, i32_w]
         rfl
        refine one_ (i := 5) (N := some 28) #[true, true, true, true, true, true, true, true, true, false, false, false] rfl rfl (one_of HT_.out (by kernel_rfl)) (by decide) (fun K hK => ?_)
        refine Kd.R_lit_step (Kd.int .i64) _ 3 ?hg (N := 28) ?hd (xs := ([1, (l1_1.length : Int) % 9] : List Int)) (inner := [.int .i64 1, .int .i64 ((l1_1.length : Int) % 9)]) (ok := fun _ => True) (okp := fun _ => True) ?hr ?hp (fun _ hk => hk) trivial (Below.refl _ _) (Nat.le_refl _) (by simp) ?_; (case hd => rfl); (case hg => rfl); (case hr => first | (go_simp; done) | (go_simp; rfl)); (case hp => exact (Reps.one (show Kd.M (Kd.int .i64) _ _ _ 1 [.int .i64 1] from rfl) (Reps.one (show Kd.M (Kd.int .i64) _ _ _ ((l1_1.length : Int) % 9) [.int .i64 ((l1_1.length : Int) % 9)] from rfl) (Reps.none _ _))))
        intro v1106 w35 ho36 hb hg_ hnew_
        clear hg_ hnew_
        (first | rw [← Ny1105.out] at ho36 | (simp only [Int.reduceToNat] at ho36; rw [← Ny1105.out] at ho36))
        have n0_ := Aside0.mk (Kd.N_elder' (by (with_reducible repeat (first | apply Kd.N_alloc | apply Kd.N_drewN | apply Kd.N_drew)); exact HO_5.out) (Kd.R_base ho36) hb)
        have n1_ := Aside0.mk (Kd.V_elder' (by (with_reducible repeat (first | apply Kd.V_alloc | apply Kd.V_drewN | apply Kd.V_drew)); exact HO_1085002.out) (Kd.R_base ho36) hb)
        have n2_ := Aside0.mk (Kd.R_elder' (by (with_reducible repeat (first | apply Kd.R_alloc | apply Kd.R_drewN | apply Kd.R_drew)); exact HO1110.out) (Kd.R_base ho36) hb)
        have n3_ := Aside0.mk (Kd.R_lower (Kd.R_new' (Kd.R_newM (M := fun k_ => (w.heap.size ≤ k_)) ho36 (below_size (by repeat (first | (with_reducible first | exact HB.out | apply below_alloc | apply pw_below_drewN | apply below_drew1 | refine below_set ?_ GE1084.out | refine below_set ?_ GE1085.out) | exact HB.out))) (fun k_ h_ => h_)) (Kd.R_lt (by (with_reducible repeat (first | apply Kd.R_alloc | apply Kd.R_drewN | apply Kd.R_drew)); exact HO1110.out))) (below_size (by repeat (first | (with_reducible first | exact HB.out | apply below_alloc | apply pw_below_drewN | apply below_drew1 | refine below_set ?_ GE1084.out | refine below_set ?_ GE1085.out) | exact HB.out))))
        have n4_ := Aside0.mk (blk_below (g := gb1084) (o := .cells #[.slice A0_0 l0_0.length c0_0, .slice A0_1 l0_1.length c0_1, .slice A0_2 l0_2.length c0_2] 67 (0, 0)) (by (with_reducible repeat (first | refine blk_drewN ?_ _ | refine blk_drew ?_ | refine blk_alloc ?_ _)); exact BK1084.out) hb)
        have n5_ := Aside0.mk (blk_below (g := gb1085) (o := .cells #[.slice A1_0 l1_0.length c1_0, .slice A1_1 l1_1.length c1_1] 34 (0, 0)) (by (with_reducible repeat (first | refine blk_drewN ?_ _ | refine blk_drew ?_ | refine blk_alloc ?_ _)); exact BK1085.out) hb)
        have n6_ := Aside0.mk (below_step (by repeat (first | (with_reducible first | exact HB.out | apply below_alloc | apply pw_below_drewN | apply below_drew1 | refine below_set ?_ GE1084.out | refine below_set ?_ GE1085.out) | exact HB.out)) hb)
        clear HO_5
        clear HO_1085002
        clear HO1110
        clear BK1084
        clear BK1085
        clear HB
        have HO_5 := n0_
        have HO_1085002 := n1_
        have HO1110 := n2_
        have HO1107 := n3_
        have BK1084 := n4_
        have BK1085 := n5_
        have HB := n6_
        clear n0_ n1_ n2_ n3_ n4_ n5_ n6_
        clear hb ho36
        refine hK.out _ _ ⟨(blk_cell BK1085.out 0).trans rfl, (blk_cell BK1085.out 1).trans rfl⟩ (fun hHeld => ?_)
        clear hK K
        refine norm_ (a' := ?_) ?_ ?_
        rotate_left
        ·show Act.put _ (some 28) _ = _
         simp only [Act.put, List.setIfInBounds_toArray, List.set_cons_zero, List.set_cons_succ, i64_w, i32_w]
         rfl
        exact norm_ (by simp only [putAll, Act.put, List.setIfInBounds_toArray, List.set_cons_zero, List.set_cons_succ]) (hCont (v1106, v1109) _ ⟨hHeld, (by (with_reducible repeat (first | apply Kd.R_alloc | apply Kd.R_drewN | apply Kd.R_drew)); exact Kd.R_mono HO1107.out (fun _ hk => ⟨hk.1.1, hk.2⟩)), (by (with_reducible repeat (first | apply Kd.R_alloc | apply Kd.R_drewN | apply Kd.R_drew)); exact Kd.R_mono HO1110.out (fun _ hk => ⟨hk.1.1, hk.2⟩)), (by (with_reducible repeat (first | apply Kd.V_alloc | apply Kd.V_drewN | apply Kd.V_drew)); exact Kd.V_mono HO_1085002.out (fun _ hk => ⟨hk.1.1.1, ⟨hk.2, ⟨hk.1.2, ⟨hk.1.1.2.1, ⟨hk.1.1.2.2.1, hk.1.1.2.2.2⟩⟩⟩⟩⟩)), (by (with_reducible repeat (first | apply Kd.N_alloc | apply Kd.N_drewN | apply Kd.N_drew)); exact Kd.N_mono HO_5.out (fun _ hk => ⟨hk.1.1.1, ⟨hk.2, ⟨hk.1.2, ⟨hk.1.1.2.1, hk.1.1.2.2⟩⟩⟩⟩)), (by (with_reducible repeat (first | refine blk_drewN ?_ _ | refine blk_drew ?_ | refine blk_alloc ?_ _)); exact BK1084.out), (by (with_reducible repeat (first | refine blk_drewN ?_ _ | refine blk_drew ?_ | refine blk_alloc ?_ _)); exact BK1085.out), (by repeat (first | (with_reducible first | exact HB.out | apply below_alloc | apply pw_below_drewN | apply below_drew1 | refine below_set ?_ GE1084.out | refine below_set ?_ GE1085.out) | exact HB.out))⟩)
      rintro ⟨v1106, v1109⟩ w37 ⟨hS_, h0_, h1_, h2_, h3_, h4_, h5_, h6_⟩
      have n0_ : Aside0 (Kd.R (Kd.int .i64) 3 w37 w.heap.size (fun k_ => (w.heap.size ≤ k_) ∧ some k_ ≠ (v1109 : Value).ownBlock) v1106 y1105) := ⟨h0_⟩
      have n1_ : Aside0 (Kd.R (Kd.int .i64) 3 w37 w.heap.size (fun k_ => (w.heap.size ≤ k_) ∧ some k_ ≠ (v1106 : Value).ownBlock) v1109 t1108) := ⟨h1_⟩
      have n2_ : Aside0 (Kd.V (Kd.slice 3 (Kd.int .i64)) 23 w37 w.heap.size (fun k_ => (P0_2_ k_ ∨ w.heap.size ≤ k_) ∧ some k_ ≠ (v1106 : Value).ownBlock ∧ some k_ ≠ (v1109 : Value).ownBlock ∧ some k_ ≠ (.slice Ao32 x5_3.length co32 : Value).ownBlock ∧ k_ ≠ gb1084 ∧ k_ ≠ gb1085) (.slice A0_2 l0_2.length c0_2) l0_2) := ⟨h2_⟩
      have n3_ : Aside0 (Kd.N (Kd.slice 3 (Kd.int .i64)) 23 w37 w.heap.size (fun k_ => (P0_2_ k_ ∨ w.heap.size ≤ k_) ∧ some k_ ≠ (v1106 : Value).ownBlock ∧ some k_ ≠ (v1109 : Value).ownBlock ∧ k_ ≠ gb1084 ∧ k_ ≠ gb1085) (.slice Ao32 x5_3.length co32) x5_3) := ⟨h3_⟩
      have n4_ : Aside0 (w37.heap[gb1084]? = some (.cells #[.slice A0_0 l0_0.length c0_0, .slice A0_1 l0_1.length c0_1, .slice A0_2 l0_2.length c0_2] 67 (0, 0))) := ⟨h4_⟩
      have n5_ : Aside0 (w37.heap[gb1085]? = some (.cells #[.slice A1_0 l1_0.length c1_0, .slice A1_1 l1_1.length c1_1] 34 (0, 0))) := ⟨h5_⟩
      have n6_ : Aside0 (Below w.heap.size w w37) := ⟨h6_⟩
      clear HO_5
      clear HO_1085002
      clear BK1084
      clear BK1085
      clear HB
      clear h0_ h1_ h2_ h3_ h4_ h5_ h6_
      have HO1107 := n0_
      have HO1110 := n1_
      have HO_1085002 := n2_
      have HO_5 := n3_
      have BK1084 := n4_
      have BK1085 := n5_
      have HB := n6_
      clear n0_ n1_ n2_ n3_ n4_ n5_ n6_
      have hHeld : w37.cell? ⟨gb1085, 0, none⟩ = some (.slice A1_0 l1_0.length c1_0) ∧ w37.cell? ⟨gb1085, 1, none⟩ = some (.slice A1_1 l1_1.length c1_1) := hS_
      obtain ⟨Ao38, co38, eo38⟩ := Kd.R_slice HO1107.out
      (first | subst eo38 | (injection eo38 with f1_ f2_ f3_; have f4_ := f1_.symm; have f5_ := f3_.symm; clear f1_ f2_ f3_; subst f4_; subst f5_))
      obtain ⟨Ao39, co39, eo39⟩ := Kd.R_slice HO1110.out
      (first | subst eo39 | (injection eo39 with f1_ f2_ f3_; have f4_ := f1_.symm; have f5_ := f3_.symm; clear f1_ f2_ f3_; subst f4_; subst f5_))
      refine norm_ (a' := ?_) ?_ ?_
      rotate_left
      ·simp only [putAll, Act.put, List.setIfInBounds_toArray, List.set_cons_zero, List.set_cons_succ]
       rfl
      refine one_ (i := 9) (N := some 32) #[true, true, true, true, true, true, true, true, true, true, false, false] rfl rfl (one_of HT_.out (by kernel_rfl)) (by decide) (fun K hK => ?_)
      refine Kd.N_lit_step (Kd.slice 3 (Kd.int .i64)) _ 23 ?hg (N' := 32) ?hd (xs := ([y1105, t1108] : List (List Int))) (inner := [.slice Ao38 y1105.length co38, .slice Ao39 t1108.length co39]) (ok := (fun k_ => (P0_2_ k_ ∨ w.heap.size ≤ k_) ∧ some k_ ≠ (.slice Ao32 x5_3.length co32 : Value).ownBlock ∧ k_ ≠ gb1084 ∧ k_ ≠ gb1085)) (okp := (fun k_ => (P0_2_ k_ ∨ w.heap.size ≤ k_) ∧ some k_ ≠ (.slice Ao32 x5_3.length co32 : Value).ownBlock ∧ k_ ≠ gb1084 ∧ k_ ≠ gb1085)) ?hr ?hp (fun _ hk => hk) ((show ∀ k_, w37.heap.size ≤ k_ → (fun k_ => (P0_2_ k_ ∨ w.heap.size ≤ k_) ∧ some k_ ≠ (.slice Ao32 x5_3.length co32 : Value).ownBlock ∧ k_ ≠ gb1084 ∧ k_ ≠ gb1085) k_ from fun k_ hk => ⟨(.inr (Nat.le_trans (below_size (by repeat (first | (with_reducible first | exact HB.out | apply below_alloc | apply pw_below_drewN | apply below_drew1 | refine below_set ?_ GE1084.out | refine below_set ?_ GE1085.out) | exact HB.out))) hk)), Kd.fresh' (Kd.N_lt (by (with_reducible repeat (first | apply Kd.N_alloc | apply Kd.N_drewN | apply Kd.N_drew)); exact HO_5.out)) k_ hk, Kd.freshB (g := gb1084) (o := .cells #[.slice A0_0 l0_0.length c0_0, .slice A0_1 l0_1.length c0_1, .slice A0_2 l0_2.length c0_2] 67 (0, 0)) (by (with_reducible repeat (first | refine blk_drewN ?_ _ | refine blk_drew ?_ | refine blk_alloc ?_ _)); exact BK1084.out) k_ hk, Kd.freshB (g := gb1085) (o := .cells #[.slice A1_0 l1_0.length c1_0, .slice A1_1 l1_1.length c1_1] 34 (0, 0)) (by (with_reducible repeat (first | refine blk_drewN ?_ _ | refine blk_drew ?_ | refine blk_alloc ?_ _)); exact BK1085.out) k_ hk⟩) _ (Nat.le_refl _)) (Below.refl _ _) (Nat.le_refl _) (by simp) ?_; (case hd => rfl); (case hg => rfl); (case hr => first | (go_simp; done) | (go_simp; rfl)); (case hp => exact (Reps.one (show Kd.FK (Kd.slice 3 (Kd.int .i64)) _ _ y1105 [.slice Ao38 y1105.length co38] from (Go.Proofs.XW.FK_of_R (Kd.R_mono (ok' := (fun k_ => (P0_2_ k_ ∨ w.heap.size ≤ k_) ∧ some k_ ≠ (.slice Ao32 x5_3.length co32 : Value).ownBlock ∧ k_ ≠ gb1084 ∧ k_ ≠ gb1085)) (Kd.R_types (Kd.R_types (Kd.R_apart' (HO1107.out) (Kd.N_typed HO_5.out) (by decide)) BK1084.out (by decide)) BK1085.out (by decide)) (fun k_ hk => ⟨(.inr (hk.1.1.1.1)), ⟨hk.1.1.2, ⟨hk.1.2, hk.2⟩⟩⟩)))) (Reps.one (show Kd.FK (Kd.slice 3 (Kd.int .i64)) _ _ t1108 [.slice Ao39 t1108.length co39] from (Go.Proofs.XW.FK_of_R (Kd.R_mono (ok' := (fun k_ => (P0_2_ k_ ∨ w.heap.size ≤ k_) ∧ some k_ ≠ (.slice Ao32 x5_3.length co32 : Value).ownBlock ∧ k_ ≠ gb1084 ∧ k_ ≠ gb1085)) (Kd.R_types (Kd.R_types (Kd.R_apart' (HO1110.out) (Kd.N_typed HO_5.out) (by decide)) BK1084.out (by decide)) BK1085.out (by decide)) (fun k_ hk => ⟨(.inr (hk.1.1.1.1)), ⟨hk.1.1.2, ⟨hk.1.2, hk.2⟩⟩⟩)))) (Reps.none _ _))))
      intro v1112 w40 ho41 hb hg_ hnew_
      clear hg_ hnew_
      (first | rw [← Ny1111.out] at ho41 | (simp only [Int.reduceToNat] at ho41; rw [← Ny1111.out] at ho41))
      have n0_ := Aside0.mk (Kd.N_elder' (by (with_reducible repeat (first | apply Kd.N_alloc | apply Kd.N_drewN | apply Kd.N_drew)); exact HO_5.out) (Kd.N_base ho41) hb)
      have n1_ := Aside0.mk (Kd.V_elder' (by (with_reducible repeat (first | apply Kd.V_alloc | apply Kd.V_drewN | apply Kd.V_drew)); exact HO_1085002.out) (Kd.N_base ho41) hb)
      have n2_ := Aside0.mk (Kd.N_lower ho41 (below_size (by repeat (first | (with_reducible first | exact HB.out | apply below_alloc | apply pw_below_drewN | apply below_drew1 | refine below_set ?_ GE1084.out | refine below_set ?_ GE1085.out) | exact HB.out))))
      have n3_ := Aside0.mk (blk_below (g := gb1084) (o := .cells #[.slice A0_0 l0_0.length c0_0, .slice A0_1 l0_1.length c0_1, .slice A0_2 l0_2.length c0_2] 67 (0, 0)) (by (with_reducible repeat (first | refine blk_drewN ?_ _ | refine blk_drew ?_ | refine blk_alloc ?_ _)); exact BK1084.out) hb)
      have n4_ := Aside0.mk (blk_below (g := gb1085) (o := .cells #[.slice A1_0 l1_0.length c1_0, .slice A1_1 l1_1.length c1_1] 34 (0, 0)) (by (with_reducible repeat (first | refine blk_drewN ?_ _ | refine blk_drew ?_ | refine blk_alloc ?_ _)); exact BK1085.out) hb)
      have n5_ := Aside0.mk (below_step (by repeat (first | (with_reducible first | exact HB.out | apply below_alloc | apply pw_below_drewN | apply below_drew1 | refine below_set ?_ GE1084.out | refine below_set ?_ GE1085.out) | exact HB.out)) hb)
      clear HO_5
      clear HO_1085002
      clear BK1084
      clear BK1085
      clear HB
      clear HO1107
      clear HO1110
      have HO_5 := n0_
      have HO_1085002 := n1_
      have HO1113 := n2_
      have BK1084 := n3_
      have BK1085 := n4_
      have HB := n5_
      clear n0_ n1_ n2_ n3_ n4_ n5_
      clear hb ho41
      obtain ⟨Ao43, co43, eo43⟩ := Kd.N_slice HO1113.out
      (first | subst eo43 | (injection eo43 with f1_ f2_ f3_; have f4_ := f1_.symm; have f5_ := f3_.symm; clear f1_ f2_ f3_; subst f4_; subst f5_))
      refine hK.out _ _ ⟨(blk_cell BK1085.out 0).trans rfl, (blk_cell BK1085.out 1).trans rfl⟩ (fun hHeld => ?_)
      clear hK K
      refine norm_ (a' := ?_) ?_ ?_
      rotate_left
      ·show Act.put _ (some 32) _ = _
       simp only [Act.put, List.setIfInBounds_toArray, List.set_cons_zero, List.set_cons_succ, i64_w, i32_w]
       rfl
      refine one_ (i := 10) (N := some 33) #[true, true, true, true, true, true, true, true, true, true, true, false] rfl rfl (one_of HT_.out (by kernel_rfl)) (by decide) (fun K hK => ?_)
      refine Kd.N_append_rows_step (Kd.slice 3 (Kd.int .i64)) (w0 := w) w.heap.size (by rfl) (.tmp 23) (.tmp 32) 22 23 (.slice none 0 0) 24 rfl Try.underlying22 info23 rfl (by decide) (by omega) (.slice Ao32 x5_3.length co32) x5_3 y1111 _ _ _ (fun k_ => (P0_2_ k_ ∨ w.heap.size ≤ k_) ∧ k_ ≠ gb1084 ∧ k_ ≠ gb1085) (fun k_ => ((fun k_ => (P0_2_ k_ ∨ w.heap.size ≤ k_) ∧ k_ ≠ gb1084 ∧ k_ ≠ gb1085)) k_ ∧ some k_ ≠ (.slice Ao32 x5_3.length co32 : Value).ownBlock) rfl rfl ?aO ?aR (fun _ hk => hk) ?aF ?aB ?aS ?aL ?_
      (case aR => exact (by skip; exact Kd.N_F (Kd.N_mono (ok' := (fun k_ => ((fun k_ => (P0_2_ k_ ∨ w.heap.size ≤ k_) ∧ k_ ≠ gb1084 ∧ k_ ≠ gb1085)) k_ ∧ some k_ ≠ (.slice Ao32 x5_3.length co32 : Value).ownBlock)) (HO1113.out) (fun k_ hk => ⟨⟨hk.1, ⟨hk.2.2.1, hk.2.2.2⟩⟩, hk.2.1⟩))))
      (case aB => exact (by repeat (first | (with_reducible first | exact HB.out | apply below_alloc | apply pw_below_drewN | apply below_drew1 | refine below_set ?_ GE1084.out | refine below_set ?_ GE1085.out) | exact HB.out)))
      (case aF => exact (fun k_ hk => ⟨(.inr (Nat.le_trans (below_size (by repeat (first | (with_reducible first | exact HB.out | apply below_alloc | apply pw_below_drewN | apply below_drew1 | refine below_set ?_ GE1084.out | refine below_set ?_ GE1085.out) | exact HB.out))) hk)), Kd.freshB (g := gb1084) (o := .cells #[.slice A0_0 l0_0.length c0_0, .slice A0_1 l0_1.length c0_1, .slice A0_2 l0_2.length c0_2] 67 (0, 0)) (by (with_reducible repeat (first | refine blk_drewN ?_ _ | refine blk_drew ?_ | refine blk_alloc ?_ _)); exact BK1084.out) k_ hk, Kd.freshB (g := gb1085) (o := .cells #[.slice A1_0 l1_0.length c1_0, .slice A1_1 l1_1.length c1_1] 34 (0, 0)) (by (with_reducible repeat (first | refine blk_drewN ?_ _ | refine blk_drew ?_ | refine blk_alloc ?_ _)); exact BK1085.out) k_ hk⟩))
      (case aO => exact (by (with_reducible repeat (first | apply Kd.N_alloc | apply Kd.N_drewN | apply Kd.N_drew)); exact Kd.N_mono HO_5.out (fun _ hk => ⟨hk.1.1, ⟨hk.1.2.2.2.1, hk.1.2.2.2.2⟩⟩)))
      (case aS => exact (below_size (by repeat (first | (with_reducible first | exact HB.out | apply below_alloc | apply pw_below_drewN | apply below_drew1 | refine below_set ?_ GE1084.out | refine below_set ?_ GE1085.out) | exact HB.out))))
      (case aL => have := LMc28.out; omega)
      intro v1115 w42 ho hb hg hat
      rw [← Ny1114.out] at ho
      have n0_ := Aside0.mk (Kd.V_afterv (ok := (fun k_ => (P0_2_ k_ ∨ w.heap.size ≤ k_) ∧ some k_ ≠ (.slice Ao43 y1111.length co43 : Value).ownBlock ∧ k_ ≠ gb1084 ∧ k_ ≠ gb1085)) (by (with_reducible repeat (first | apply Kd.V_alloc | apply Kd.V_drewN | apply Kd.V_drew)); exact Kd.V_mono HO_1085002.out (fun _ hk => ⟨⟨hk.1.1, ⟨hk.2, ⟨hk.1.2.2.2.2.1, hk.1.2.2.2.2.2⟩⟩⟩, hk.1.2.2.2.1⟩)) hg hat)
      have n1_ := Aside0.mk (blk_grown (g := gb1084) (o := .cells #[.slice A0_0 l0_0.length c0_0, .slice A0_1 l0_1.length c0_1, .slice A0_2 l0_2.length c0_2] 67 (0, 0)) (by (with_reducible repeat (first | refine blk_drewN ?_ _ | refine blk_drew ?_ | refine blk_alloc ?_ _)); exact BK1084.out) hg (Kd.N_ne HO_5.out BK1084.out (by decide)))
      have n2_ := Aside0.mk (blk_grown (g := gb1085) (o := .cells #[.slice A1_0 l1_0.length c1_0, .slice A1_1 l1_1.length c1_1] 34 (0, 0)) (by (with_reducible repeat (first | refine blk_drewN ?_ _ | refine blk_drew ?_ | refine blk_alloc ?_ _)); exact BK1085.out) hg (Kd.N_ne HO_5.out BK1085.out (by decide)))
      have n3_ := Aside0.mk (Kd.N_afterv (ok := (fun k_ => (P0_2_ k_ ∨ w.heap.size ≤ k_) ∧ k_ ≠ gb1084 ∧ k_ ≠ gb1085)) (by (with_reducible repeat (first | apply Kd.N_alloc | apply Kd.N_drewN | apply Kd.N_drew)); exact Kd.N_mono HO1113.out (fun _ hk => ⟨⟨hk.1, ⟨hk.2.2.1, hk.2.2.2⟩⟩, hk.2.1⟩)) hg hat)
      have n4_ := Aside0.mk (hb)
      have n5_ := Aside0.mk (ho)
      clear HO_1085002
      clear BK1084
      clear BK1085
      clear HO1113
      clear HB
      clear HO_5
      have HO_1085002 := n0_
      have BK1084 := n1_
      have BK1085 := n2_
      have HO1113 := n3_
      have HB := n4_
      have HO1116 := n5_
      clear n0_ n1_ n2_ n3_ n4_ n5_
      clear ho hb hg hat
      refine hK.out _ _ ⟨(blk_cell BK1085.out 0).trans rfl, (blk_cell BK1085.out 1).trans rfl⟩ (fun hHeld => ?_)
      clear hK K
      refine norm_ (a' := ?_) ?_ ?_
      rotate_left
      ·show Act.put _ (some 33) _ = _
       simp only [Act.put, List.setIfInBounds_toArray, List.set_cons_zero, List.set_cons_succ, i64_w, i32_w]
       rfl
      refine pure_ (i := 11) (N := some 5) (v := ?_) (a' := ?_) #[true, true, true, true, true, true, true, true, true, true, true, true] rfl rfl (any_of HT_.out (by kernel_rfl)) (fun _ _ _ h => h) (Or.inl ⟨by rfl, ?_⟩) ?_ ?_
      rotate_left
      ·intro w'
       go_simp
       with_reducible rfl
      rotate_left
      ·simp only [Act.put, List.setIfInBounds_toArray, List.set_cons_zero, List.set_cons_succ, i64_w, i32_w]
       rfl
      refine done_ (done_of HT_.out (by kernel_rfl)) ?_
      try go_wp2
      go_loopg [5, 6] kj3 (fun kq v5 v6 w' => ∃ (x5_2 : List (List Int)) (x6_2 : Int), v6 = .int .i64 x6_2 ∧ Aside0 (graduslaw3_dims.l0 kq x5_2 x6_2 l1_0 l1_1 = some r) ∧ Aside0 (kq ≤ kj3) ∧ Aside0 (Kd.N (Kd.slice 3 (Kd.int .i64)) 23 w' w.heap.size (fun k_ => (P0_2_ k_ ∨ w.heap.size ≤ k_) ∧ k_ ≠ gb1084 ∧ k_ ≠ gb1085) v5 x5_2) ∧ Aside0 (Kd.V (Kd.slice 3 (Kd.int .i64)) 23 w' w.heap.size (fun k_ => (P0_2_ k_ ∨ w.heap.size ≤ k_) ∧ some k_ ≠ (v5 : Value).ownBlock ∧ k_ ≠ gb1084 ∧ k_ ≠ gb1085) (.slice A0_2 l0_2.length c0_2) l0_2) ∧ Aside0 (w'.heap[gb1084]? = some (.cells #[(.slice A0_0 l0_0.length c0_0), (.slice A0_1 l0_1.length c0_1), (.slice A0_2 l0_2.length c0_2)] 67 (0, 0))) ∧ Aside0 (w'.heap[gb1085]? = some (.cells #[(.slice A1_0 l1_0.length c1_0), (.slice A1_1 l1_1.length c1_1)] 34 (0, 0))) ∧ Aside0 (Below w.heap.size w w'))
      case atStart => exact ⟨(y1114), (0), (by first | rfl | (simp; done) | (simp [*]; done)), H', ⟨Nat.le_refl _⟩, ⟨by (with_reducible repeat (first | apply Kd.N_alloc | apply Kd.N_drewN | apply Kd.N_drew)); exact HO1116.out⟩, ⟨by (with_reducible repeat (first | apply Kd.V_alloc | apply Kd.V_drewN | apply Kd.V_drew)); exact Kd.V_mono HO_1085002.out (fun _ hk => ⟨hk.1.1, ⟨hk.2, ⟨hk.1.2.2.1, hk.1.2.2.2⟩⟩⟩)⟩, ⟨by (with_reducible repeat (first | refine blk_drewN ?_ _ | refine blk_drew ?_ | refine blk_alloc ?_ _)); exact BK1084.out⟩, ⟨by (with_reducible repeat (first | refine blk_drewN ?_ _ | refine blk_drew ?_ | refine blk_alloc ?_ _)); exact BK1085.out⟩, ⟨by repeat (first | (with_reducible first | exact HB.out | apply below_alloc | apply pw_below_drewN | apply below_drew1 | refine below_set ?_ GE1084.out | refine below_set ?_ GE1085.out) | exact HB.out)⟩⟩
      case round =>
       clear H'
       try clear c1
       try clear c2
       try clear p2
       try clear q2
       try clear c3
       try clear c6
       try clear c18
       try clear c22
       try clear c22b0
       try clear c22b1
       try clear c23
       try clear c23b0
       try clear c23b1
       try clear q24
       try clear c26
       try clear c28
       try clear c29
       try clear c32
       try clear c36
       try clear hcz19_0
       try clear hcz19_1
       try clear hcz19_2
       try clear hcz30_0
       try clear hcz30_1
       try clear hfz19_0
       try clear hfz19_1
       try clear hfz19_2
       try clear hfz30_0
       try clear hfz30_1
       try clear p2
       try clear q2
       try clear q24
       obtain ⟨x5_2, x6_2, rfl, HA, HK2, HO_5, HO_1085002, BK1084, BK1085, HB⟩ := hrel
       cases gk with
       | zero => exact absurd HA.out (by simp [graduslaw3_dims.l0])
       | succ k2 =>
        have H := HA.out
        clear HA
        simp only [graduslaw3_dims.l0] at H
        by_cases c44 : x6_2 < (l1_0.length : Int)
        ·rw [if_pos c44] at H
         have c44b0 : decide (x6_2 < (l1_0.length : Int)) = true := decide_eq_true c44
         clear c44
         replace H := Option.bind_eq_some_iff.mp H
         obtain ⟨t1117, A450, H⟩ := H
         replace H : (if 0 ≤ x6_2 then (if x6_2 < (t1117.length : Int) then ((some (t1117.set (x6_2 : Int).toNat 1 : List Int)).bind fun y1120 => ((gradusref0_CopyNumbers.f k2 l1_0).bind fun t1121 => (if x6_2 < (t1121.length : Int) then (if (rd t1121 x6_2) = 1 then ((some (([y1120, (t1121.set (x6_2 : Int).toNat 3)] : List (List Int)) : List (List Int))).bind fun y1126 => (if x5_2.length + y1126.length < 5864062014805 then (graduslaw3_dims.l0 k2 (x5_2 ++ y1126) (wrap64 (x6_2 + 1)) l1_0 l1_1) else (none))) else ((some (([y1120, t1121] : List (List Int)) : List (List Int))).bind fun y1132 => (if x5_2.length + y1132.length < 5864062014805 then (graduslaw3_dims.l0 k2 (x5_2 ++ y1132) (wrap64 (x6_2 + 1)) l1_0 l1_1) else (none)))) else (none)))) else (none)) else (none)) = some r := H
         have A45 := Aside0.mk A450
         clear A450
         by_cases c46 : 0 ≤ x6_2
         ·rw [if_pos c46] at H
          have c46b0 : decide (0 ≤ x6_2) = true := decide_eq_true c46
          clear c46
          by_cases c47 : x6_2 < (t1117.length : Int)
          ·rw [if_pos c47] at H
           have c47b0 : decide (x6_2 < (t1117.length : Int)) = true := decide_eq_true c47
           clear c47
           obtain ⟨y1120, hy1120⟩ : ∃ y_ : List Int, y_ = (t1117.set (x6_2 : Int).toNat 1) := ⟨_, rfl⟩
           replace H : ((gradusref0_CopyNumbers.f k2 l1_0).bind fun t1121 => (if x6_2 < (t1121.length : Int) then (if (rd t1121 x6_2) = 1 then ((some (([y1120, (t1121.set (x6_2 : Int).toNat 3)] : List (List Int)) : List (List Int))).bind fun y1126 => (if x5_2.length + y1126.length < 5864062014805 then (graduslaw3_dims.l0 k2 (x5_2 ++ y1126) (wrap64 (x6_2 + 1)) l1_0 l1_1) else (none))) else ((some (([y1120, t1121] : List (List Int)) : List (List Int))).bind fun y1132 => (if x5_2.length + y1132.length < 5864062014805 then (graduslaw3_dims.l0 k2 (x5_2 ++ y1132) (wrap64 (x6_2 + 1)) l1_0 l1_1) else (none)))) else (none))) = some r := by first | (rw [hy1120]; with_reducible exact H) | (have H2_ := (Option.bind_some _ _).symm.trans H; rw [hy1120]; with_reducible exact H2_) | (have H2_ := (Option.bind_some _ _).symm.trans H; with_reducible exact H2_) | with_reducible exact H | (rw [hy1120]; exact H) | exact H
           have Ny1120 := Aside0.mk hy1120
           clear hy1120
           replace H := Option.bind_eq_some_iff.mp H
           obtain ⟨t1121, A490, H⟩ := H
           replace H : (if x6_2 < (t1121.length : Int) then (if (rd t1121 x6_2) = 1 then ((some (([y1120, (t1121.set (x6_2 : Int).toNat 3)] : List (List Int)) : List (List Int))).bind fun y1126 => (if x5_2.length + y1126.length < 5864062014805 then (graduslaw3_dims.l0 k2 (x5_2 ++ y1126) (wrap64 (x6_2 + 1)) l1_0 l1_1) else (none))) else ((some (([y1120, t1121] : List (List Int)) : List (List Int))).bind fun y1132 => (if x5_2.length + y1132.length < 5864062014805 then (graduslaw3_dims.l0 k2 (x5_2 ++ y1132) (wrap64 (x6_2 + 1)) l1_0 l1_1) else (none)))) else (none)) = some r := H
           have A49 := Aside0.mk A490
           clear A490
           by_cases c50 : x6_2 < (t1121.length : Int)
           ·rw [if_pos c50] at H
            have c50b0 : decide (x6_2 < (t1121.length : Int)) = true := decide_eq_true c50
            clear c50
            by_cases c51 : (rd t1121 x6_2) = 1
            ·rw [if_pos c51] at H
             have c51b0 : ((rd t1121 x6_2) == 1) = true := beq_iff_eq.mpr c51
             have c51b1 : ((rd t1121 x6_2) != 1) = false := bne_eq_false_iff_eq.mpr c51
             clear c51
             obtain ⟨y1125, hy1125⟩ : ∃ y_ : List Int, y_ = (t1121.set (x6_2 : Int).toNat 3) := ⟨_, rfl⟩
             replace H : ((some (([y1120, y1125] : List (List Int)) : List (List Int))).bind fun y1126 => (if x5_2.length + y1126.length < 5864062014805 then (graduslaw3_dims.l0 k2 (x5_2 ++ y1126) (wrap64 (x6_2 + 1)) l1_0 l1_1) else (none))) = some r := by first | (rw [hy1125]; with_reducible exact H) | (have H2_ := (Option.bind_some _ _).symm.trans H; rw [hy1125]; with_reducible exact H2_) | (have H2_ := (Option.bind_some _ _).symm.trans H; with_reducible exact H2_) | with_reducible exact H | (rw [hy1125]; exact H) | exact H
             have Ny1125 := Aside0.mk hy1125
             clear hy1125
             obtain ⟨y1126, hy1126⟩ : ∃ y_ : List (List Int), y_ = (([y1120, y1125] : List (List Int))) := ⟨_, rfl⟩
             replace H : (if x5_2.length + y1126.length < 5864062014805 then (graduslaw3_dims.l0 k2 (x5_2 ++ y1126) (wrap64 (x6_2 + 1)) l1_0 l1_1) else (none)) = some r := by first | (rw [hy1126]; with_reducible exact H) | (have H2_ := (Option.bind_some _ _).symm.trans H; rw [hy1126]; with_reducible exact H2_) | (have H2_ := (Option.bind_some _ _).symm.trans H; with_reducible exact H2_) | with_reducible exact H | (rw [hy1126]; exact H) | exact H
             have Ny1126 := Aside0.mk hy1126
             clear hy1126
             by_cases c53 : x5_2.length + y1126.length < 5864062014805
             ·rw [if_pos c53] at H
              have LMc53 := Aside0.mk c53
              clear c53
              obtain ⟨y1129, hy1129⟩ : ∃ y_ : List (List Int), y_ = (x5_2 ++ y1126) := ⟨_, rfl⟩
              replace H : (graduslaw3_dims.l0 k2 y1129 (wrap64 (x6_2 + 1)) l1_0 l1_1) = some r := by first | (rw [hy1129]; with_reducible exact H) | (have H2_ := (Option.bind_some _ _).symm.trans H; rw [hy1129]; with_reducible exact H2_) | (have H2_ := (Option.bind_some _ _).symm.trans H; with_reducible exact H2_) | with_reducible exact H | (rw [hy1129]; exact H) | exact H
              have Ny1129 := Aside0.mk hy1129
              clear hy1129
              have H' := Aside0.mk H
              clear H
              have hnb54 := NB1085_1084.out
              have hnc54 := NB1084_1085.out
              have hcz55_0 : wr.cell? ⟨gb1085, 0, none⟩ = some (.slice A1_0 l1_0.length c1_0) := (blk_cell BK1085.out 0).trans rfl
              have hcz55_1 : wr.cell? ⟨gb1085, 1, none⟩ = some (.slice A1_1 l1_1.length c1_1) := (blk_cell BK1085.out 1).trans rfl
              have hfz55_0 := blk_frozen BK1085.out 0
              have hfz55_1 := blk_frozen BK1085.out 1
              go_wp2_with (first | ((with_reducible refine gate_callee (f := 32) rfl ?_); refine goesL_ (some 43) rfl rfl Try.func32 (by kernel_rfl) rfl #[.slice A1_0 l1_0.length c1_0] rfl (by (try simp only [List.map_toArray, List.map_cons, List.map_nil]); first | done | rfl | (simp only [List.length_drop, List.length_take]; rfl)) ?_; (with_reducible refine (gradusref0_CopyNumbers.calls k2 _ _ l1_0 t1117 _ ?side1 ?side2 A45.out).mono ?_); (case side1 => repeat (first | exact (Kd.C_below HR1_0.out HB.out) | (with_reducible refine Kd.C_alloc ?_ _) | (with_reducible refine Kd.C_drewN ?_ _) | (with_reducible refine Kd.C_drew ?_))); (case side2 => exact HC1_0.out); rintro e w56 ⟨v1118, rfl, ho0, hb⟩; refine ⟨_, rfl, ?_⟩; have n0_ := Aside0.mk (Kd.N_elder' (by (with_reducible repeat (first | apply Kd.N_alloc | apply Kd.N_drewN | apply Kd.N_drew)); exact HO_5.out) (Kd.R_base ho0) hb); have n1_ := Aside0.mk (Kd.V_elder' (by (with_reducible repeat (first | apply Kd.V_alloc | apply Kd.V_drewN | apply Kd.V_drew)); exact HO_1085002.out) (Kd.R_base ho0) hb); have n2_ := Aside0.mk (Kd.R_lower (Kd.R_newM (M := fun k_ => (w.heap.size ≤ k_)) ho0 (below_size (by repeat (first | (with_reducible first | exact HB.out | apply below_alloc | apply pw_below_drewN | apply below_drew1 | refine below_set ?_ GE1084.out | refine below_set ?_ GE1085.out) | exact HB.out))) (fun k_ h_ => h_)) (below_size (by repeat (first | (with_reducible first | exact HB.out | apply below_alloc | apply pw_below_drewN | apply below_drew1 | refine below_set ?_ GE1084.out | refine below_set ?_ GE1085.out) | exact HB.out)))); have n3_ := Aside0.mk (blk_below (g := gb1084) (o := .cells #[.slice A0_0 l0_0.length c0_0, .slice A0_1 l0_1.length c0_1, .slice A0_2 l0_2.length c0_2] 67 (0, 0)) (by (with_reducible repeat (first | refine blk_drewN ?_ _ | refine blk_drew ?_ | refine blk_alloc ?_ _)); exact BK1084.out) hb); have n4_ := Aside0.mk (blk_below (g := gb1085) (o := .cells #[.slice A1_0 l1_0.length c1_0, .slice A1_1 l1_1.length c1_1] 34 (0, 0)) (by (with_reducible repeat (first | refine blk_drewN ?_ _ | refine blk_drew ?_ | refine blk_alloc ?_ _)); exact BK1085.out) hb); have n5_ := Aside0.mk (below_step (by repeat (first | (with_reducible first | exact HB.out | apply below_alloc | apply pw_below_drewN | apply below_drew1 | refine below_set ?_ GE1084.out | refine below_set ?_ GE1085.out) | exact HB.out)) hb); clear HO_5; clear HO_1085002; clear BK1084; clear BK1085; clear HB; have HO_5 := n0_; have HO_1085002 := n1_; have HO1119 := n2_; have BK1084 := n3_; have BK1085 := n4_; have HB := n5_; clear n0_ n1_ n2_ n3_ n4_ n5_; (try clear hb); (try clear hb2); (try clear hk); (try clear hi); (try clear ho0); have p48 : 0 ≤ (x6_2 : Int) := of_decide_eq_true (by first | (with_reducible assumption) | assumption); have q48 : (x6_2 : Int) < ((t1117.length : Int) : Int) := of_decide_eq_true (by first | (with_reducible assumption) | assumption); obtain ⟨go48, co48, eo48, gb48, gl48, cl48, HG48⟩ := Kd.R_form HO1119.out (by omega); (first | cases eo48 | (injection eo48 with ea_ en_ ec_; (first | subst ea_ | (injection ea_ with ea_; subst ea_)); subst ec_; clear en_)); have GB48 := Aside0.mk gb48; have GG48 := Aside0.mk HG48; clear gb48 gl48 HG48; obtain ⟨hx48_0, hf48_0⟩ := Kd.R_celln 0 HO1119.out (x6_2 : Int) p48 q48; replace p48 := eq_true p48; replace q48 := eq_true q48; have n_ := Aside0.mk (Kd.R_mono (ok' := (fun k_ => (w.heap.size ≤ k_))) HO1119.out (fun k_ hk => hk.1)); clear HO1119; have HO1119 := n_; clear n_; obtain ⟨hy57_, hz57_⟩ := Kd.R_celln 0 HO1119.out (x6_2 : Int) (of_decide_eq_true (by first | (with_reducible assumption) | assumption)) (of_decide_eq_true (by first | (with_reducible assumption) | assumption)); have HP57 := Kd.R_putg HO1119.out (x6_2 : Int) 1) | ((with_reducible refine gate_store (t := 3) (p := 46) rfl ?_); refine store_event (t := 3) (p := 46) (v := ?vo_w58) (w1 := (w56.setCell ⟨go48, (x6_2 : Int).toNat, none⟩ (.int .i64 1))) ?hg ?ho ?hn ?hr ?_; (case ho => rfl); (case hg => rfl); (case hn => rfl); (case hr => first | (go_simp; done) | (go_simp; rfl)); intro w58 hw; have hg : w56.grownBy w58 (some go48) := (by rw [hw]; exact HP57.2); have hp_ : Kd.R (Kd.int .i64) 3 w58 w.heap.size (fun k_ => (w.heap.size ≤ k_)) (.slice (some ⟨go48, 0, none⟩) t1117.length co48) y1120 := (by rw [hw, Ny1120.out]; exact HP57.1); clear HP57; have n0_ := Aside0.mk (Kd.N_afterv (v := (.slice (some ⟨go48, 0, none⟩) t1117.length co48)) (v1 := (.slice (some ⟨go48, 0, none⟩) t1117.length co48)) (ok := (fun k_ => (P0_2_ k_ ∨ w.heap.size ≤ k_) ∧ k_ ≠ gb1084 ∧ k_ ≠ gb1085)) (by (with_reducible repeat (first | apply Kd.N_alloc | apply Kd.N_drewN | apply Kd.N_drew)); exact HO_5.out) hg (.inl rfl)); have n1_ := Aside0.mk (Kd.V_afterv (v := (.slice (some ⟨go48, 0, none⟩) t1117.length co48)) (v1 := (.slice (some ⟨go48, 0, none⟩) t1117.length co48)) (ok := (fun k_ => (P0_2_ k_ ∨ w.heap.size ≤ k_) ∧ some k_ ≠ (u5 : Value).ownBlock ∧ k_ ≠ gb1084 ∧ k_ ≠ gb1085)) (by (with_reducible repeat (first | apply Kd.V_alloc | apply Kd.V_drewN | apply Kd.V_drew)); exact HO_1085002.out) hg (.inl rfl)); have n2_ := Aside0.mk (blk_grown (g := gb1084) (o := .cells #[.slice A0_0 l0_0.length c0_0, .slice A0_1 l0_1.length c0_1, .slice A0_2 l0_2.length c0_2] 67 (0, 0)) (by (with_reducible repeat (first | refine blk_drewN ?_ _ | refine blk_drew ?_ | refine blk_alloc ?_ _)); exact BK1084.out) hg (Kd.R_ne HO1119.out BK1084.out (by decide))); have n3_ := Aside0.mk (blk_grown (g := gb1085) (o := .cells #[.slice A1_0 l1_0.length c1_0, .slice A1_1 l1_1.length c1_1] 34 (0, 0)) (by (with_reducible repeat (first | refine blk_drewN ?_ _ | refine blk_drew ?_ | refine blk_alloc ?_ _)); exact BK1085.out) hg (Kd.R_ne HO1119.out BK1085.out (by decide))); have n4_ := Aside0.mk (hp_); have n5_ := Aside0.mk ((by rw [hw]; exact below_set (HB.out) GB48.out : Below w.heap.size w w58)); clear HO_5; clear HO_1085002; clear BK1084; clear BK1085; clear HO1119; clear HB; have HO_5 := n0_; have HO_1085002 := n1_; have BK1084 := n2_; have BK1085 := n3_; have HO1119 := n4_; have HB := n5_; clear n0_ n1_ n2_ n3_ n4_ n5_; clear hg hw hp_; have hcz59_0 : w58.cell? ⟨gb1085, 0, none⟩ = some (.slice A1_0 l1_0.length c1_0) := (blk_cell BK1085.out 0).trans rfl; have hcz59_1 : w58.cell? ⟨gb1085, 1, none⟩ = some (.slice A1_1 l1_1.length c1_1) := (blk_cell BK1085.out 1).trans rfl; have hfz59_0 := blk_frozen BK1085.out 0; have hfz59_1 := blk_frozen BK1085.out 1) | ((with_reducible refine gate_callee (f := 32) rfl ?_); refine goesL_ (some 49) rfl rfl Try.func32 (by kernel_rfl) rfl #[.slice A1_0 l1_0.length c1_0] rfl (by (try simp only [List.map_toArray, List.map_cons, List.map_nil]); first | done | rfl | (simp only [List.length_drop, List.length_take]; rfl)) ?_; (with_reducible refine (gradusref0_CopyNumbers.calls k2 _ _ l1_0 t1121 _ ?side1 ?side2 A49.out).mono ?_); (case side1 => repeat (first | exact (Kd.C_below HR1_0.out HB.out) | (with_reducible refine Kd.C_alloc ?_ _) | (with_reducible refine Kd.C_drewN ?_ _) | (with_reducible refine Kd.C_drew ?_))); (case side2 => exact HC1_0.out); rintro e w60 ⟨v1122, rfl, ho0, hb⟩; refine ⟨_, rfl, ?_⟩; have n0_ := Aside0.mk (Kd.N_elder' (by (with_reducible repeat (first | apply Kd.N_alloc | apply Kd.N_drewN | apply Kd.N_drew)); exact HO_5.out) (Kd.R_base ho0) hb); have n1_ := Aside0.mk (Kd.V_elder' (by (with_reducible repeat (first | apply Kd.V_alloc | apply Kd.V_drewN | apply Kd.V_drew)); exact HO_1085002.out) (Kd.R_base ho0) hb); have n2_ := Aside0.mk (Kd.R_elder' (by (with_reducible repeat (first | apply Kd.R_alloc | apply Kd.R_drewN | apply Kd.R_drew)); exact HO1119.out) (Kd.R_base ho0) hb); have n3_ := Aside0.mk (Kd.R_lower (Kd.R_new' (Kd.R_newM (M := fun k_ => (w.heap.size ≤ k_)) ho0 (below_size (by repeat (first | (with_reducible first | exact HB.out | apply below_alloc | apply pw_below_drewN | apply below_drew1 | refine below_set ?_ GE1084.out | refine below_set ?_ GE1085.out) | exact HB.out))) (fun k_ h_ => h_)) (Kd.R_lt (by (with_reducible repeat (first | apply Kd.R_alloc | apply Kd.R_drewN | apply Kd.R_drew)); exact HO1119.out))) (below_size (by repeat (first | (with_reducible first | exact HB.out | apply below_alloc | apply pw_below_drewN | apply below_drew1 | refine below_set ?_ GE1084.out | refine below_set ?_ GE1085.out) | exact HB.out)))); have n4_ := Aside0.mk (blk_below (g := gb1084) (o := .cells #[.slice A0_0 l0_0.length c0_0, .slice A0_1 l0_1.length c0_1, .slice A0_2 l0_2.length c0_2] 67 (0, 0)) (by (with_reducible repeat (first | refine blk_drewN ?_ _ | refine blk_drew ?_ | refine blk_alloc ?_ _)); exact BK1084.out) hb); have n5_ := Aside0.mk (blk_below (g := gb1085) (o := .cells #[.slice A1_0 l1_0.length c1_0, .slice A1_1 l1_1.length c1_1] 34 (0, 0)) (by (with_reducible repeat (first | refine blk_drewN ?_ _ | refine blk_drew ?_ | refine blk_alloc ?_ _)); exact BK1085.out) hb); have n6_ := Aside0.mk (below_step (by repeat (first | (with_reducible first | exact HB.out | apply below_alloc | apply pw_below_drewN | apply below_drew1 | refine below_set ?_ GE1084.out | refine below_set ?_ GE1085.out) | exact HB.out)) hb); clear HO_5; clear HO_1085002; clear HO1119; clear BK1084; clear BK1085; clear HB; have HO_5 := n0_; have HO_1085002 := n1_; have HO1119 := n2_; have HO1123 := n3_; have BK1084 := n4_; have BK1085 := n5_; have HB := n6_; clear n0_ n1_ n2_ n3_ n4_ n5_ n6_; (try clear hb); (try clear hb2); (try clear hk); (try clear hi); (try clear ho0); obtain ⟨Ao61, co61, eo61⟩ := Kd.R_slice HO1123.out; subst eo61; have p1124 : 0 ≤ (x6_2 : Int) := of_decide_eq_true (by first | (with_reducible assumption) | assumption); have q1124 : x6_2 < (t1121.length : Int) := of_decide_eq_true (by first | (with_reducible assumption) | assumption); obtain ⟨ad1124, e1124, hx1124_0⟩ := Kd.at_int (Kd.R_reads' HO1123.out).2.2 x6_2 p1124 q1124; cases e1124; replace p1124 := eq_true p1124; replace q1124 := eq_true q1124; have p52 : 0 ≤ (x6_2 : Int) := of_decide_eq_true (by first | (with_reducible assumption) | assumption); have q52 : (x6_2 : Int) < ((t1121.length : Int) : Int) := of_decide_eq_true (by first | (with_reducible assumption) | assumption); obtain ⟨go52, co52, eo52, gb52, gl52, cl52, HG52⟩ := Kd.R_form HO1123.out (by omega); (first | cases eo52 | (injection eo52 with ea_ en_ ec_; (first | subst ea_ | (injection ea_ with ea_; subst ea_)); subst ec_; clear en_)); have GB52 := Aside0.mk gb52; have GG52 := Aside0.mk HG52; clear gb52 gl52 HG52; (first | simp only [add_plain] at hx1124_0 | skip); obtain ⟨hx52_0, hf52_0⟩ := Kd.R_celln 0 HO1123.out (x6_2 : Int) p52 q52; replace p52 := eq_true p52; replace q52 := eq_true q52; have n_ := Aside0.mk (Kd.R_mono (ok' := (fun k_ => (w.heap.size ≤ k_) ∧ some k_ ≠ (.slice (some ⟨go48, 0, none⟩) t1117.length co48 : Value).ownBlock)) HO1123.out (fun k_ hk => ⟨hk.1.1, hk.2⟩)); clear HO1123; have HO1123 := n_; clear n_; obtain ⟨hy62_, hz62_⟩ := Kd.R_celln 0 HO1123.out (x6_2 : Int) (of_decide_eq_true (by first | (with_reducible assumption) | assumption)) (of_decide_eq_true (by first | (with_reducible assumption) | assumption)); have HP62 := Kd.R_putg HO1123.out (x6_2 : Int) 3) | ((with_reducible refine gate_store (t := 3) (p := 57) rfl ?_); refine store_event (t := 3) (p := 57) (v := ?vo_w63) (w1 := (w60.setCell ⟨go52, (x6_2 : Int).toNat, none⟩ (.int .i64 3))) ?hg ?ho ?hn ?hr ?_; (case ho => rfl); (case hg => rfl); (case hn => rfl); (case hr => first | (go_simp; done) | (go_simp; rfl)); intro w63 hw; have hg : w60.grownBy w63 (some go52) := (by rw [hw]; exact HP62.2); have hp_ : Kd.R (Kd.int .i64) 3 w63 w.heap.size (fun k_ => (w.heap.size ≤ k_) ∧ some k_ ≠ (.slice (some ⟨go48, 0, none⟩) t1117.length co48 : Value).ownBlock) (.slice (some ⟨go52, 0, none⟩) t1121.length co61) y1125 := (by rw [hw, Ny1125.out]; exact HP62.1); clear HP62; have n0_ := Aside0.mk (Kd.N_afterv (v := (.slice (some ⟨go52, 0, none⟩) t1121.length co61)) (v1 := (.slice (some ⟨go52, 0, none⟩) t1121.length co61)) (ok := (fun k_ => (P0_2_ k_ ∨ w.heap.size ≤ k_) ∧ some k_ ≠ (.slice (some ⟨go48, 0, none⟩) t1117.length co48 : Value).ownBlock ∧ k_ ≠ gb1084 ∧ k_ ≠ gb1085)) (by (with_reducible repeat (first | apply Kd.N_alloc | apply Kd.N_drewN | apply Kd.N_drew)); exact Kd.N_mono HO_5.out (fun _ hk => ⟨⟨hk.1.1.1, ⟨hk.1.2, ⟨hk.1.1.2.1, hk.1.1.2.2⟩⟩⟩, hk.2⟩)) hg (.inl rfl)); have n1_ := Aside0.mk (Kd.V_afterv (v := (.slice (some ⟨go52, 0, none⟩) t1121.length co61)) (v1 := (.slice (some ⟨go52, 0, none⟩) t1121.length co61)) (ok := (fun k_ => (P0_2_ k_ ∨ w.heap.size ≤ k_) ∧ some k_ ≠ (u5 : Value).ownBlock ∧ some k_ ≠ (.slice (some ⟨go48, 0, none⟩) t1117.length co48 : Value).ownBlock ∧ k_ ≠ gb1084 ∧ k_ ≠ gb1085)) (by (with_reducible repeat (first | apply Kd.V_alloc | apply Kd.V_drewN | apply Kd.V_drew)); exact Kd.V_mono HO_1085002.out (fun _ hk => ⟨⟨hk.1.1.1, ⟨hk.1.1.2.1, ⟨hk.1.2, ⟨hk.1.1.2.2.1, hk.1.1.2.2.2⟩⟩⟩⟩, hk.2⟩)) hg (.inl rfl)); have n2_ := Aside0.mk (blk_grown (g := gb1084) (o := .cells #[.slice A0_0 l0_0.length c0_0, .slice A0_1 l0_1.length c0_1, .slice A0_2 l0_2.length c0_2] 67 (0, 0)) (by (with_reducible repeat (first | refine blk_drewN ?_ _ | refine blk_drew ?_ | refine blk_alloc ?_ _)); exact BK1084.out) hg (Kd.R_ne HO1123.out BK1084.out (by decide))); have n3_ := Aside0.mk (blk_grown (g := gb1085) (o := .cells #[.slice A1_0 l1_0.length c1_0, .slice A1_1 l1_1.length c1_1] 34 (0, 0)) (by (with_reducible repeat (first | refine blk_drewN ?_ _ | refine blk_drew ?_ | refine blk_alloc ?_ _)); exact BK1085.out) hg (Kd.R_ne HO1123.out BK1085.out (by decide))); have n4_ := Aside0.mk (Kd.R_after (v := (.slice (some ⟨go52, 0, none⟩) t1121.length co61)) (v1 := (.slice (some ⟨go52, 0, none⟩) t1121.length co61)) (ok := (fun k_ => (w.heap.size ≤ k_))) (by (with_reducible repeat (first | apply Kd.R_alloc | apply Kd.R_drewN | apply Kd.R_drew)); exact HO1119.out) hg (.inl rfl)); have n5_ := Aside0.mk (hp_); have n6_ := Aside0.mk ((by rw [hw]; exact below_set (HB.out) GB52.out : Below w.heap.size w w63)); clear HO_5; clear HO_1085002; clear BK1084; clear BK1085; clear HO1119; clear HO1123; clear HB; have HO_5 := n0_; have HO_1085002 := n1_; have BK1084 := n2_; have BK1085 := n3_; have HO1119 := n4_; have HO1123 := n5_; have HB := n6_; clear n0_ n1_ n2_ n3_ n4_ n5_ n6_; clear hg hw hp_) | ((with_reducible refine gate_dst (N := 61) rfl ?_); refine Kd.N_lit (Kd.slice 3 (Kd.int .i64)) _ 23 ?hg (N' := 61) ?hd (xs := ([y1120, y1125] : List (List Int))) (inner := [.slice (some ⟨go48, 0, none⟩) t1117.length co48, .slice (some ⟨go52, 0, none⟩) t1121.length co61]) (ok := (fun k_ => (P0_2_ k_ ∨ w.heap.size ≤ k_) ∧ some k_ ≠ (u5 : Value).ownBlock ∧ k_ ≠ gb1084 ∧ k_ ≠ gb1085)) (okp := (fun k_ => (P0_2_ k_ ∨ w.heap.size ≤ k_) ∧ some k_ ≠ (u5 : Value).ownBlock ∧ k_ ≠ gb1084 ∧ k_ ≠ gb1085)) ?hr ?hp (fun _ hk => hk) ((show ∀ k_, w63.heap.size ≤ k_ → (fun k_ => (P0_2_ k_ ∨ w.heap.size ≤ k_) ∧ some k_ ≠ (u5 : Value).ownBlock ∧ k_ ≠ gb1084 ∧ k_ ≠ gb1085) k_ from fun k_ hk => ⟨(.inr (Nat.le_trans (below_size (by repeat (first | (with_reducible first | exact HB.out | apply below_alloc | apply pw_below_drewN | apply below_drew1 | refine below_set ?_ GE1084.out | refine below_set ?_ GE1085.out) | exact HB.out))) hk)), Kd.fresh' (Kd.N_lt (by (with_reducible repeat (first | apply Kd.N_alloc | apply Kd.N_drewN | apply Kd.N_drew)); exact HO_5.out)) k_ hk, Kd.freshB (g := gb1084) (o := .cells #[.slice A0_0 l0_0.length c0_0, .slice A0_1 l0_1.length c0_1, .slice A0_2 l0_2.length c0_2] 67 (0, 0)) (by (with_reducible repeat (first | refine blk_drewN ?_ _ | refine blk_drew ?_ | refine blk_alloc ?_ _)); exact BK1084.out) k_ hk, Kd.freshB (g := gb1085) (o := .cells #[.slice A1_0 l1_0.length c1_0, .slice A1_1 l1_1.length c1_1] 34 (0, 0)) (by (with_reducible repeat (first | refine blk_drewN ?_ _ | refine blk_drew ?_ | refine blk_alloc ?_ _)); exact BK1085.out) k_ hk⟩) _ (Nat.le_refl _)) (Below.refl _ _) (Nat.le_refl _) (by simp) ?_; (case hd => rfl); (case hg => rfl); (case hr => first | (go_simp; done) | (go_simp; rfl)); (case hp => exact (Reps.one (show Kd.FK (Kd.slice 3 (Kd.int .i64)) _ _ y1120 [.slice (some ⟨go48, 0, none⟩) t1117.length co48] from (Go.Proofs.XW.FK_of_R (Kd.R_mono (ok' := (fun k_ => (P0_2_ k_ ∨ w.heap.size ≤ k_) ∧ some k_ ≠ (u5 : Value).ownBlock ∧ k_ ≠ gb1084 ∧ k_ ≠ gb1085)) (Kd.R_types (Kd.R_types (Kd.R_apart' (HO1119.out) (Kd.N_typed HO_5.out) (by decide)) BK1084.out (by decide)) BK1085.out (by decide)) (fun k_ hk => ⟨(.inr (hk.1.1.1.1)), ⟨hk.1.1.2, ⟨hk.1.2, hk.2⟩⟩⟩)))) (Reps.one (show Kd.FK (Kd.slice 3 (Kd.int .i64)) _ _ y1125 [.slice (some ⟨go52, 0, none⟩) t1121.length co61] from (Go.Proofs.XW.FK_of_R (Kd.R_mono (ok' := (fun k_ => (P0_2_ k_ ∨ w.heap.size ≤ k_) ∧ some k_ ≠ (u5 : Value).ownBlock ∧ k_ ≠ gb1084 ∧ k_ ≠ gb1085)) (Kd.R_types (Kd.R_types (Kd.R_apart' (HO1123.out) (Kd.N_typed HO_5.out) (by decide)) BK1084.out (by decide)) BK1085.out (by decide)) (fun k_ hk => ⟨(.inr (hk.1.1.1.1)), ⟨hk.1.1.2, ⟨hk.1.2, hk.2⟩⟩⟩)))) (Reps.none _ _)))); intro v1127 w64 ho65 hb hg_ hnew_; clear hg_ hnew_; (first | rw [← Ny1126.out] at ho65 | (simp only [Int.reduceToNat] at ho65; rw [← Ny1126.out] at ho65)); have n0_ := Aside0.mk (Kd.N_elder' (by (with_reducible repeat (first | apply Kd.N_alloc | apply Kd.N_drewN | apply Kd.N_drew)); exact HO_5.out) (Kd.N_base ho65) hb); have n1_ := Aside0.mk (Kd.V_elder' (by (with_reducible repeat (first | apply Kd.V_alloc | apply Kd.V_drewN | apply Kd.V_drew)); exact HO_1085002.out) (Kd.N_base ho65) hb); have n2_ := Aside0.mk (Kd.N_lower ho65 (below_size (by repeat (first | (with_reducible first | exact HB.out | apply below_alloc | apply pw_below_drewN | apply below_drew1 | refine below_set ?_ GE1084.out | refine below_set ?_ GE1085.out) | exact HB.out)))); have n3_ := Aside0.mk (blk_below (g := gb1084) (o := .cells #[.slice A0_0 l0_0.length c0_0, .slice A0_1 l0_1.length c0_1, .slice A0_2 l0_2.length c0_2] 67 (0, 0)) (by (with_reducible repeat (first | refine blk_drewN ?_ _ | refine blk_drew ?_ | refine blk_alloc ?_ _)); exact BK1084.out) hb); have n4_ := Aside0.mk (blk_below (g := gb1085) (o := .cells #[.slice A1_0 l1_0.length c1_0, .slice A1_1 l1_1.length c1_1] 34 (0, 0)) (by (with_reducible repeat (first | refine blk_drewN ?_ _ | refine blk_drew ?_ | refine blk_alloc ?_ _)); exact BK1085.out) hb); have n5_ := Aside0.mk (below_step (by repeat (first | (with_reducible first | exact HB.out | apply below_alloc | apply pw_below_drewN | apply below_drew1 | refine below_set ?_ GE1084.out | refine below_set ?_ GE1085.out) | exact HB.out)) hb); clear HO_5; clear HO_1085002; clear BK1084; clear BK1085; clear HB; clear HO1119; clear HO1123; have HO_5 := n0_; have HO_1085002 := n1_; have HO1128 := n2_; have BK1084 := n3_; have BK1085 := n4_; have HB := n5_; clear n0_ n1_ n2_ n3_ n4_ n5_; clear hb ho65; obtain ⟨Ao67, co67, eo67⟩ := Kd.N_slice HO1128.out; subst eo67) | ((with_reducible refine gate_builtin (b := .append) (xs := #[.tmp 58, .tmp 61]) rfl ?_); at_builtin; refine Kd.N_append_rows (Kd.slice 3 (Kd.int .i64)) (w0 := w) w.heap.size rfl (.tmp 58) (.tmp 61) 22 23 (.slice none 0 0) 24 rfl Try.underlying22 info23 rfl (by decide) (by omega) u5 x5_2 y1126 _ _ _ (fun k_ => (P0_2_ k_ ∨ w.heap.size ≤ k_) ∧ k_ ≠ gb1084 ∧ k_ ≠ gb1085) (fun k_ => ((fun k_ => (P0_2_ k_ ∨ w.heap.size ≤ k_) ∧ k_ ≠ gb1084 ∧ k_ ≠ gb1085)) k_ ∧ some k_ ≠ (u5 : Value).ownBlock) rfl rfl ?aO ?aR (fun _ hk => hk) ?aF ?aB ?aS ?aL ?_; (case aR => exact (by skip; exact Kd.N_F (Kd.N_mono (ok' := (fun k_ => ((fun k_ => (P0_2_ k_ ∨ w.heap.size ≤ k_) ∧ k_ ≠ gb1084 ∧ k_ ≠ gb1085)) k_ ∧ some k_ ≠ (u5 : Value).ownBlock)) (HO1128.out) (fun k_ hk => ⟨⟨hk.1, ⟨hk.2.2.1, hk.2.2.2⟩⟩, hk.2.1⟩)))); (case aB => exact (by repeat (first | (with_reducible first | exact HB.out | apply below_alloc | apply pw_below_drewN | apply below_drew1 | refine below_set ?_ GE1084.out | refine below_set ?_ GE1085.out) | exact HB.out))); (case aF => exact (fun k_ hk => ⟨(.inr (Nat.le_trans (below_size (by repeat (first | (with_reducible first | exact HB.out | apply below_alloc | apply pw_below_drewN | apply below_drew1 | refine below_set ?_ GE1084.out | refine below_set ?_ GE1085.out) | exact HB.out))) hk)), Kd.freshB (g := gb1084) (o := .cells #[.slice A0_0 l0_0.length c0_0, .slice A0_1 l0_1.length c0_1, .slice A0_2 l0_2.length c0_2] 67 (0, 0)) (by (with_reducible repeat (first | refine blk_drewN ?_ _ | refine blk_drew ?_ | refine blk_alloc ?_ _)); exact BK1084.out) k_ hk, Kd.freshB (g := gb1085) (o := .cells #[.slice A1_0 l1_0.length c1_0, .slice A1_1 l1_1.length c1_1] 34 (0, 0)) (by (with_reducible repeat (first | refine blk_drewN ?_ _ | refine blk_drew ?_ | refine blk_alloc ?_ _)); exact BK1085.out) k_ hk⟩)); (case aO => exact (by (with_reducible repeat (first | apply Kd.N_alloc | apply Kd.N_drewN | apply Kd.N_drew)); exact Kd.N_mono HO_5.out (fun _ hk => ⟨hk.1.1.1, ⟨hk.1.1.2.2.1, hk.1.1.2.2.2⟩⟩))); (case aS => exact (below_size (by repeat (first | (with_reducible first | exact HB.out | apply below_alloc | apply pw_below_drewN | apply below_drew1 | refine below_set ?_ GE1084.out | refine below_set ?_ GE1085.out) | exact HB.out)))); (case aL => have := LMc53.out; omega); intro v1130 w66 ho hb hg hat; rw [← Ny1129.out] at ho; have n0_ := Aside0.mk (Kd.V_afterv (ok := (fun k_ => (P0_2_ k_ ∨ w.heap.size ≤ k_) ∧ some k_ ≠ (.slice Ao67 y1126.length co67 : Value).ownBlock ∧ k_ ≠ gb1084 ∧ k_ ≠ gb1085)) (by (with_reducible repeat (first | apply Kd.V_alloc | apply Kd.V_drewN | apply Kd.V_drew)); exact Kd.V_mono HO_1085002.out (fun _ hk => ⟨⟨hk.1.1.1, ⟨hk.2, ⟨hk.1.1.2.2.2.1, hk.1.1.2.2.2.2⟩⟩⟩, hk.1.1.2.1⟩)) hg hat); have n1_ := Aside0.mk (blk_grown (g := gb1084) (o := .cells #[.slice A0_0 l0_0.length c0_0, .slice A0_1 l0_1.length c0_1, .slice A0_2 l0_2.length c0_2] 67 (0, 0)) (by (with_reducible repeat (first | refine blk_drewN ?_ _ | refine blk_drew ?_ | refine blk_alloc ?_ _)); exact BK1084.out) hg (Kd.N_ne HO_5.out BK1084.out (by decide))); have n2_ := Aside0.mk (blk_grown (g := gb1085) (o := .cells #[.slice A1_0 l1_0.length c1_0, .slice A1_1 l1_1.length c1_1] 34 (0, 0)) (by (with_reducible repeat (first | refine blk_drewN ?_ _ | refine blk_drew ?_ | refine blk_alloc ?_ _)); exact BK1085.out) hg (Kd.N_ne HO_5.out BK1085.out (by decide))); have n3_ := Aside0.mk (Kd.N_afterv (ok := (fun k_ => (P0_2_ k_ ∨ w.heap.size ≤ k_) ∧ k_ ≠ gb1084 ∧ k_ ≠ gb1085)) (by (with_reducible repeat (first | apply Kd.N_alloc | apply Kd.N_drewN | apply Kd.N_drew)); exact Kd.N_mono HO1128.out (fun _ hk => ⟨⟨hk.1, ⟨hk.2.2.1, hk.2.2.2⟩⟩, hk.2.1⟩)) hg hat); have n4_ := Aside0.mk (hb); have n5_ := Aside0.mk (ho); clear HO_1085002; clear BK1084; clear BK1085; clear HO1128; clear HB; clear HO_5; have HO_1085002 := n0_; have BK1084 := n1_; have BK1085 := n2_; have HO1128 := n3_; have HB := n4_; have HO1131 := n5_; clear n0_ n1_ n2_ n3_ n4_ n5_; clear ho hb hg hat))
              go_roundg k2
              case measure => have := HJ3.out; have := HK2.out; omega
              case rel => exact ⟨(y1129), (wrap64 (x6_2 + 1)), (by first | rfl | (simp; done) | (simp [*]; done)), H', ⟨by have := HJ3.out; have := HK2.out; omega⟩, ⟨by (with_reducible repeat (first | apply Kd.N_alloc | apply Kd.N_drewN | apply Kd.N_drew)); exact HO1131.out⟩, ⟨by (with_reducible repeat (first | apply Kd.V_alloc | apply Kd.V_drewN | apply Kd.V_drew)); exact Kd.V_mono HO_1085002.out (fun _ hk => ⟨hk.1.1, ⟨hk.2, ⟨hk.1.2.2.1, hk.1.2.2.2⟩⟩⟩)⟩, ⟨by (with_reducible repeat (first | refine blk_drewN ?_ _ | refine blk_drew ?_ | refine blk_alloc ?_ _)); exact BK1084.out⟩, ⟨by (with_reducible repeat (first | refine blk_drewN ?_ _ | refine blk_drew ?_ | refine blk_alloc ?_ _)); exact BK1085.out⟩, ⟨by repeat (first | (with_reducible first | exact HB.out | apply below_alloc | apply pw_below_drewN | apply below_drew1 | refine below_set ?_ GE1084.out | refine below_set ?_ GE1085.out) | exact HB.out)⟩⟩
             ·rw [if_neg c53] at H
              exact absurd H (by simp)
            ·rw [if_neg c51] at H
             have c51b0 : ((rd t1121 x6_2) == 1) = false := beq_eq_false_iff_ne.mpr c51
             have c51b1 : ((rd t1121 x6_2) != 1) = true := bne_iff_ne.mpr c51
             obtain ⟨y1132, hy1132⟩ : ∃ y_ : List (List Int), y_ = (([y1120, t1121] : List (List Int))) := ⟨_, rfl⟩
             replace H : (if x5_2.length + y1132.length < 5864062014805 then (graduslaw3_dims.l0 k2 (x5_2 ++ y1132) (wrap64 (x6_2 + 1)) l1_0 l1_1) else (none)) = some r := by first | (rw [hy1132]; with_reducible exact H) | (have H2_ := (Option.bind_some _ _).symm.trans H; rw [hy1132]; with_reducible exact H2_) | (have H2_ := (Option.bind_some _ _).symm.trans H; with_reducible exact H2_) | with_reducible exact H | (rw [hy1132]; exact H) | exact H
             have Ny1132 := Aside0.mk hy1132
             clear hy1132
             by_cases c68 : x5_2.length + y1132.length < 5864062014805
             ·rw [if_pos c68] at H
              have LMc68 := Aside0.mk c68
              clear c68
              obtain ⟨y1135, hy1135⟩ : ∃ y_ : List (List Int), y_ = (x5_2 ++ y1132) := ⟨_, rfl⟩
              replace H : (graduslaw3_dims.l0 k2 y1135 (wrap64 (x6_2 + 1)) l1_0 l1_1) = some r := by first | (rw [hy1135]; with_reducible exact H) | (have H2_ := (Option.bind_some _ _).symm.trans H; rw [hy1135]; with_reducible exact H2_) | (have H2_ := (Option.bind_some _ _).symm.trans H; with_reducible exact H2_) | with_reducible exact H | (rw [hy1135]; exact H) | exact H
              have Ny1135 := Aside0.mk hy1135
              clear hy1135
              have H' := Aside0.mk H
              clear H
              have hnb69 := NB1085_1084.out
              have hnc69 := NB1084_1085.out
              have hcz70_0 : wr.cell? ⟨gb1085, 0, none⟩ = some (.slice A1_0 l1_0.length c1_0) := (blk_cell BK1085.out 0).trans rfl
              have hcz70_1 : wr.cell? ⟨gb1085, 1, none⟩ = some (.slice A1_1 l1_1.length c1_1) := (blk_cell BK1085.out 1).trans rfl
              have hfz70_0 := blk_frozen BK1085.out 0
              have hfz70_1 := blk_frozen BK1085.out 1
              go_wp2_with (first | ((with_reducible refine gate_callee (f := 32) rfl ?_); refine goesL_ (some 43) rfl rfl Try.func32 (by kernel_rfl) rfl #[.slice A1_0 l1_0.length c1_0] rfl (by (try simp only [List.map_toArray, List.map_cons, List.map_nil]); first | done | rfl | (simp only [List.length_drop, List.length_take]; rfl)) ?_; (with_reducible refine (gradusref0_CopyNumbers.calls k2 _ _ l1_0 t1117 _ ?side1 ?side2 A45.out).mono ?_); (case side1 => repeat (first | exact (Kd.C_below HR1_0.out HB.out) | (with_reducible refine Kd.C_alloc ?_ _) | (with_reducible refine Kd.C_drewN ?_ _) | (with_reducible refine Kd.C_drew ?_))); (case side2 => exact HC1_0.out); rintro e w71 ⟨v1118, rfl, ho0, hb⟩; refine ⟨_, rfl, ?_⟩; have n0_ := Aside0.mk (Kd.N_elder' (by (with_reducible repeat (first | apply Kd.N_alloc | apply Kd.N_drewN | apply Kd.N_drew)); exact HO_5.out) (Kd.R_base ho0) hb); have n1_ := Aside0.mk (Kd.V_elder' (by (with_reducible repeat (first | apply Kd.V_alloc | apply Kd.V_drewN | apply Kd.V_drew)); exact HO_1085002.out) (Kd.R_base ho0) hb); have n2_ := Aside0.mk (Kd.R_lower (Kd.R_newM (M := fun k_ => (w.heap.size ≤ k_)) ho0 (below_size (by repeat (first | (with_reducible first | exact HB.out | apply below_alloc | apply pw_below_drewN | apply below_drew1 | refine below_set ?_ GE1084.out | refine below_set ?_ GE1085.out) | exact HB.out))) (fun k_ h_ => h_)) (below_size (by repeat (first | (with_reducible first | exact HB.out | apply below_alloc | apply pw_below_drewN | apply below_drew1 | refine below_set ?_ GE1084.out | refine below_set ?_ GE1085.out) | exact HB.out)))); have n3_ := Aside0.mk (blk_below (g := gb1084) (o := .cells #[.slice A0_0 l0_0.length c0_0, .slice A0_1 l0_1.length c0_1, .slice A0_2 l0_2.length c0_2] 67 (0, 0)) (by (with_reducible repeat (first | refine blk_drewN ?_ _ | refine blk_drew ?_ | refine blk_alloc ?_ _)); exact BK1084.out) hb); have n4_ := Aside0.mk (blk_below (g := gb1085) (o := .cells #[.slice A1_0 l1_0.length c1_0, .slice A1_1 l1_1.length c1_1] 34 (0, 0)) (by (with_reducible repeat (first | refine blk_drewN ?_ _ | refine blk_drew ?_ | refine blk_alloc ?_ _)); exact BK1085.out) hb); have n5_ := Aside0.mk (below_step (by repeat (first | (with_reducible first | exact HB.out | apply below_alloc | apply pw_below_drewN | apply below_drew1 | refine below_set ?_ GE1084.out | refine below_set ?_ GE1085.out) | exact HB.out)) hb); clear HO_5; clear HO_1085002; clear BK1084; clear BK1085; clear HB; have HO_5 := n0_; have HO_1085002 := n1_; have HO1119 := n2_; have BK1084 := n3_; have BK1085 := n4_; have HB := n5_; clear n0_ n1_ n2_ n3_ n4_ n5_; (try clear hb); (try clear hb2); (try clear hk); (try clear hi); (try clear ho0); have p48 : 0 ≤ (x6_2 : Int) := of_decide_eq_true (by first | (with_reducible assumption) | assumption); have q48 : (x6_2 : Int) < ((t1117.length : Int) : Int) := of_decide_eq_true (by first | (with_reducible assumption) | assumption); obtain ⟨go48, co48, eo48, gb48, gl48, cl48, HG48⟩ := Kd.R_form HO1119.out (by omega); (first | cases eo48 | (injection eo48 with ea_ en_ ec_; (first | subst ea_ | (injection ea_ with ea_; subst ea_)); subst ec_; clear en_)); have GB48 := Aside0.mk gb48; have GG48 := Aside0.mk HG48; clear gb48 gl48 HG48; obtain ⟨hx48_0, hf48_0⟩ := Kd.R_celln 0 HO1119.out (x6_2 : Int) p48 q48; replace p48 := eq_true p48; replace q48 := eq_true q48; have n_ := Aside0.mk (Kd.R_mono (ok' := (fun k_ => (w.heap.size ≤ k_))) HO1119.out (fun k_ hk => hk.1)); clear HO1119; have HO1119 := n_; clear n_; obtain ⟨hy72_, hz72_⟩ := Kd.R_celln 0 HO1119.out (x6_2 : Int) (of_decide_eq_true (by first | (with_reducible assumption) | assumption)) (of_decide_eq_true (by first | (with_reducible assumption) | assumption)); have HP72 := Kd.R_putg HO1119.out (x6_2 : Int) 1) | ((with_reducible refine gate_store (t := 3) (p := 46) rfl ?_); refine store_event (t := 3) (p := 46) (v := ?vo_w73) (w1 := (w71.setCell ⟨go48, (x6_2 : Int).toNat, none⟩ (.int .i64 1))) ?hg ?ho ?hn ?hr ?_; (case ho => rfl); (case hg => rfl); (case hn => rfl); (case hr => first | (go_simp; done) | (go_simp; rfl)); intro w73 hw; have hg : w71.grownBy w73 (some go48) := (by rw [hw]; exact HP72.2); have hp_ : Kd.R (Kd.int .i64) 3 w73 w.heap.size (fun k_ => (w.heap.size ≤ k_)) (.slice (some ⟨go48, 0, none⟩) t1117.length co48) y1120 := (by rw [hw, Ny1120.out]; exact HP72.1); clear HP72; have n0_ := Aside0.mk (Kd.N_afterv (v := (.slice (some ⟨go48, 0, none⟩) t1117.length co48)) (v1 := (.slice (some ⟨go48, 0, none⟩) t1117.length co48)) (ok := (fun k_ => (P0_2_ k_ ∨ w.heap.size ≤ k_) ∧ k_ ≠ gb1084 ∧ k_ ≠ gb1085)) (by (with_reducible repeat (first | apply Kd.N_alloc | apply Kd.N_drewN | apply Kd.N_drew)); exact HO_5.out) hg (.inl rfl)); have n1_ := Aside0.mk (Kd.V_afterv (v := (.slice (some ⟨go48, 0, none⟩) t1117.length co48)) (v1 := (.slice (some ⟨go48, 0, none⟩) t1117.length co48)) (ok := (fun k_ => (P0_2_ k_ ∨ w.heap.size ≤ k_) ∧ some k_ ≠ (u5 : Value).ownBlock ∧ k_ ≠ gb1084 ∧ k_ ≠ gb1085)) (by (with_reducible repeat (first | apply Kd.V_alloc | apply Kd.V_drewN | apply Kd.V_drew)); exact HO_1085002.out) hg (.inl rfl)); have n2_ := Aside0.mk (blk_grown (g := gb1084) (o := .cells #[.slice A0_0 l0_0.length c0_0, .slice A0_1 l0_1.length c0_1, .slice A0_2 l0_2.length c0_2] 67 (0, 0)) (by (with_reducible repeat (first | refine blk_drewN ?_ _ | refine blk_drew ?_ | refine blk_alloc ?_ _)); exact BK1084.out) hg (Kd.R_ne HO1119.out BK1084.out (by decide))); have n3_ := Aside0.mk (blk_grown (g := gb1085) (o := .cells #[.slice A1_0 l1_0.length c1_0, .slice A1_1 l1_1.length c1_1] 34 (0, 0)) (by (with_reducible repeat (first | refine blk_drewN ?_ _ | refine blk_drew ?_ | refine blk_alloc ?_ _)); exact BK1085.out) hg (Kd.R_ne HO1119.out BK1085.out (by decide))); have n4_ := Aside0.mk (hp_); have n5_ := Aside0.mk ((by rw [hw]; exact below_set (HB.out) GB48.out : Below w.heap.size w w73)); clear HO_5; clear HO_1085002; clear BK1084; clear BK1085; clear HO1119; clear HB; have HO_5 := n0_; have HO_1085002 := n1_; have BK1084 := n2_; have BK1085 := n3_; have HO1119 := n4_; have HB := n5_; clear n0_ n1_ n2_ n3_ n4_ n5_; clear hg hw hp_; have hcz74_0 : w73.cell? ⟨gb1085, 0, none⟩ = some (.slice A1_0 l1_0.length c1_0) := (blk_cell BK1085.out 0).trans rfl; have hcz74_1 : w73.cell? ⟨gb1085, 1, none⟩ = some (.slice A1_1 l1_1.length c1_1) := (blk_cell BK1085.out 1).trans rfl; have hfz74_0 := blk_frozen BK1085.out 0; have hfz74_1 := blk_frozen BK1085.out 1) | ((with_reducible refine gate_callee (f := 32) rfl ?_); refine goesL_ (some 49) rfl rfl Try.func32 (by kernel_rfl) rfl #[.slice A1_0 l1_0.length c1_0] rfl (by (try simp only [List.map_toArray, List.map_cons, List.map_nil]); first | done | rfl | (simp only [List.length_drop, List.length_take]; rfl)) ?_; (with_reducible refine (gradusref0_CopyNumbers.calls k2 _ _ l1_0 t1121 _ ?side1 ?side2 A49.out).mono ?_); (case side1 => repeat (first | exact (Kd.C_below HR1_0.out HB.out) | (with_reducible refine Kd.C_alloc ?_ _) | (with_reducible refine Kd.C_drewN ?_ _) | (with_reducible refine Kd.C_drew ?_))); (case side2 => exact HC1_0.out); rintro e w75 ⟨v1122, rfl, ho0, hb⟩; refine ⟨_, rfl, ?_⟩; have n0_ := Aside0.mk (Kd.N_elder' (by (with_reducible repeat (first | apply Kd.N_alloc | apply Kd.N_drewN | apply Kd.N_drew)); exact HO_5.out) (Kd.R_base ho0) hb); have n1_ := Aside0.mk (Kd.V_elder' (by (with_reducible repeat (first | apply Kd.V_alloc | apply Kd.V_drewN | apply Kd.V_drew)); exact HO_1085002.out) (Kd.R_base ho0) hb); have n2_ := Aside0.mk (Kd.R_elder' (by (with_reducible repeat (first | apply Kd.R_alloc | apply Kd.R_drewN | apply Kd.R_drew)); exact HO1119.out) (Kd.R_base ho0) hb); have n3_ := Aside0.mk (Kd.R_lower (Kd.R_new' (Kd.R_newM (M := fun k_ => (w.heap.size ≤ k_)) ho0 (below_size (by repeat (first | (with_reducible first | exact HB.out | apply below_alloc | apply pw_below_drewN | apply below_drew1 | refine below_set ?_ GE1084.out | refine below_set ?_ GE1085.out) | exact HB.out))) (fun k_ h_ => h_)) (Kd.R_lt (by (with_reducible repeat (first | apply Kd.R_alloc | apply Kd.R_drewN | apply Kd.R_drew)); exact HO1119.out))) (below_size (by repeat (first | (with_reducible first | exact HB.out | apply below_alloc | apply pw_below_drewN | apply below_drew1 | refine below_set ?_ GE1084.out | refine below_set ?_ GE1085.out) | exact HB.out)))); have n4_ := Aside0.mk (blk_below (g := gb1084) (o := .cells #[.slice A0_0 l0_0.length c0_0, .slice A0_1 l0_1.length c0_1, .slice A0_2 l0_2.length c0_2] 67 (0, 0)) (by (with_reducible repeat (first | refine blk_drewN ?_ _ | refine blk_drew ?_ | refine blk_alloc ?_ _)); exact BK1084.out) hb); have n5_ := Aside0.mk (blk_below (g := gb1085) (o := .cells #[.slice A1_0 l1_0.length c1_0, .slice A1_1 l1_1.length c1_1] 34 (0, 0)) (by (with_reducible repeat (first | refine blk_drewN ?_ _ | refine blk_drew ?_ | refine blk_alloc ?_ _)); exact BK1085.out) hb); have n6_ := Aside0.mk (below_step (by repeat (first | (with_reducible first | exact HB.out | apply below_alloc | apply pw_below_drewN | apply below_drew1 | refine below_set ?_ GE1084.out | refine below_set ?_ GE1085.out) | exact HB.out)) hb); clear HO_5; clear HO_1085002; clear HO1119; clear BK1084; clear BK1085; clear HB; have HO_5 := n0_; have HO_1085002 := n1_; have HO1119 := n2_; have HO1123 := n3_; have BK1084 := n4_; have BK1085 := n5_; have HB := n6_; clear n0_ n1_ n2_ n3_ n4_ n5_ n6_; (try clear hb); (try clear hb2); (try clear hk); (try clear hi); (try clear ho0); obtain ⟨Ao76, co76, eo76⟩ := Kd.R_slice HO1123.out; subst eo76; have p1124 : 0 ≤ (x6_2 : Int) := of_decide_eq_true (by first | (with_reducible assumption) | assumption); have q1124 : x6_2 < (t1121.length : Int) := of_decide_eq_true (by first | (with_reducible assumption) | assumption); obtain ⟨ad1124, e1124, hx1124_0⟩ := Kd.at_int (Kd.R_reads' HO1123.out).2.2 x6_2 p1124 q1124; cases e1124; replace p1124 := eq_true p1124; replace q1124 := eq_true q1124) | ((with_reducible refine gate_dst (N := 61) rfl ?_); refine Kd.N_lit (Kd.slice 3 (Kd.int .i64)) _ 23 ?hg (N' := 61) ?hd (xs := ([y1120, t1121] : List (List Int))) (inner := [.slice (some ⟨go48, 0, none⟩) t1117.length co48, .slice (some ad1124) t1121.length co76]) (ok := (fun k_ => (P0_2_ k_ ∨ w.heap.size ≤ k_) ∧ some k_ ≠ (u5 : Value).ownBlock ∧ k_ ≠ gb1084 ∧ k_ ≠ gb1085)) (okp := (fun k_ => (P0_2_ k_ ∨ w.heap.size ≤ k_) ∧ some k_ ≠ (u5 : Value).ownBlock ∧ k_ ≠ gb1084 ∧ k_ ≠ gb1085)) ?hr ?hp (fun _ hk => hk) ((show ∀ k_, w75.heap.size ≤ k_ → (fun k_ => (P0_2_ k_ ∨ w.heap.size ≤ k_) ∧ some k_ ≠ (u5 : Value).ownBlock ∧ k_ ≠ gb1084 ∧ k_ ≠ gb1085) k_ from fun k_ hk => ⟨(.inr (Nat.le_trans (below_size (by repeat (first | (with_reducible first | exact HB.out | apply below_alloc | apply pw_below_drewN | apply below_drew1 | refine below_set ?_ GE1084.out | refine below_set ?_ GE1085.out) | exact HB.out))) hk)), Kd.fresh' (Kd.N_lt (by (with_reducible repeat (first | apply Kd.N_alloc | apply Kd.N_drewN | apply Kd.N_drew)); exact HO_5.out)) k_ hk, Kd.freshB (g := gb1084) (o := .cells #[.slice A0_0 l0_0.length c0_0, .slice A0_1 l0_1.length c0_1, .slice A0_2 l0_2.length c0_2] 67 (0, 0)) (by (with_reducible repeat (first | refine blk_drewN ?_ _ | refine blk_drew ?_ | refine blk_alloc ?_ _)); exact BK1084.out) k_ hk, Kd.freshB (g := gb1085) (o := .cells #[.slice A1_0 l1_0.length c1_0, .slice A1_1 l1_1.length c1_1] 34 (0, 0)) (by (with_reducible repeat (first | refine blk_drewN ?_ _ | refine blk_drew ?_ | refine blk_alloc ?_ _)); exact BK1085.out) k_ hk⟩) _ (Nat.le_refl _)) (Below.refl _ _) (Nat.le_refl _) (by simp) ?_; (case hd => rfl); (case hg => rfl); (case hr => first | (go_simp; done) | (go_simp; rfl)); (case hp => exact (Reps.one (show Kd.FK (Kd.slice 3 (Kd.int .i64)) _ _ y1120 [.slice (some ⟨go48, 0, none⟩) t1117.length co48] from (Go.Proofs.XW.FK_of_R (Kd.R_mono (ok' := (fun k_ => (P0_2_ k_ ∨ w.heap.size ≤ k_) ∧ some k_ ≠ (u5 : Value).ownBlock ∧ k_ ≠ gb1084 ∧ k_ ≠ gb1085)) (Kd.R_types (Kd.R_types (Kd.R_apart' (HO1119.out) (Kd.N_typed HO_5.out) (by decide)) BK1084.out (by decide)) BK1085.out (by decide)) (fun k_ hk => ⟨(.inr (hk.1.1.1.1)), ⟨hk.1.1.2, ⟨hk.1.2, hk.2⟩⟩⟩)))) (Reps.one (show Kd.FK (Kd.slice 3 (Kd.int .i64)) _ _ t1121 [.slice (some ad1124) t1121.length co76] from (Go.Proofs.XW.FK_of_R (Kd.R_mono (ok' := (fun k_ => (P0_2_ k_ ∨ w.heap.size ≤ k_) ∧ some k_ ≠ (u5 : Value).ownBlock ∧ k_ ≠ gb1084 ∧ k_ ≠ gb1085)) (Kd.R_types (Kd.R_types (Kd.R_apart' (HO1123.out) (Kd.N_typed HO_5.out) (by decide)) BK1084.out (by decide)) BK1085.out (by decide)) (fun k_ hk => ⟨(.inr (hk.1.1.1.1.1)), ⟨hk.1.1.2, ⟨hk.1.2, hk.2⟩⟩⟩)))) (Reps.none _ _)))); intro v1133 w77 ho78 hb hg_ hnew_; clear hg_ hnew_; (first | rw [← Ny1132.out] at ho78 | (simp only [Int.reduceToNat] at ho78; rw [← Ny1132.out] at ho78)); have n0_ := Aside0.mk (Kd.N_elder' (by (with_reducible repeat (first | apply Kd.N_alloc | apply Kd.N_drewN | apply Kd.N_drew)); exact HO_5.out) (Kd.N_base ho78) hb); have n1_ := Aside0.mk (Kd.V_elder' (by (with_reducible repeat (first | apply Kd.V_alloc | apply Kd.V_drewN | apply Kd.V_drew)); exact HO_1085002.out) (Kd.N_base ho78) hb); have n2_ := Aside0.mk (Kd.N_lower ho78 (below_size (by repeat (first | (with_reducible first | exact HB.out | apply below_alloc | apply pw_below_drewN | apply below_drew1 | refine below_set ?_ GE1084.out | refine below_set ?_ GE1085.out) | exact HB.out)))); have n3_ := Aside0.mk (blk_below (g := gb1084) (o := .cells #[.slice A0_0 l0_0.length c0_0, .slice A0_1 l0_1.length c0_1, .slice A0_2 l0_2.length c0_2] 67 (0, 0)) (by (with_reducible repeat (first | refine blk_drewN ?_ _ | refine blk_drew ?_ | refine blk_alloc ?_ _)); exact BK1084.out) hb); have n4_ := Aside0.mk (blk_below (g := gb1085) (o := .cells #[.slice A1_0 l1_0.length c1_0, .slice A1_1 l1_1.length c1_1] 34 (0, 0)) (by (with_reducible repeat (first | refine blk_drewN ?_ _ | refine blk_drew ?_ | refine blk_alloc ?_ _)); exact BK1085.out) hb); have n5_ := Aside0.mk (below_step (by repeat (first | (with_reducible first | exact HB.out | apply below_alloc | apply pw_below_drewN | apply below_drew1 | refine below_set ?_ GE1084.out | refine below_set ?_ GE1085.out) | exact HB.out)) hb); clear HO_5; clear HO_1085002; clear BK1084; clear BK1085; clear HB; clear HO1119; clear HO1123; have HO_5 := n0_; have HO_1085002 := n1_; have HO1134 := n2_; have BK1084 := n3_; have BK1085 := n4_; have HB := n5_; clear n0_ n1_ n2_ n3_ n4_ n5_; clear hb ho78; obtain ⟨Ao80, co80, eo80⟩ := Kd.N_slice HO1134.out; subst eo80) | ((with_reducible refine gate_builtin (b := .append) (xs := #[.tmp 58, .tmp 61]) rfl ?_); at_builtin; refine Kd.N_append_rows (Kd.slice 3 (Kd.int .i64)) (w0 := w) w.heap.size rfl (.tmp 58) (.tmp 61) 22 23 (.slice none 0 0) 24 rfl Try.underlying22 info23 rfl (by decide) (by omega) u5 x5_2 y1132 _ _ _ (fun k_ => (P0_2_ k_ ∨ w.heap.size ≤ k_) ∧ k_ ≠ gb1084 ∧ k_ ≠ gb1085) (fun k_ => ((fun k_ => (P0_2_ k_ ∨ w.heap.size ≤ k_) ∧ k_ ≠ gb1084 ∧ k_ ≠ gb1085)) k_ ∧ some k_ ≠ (u5 : Value).ownBlock) rfl rfl ?aO ?aR (fun _ hk => hk) ?aF ?aB ?aS ?aL ?_; (case aR => exact (by skip; exact Kd.N_F (Kd.N_mono (ok' := (fun k_ => ((fun k_ => (P0_2_ k_ ∨ w.heap.size ≤ k_) ∧ k_ ≠ gb1084 ∧ k_ ≠ gb1085)) k_ ∧ some k_ ≠ (u5 : Value).ownBlock)) (HO1134.out) (fun k_ hk => ⟨⟨hk.1, ⟨hk.2.2.1, hk.2.2.2⟩⟩, hk.2.1⟩)))); (case aB => exact (by repeat (first | (with_reducible first | exact HB.out | apply below_alloc | apply pw_below_drewN | apply below_drew1 | refine below_set ?_ GE1084.out | refine below_set ?_ GE1085.out) | exact HB.out))); (case aF => exact (fun k_ hk => ⟨(.inr (Nat.le_trans (below_size (by repeat (first | (with_reducible first | exact HB.out | apply below_alloc | apply pw_below_drewN | apply below_drew1 | refine below_set ?_ GE1084.out | refine below_set ?_ GE1085.out) | exact HB.out))) hk)), Kd.freshB (g := gb1084) (o := .cells #[.slice A0_0 l0_0.length c0_0, .slice A0_1 l0_1.length c0_1, .slice A0_2 l0_2.length c0_2] 67 (0, 0)) (by (with_reducible repeat (first | refine blk_drewN ?_ _ | refine blk_drew ?_ | refine blk_alloc ?_ _)); exact BK1084.out) k_ hk, Kd.freshB (g := gb1085) (o := .cells #[.slice A1_0 l1_0.length c1_0, .slice A1_1 l1_1.length c1_1] 34 (0, 0)) (by (with_reducible repeat (first | refine blk_drewN ?_ _ | refine blk_drew ?_ | refine blk_alloc ?_ _)); exact BK1085.out) k_ hk⟩)); (case aO => exact (by (with_reducible repeat (first | apply Kd.N_alloc | apply Kd.N_drewN | apply Kd.N_drew)); exact Kd.N_mono HO_5.out (fun _ hk => ⟨hk.1.1.1.1, ⟨hk.1.1.1.2.1, hk.1.1.1.2.2⟩⟩))); (case aS => exact (below_size (by repeat (first | (with_reducible first | exact HB.out | apply below_alloc | apply pw_below_drewN | apply below_drew1 | refine below_set ?_ GE1084.out | refine below_set ?_ GE1085.out) | exact HB.out)))); (case aL => have := LMc68.out; omega); intro v1136 w79 ho hb hg hat; rw [← Ny1135.out] at ho; have n0_ := Aside0.mk (Kd.V_afterv (ok := (fun k_ => (P0_2_ k_ ∨ w.heap.size ≤ k_) ∧ some k_ ≠ (.slice Ao80 y1132.length co80 : Value).ownBlock ∧ k_ ≠ gb1084 ∧ k_ ≠ gb1085)) (by (with_reducible repeat (first | apply Kd.V_alloc | apply Kd.V_drewN | apply Kd.V_drew)); exact Kd.V_mono HO_1085002.out (fun _ hk => ⟨⟨hk.1.1.1.1, ⟨hk.2, ⟨hk.1.1.1.2.2.1, hk.1.1.1.2.2.2⟩⟩⟩, hk.1.1.1.2.1⟩)) hg hat); have n1_ := Aside0.mk (blk_grown (g := gb1084) (o := .cells #[.slice A0_0 l0_0.length c0_0, .slice A0_1 l0_1.length c0_1, .slice A0_2 l0_2.length c0_2] 67 (0, 0)) (by (with_reducible repeat (first | refine blk_drewN ?_ _ | refine blk_drew ?_ | refine blk_alloc ?_ _)); exact BK1084.out) hg (Kd.N_ne HO_5.out BK1084.out (by decide))); have n2_ := Aside0.mk (blk_grown (g := gb1085) (o := .cells #[.slice A1_0 l1_0.length c1_0, .slice A1_1 l1_1.length c1_1] 34 (0, 0)) (by (with_reducible repeat (first | refine blk_drewN ?_ _ | refine blk_drew ?_ | refine blk_alloc ?_ _)); exact BK1085.out) hg (Kd.N_ne HO_5.out BK1085.out (by decide))); have n3_ := Aside0.mk (Kd.N_afterv (ok := (fun k_ => (P0_2_ k_ ∨ w.heap.size ≤ k_) ∧ k_ ≠ gb1084 ∧ k_ ≠ gb1085)) (by (with_reducible repeat (first | apply Kd.N_alloc | apply Kd.N_drewN | apply Kd.N_drew)); exact Kd.N_mono HO1134.out (fun _ hk => ⟨⟨hk.1, ⟨hk.2.2.1, hk.2.2.2⟩⟩, hk.2.1⟩)) hg hat); have n4_ := Aside0.mk (hb); have n5_ := Aside0.mk (ho); clear HO_1085002; clear BK1084; clear BK1085; clear HO1134; clear HB; clear HO_5; have HO_1085002 := n0_; have BK1084 := n1_; have BK1085 := n2_; have HO1134 := n3_; have HB := n4_; have HO1137 := n5_; clear n0_ n1_ n2_ n3_ n4_ n5_; clear ho hb hg hat))
              go_roundg k2
              case measure => have := HJ3.out; have := HK2.out; omega
              case rel => exact ⟨(y1135), (wrap64 (x6_2 + 1)), (by first | rfl | (simp; done) | (simp [*]; done)), H', ⟨by have := HJ3.out; have := HK2.out; omega⟩, ⟨by (with_reducible repeat (first | apply Kd.N_alloc | apply Kd.N_drewN | apply Kd.N_drew)); exact HO1137.out⟩, ⟨by (with_reducible repeat (first | apply Kd.V_alloc | apply Kd.V_drewN | apply Kd.V_drew)); exact Kd.V_mono HO_1085002.out (fun _ hk => ⟨hk.1.1, ⟨hk.2, ⟨hk.1.2.2.1, hk.1.2.2.2⟩⟩⟩)⟩, ⟨by (with_reducible repeat (first | refine blk_drewN ?_ _ | refine blk_drew ?_ | refine blk_alloc ?_ _)); exact BK1084.out⟩, ⟨by (with_reducible repeat (first | refine blk_drewN ?_ _ | refine blk_drew ?_ | refine blk_alloc ?_ _)); exact BK1085.out⟩, ⟨by repeat (first | (with_reducible first | exact HB.out | apply below_alloc | apply pw_below_drewN | apply below_drew1 | refine below_set ?_ GE1084.out | refine below_set ?_ GE1085.out) | exact HB.out)⟩⟩
             ·rw [if_neg c68] at H
              exact absurd H (by simp)
           ·rw [if_neg c50] at H
            exact absurd H (by simp)
          ·rw [if_neg c47] at H
           exact absurd H (by simp)
         ·rw [if_neg c46] at H
          exact absurd H (by simp)
        ·rw [if_neg c44] at H
         have c44b0 : decide (x6_2 < (l1_0.length : Int)) = false := decide_eq_false c44
         clear c44
         obtain rfl := Option.some.inj H
         have hnb81 := NB1085_1084.out
         have hnc81 := NB1084_1085.out
         have hcz82_0 : wr.cell? ⟨gb1085, 0, none⟩ = some (.slice A1_0 l1_0.length c1_0) := (blk_cell BK1085.out 0).trans rfl
         have hcz82_1 : wr.cell? ⟨gb1085, 1, none⟩ = some (.slice A1_1 l1_1.length c1_1) := (blk_cell BK1085.out 1).trans rfl
         have hfz82_0 := blk_frozen BK1085.out 0
         have hfz82_1 := blk_frozen BK1085.out 1
         go_wp2
         go_ret
         exact ⟨_, by first | rfl | (simp [errW_none, errW_some] <;> rfl) | (simp [*, errW_none, errW_some] <;> rfl), by (with_reducible repeat (first | apply Kd.N_alloc | apply Kd.N_drewN | apply Kd.N_drew)); exact Kd.N_mono HO_5.out (fun _ hk => hk.1), by repeat (first | (with_reducible first | exact HB.out | apply below_alloc | apply pw_below_drewN | apply below_drew1 | refine below_set ?_ GE1084.out | refine below_set ?_ GE1085.out) | exact HB.out)⟩
     ·rw [if_neg c28] at H
      exact absurd H (by simp)
    ·replace c26 := Bool.eq_false_iff.mpr c26
     subst c26
     have H1 : (some x5_3) = some r := by rw [if_neg (show ¬ (false = true) by decide)] at H; exact H
     clear H
     have H := H1
     clear H1
     obtain rfl := Option.some.inj H
     have hnb83 := NB1085_1084.out
     have hnc83 := NB1084_1085.out
     have hcz84_0 : wc.cell? ⟨gb1085, 0, none⟩ = some (.slice A1_0 l1_0.length c1_0) := (blk_cell BK1085.out 0).trans rfl
     have hcz84_1 : wc.cell? ⟨gb1085, 1, none⟩ = some (.slice A1_1 l1_1.length c1_1) := (blk_cell BK1085.out 1).trans rfl
     have hfz84_0 := blk_frozen BK1085.out 0
     have hfz84_1 := blk_frozen BK1085.out 1
     go_wp2_with (first | ((with_reducible refine gate_callee (f := 36) rfl ?_); refine goesL_ (some 22) rfl rfl Try.func36 (by kernel_rfl) rfl #[.agg #[.slice A1_0 l1_0.length c1_0, .slice A1_1 l1_1.length c1_1]] rfl (by (try simp only [List.map_toArray, List.map_cons, List.map_nil]); first | done | rfl | (simp only [List.length_drop, List.length_take]; rfl)) ?_; (with_reducible refine (gradusref1_Tensor.calls kj3 _ _ l1_0 _ _ l1_1 false _ ?side1 ?side2 ?side3 ?side4 A25.out).mono ?_); (case side1 => repeat (first | exact (Kd.C_below HR1_0.out HB.out) | (with_reducible refine Kd.C_alloc ?_ _) | (with_reducible refine Kd.C_drewN ?_ _) | (with_reducible refine Kd.C_drew ?_))); (case side2 => exact HC1_0.out); (case side3 => repeat (first | exact (Kd.C_below HR1_1.out HB.out) | (with_reducible refine Kd.C_alloc ?_ _) | (with_reducible refine Kd.C_drewN ?_ _) | (with_reducible refine Kd.C_drew ?_))); (case side4 => exact HC1_1.out); rintro e w85 ⟨rfl, hb⟩; refine ⟨_, rfl, ?_⟩; have n0_ := Aside0.mk (Kd.N_below (by (with_reducible repeat (first | apply Kd.N_alloc | apply Kd.N_drewN | apply Kd.N_drew)); exact HO_5.out) hb); have n1_ := Aside0.mk (Kd.V_below (by (with_reducible repeat (first | apply Kd.V_alloc | apply Kd.V_drewN | apply Kd.V_drew)); exact HO_1085002.out) hb); have n2_ := Aside0.mk (blk_below (g := gb1084) (o := .cells #[.slice A0_0 l0_0.length c0_0, .slice A0_1 l0_1.length c0_1, .slice A0_2 l0_2.length c0_2] 67 (0, 0)) (by (with_reducible repeat (first | refine blk_drewN ?_ _ | refine blk_drew ?_ | refine blk_alloc ?_ _)); exact BK1084.out) hb); have n3_ := Aside0.mk (blk_below (g := gb1085) (o := .cells #[.slice A1_0 l1_0.length c1_0, .slice A1_1 l1_1.length c1_1] 34 (0, 0)) (by (with_reducible repeat (first | refine blk_drewN ?_ _ | refine blk_drew ?_ | refine blk_alloc ?_ _)); exact BK1085.out) hb); have n4_ := Aside0.mk (below_step (by repeat (first | (with_reducible first | exact HB.out | apply below_alloc | apply pw_below_drewN | apply below_drew1 | refine below_set ?_ GE1084.out | refine below_set ?_ GE1085.out) | exact HB.out)) hb); clear HO_5; clear HO_1085002; clear BK1084; clear BK1085; clear HB; have HO_5 := n0_; have HO_1085002 := n1_; have BK1084 := n2_; have BK1085 := n3_; have HB := n4_; clear n0_ n1_ n2_ n3_ n4_; (try clear hb); (try clear hb2); (try clear hk); (try clear hi)))
     go_ret
     exact ⟨_, by first | rfl | (simp [errW_none, errW_some] <;> rfl) | (simp [*, errW_none, errW_some] <;> rfl), by (with_reducible repeat (first | apply Kd.N_alloc | apply Kd.N_drewN | apply Kd.N_drew)); exact Kd.N_mono HO_5.out (fun _ hk => hk.1), by repeat (first | (with_reducible first | exact HB.out | apply below_alloc | apply pw_below_drewN | apply below_drew1 | refine below_set ?_ GE1084.out | refine below_set ?_ GE1085.out) | exact HB.out)⟩
 ·rw [if_neg c3] at H
  exact absurd H (by simp)

end Go.Proofs.Ytpjcidlkdfebhaa.PT
