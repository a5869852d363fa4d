-- Made by a program of this session (wip/xprint.py): the kit's print with changes of ours; not print.sh's own text.
import Derived.Test.YtpjcidlkdfebhaaPTx0
import Derived.Test.YtpjcidlkdfebhaaPTx11
namespace Go.Proofs.Ytpjcidlkdfebhaa.PT
open Go.RowKit Go.Proofs.YtpjcidlkdfebhaaW.PrintWords Go.Proofs.YtpjcidlkdfebhaaW.PrintLast Go.Proofs.YtpjcidlkdfebhaaW.PrintMore
attribute [local go_sem] max2_int min2_int max_two min_two max_three min_three max_four min_four   -- for this text's walks alone
set_option linter.unusedVariables false
set_option linter.unusedSimpArgs false

attribute [local go_sem] Go.Proofs.XW.sg8 Go.Proofs.XW.sg16 Go.Proofs.XW.sg32 Go.Proofs.XW.sg64
/-! ### gradusref1_Scale: function 60 -/
def gradusref1_Scale.l0 : Nat → Int → Int → List Int → List Int → Option (List Int × List Int)
 | 0, _, _, _, _ => none
 | k + 1, x1, x6, x1030000, x1030001 => if x6 < (x1030001.length : Int) then (if 0 ≤ x6 then (gradusref1_Scale.l0 k x1 (wrap64 (x6 + 1)) x1030000 (x1030001.set (x6 : Int).toNat (wrap64 ((rd x1030001 x6) * x1)))) else (none)) else (some (x1030000, x1030001))
def gradusref1_Scale.f (k : Nat) (l0_0 : List Int) (l0_1 : List Int) (a1 : Int) : Option (List Int × List Int) := (gradusref0_CopyTensor.f k l0_0 l0_1).bind fun bt1023 => (gradusref1_Scale.l0 k a1 0 bt1023.1 bt1023.2)
theorem gradusref1_Scale.mono_l : ∀ k, (∀ y0 y1 y2 y3, LeO (gradusref1_Scale.l0 k y0 y1 y2 y3) (gradusref1_Scale.l0 (k + 1) y0 y1 y2 y3))
 | 0 => fun _ _ _ _ r h => by simp [gradusref1_Scale.l0] at h
 | k + 1 => by
  have ih0 := gradusref1_Scale.mono_l k
  ·intro y0 y1 y2 y3
   unfold gradusref1_Scale.l0
   repeat' first
   | (with_reducible exact ih0 _ _ _ _)
   | (with_reducible exact gradusref0_CopyTensor.mono _ _ _)
   | (with_reducible exact LeO.refl _)
   | (with_reducible exact LeO.none _)
   | (with_reducible refine LeO.ite ?_ ?_)
   | (with_reducible refine LeO.bind ?_ (fun _ => ?_))
   | exact ih0 _ _ _ _
   | exact gradusref0_CopyTensor.mono _ _ _
   | exact LeO.none _
   | refine LeO.ite ?_ ?_
   | refine LeO.bind ?_ (fun _ => ?_)
theorem gradusref1_Scale.mono : ∀ a0 a1 a2 k, LeO (gradusref1_Scale.f k a0 a1 a2) (gradusref1_Scale.f (k + 1) a0 a1 a2) := by
 intro a0 a1 a2 k
 have ih0 := gradusref1_Scale.mono_l k
 unfold gradusref1_Scale.f
 repeat' first
   | (with_reducible exact ih0 _ _ _ _)
   | (with_reducible exact gradusref0_CopyTensor.mono _ _ _)
   | (with_reducible exact LeO.refl _)
   | (with_reducible exact LeO.none _)
   | (with_reducible refine LeO.ite ?_ ?_)
   | (with_reducible refine LeO.bind ?_ (fun _ => ?_))
   | exact ih0 _ _ _ _
   | exact gradusref0_CopyTensor.mono _ _ _
   | exact LeO.none _
   | refine LeO.ite ?_ ?_
   | refine LeO.bind ?_ (fun _ => ?_)
def gradusref1_Scale.T5 : Bool × List (List Nat × List Nat) := (true, [([], []), ([0], [0]), ([], []), ([], []), ([3], [3]), ([], []), ([4, 5], [4, 5]), ([6], [6]), ([], []), ([7, 8], [7, 8]), ([1, 2, 0, 1, 2, 3, 4, 5, 6, 7, 8, 9], [1, 2]), ([10, 9, 0, 1, 2, 3, 4, 5, 6, 7, 8, 9], [9, 10])])
def gradusref1_Scale.B5 : List Nat := [0, 1, 0, 0, 8, 0, 56, 120, 0, 504, 1023, 2047]
theorem gradusref1_Scale.tab5 : rtab .any (opsOf Try.f60 5) = gradusref1_Scale.T5 := by kernel_rfl
theorem gradusref1_Scale.bits5 : waitsOk gradusref1_Scale.T5.2 gradusref1_Scale.B5 = true := by kernel_rfl
set_option maxHeartbeats 8000000 in
set_option maxRecDepth 100000 in
theorem gradusref1_Scale.calls (k : Nat) (A0_0 : Option Addr) (c0_0 : Nat) (l0_0 : List Int) (A0_1 : Option Addr) (c0_1 : Nat) (l0_1 : List Int) (a1 : Int) (r1 : List Int) (r2 : List Int) (w : World) (hr0_0 : Kd.C (Kd.int .i64) w A0_0 l0_0.length l0_0) (hc0_0 : l0_0.length ≤ c0_0) (hr0_1 : Kd.C (Kd.int .i64) w A0_1 l0_1.length l0_1) (hc0_1 : l0_1.length ≤ c0_1) (h : gradusref1_Scale.f k l0_0 l0_1 a1 = some (r1, r2)) :
  Calls Try.prog 60 #[.agg #[.slice A0_0 l0_0.length c0_0, .slice A0_1 l0_1.length c0_1], .int .i64 a1] w fun e w' => ∃ v0_ v1_ : Value, e = .returned (.agg #[v0_, v1_]) ∧ Kd.R (Kd.int .i64) 3 w' w.heap.size (fun k_ => some k_ ≠ (v1_ : Value).ownBlock) v0_ r1 ∧ Kd.R (Kd.int .i64) 3 w' w.heap.size (fun k_ => some k_ ≠ (v0_ : Value).ownBlock) v1_ r2 ∧ Below w.heap.size w w' := by
 have hu34 := Try.underlying34
 have HR0_0 := Aside0.mk hr0_0
 have HC0_0 := Aside0.mk hc0_0
 clear hr0_0 hc0_0
 have HR0_1 := Aside0.mk hr0_1
 have HC0_1 := Aside0.mk hc0_1
 clear hr0_1 hc0_1
 have HB := Aside0.mk (Below.refl w.heap.size w)
 have H : ((gradusref0_CopyTensor.f k l0_0 l0_1).bind fun bt1023 => (gradusref1_Scale.l0 k a1 0 bt1023.1 bt1023.2)) = some (r1, r2) := h
 clear h
 replace H := Option.bind_eq_some_iff.mp H
 obtain ⟨⟨t1023, t1026⟩, A30, H⟩ := H
 replace H : (gradusref1_Scale.l0 k a1 0 t1023 t1026) = some (r1, r2) := H
 have A3 := Aside0.mk A30
 clear A30
 have H' := Aside0.mk H
 clear H
 go_enter Try.func60, Try.ntmps60
 go_wp2_with (first | ((with_reducible refine gate_dst (N := 2) rfl ?_); refine box_event ?hg (N := 2) ?hd (cs := #[.slice A0_0 l0_0.length c0_0, .slice A0_1 l0_1.length c0_1]) (t := 34) ?hr ?_; (case hd => rfl); (case hg => rfl); (case hr => first | (go_simp; done) | (go_simp; rfl)); intro gb1021 hg w4 hbox hb; have n0_ := Aside0.mk (below_step (by repeat (first | (with_reducible first | exact HB.out | apply below_alloc | apply pw_below_drewN | apply below_drew1) | exact HB.out)) hb); have n1_ := Aside0.mk (hbox); have n2_ := Aside0.mk ((by rw [hg]; exact (below_size (by repeat (first | (with_reducible first | exact HB.out | apply below_alloc | apply pw_below_drewN | apply below_drew1) | exact HB.out))) : w.heap.size ≤ gb1021)); have n3_ := Aside0.mk ((by rw [hg]; exact (below_size (by repeat (first | (with_reducible first | exact HB.out | apply below_alloc | apply pw_below_drewN | apply below_drew1) | exact HB.out))) : w.heap.size ≤ gb1021)); clear HB; have HB := n0_; have BK1021 := n1_; have GW1021 := n2_; have GE1021 := n3_; clear n0_ n1_ n2_ n3_; clear hb hbox hg) | ((with_reducible refine gate_dst (N := 4) rfl ?_); refine box_event ?hg (N := 4) ?hd (cs := #[.slice none 0 0, .slice none 0 0]) (t := 34) ?hr ?_; (case hd => rfl); (case hg => rfl); (case hr => first | (go_simp; done) | (go_simp; rfl)); intro gb1022 hg w5 hbox hb; have n0_ := Aside0.mk (blk_below (g := gb1021) (o := .cells #[.slice A0_0 l0_0.length c0_0, .slice A0_1 l0_1.length c0_1] 34 (0, 0)) (by (with_reducible repeat (first | refine blk_drewN ?_ _ | refine blk_drew ?_ | refine blk_alloc ?_ _)); exact BK1021.out) hb); have n1_ := Aside0.mk (below_step (by repeat (first | (with_reducible first | exact HB.out | apply below_alloc | apply pw_below_drewN | apply below_drew1 | refine below_set ?_ GE1021.out) | exact HB.out)) hb); have n2_ := Aside0.mk (hbox); have n3_ := Aside0.mk ((by rw [hg]; exact (below_size (by repeat (first | (with_reducible first | exact HB.out | apply below_alloc | apply pw_below_drewN | apply below_drew1 | refine below_set ?_ GE1021.out) | exact HB.out))) : w.heap.size ≤ gb1022)); have n4_ := Aside0.mk ((by rw [hg]; exact (below_size (by repeat (first | (with_reducible first | exact HB.out | apply below_alloc | apply pw_below_drewN | apply below_drew1 | refine below_set ?_ GE1021.out) | exact HB.out))) : w.heap.size ≤ gb1022)); have n5_ := Aside0.mk ((by rw [hg]; exact Nat.ne_of_lt (blk_lt (g := gb1021) (o := .cells #[.slice A0_0 l0_0.length c0_0, .slice A0_1 l0_1.length c0_1] 34 (0, 0)) (by (with_reducible repeat (first | refine blk_drewN ?_ _ | refine blk_drew ?_ | refine blk_alloc ?_ _)); exact BK1021.out)) : gb1021 ≠ gb1022)); have n6_ := Aside0.mk ((by rw [hg]; exact Nat.ne_of_gt (blk_lt (g := gb1021) (o := .cells #[.slice A0_0 l0_0.length c0_0, .slice A0_1 l0_1.length c0_1] 34 (0, 0)) (by (with_reducible repeat (first | refine blk_drewN ?_ _ | refine blk_drew ?_ | refine blk_alloc ?_ _)); exact BK1021.out)) : gb1022 ≠ gb1021)); clear BK1021; clear HB; have BK1021 := n0_; have HB := n1_; have BK1022 := n2_; have GW1022 := n3_; have GE1022 := n4_; have NB1021_1022 := n5_; have NB1022_1021 := n6_; clear n0_ n1_ n2_ n3_ n4_ n5_ n6_; clear hb hbox hg; have hnb6 := NB1021_1022.out; have hnc6 := NB1022_1021.out; have hcz7_0 : w5.cell? ⟨gb1021, 0, none⟩ = some (.slice A0_0 l0_0.length c0_0) := (blk_cell BK1021.out 0).trans rfl; have hcz7_1 : w5.cell? ⟨gb1021, 1, none⟩ = some (.slice A0_1 l0_1.length c0_1) := (blk_cell BK1021.out 1).trans rfl; have hfz7_0 := blk_frozen BK1021.out 0; have hfz7_1 := blk_frozen BK1021.out 1) | ((with_reducible refine gate_callee (f := 34) rfl ?_); refine goesL_ (some 8) rfl rfl Try.func34 (by kernel_rfl) rfl #[.agg #[.slice A0_0 l0_0.length c0_0, .slice A0_1 l0_1.length c0_1]] rfl (by (try simp only [List.map_toArray, List.map_cons, List.map_nil]); first | done | rfl | (simp only [List.length_drop, List.length_take]; rfl)) ?_; (with_reducible refine (gradusref0_CopyTensor.calls k _ _ l0_0 _ _ l0_1 t1023 t1026 _ ?side1 ?side2 ?side3 ?side4 A3.out).mono ?_); (case side1 => repeat (first | exact (Kd.C_below HR0_0.out HB.out) | (with_reducible refine Kd.C_alloc ?_ _) | (with_reducible refine Kd.C_drewN ?_ _) | (with_reducible refine Kd.C_drew ?_))); (case side2 => exact HC0_0.out); (case side3 => repeat (first | exact (Kd.C_below HR0_1.out HB.out) | (with_reducible refine Kd.C_alloc ?_ _) | (with_reducible refine Kd.C_drewN ?_ _) | (with_reducible refine Kd.C_drew ?_))); (case side4 => exact HC0_1.out); rintro e w8 ⟨v1024, v1027, rfl, ho0, ho1, hb⟩; refine ⟨_, rfl, ?_⟩; have n0_ := Aside0.mk (Kd.R_lower ho0 (below_size (by repeat (first | (with_reducible first | exact HB.out | apply below_alloc | apply pw_below_drewN | apply below_drew1 | refine below_set ?_ GE1021.out | refine below_set ?_ GE1022.out) | exact HB.out)))); have n1_ := Aside0.mk (Kd.R_lower ho1 (below_size (by repeat (first | (with_reducible first | exact HB.out | apply below_alloc | apply pw_below_drewN | apply below_drew1 | refine below_set ?_ GE1021.out | refine below_set ?_ GE1022.out) | exact HB.out)))); have n2_ := Aside0.mk (blk_below (g := gb1021) (o := .cells #[.slice A0_0 l0_0.length c0_0, .slice A0_1 l0_1.length c0_1] 34 (0, 0)) (by (with_reducible repeat (first | refine blk_drewN ?_ _ | refine blk_drew ?_ | refine blk_alloc ?_ _)); exact BK1021.out) hb); have n3_ := Aside0.mk (blk_below (g := gb1022) (o := .cells #[.slice none 0 0, .slice none 0 0] 34 (0, 0)) (by (with_reducible repeat (first | refine blk_drewN ?_ _ | refine blk_drew ?_ | refine blk_alloc ?_ _)); exact BK1022.out) hb); have n4_ := Aside0.mk (below_step (by repeat (first | (with_reducible first | exact HB.out | apply below_alloc | apply pw_below_drewN | apply below_drew1 | refine below_set ?_ GE1021.out | refine below_set ?_ GE1022.out) | exact HB.out)) hb); clear BK1021; clear BK1022; clear HB; have HO1025 := n0_; have HO1028 := n1_; have BK1021 := n2_; have BK1022 := n3_; have HB := n4_; clear n0_ n1_ n2_ n3_ n4_; (try clear hb); (try clear hb2); (try clear hk); (try clear hi); (try clear ho0); (try clear ho1)) | ((with_reducible refine gate_dst (N := 5) rfl ?_); refine box_event ?hg (N := 5) ?hd (cs := #[.slice none 0 0, .slice none 0 0]) (t := 34) ?hr ?_; (case hd => rfl); (case hg => rfl); (case hr => first | (go_simp; done) | (go_simp; rfl)); intro gb1029 hg w9 hbox hb; have n0_ := Aside0.mk (Kd.R_below (by (with_reducible repeat (first | apply Kd.R_alloc | apply Kd.R_drewN | apply Kd.R_drew)); exact HO1025.out) hb); have n1_ := Aside0.mk (Kd.R_below (by (with_reducible repeat (first | apply Kd.R_alloc | apply Kd.R_drewN | apply Kd.R_drew)); exact HO1028.out) hb); have n2_ := Aside0.mk (blk_below (g := gb1021) (o := .cells #[.slice A0_0 l0_0.length c0_0, .slice A0_1 l0_1.length c0_1] 34 (0, 0)) (by (with_reducible repeat (first | refine blk_drewN ?_ _ | refine blk_drew ?_ | refine blk_alloc ?_ _)); exact BK1021.out) hb); have n3_ := Aside0.mk (blk_below (g := gb1022) (o := .cells #[.slice none 0 0, .slice none 0 0] 34 (0, 0)) (by (with_reducible repeat (first | refine blk_drewN ?_ _ | refine blk_drew ?_ | refine blk_alloc ?_ _)); exact BK1022.out) hb); have n4_ := Aside0.mk (below_step (by repeat (first | (with_reducible first | exact HB.out | apply below_alloc | apply pw_below_drewN | apply below_drew1 | refine below_set ?_ GE1021.out | refine below_set ?_ GE1022.out) | exact HB.out)) hb); have n5_ := Aside0.mk (hbox); have n6_ := Aside0.mk ((by rw [hg]; exact (below_size (by repeat (first | (with_reducible first | exact HB.out | apply below_alloc | apply pw_below_drewN | apply below_drew1 | refine below_set ?_ GE1021.out | refine below_set ?_ GE1022.out) | exact HB.out))) : w.heap.size ≤ gb1029)); have n7_ := Aside0.mk ((by rw [hg]; exact (below_size (by repeat (first | (with_reducible first | exact HB.out | apply below_alloc | apply pw_below_drewN | apply below_drew1 | refine below_set ?_ GE1021.out | refine below_set ?_ GE1022.out) | exact HB.out))) : w.heap.size ≤ gb1029)); have n8_ := Aside0.mk ((by rw [hg]; exact Nat.ne_of_lt (blk_lt (g := gb1021) (o := .cells #[.slice A0_0 l0_0.length c0_0, .slice A0_1 l0_1.length c0_1] 34 (0, 0)) (by (with_reducible repeat (first | refine blk_drewN ?_ _ | refine blk_drew ?_ | refine blk_alloc ?_ _)); exact BK1021.out)) : gb1021 ≠ gb1029)); have n9_ := Aside0.mk ((by rw [hg]; exact Nat.ne_of_gt (blk_lt (g := gb1021) (o := .cells #[.slice A0_0 l0_0.length c0_0, .slice A0_1 l0_1.length c0_1] 34 (0, 0)) (by (with_reducible repeat (first | refine blk_drewN ?_ _ | refine blk_drew ?_ | refine blk_alloc ?_ _)); exact BK1021.out)) : gb1029 ≠ gb1021)); have n10_ := Aside0.mk ((by rw [hg]; exact Nat.ne_of_lt (blk_lt (g := gb1022) (o := .cells #[.slice none 0 0, .slice none 0 0] 34 (0, 0)) (by (with_reducible repeat (first | refine blk_drewN ?_ _ | refine blk_drew ?_ | refine blk_alloc ?_ _)); exact BK1022.out)) : gb1022 ≠ gb1029)); have n11_ := Aside0.mk ((by rw [hg]; exact Nat.ne_of_gt (blk_lt (g := gb1022) (o := .cells #[.slice none 0 0, .slice none 0 0] 34 (0, 0)) (by (with_reducible repeat (first | refine blk_drewN ?_ _ | refine blk_drew ?_ | refine blk_alloc ?_ _)); exact BK1022.out)) : gb1029 ≠ gb1022)); clear HO1025; clear HO1028; clear BK1021; clear BK1022; clear HB; have HO1025 := n0_; have HO1028 := n1_; have BK1021 := n2_; have BK1022 := n3_; have HB := n4_; have BK1029 := n5_; have GW1029 := n6_; have GE1029 := n7_; have NB1021_1029 := n8_; have NB1029_1021 := n9_; have NB1022_1029 := n10_; have NB1029_1022 := n11_; clear n0_ n1_ n2_ n3_ n4_ n5_ n6_ n7_ n8_ n9_ n10_ n11_; clear hb hbox hg; obtain ⟨Ao10, co10, eo10⟩ := Kd.R_slice HO1025.out; subst eo10; have hnb11 := NB1029_1021.out; have hnc11 := NB1021_1029.out; have hnb12 := NB1029_1022.out; have hnc12 := NB1022_1029.out; have hcz13_0 : w9.cell? ⟨gb1029, 0, none⟩ = some (.slice none 0 0) := (blk_cell BK1029.out 0).trans rfl; have hcz13_1 : w9.cell? ⟨gb1029, 1, none⟩ = some (.slice none 0 0) := (blk_cell BK1029.out 1).trans rfl; have hfz13_0 := blk_frozen BK1029.out 0; have hfz13_1 := blk_frozen BK1029.out 1; obtain ⟨Ao14, co14, eo14⟩ := Kd.R_slice HO1028.out; subst eo14))
 go_loopg [6] k (fun kq v6 w' => ∃ (x6_1 : Int) (x1030000_1 : List Int) (x1030001_1 : List Int) (u1030000 : Value) (u1030001 : Value), v6 = .int .i64 x6_1 ∧ Aside0 (gradusref1_Scale.l0 kq a1 x6_1 x1030000_1 x1030001_1 = some (r1, r2)) ∧ Aside0 (kq ≤ k) ∧ Aside0 (Kd.R (Kd.int .i64) 3 w' w.heap.size (fun k_ => some k_ ≠ (u1030001 : Value).ownBlock) u1030000 x1030000_1) ∧ Aside0 (Kd.R (Kd.int .i64) 3 w' w.heap.size (fun k_ => some k_ ≠ (u1030000 : Value).ownBlock) u1030001 x1030001_1) ∧ Aside0 (w'.heap[gb1021]? = some (.cells #[(.slice A0_0 l0_0.length c0_0), (.slice A0_1 l0_1.length c0_1)] 34 (0, 0))) ∧ Aside0 (w'.heap[gb1022]? = some (.cells #[(.slice none 0 0), (.slice none 0 0)] 34 (0, 0))) ∧ Aside0 (w'.heap[gb1029]? = some (.cells #[u1030000, u1030001] 34 (0, 0))) ∧ Aside0 (Below w.heap.size w w'))
 case atStart => exact ⟨(0), (t1023), (t1026), (.slice Ao10 t1023.length co10), (.slice Ao14 t1026.length co14), (by first | rfl | (simp; done) | (simp [*]; done)), H', ⟨Nat.le_refl _⟩, ⟨by (with_reducible repeat (first | apply Kd.R_alloc | apply Kd.R_drewN | apply Kd.R_drew)); exact Kd.R_mono (Kd.R_far (p := ⟨gb1029, 1, none⟩) (Kd.R_far (p := ⟨gb1029, 0, none⟩) (Kd.R_types HO1025.out BK1029.out (by decide)) (fun _ hk => hk.2) (.slice Ao10 t1023.length co10)) (fun _ hk => hk.2) (.slice Ao14 t1026.length co14)) (fun _ hk => hk.1)⟩, ⟨by (with_reducible repeat (first | apply Kd.R_alloc | apply Kd.R_drewN | apply Kd.R_drew)); exact Kd.R_mono (Kd.R_far (p := ⟨gb1029, 1, none⟩) (Kd.R_far (p := ⟨gb1029, 0, none⟩) (Kd.R_types HO1028.out BK1029.out (by decide)) (fun _ hk => hk.2) (.slice Ao10 t1023.length co10)) (fun _ hk => hk.2) (.slice Ao14 t1026.length co14)) (fun _ hk => hk.1)⟩, ⟨by (with_reducible repeat (first | refine blk_drewN ?_ _ | refine blk_drew ?_ | refine blk_alloc ?_ _)); refine blk_far ?_ NB1021_1029.out _; (with_reducible repeat (first | refine blk_drewN ?_ _ | refine blk_drew ?_ | refine blk_alloc ?_ _)); refine blk_far ?_ NB1021_1029.out _; (with_reducible repeat (first | refine blk_drewN ?_ _ | refine blk_drew ?_ | refine blk_alloc ?_ _)); exact BK1021.out⟩, ⟨by (with_reducible repeat (first | refine blk_drewN ?_ _ | refine blk_drew ?_ | refine blk_alloc ?_ _)); refine blk_far ?_ NB1022_1029.out _; (with_reducible repeat (first | refine blk_drewN ?_ _ | refine blk_drew ?_ | refine blk_alloc ?_ _)); refine blk_far ?_ NB1022_1029.out _; (with_reducible repeat (first | refine blk_drewN ?_ _ | refine blk_drew ?_ | refine blk_alloc ?_ _)); exact BK1022.out⟩, ⟨by (with_reducible repeat (first | refine blk_drewN ?_ _ | refine blk_drew ?_ | refine blk_alloc ?_ _)); refine blk_put (cs := #[.slice Ao10 t1023.length co10, .slice none 0 0]) ?_ 1 _ rfl; (with_reducible repeat (first | refine blk_drewN ?_ _ | refine blk_drew ?_ | refine blk_alloc ?_ _)); refine blk_put (cs := #[.slice none 0 0, .slice none 0 0]) ?_ 0 _ rfl; (with_reducible repeat (first | refine blk_drewN ?_ _ | refine blk_drew ?_ | refine blk_alloc ?_ _)); exact BK1029.out⟩, ⟨by repeat (first | (with_reducible first | exact HB.out | apply below_alloc | apply pw_below_drewN | apply below_drew1 | refine below_set ?_ GE1021.out | refine below_set ?_ GE1022.out | refine below_set ?_ GE1029.out) | exact HB.out)⟩⟩
 case round =>
  clear H'
  try clear c1
  try clear p2
  try clear c3
  try clear c6
  try clear c11
  try clear c12
  try clear hcz13_0
  try clear hcz13_1
  try clear hcz7_0
  try clear hcz7_1
  try clear hfz13_0
  try clear hfz13_1
  try clear hfz7_0
  try clear hfz7_1
  obtain ⟨x6_1, x1030000_1, x1030001_1, u1030000, u1030001, rfl, HA, HK1, HO_1030000, HO_1030001, BK1021, BK1022, BK1029, HB⟩ := hrel
  cases gk with
  | zero => exact absurd HA.out (by simp [gradusref1_Scale.l0])
  | succ k1 =>
   have H := HA.out
   clear HA
   simp only [gradusref1_Scale.l0] at H
   by_cases c15 : x6_1 < (x1030001_1.length : Int)
   ·rw [if_pos c15] at H
    have c15b0 : decide (x6_1 < (x1030001_1.length : Int)) = true := decide_eq_true c15
    clear c15
    by_cases c16 : 0 ≤ x6_1
    ·rw [if_pos c16] at H
     have c16b0 : decide (0 ≤ x6_1) = true := decide_eq_true c16
     clear c16
     obtain ⟨y1031, hy1031⟩ : ∃ y_ : List Int, y_ = (x1030001_1.set (x6_1 : Int).toNat (wrap64 ((rd x1030001_1 x6_1) * a1))) := ⟨_, rfl⟩
     replace H : (gradusref1_Scale.l0 k1 a1 (wrap64 (x6_1 + 1)) x1030000_1 y1031) = some (r1, r2) := by first | (rw [hy1031]; with_reducible exact H) | (have H2_ := (Option.bind_some _ _).symm.trans H; rw [hy1031]; with_reducible exact H2_) | (have H2_ := (Option.bind_some _ _).symm.trans H; with_reducible exact H2_) | with_reducible exact H | (rw [hy1031]; exact H) | exact H
     have Ny1031 := Aside0.mk hy1031
     clear hy1031
     have H' := Aside0.mk H
     clear H
     have hnb18 := NB1029_1021.out
     have hnc18 := NB1021_1029.out
     have hnb19 := NB1029_1022.out
     have hnc19 := NB1022_1029.out
     have hcz20_0 : wr.cell? ⟨gb1029, 0, none⟩ = some (u1030000) := (blk_cell BK1029.out 0).trans rfl
     have hcz20_1 : wr.cell? ⟨gb1029, 1, none⟩ = some (u1030001) := (blk_cell BK1029.out 1).trans rfl
     have hfz20_0 := blk_frozen BK1029.out 0
     have hfz20_1 := blk_frozen BK1029.out 1
     obtain ⟨Ao21, co21, eo21⟩ := Kd.R_slice HO_1030001.out
     subst eo21
     try go_wp2
     have n0_ := Aside0.mk (Kd.R_drew HO_1030000.out)
     have n1_ := Aside0.mk (Kd.R_drew HO_1030001.out)
     have n2_ := Aside0.mk (blk_drew BK1021.out)
     have n3_ := Aside0.mk (blk_drew BK1022.out)
     have n4_ := Aside0.mk (blk_drew BK1029.out)
     have n5_ := Aside0.mk (below_drew1 HB.out)
     clear HO_1030000
     clear HO_1030001
     clear BK1021
     clear BK1022
     clear BK1029
     clear HB
     have HO_1030000 := n0_
     have HO_1030001 := n1_
     have BK1021 := n2_
     have BK1022 := n3_
     have BK1029 := n4_
     have HB := n5_
     clear n0_ n1_ n2_ n3_ n4_ n5_
     have p1030 : 0 ≤ (x6_1 : Int) := of_decide_eq_true (by first | (with_reducible assumption) | assumption)
     have q1030 : x6_1 < (x1030001_1.length : Int) := of_decide_eq_true (by first | (with_reducible assumption) | assumption)
     obtain ⟨ad1030, e1030, hx1030_0⟩ := Kd.at_int (Kd.R_reads' HO_1030001.out).2.2 x6_1 p1030 q1030
     cases e1030
     replace p1030 := eq_true p1030
     replace q1030 := eq_true q1030
     have p17 : 0 ≤ (x6_1 : Int) := of_decide_eq_true (by first | (with_reducible assumption) | assumption)
     have q17 : (x6_1 : Int) < ((x1030001_1.length : Int) : Int) := of_decide_eq_true (by first | (with_reducible assumption) | assumption)
     obtain ⟨go17, co17, eo17, gb17, gl17, cl17, HG17⟩ := Kd.R_form HO_1030001.out (by omega)
     (first | cases eo17 | (injection eo17 with ea_ en_ ec_; (first | subst ea_ | (injection ea_ with ea_; subst ea_)); subst ec_; clear en_))
     have GB17 := Aside0.mk gb17
     have GG17 := Aside0.mk HG17
     clear gb17 gl17 HG17
     (first | simp only [add_plain] at hx1030_0 | skip)
     obtain ⟨hx17_0, hf17_0⟩ := Kd.R_celln 0 HO_1030001.out (x6_1 : Int) p17 q17
     replace p17 := eq_true p17
     replace q17 := eq_true q17
     have HP23 := Kd.R_putn HO_1030001.out (x6_1 : Int) (wrap64 ((rd x1030001_1 x6_1) * a1))
     rw [← Ny1031.out] at HP23
     have HQ23 := Aside0.mk HP23
     clear HP23
     refine start_ (n := 12) (S := fun w' => w'.cell? ⟨gb1029, 0, none⟩ = some (u1030000) ∧ w'.cell? ⟨gb1029, 1, none⟩ = some (.slice (some ⟨go17, 0, none⟩) x1030001_1.length co21) ∧ w'.cell? ⟨go17, (x6_1).toNat, none⟩ = some (.int .i64 (rd x1030001_1 x6_1))) (ds := [11]) #[false, false, false, false, false, false, false, false, false, false, false, false] (by kernel_rfl) rfl rfl ⟨(blk_cell BK1029.out 0).trans rfl, (blk_cell BK1029.out 1).trans rfl, hx1030_0⟩ (fun hHeld => ?_); refine with_tabW gradusref1_Scale.tab5 gradusref1_Scale.bits5 (fun HT_ HW_ => ?_)
     generalize wr.drew = w22 at HO_1030000 HO_1030001 BK1021 BK1022 BK1029 HB GG17 HQ23 hf17_0 hx1030_0 hx17_0 hHeld ⊢
     refine pure_ (i := 0) (N := some 16) (v := ?_) (a' := ?_) #[true, false, false, false, false, false, false, false, false, false, false, false] rfl rfl (any_of HT_.out (by kernel_rfl)) (fun _ _ _ h => h) (Or.inl ⟨by rfl, ?_⟩) ?_ ?_
     rotate_left
     ·intro w'
      go_simp
      with_reducible rfl
     rotate_left
     ·simp only [Act.put, List.setIfInBounds_toArray, List.set_cons_zero, List.set_cons_succ, i64_w, i32_w]
      rfl
     refine pure_ (i := 2) (N := some 18) (v := ?_) (a' := ?_) #[true, false, true, false, false, false, false, false, false, false, false, false] rfl rfl (any_of HT_.out (by kernel_rfl)) (fun _ _ _ h => h) (Or.inl ⟨by rfl, ?_⟩) ?_ ?_
     rotate_left
     ·intro w'
      go_simp
      with_reducible rfl
     rotate_left
     ·simp only [Act.put, List.setIfInBounds_toArray, List.set_cons_zero, List.set_cons_succ, i64_w, i32_w]
      rfl
     refine pure_ (i := 3) (N := some 19) (v := ?_) (a' := ?_) #[true, false, true, true, false, false, false, false, false, false, false, false] rfl rfl (any_of HT_.out (by kernel_rfl)) (fun _ _ _ h => h) (Or.inl ⟨by rfl, ?_⟩) ?_ ?_
     rotate_left
     ·intro w'
      go_simp
      with_reducible rfl
     rotate_left
     ·simp only [Act.put, List.setIfInBounds_toArray, List.set_cons_zero, List.set_cons_succ, i64_w, i32_w]
      rfl
     refine pure_ (i := 5) (N := some 21) (v := ?_) (a' := ?_) #[true, false, true, true, false, true, false, false, false, false, false, false] rfl rfl (any_of HT_.out (by kernel_rfl)) (fun _ _ _ h => h) (Or.inl ⟨by rfl, ?_⟩) ?_ ?_
     rotate_left
     ·intro w'
      go_simp
      with_reducible rfl
     rotate_left
     ·simp only [Act.put, List.setIfInBounds_toArray, List.set_cons_zero, List.set_cons_succ, i64_w, i32_w]
      rfl
     refine pure_ (i := 8) (N := some 24) (v := ?_) (a' := ?_) #[true, false, true, true, false, true, false, false, true, false, false, false] rfl rfl (any_of HT_.out (by kernel_rfl)) (fun _ _ _ h => h) (Or.inl ⟨by rfl, ?_⟩) ?_ ?_
     rotate_left
     ·intro w'
      go_simp
      with_reducible rfl
     rotate_left
     ·simp only [Act.put, List.setIfInBounds_toArray, List.set_cons_zero, List.set_cons_succ, i64_w, i32_w]
      rfl
     refine take_ (i := 1) (N := some 17) (v := ?_) (a' := ?_) #[true, true, true, true, false, true, false, false, true, false, false, false] rfl rfl (take_ofW HT_.out HW_.out (by kernel_rfl)) (fun _ _ _ h => h) (Or.inl ⟨by rfl, ?_⟩) hHeld ?_ ?_
     rotate_left
     ·rintro w' ⟨s0, s1, s2⟩
      go_simp
      with_reducible rfl
     rotate_left
     ·simp only [Act.put, List.setIfInBounds_toArray, List.set_cons_zero, List.set_cons_succ, i64_w, i32_w]
      rfl
     refine take_ (i := 4) (N := some 20) (v := ?_) (a' := ?_) #[true, true, true, true, true, true, false, false, true, false, false, false] rfl rfl (take_ofW HT_.out HW_.out (by kernel_rfl)) (fun _ _ _ h => h) (Or.inl ⟨by rfl, ?_⟩) hHeld ?_ ?_
     rotate_left
     ·rintro w' ⟨s0, s1, s2⟩
      go_simp
      with_reducible rfl
     rotate_left
     ·simp only [Act.put, List.setIfInBounds_toArray, List.set_cons_zero, List.set_cons_succ, i64_w, i32_w]
      rfl
     refine pure_ (i := 6) (N := some 22) (v := ?_) (a' := ?_) #[true, true, true, true, true, true, true, false, true, false, false, false] rfl rfl (any_of HT_.out (by kernel_rfl)) (fun _ _ _ h => h) (Or.inl ⟨by rfl, ?_⟩) ?_ ?_
     rotate_left
     ·intro w'
      go_simp
      with_reducible rfl
     rotate_left
     ·simp only [Act.put, List.setIfInBounds_toArray, List.set_cons_zero, List.set_cons_succ, i64_w, i32_w]
      rfl
     refine take_ (i := 7) (N := some 23) (v := ?_) (a' := ?_) #[true, true, true, true, true, true, true, true, true, false, false, false] rfl rfl (take_ofW HT_.out HW_.out (by kernel_rfl)) (fun _ _ _ h => h) (Or.inl ⟨by rfl, ?_⟩) hHeld ?_ ?_
     rotate_left
     ·rintro w' ⟨s0, s1, s2⟩
      go_simp
      with_reducible rfl
     rotate_left
     ·simp only [Act.put, List.setIfInBounds_toArray, List.set_cons_zero, List.set_cons_succ, i64_w, i32_w]
      rfl
     refine pure_ (i := 9) (N := some 25) (v := ?_) (a' := ?_) #[true, true, true, true, true, true, true, true, true, true, false, false] rfl rfl (any_of HT_.out (by kernel_rfl)) (fun _ _ _ h => h) (Or.inl ⟨by rfl, ?_⟩) ?_ ?_
     rotate_left
     ·intro w'
      go_simp
      with_reducible rfl
     rotate_left
     ·simp only [Act.put, List.setIfInBounds_toArray, List.set_cons_zero, List.set_cons_succ, i64_w, i32_w]
      rfl
     refine pure_ (i := 10) (N := some 26) (v := ?_) (a' := ?_) #[true, true, true, true, true, true, true, true, true, true, true, false] rfl rfl (any_of HT_.out (by kernel_rfl)) (fun _ _ _ h => h) (Or.inl ⟨by rfl, ?_⟩) ?_ ?_
     rotate_left
     ·intro w'
      go_simp
      with_reducible rfl
     rotate_left
     ·simp only [Act.put, List.setIfInBounds_toArray, List.set_cons_zero, List.set_cons_succ, i64_w, i32_w]
      rfl
     refine last_ (i := 11) (N := none) #[true, true, true, true, true, true, true, true, true, true, true, true] rfl rfl (one_of HT_.out (by kernel_rfl)) (by decide) (fun K hK => ?_)
     refine skip_ (w1 := ?_) (by rfl) rfl ?_ ?_
     rotate_left
     ·go_simp
      rfl
     refine hK.out _ _ ?_
     clear hK K
     refine done_ (done_of HT_.out (by kernel_rfl)) ?_
     try go_wp2
     go_roundg k1
     case measure => have := HK1.out; omega
     case rel => exact ⟨(wrap64 (x6_1 + 1)), (x1030000_1), (y1031), (u1030000), (.slice (some ⟨go17, 0, none⟩) x1030001_1.length co21), (by first | rfl | (simp; done) | (simp [*]; done)), H', ⟨by have := HK1.out; omega⟩, ⟨by (with_reducible repeat (first | apply Kd.R_alloc | apply Kd.R_drewN | apply Kd.R_drew)); exact Kd.R_mono (Kd.R_far (p := ⟨go17, (x6_1 : Int).toNat, none⟩) (Kd.R_mono HO_1030000.out (fun k_ hk => (⟨hk, fun e_ => hk (by rw [e_]; rfl)⟩ : _ ∧ k_ ≠ go17))) (fun _ hk => hk.2) (.int .i64 (wrap64 ((rd x1030001_1 x6_1) * a1)))) (fun _ hk => hk.1)⟩, ⟨by (with_reducible repeat (first | apply Kd.R_alloc | apply Kd.R_drewN | apply Kd.R_drew)); exact HQ23.out⟩, ⟨by (with_reducible repeat (first | refine blk_drewN ?_ _ | refine blk_drew ?_ | refine blk_alloc ?_ _)); refine blk_far ?_ (by have h_ := Kd.R_ne HO_1030001.out BK1021.out (by decide); intro e_; exact h_ (by rw [e_]; rfl)) _; (with_reducible repeat (first | refine blk_drewN ?_ _ | refine blk_drew ?_ | refine blk_alloc ?_ _)); exact BK1021.out⟩, ⟨by (with_reducible repeat (first | refine blk_drewN ?_ _ | refine blk_drew ?_ | refine blk_alloc ?_ _)); refine blk_far ?_ (by have h_ := Kd.R_ne HO_1030001.out BK1022.out (by decide); intro e_; exact h_ (by rw [e_]; rfl)) _; (with_reducible repeat (first | refine blk_drewN ?_ _ | refine blk_drew ?_ | refine blk_alloc ?_ _)); exact BK1022.out⟩, ⟨by (with_reducible repeat (first | refine blk_drewN ?_ _ | refine blk_drew ?_ | refine blk_alloc ?_ _)); refine blk_far ?_ (by have h_ := Kd.R_ne HO_1030001.out BK1029.out (by decide); intro e_; exact h_ (by rw [e_]; rfl)) _; (with_reducible repeat (first | refine blk_drewN ?_ _ | refine blk_drew ?_ | refine blk_alloc ?_ _)); exact BK1029.out⟩, ⟨by repeat (first | (with_reducible first | exact HB.out | apply below_alloc | apply pw_below_drewN | apply below_drew1 | refine below_set ?_ GB17.out | refine below_set ?_ GE1021.out | refine below_set ?_ GE1022.out | refine below_set ?_ GE1029.out) | exact HB.out)⟩⟩
    ·rw [if_neg c16] at H
     exact absurd H (by simp)
   ·rw [if_neg c15] at H
    have c15b0 : decide (x6_1 < (x1030001_1.length : Int)) = false := decide_eq_false c15
    clear c15
    simp only [Option.some.injEq, Prod.mk.injEq] at H
    obtain ⟨rfl, rfl⟩ := H
    have hnb24 := NB1029_1021.out
    have hnc24 := NB1021_1029.out
    have hnb25 := NB1029_1022.out
    have hnc25 := NB1022_1029.out
    have hcz26_0 : wr.cell? ⟨gb1029, 0, none⟩ = some (u1030000) := (blk_cell BK1029.out 0).trans rfl
    have hcz26_1 : wr.cell? ⟨gb1029, 1, none⟩ = some (u1030001) := (blk_cell BK1029.out 1).trans rfl
    have hfz26_0 := blk_frozen BK1029.out 0
    have hfz26_1 := blk_frozen BK1029.out 1
    obtain ⟨Ao27, co27, eo27⟩ := Kd.R_slice HO_1030001.out
    subst eo27
    obtain ⟨Ao28, co28, eo28⟩ := Kd.R_slice HO_1030000.out
    subst eo28
    have hnb29 := NB1022_1021.out
    have hnc29 := NB1021_1022.out
    have hcz30_0 : wr.cell? ⟨gb1022, 0, none⟩ = some (.slice none 0 0) := (blk_cell BK1022.out 0).trans rfl
    have hcz30_1 : wr.cell? ⟨gb1022, 1, none⟩ = some (.slice none 0 0) := (blk_cell BK1022.out 1).trans rfl
    have hfz30_0 := blk_frozen BK1022.out 0
    have hfz30_1 := blk_frozen BK1022.out 1
    go_wp2
    refine bodyPost_ret (results_cell_row rfl _ _ gb1022 34 #[.slice Ao28 x1030000_1.length co28, .slice Ao27 x1030001_1.length co27] (0, 0) _ rfl (by (with_reducible repeat (first | refine blk_drewN ?_ _ | refine blk_drew ?_ | refine blk_alloc ?_ _)); refine blk_put (cs := #[.slice Ao28 x1030000_1.length co28, .slice none 0 0]) ?_ 1 _ rfl; (with_reducible repeat (first | refine blk_drewN ?_ _ | refine blk_drew ?_ | refine blk_alloc ?_ _)); refine blk_put (cs := #[.slice none 0 0, .slice none 0 0]) ?_ 0 _ rfl; (with_reducible repeat (first | refine blk_drewN ?_ _ | refine blk_drew ?_ | refine blk_alloc ?_ _)); exact BK1022.out) Try.underlying34 rfl (by kernel_rfl)) rfl ?_
    exact ⟨_, _, by first | rfl | (simp [errW_none, errW_some] <;> rfl) | (simp [*, errW_none, errW_some] <;> rfl), by (with_reducible repeat (first | apply Kd.R_alloc | apply Kd.R_drewN | apply Kd.R_drew)); exact Kd.R_mono (Kd.R_far (p := ⟨gb1022, 1, none⟩) (Kd.R_far (p := ⟨gb1022, 0, none⟩) (Kd.R_types HO_1030000.out BK1022.out (by decide)) (fun _ hk => hk.2) (.slice Ao28 x1030000_1.length co28)) (fun _ hk => hk.2) (.slice Ao27 x1030001_1.length co27)) (fun _ hk => hk.1), by (with_reducible repeat (first | apply Kd.R_alloc | apply Kd.R_drewN | apply Kd.R_drew)); exact Kd.R_mono (Kd.R_far (p := ⟨gb1022, 1, none⟩) (Kd.R_far (p := ⟨gb1022, 0, none⟩) (Kd.R_types HO_1030001.out BK1022.out (by decide)) (fun _ hk => hk.2) (.slice Ao28 x1030000_1.length co28)) (fun _ hk => hk.2) (.slice Ao27 x1030001_1.length co27)) (fun _ hk => hk.1), by repeat (first | (with_reducible first | exact HB.out | apply below_alloc | apply pw_below_drewN | apply below_drew1 | refine below_set ?_ GE1021.out | refine below_set ?_ GE1022.out | refine below_set ?_ GE1029.out) | exact HB.out)⟩

end Go.Proofs.Ytpjcidlkdfebhaa.PT
