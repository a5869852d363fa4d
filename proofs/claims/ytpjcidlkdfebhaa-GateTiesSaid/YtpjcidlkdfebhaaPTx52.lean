-- Made by a program of this session (wip/xprint.py): the kit's print with changes of ours; not print.sh's own text.
import Derived.Test.YtpjcidlkdfebhaaPTx0
import Derived.Test.YtpjcidlkdfebhaaPTx1
import Derived.Test.YtpjcidlkdfebhaaPTx29
import Derived.Test.YtpjcidlkdfebhaaPTx30
import Derived.Test.YtpjcidlkdfebhaaPTx31
namespace Go.Proofs.Ytpjcidlkdfebhaa.PT
open Go.RowKit Go.Proofs.YtpjcidlkdfebhaaW.PrintWords Go.Proofs.YtpjcidlkdfebhaaW.PrintLast Go.Proofs.YtpjcidlkdfebhaaW.PrintMore
attribute [local go_sem] max2_int min2_int max_two min_two max_three min_three max_four min_four   -- for this text's walks alone
set_option linter.unusedVariables false
set_option linter.unusedSimpArgs false

attribute [local go_sem] Go.Proofs.XW.sg8 Go.Proofs.XW.sg16 Go.Proofs.XW.sg32 Go.Proofs.XW.sg64
/-! ### graduslaw5_GateTies: function 13 -/
mutual
def graduslaw5_GateTies.l0 : Nat → Int → List (S34) → List Int → Option (Bool)
 | 0, _, _, _ => none
 | k + 1, x3, x1324000, x1324001 => if x3 ≤ 8 then (graduslaw5_GateTies.l1 k x3 0 x1324000 x1324001) else ((graduslaw5_wakes.f k).bind fun t1324 => (some t1324))
def graduslaw5_GateTies.l1 : Nat → Int → Int → List (S34) → List Int → Option (Bool)
 | 0, _, _, _, _ => none
 | k + 1, x3, x4, x1324000, x1324001 => if x4 < x3 then (if 0 ≤ (wrap64 (2 * x3)) then (if (wrap64 (2 * x3) : Int).toNat ≤ 35184372088832 then (graduslaw5_GateTies.l2 k x3 x4 0 x1324000 x1324001 (([2, x3] : List Int)) (List.replicate (wrap64 (2 * x3) : Int).toNat 0)) else (none)) else (none)) else (graduslaw5_GateTies.l0 k (wrap64 (x3 + 1)) x1324000 x1324001)
def graduslaw5_GateTies.l2 : Nat → Int → Int → Int → List (S34) → List Int → List Int → List Int → Option (Bool)
 | 0, _, _, _, _, _, _, _ => none
 | k + 1, x3, x4, x6, x1324000, x1324001, x1332000, x1332001 => if x6 < (wrap64 (2 * x3)) then (if 0 ≤ x6 then (if x6 < (x1332001.length : Int) then ((some (x1332001.set (x6 : Int).toNat (wrap64 ((-9) - (x1324000.length : Int))) : List Int)).bind fun y1332 => (if x3 = 0 then (none) else (if (x6 % x3) ≥ x4 then (graduslaw5_GateTies.l2 k x3 x4 (wrap64 (x6 + 1)) x1324000 x1324001 x1332000 (y1332.set (x6 : Int).toNat 5)) else (graduslaw5_GateTies.l2 k x3 x4 (wrap64 (x6 + 1)) x1324000 x1324001 x1332000 y1332)))) else (none)) else (none)) else ((gate_Max.f k x1332000 x1332001 x3).bind fun bt1334 => ((gate_Pick.f k x1332000 x1332001 (([2, 1] : List Int)) (([3, 4] : List Int)) x3).bind fun bt1349 => ((graduslaw5_num.f bt1334.2.2).bind fun t1357 => (if t1357 = 0 then ((graduslaw5_num.f bt1349.2.2).bind fun t1358 => (if t1358 = 0 then ((gradusref0_EqNumbers.f k bt1334.2.1 (([5, 5] : List Int))).bind fun t1362 => (if t1362 = true then (graduslaw5_GateTies.j3 k x3 x4 ((bt1349.2.1.length : Int) != (wrap64 (2 * x3))) x1324000 x1324001 bt1349.1 bt1349.2.1) else (graduslaw5_GateTies.j3 k x3 x4 true x1324000 x1324001 bt1349.1 bt1349.2.1))) else (graduslaw5_GateTies.j3 k x3 x4 true x1324000 x1324001 bt1349.1 bt1349.2.1))) else (graduslaw5_GateTies.j3 k x3 x4 true x1324000 x1324001 bt1349.1 bt1349.2.1)))))
def graduslaw5_GateTies.j3 : Nat → Int → Int → Bool → List (S34) → List Int → List Int → List Int → Option (Bool)
 | 0, _, _, _, _, _, _, _ => none
 | k + 1, x3, x4, x90, x1324000, x1324001, x1357000, x1357001 => if x90 = true then (none) else (graduslaw5_GateTies.l3 k x3 x4 0 x1324000 x1324001 x1357000 x1357001)
def graduslaw5_GateTies.l3 : Nat → Int → Int → Int → List (S34) → List Int → List Int → List Int → Option (Bool)
 | 0, _, _, _, _, _, _, _ => none
 | k + 1, x3, x4, x12, x1324000, x1324001, x1357000, x1357001 => if x12 < (wrap64 (2 * x3)) then (if x3 = 0 then (none) else (if (Int.tmod x12 x3) = x4 then (if 0 ≤ x12 then (if x12 < (x1357001.length : Int) then (if (rd x1357001 x12) = (wrap64 (3 + (wrap64 (Int.tdiv x12 x3)))) then (graduslaw5_GateTies.l3 k x3 x4 (wrap64 (x12 + 1)) x1324000 x1324001 x1357000 x1357001) else (none)) else (none)) else (none)) else (if 0 ≤ x12 then (if x12 < (x1357001.length : Int) then (if (rd x1357001 x12) = 0 then (graduslaw5_GateTies.l3 k x3 x4 (wrap64 (x12 + 1)) x1324000 x1324001 x1357000 x1357001) else (none)) else (none)) else (none)))) else (graduslaw5_GateTies.l1 k x3 (wrap64 (x4 + 1)) x1324000 x1324001)
end
def graduslaw5_GateTies.f (k : Nat) (l0_0 : List (S34)) (l0_1 : List Int) : Option (Bool) := graduslaw5_GateTies.l0 k 1 l0_0 l0_1
theorem graduslaw5_GateTies.mono_l : ∀ k, (∀ y0 y1 y2, LeO (graduslaw5_GateTies.l0 k y0 y1 y2) (graduslaw5_GateTies.l0 (k + 1) y0 y1 y2)) ∧ (∀ y0 y1 y2 y3, LeO (graduslaw5_GateTies.l1 k y0 y1 y2 y3) (graduslaw5_GateTies.l1 (k + 1) y0 y1 y2 y3)) ∧ (∀ y0 y1 y2 y3 y4 y5 y6, LeO (graduslaw5_GateTies.l2 k y0 y1 y2 y3 y4 y5 y6) (graduslaw5_GateTies.l2 (k + 1) y0 y1 y2 y3 y4 y5 y6)) ∧ (∀ y0 y1 y2 y3 y4 y5 y6, LeO (graduslaw5_GateTies.j3 k y0 y1 y2 y3 y4 y5 y6) (graduslaw5_GateTies.j3 (k + 1) y0 y1 y2 y3 y4 y5 y6)) ∧ (∀ y0 y1 y2 y3 y4 y5 y6, LeO (graduslaw5_GateTies.l3 k y0 y1 y2 y3 y4 y5 y6) (graduslaw5_GateTies.l3 (k + 1) y0 y1 y2 y3 y4 y5 y6))
 | 0 => ⟨fun _ _ _ r h => by simp [graduslaw5_GateTies.l0] at h, fun _ _ _ _ r h => by simp [graduslaw5_GateTies.l1] at h, fun _ _ _ _ _ _ _ r h => by simp [graduslaw5_GateTies.l2] at h, fun _ _ _ _ _ _ _ r h => by simp [graduslaw5_GateTies.j3] at h, fun _ _ _ _ _ _ _ r h => by simp [graduslaw5_GateTies.l3] at h⟩
 | k + 1 => by
  obtain ⟨ih0, ih1, ih2, ih3, ih4⟩ := graduslaw5_GateTies.mono_l k
  refine ⟨?_, ?_, ?_, ?_, ?_⟩
  ·intro y0 y1 y2
   unfold graduslaw5_GateTies.l0
   repeat' first
   | (with_reducible exact ih0 _ _ _)
   | (with_reducible exact ih1 _ _ _ _)
   | (with_reducible exact ih2 _ _ _ _ _ _ _)
   | (with_reducible exact ih3 _ _ _ _ _ _ _)
   | (with_reducible exact ih4 _ _ _ _ _ _ _)
   | (with_reducible exact gate_Max.mono _ _ _ _)
   | (with_reducible exact gate_Pick.mono _ _ _ _ _ _)
   | (with_reducible exact graduslaw5_wakes.mono _)
   | (with_reducible exact gradusref0_EqNumbers.mono _ _ _)
   | (with_reducible exact LeO.refl _)
   | (with_reducible exact LeO.none _)
   | (with_reducible refine LeO.ite ?_ ?_)
   | (with_reducible refine LeO.bind ?_ (fun _ => ?_))
   | exact ih0 _ _ _
   | exact ih1 _ _ _ _
   | exact ih2 _ _ _ _ _ _ _
   | exact ih3 _ _ _ _ _ _ _
   | exact ih4 _ _ _ _ _ _ _
   | exact gate_Max.mono _ _ _ _
   | exact gate_Pick.mono _ _ _ _ _ _
   | exact graduslaw5_wakes.mono _
   | exact gradusref0_EqNumbers.mono _ _ _
   | exact LeO.none _
   | refine LeO.ite ?_ ?_
   | refine LeO.bind ?_ (fun _ => ?_)
  ·intro y0 y1 y2 y3
   unfold graduslaw5_GateTies.l1
   repeat' first
   | (with_reducible exact ih0 _ _ _)
   | (with_reducible exact ih1 _ _ _ _)
   | (with_reducible exact ih2 _ _ _ _ _ _ _)
   | (with_reducible exact ih3 _ _ _ _ _ _ _)
   | (with_reducible exact ih4 _ _ _ _ _ _ _)
   | (with_reducible exact gate_Max.mono _ _ _ _)
   | (with_reducible exact gate_Pick.mono _ _ _ _ _ _)
   | (with_reducible exact graduslaw5_wakes.mono _)
   | (with_reducible exact gradusref0_EqNumbers.mono _ _ _)
   | (with_reducible exact LeO.refl _)
   | (with_reducible exact LeO.none _)
   | (with_reducible refine LeO.ite ?_ ?_)
   | (with_reducible refine LeO.bind ?_ (fun _ => ?_))
   | exact ih0 _ _ _
   | exact ih1 _ _ _ _
   | exact ih2 _ _ _ _ _ _ _
   | exact ih3 _ _ _ _ _ _ _
   | exact ih4 _ _ _ _ _ _ _
   | exact gate_Max.mono _ _ _ _
   | exact gate_Pick.mono _ _ _ _ _ _
   | exact graduslaw5_wakes.mono _
   | exact gradusref0_EqNumbers.mono _ _ _
   | exact LeO.none _
   | refine LeO.ite ?_ ?_
   | refine LeO.bind ?_ (fun _ => ?_)
  ·intro y0 y1 y2 y3 y4 y5 y6
   unfold graduslaw5_GateTies.l2
   repeat' first
   | (with_reducible exact ih0 _ _ _)
   | (with_reducible exact ih1 _ _ _ _)
   | (with_reducible exact ih2 _ _ _ _ _ _ _)
   | (with_reducible exact ih3 _ _ _ _ _ _ _)
   | (with_reducible exact ih4 _ _ _ _ _ _ _)
   | (with_reducible exact gate_Max.mono _ _ _ _)
   | (with_reducible exact gate_Pick.mono _ _ _ _ _ _)
   | (with_reducible exact graduslaw5_wakes.mono _)
   | (with_reducible exact gradusref0_EqNumbers.mono _ _ _)
   | (with_reducible exact LeO.refl _)
   | (with_reducible exact LeO.none _)
   | (with_reducible refine LeO.ite ?_ ?_)
   | (with_reducible refine LeO.bind ?_ (fun _ => ?_))
   | exact ih0 _ _ _
   | exact ih1 _ _ _ _
   | exact ih2 _ _ _ _ _ _ _
   | exact ih3 _ _ _ _ _ _ _
   | exact ih4 _ _ _ _ _ _ _
   | exact gate_Max.mono _ _ _ _
   | exact gate_Pick.mono _ _ _ _ _ _
   | exact graduslaw5_wakes.mono _
   | exact gradusref0_EqNumbers.mono _ _ _
   | exact LeO.none _
   | refine LeO.ite ?_ ?_
   | refine LeO.bind ?_ (fun _ => ?_)
  ·intro y0 y1 y2 y3 y4 y5 y6
   unfold graduslaw5_GateTies.j3
   repeat' first
   | (with_reducible exact ih0 _ _ _)
   | (with_reducible exact ih1 _ _ _ _)
   | (with_reducible exact ih2 _ _ _ _ _ _ _)
   | (with_reducible exact ih3 _ _ _ _ _ _ _)
   | (with_reducible exact ih4 _ _ _ _ _ _ _)
   | (with_reducible exact gate_Max.mono _ _ _ _)
   | (with_reducible exact gate_Pick.mono _ _ _ _ _ _)
   | (with_reducible exact graduslaw5_wakes.mono _)
   | (with_reducible exact gradusref0_EqNumbers.mono _ _ _)
   | (with_reducible exact LeO.refl _)
   | (with_reducible exact LeO.none _)
   | (with_reducible refine LeO.ite ?_ ?_)
   | (with_reducible refine LeO.bind ?_ (fun _ => ?_))
   | exact ih0 _ _ _
   | exact ih1 _ _ _ _
   | exact ih2 _ _ _ _ _ _ _
   | exact ih3 _ _ _ _ _ _ _
   | exact ih4 _ _ _ _ _ _ _
   | exact gate_Max.mono _ _ _ _
   | exact gate_Pick.mono _ _ _ _ _ _
   | exact graduslaw5_wakes.mono _
   | exact gradusref0_EqNumbers.mono _ _ _
   | exact LeO.none _
   | refine LeO.ite ?_ ?_
   | refine LeO.bind ?_ (fun _ => ?_)
  ·intro y0 y1 y2 y3 y4 y5 y6
   unfold graduslaw5_GateTies.l3
   repeat' first
   | (with_reducible exact ih0 _ _ _)
   | (with_reducible exact ih1 _ _ _ _)
   | (with_reducible exact ih2 _ _ _ _ _ _ _)
   | (with_reducible exact ih3 _ _ _ _ _ _ _)
   | (with_reducible exact ih4 _ _ _ _ _ _ _)
   | (with_reducible exact gate_Max.mono _ _ _ _)
   | (with_reducible exact gate_Pick.mono _ _ _ _ _ _)
   | (with_reducible exact graduslaw5_wakes.mono _)
   | (with_reducible exact gradusref0_EqNumbers.mono _ _ _)
   | (with_reducible exact LeO.refl _)
   | (with_reducible exact LeO.none _)
   | (with_reducible refine LeO.ite ?_ ?_)
   | (with_reducible refine LeO.bind ?_ (fun _ => ?_))
   | exact ih0 _ _ _
   | exact ih1 _ _ _ _
   | exact ih2 _ _ _ _ _ _ _
   | exact ih3 _ _ _ _ _ _ _
   | exact ih4 _ _ _ _ _ _ _
   | exact gate_Max.mono _ _ _ _
   | exact gate_Pick.mono _ _ _ _ _ _
   | exact graduslaw5_wakes.mono _
   | exact gradusref0_EqNumbers.mono _ _ _
   | exact LeO.none _
   | refine LeO.ite ?_ ?_
   | refine LeO.bind ?_ (fun _ => ?_)
theorem graduslaw5_GateTies.mono : ∀ a0 a1 k, LeO (graduslaw5_GateTies.f k a0 a1) (graduslaw5_GateTies.f (k + 1) a0 a1) := by
 intro a0 a1 k
 obtain ⟨ih0, ih1, ih2, ih3, ih4⟩ := graduslaw5_GateTies.mono_l k
 unfold graduslaw5_GateTies.f
 repeat' first
   | (with_reducible exact ih0 _ _ _)
   | (with_reducible exact ih1 _ _ _ _)
   | (with_reducible exact ih2 _ _ _ _ _ _ _)
   | (with_reducible exact ih3 _ _ _ _ _ _ _)
   | (with_reducible exact ih4 _ _ _ _ _ _ _)
   | (with_reducible exact gate_Max.mono _ _ _ _)
   | (with_reducible exact gate_Pick.mono _ _ _ _ _ _)
   | (with_reducible exact graduslaw5_wakes.mono _)
   | (with_reducible exact gradusref0_EqNumbers.mono _ _ _)
   | (with_reducible exact LeO.refl _)
   | (with_reducible exact LeO.none _)
   | (with_reducible refine LeO.ite ?_ ?_)
   | (with_reducible refine LeO.bind ?_ (fun _ => ?_))
   | exact ih0 _ _ _
   | exact ih1 _ _ _ _
   | exact ih2 _ _ _ _ _ _ _
   | exact ih3 _ _ _ _ _ _ _
   | exact ih4 _ _ _ _ _ _ _
   | exact gate_Max.mono _ _ _ _
   | exact gate_Pick.mono _ _ _ _ _ _
   | exact graduslaw5_wakes.mono _
   | exact gradusref0_EqNumbers.mono _ _ _
   | exact LeO.none _
   | refine LeO.ite ?_ ?_
   | refine LeO.bind ?_ (fun _ => ?_)
set_option maxHeartbeats 8000000 in
set_option maxRecDepth 100000 in
theorem graduslaw5_GateTies.calls (k : Nat) (A0_0 : Option Addr) (c0_0 : Nat) (l0_0 : List (S34)) (A0_1 : Option Addr) (c0_1 : Nat) (l0_1 : List Int) (r : Bool) (w : World) (hr0_0 : Kd.C k34 w A0_0 l0_0.length l0_0) (hc0_0 : l0_0.length ≤ c0_0) (hr0_1 : Kd.C (Kd.int .i64) w A0_1 l0_1.length l0_1) (hc0_1 : l0_1.length ≤ c0_1) (h : graduslaw5_GateTies.f k l0_0 l0_1 = some r) :
  Calls Try.prog 13 #[.agg #[.slice A0_0 l0_0.length c0_0, .slice A0_1 l0_1.length c0_1]] w fun e w' => e = .returned (.bool r) ∧ Below w.heap.size w w' := by
 have hu46 := Try.underlying46
 have hu34 := Try.underlying34
 have HR0_0 := Aside0.mk hr0_0
 have HC0_0 := Aside0.mk hc0_0
 clear hr0_0 hc0_0
 have HR0_1 := Aside0.mk hr0_1
 have HC0_1 := Aside0.mk hc0_1
 clear hr0_1 hc0_1
 have HB := Aside0.mk (Below.refl w.heap.size w)
 have H : (graduslaw5_GateTies.l0 k 1 l0_0 l0_1) = some r := h
 clear h
 have H' := Aside0.mk H
 clear H
 go_enter Try.func13, Try.ntmps13
 go_wp2_with (first | ((with_reducible refine gate_dst (N := 1) rfl ?_); (try (refine gate_guard (by rfl) ?_; dsimp only)); refine box_event ?hg (N := 1) ?hd (cs := #[.slice A0_0 l0_0.length c0_0, .slice A0_1 l0_1.length c0_1]) (t := 46) ?hr ?_; (case hd => rfl); (case hg => rfl); (case hr => first | (go_simp; done) | (go_simp; rfl)); intro gb1323 hg w2 hbox hb; have n0_ := Aside0.mk (below_step (by repeat (first | (with_reducible first | exact HB.out | apply below_alloc | apply pw_below_drewN | apply below_drew1) | exact HB.out)) hb); have n1_ := Aside0.mk (hbox); have n2_ := Aside0.mk ((by rw [hg]; exact (below_size (by repeat (first | (with_reducible first | exact HB.out | apply below_alloc | apply pw_below_drewN | apply below_drew1) | exact HB.out))) : w.heap.size ≤ gb1323)); have n3_ := Aside0.mk ((by rw [hg]; exact (below_size (by repeat (first | (with_reducible first | exact HB.out | apply below_alloc | apply pw_below_drewN | apply below_drew1) | exact HB.out))) : w.heap.size ≤ gb1323)); clear HB; have HB := n0_; have BK1323 := n1_; have GW1323 := n2_; have GE1323 := n3_; clear n0_ n1_ n2_ n3_; clear hb hbox hg))
 go_loopg [3] k (fun kq v3 w' => ∃ (x3_1 : Int), v3 = .int .i64 x3_1 ∧ Aside0 (graduslaw5_GateTies.l0 kq x3_1 l0_0 l0_1 = some r) ∧ Aside0 (kq ≤ k) ∧ Aside0 (w'.heap[gb1323]? = some (.cells #[(.slice A0_0 l0_0.length c0_0), (.slice A0_1 l0_1.length c0_1)] 46 (0, 0))) ∧ Aside0 (Below w.heap.size w w'))
 case atStart => exact ⟨(1), (by first | rfl | (simp; done) | (simp [*]; done)), H', ⟨Nat.le_refl _⟩, ⟨by (with_reducible repeat (first | refine blk_drewN ?_ _ | refine blk_drew ?_ | refine blk_alloc ?_ _)); exact BK1323.out⟩, ⟨by repeat (first | (with_reducible first | exact HB.out | apply below_alloc | apply pw_below_drewN | apply below_drew1 | refine below_set ?_ GE1323.out) | exact HB.out)⟩⟩
 case round =>
  clear H'
  try clear c1
  try clear p2
  obtain ⟨x3_1, rfl, HA, HK1, BK1323, HB⟩ := hrel
  cases gk with
  | zero => exact absurd HA.out (by simp [graduslaw5_GateTies.l0])
  | succ k1 =>
   have H := HA.out
   clear HA
   simp only [graduslaw5_GateTies.l0] at H
   by_cases c3 : x3_1 ≤ 8
   ·rw [if_pos c3] at H
    have c3b0 : decide (x3_1 ≤ 8) = true := decide_eq_true c3
    clear c3
    have H' := Aside0.mk H
    clear H
    go_wp2
    go_loopg [4] k1 (fun kq v4 w' => ∃ (x4_2 : Int), v4 = .int .i64 x4_2 ∧ Aside0 (graduslaw5_GateTies.l1 kq x3_1 x4_2 l0_0 l0_1 = some r) ∧ Aside0 (kq ≤ k1) ∧ Aside0 (w'.heap[gb1323]? = some (.cells #[(.slice A0_0 l0_0.length c0_0), (.slice A0_1 l0_1.length c0_1)] 46 (0, 0))) ∧ Aside0 (Below w.heap.size w w'))
    case atStart => exact ⟨(0), (by first | rfl | (simp; done) | (simp [*]; done)), H', ⟨Nat.le_refl _⟩, ⟨by (with_reducible repeat (first | refine blk_drewN ?_ _ | refine blk_drew ?_ | refine blk_alloc ?_ _)); exact BK1323.out⟩, ⟨by repeat (first | (with_reducible first | exact HB.out | apply below_alloc | apply pw_below_drewN | apply below_drew1 | refine below_set ?_ GE1323.out) | exact HB.out)⟩⟩
    case round =>
     clear H'
     try clear c1
     try clear p2
     try clear c3
     try clear c3b0
     try clear p2
     obtain ⟨x4_2, rfl, HA, HK2, BK1323, HB⟩ := hrel
     cases gk with
     | zero => exact absurd HA.out (by simp [graduslaw5_GateTies.l1])
     | succ k2 =>
      have H := HA.out
      clear HA
      simp only [graduslaw5_GateTies.l1] at H
      by_cases c4 : x4_2 < x3_1
      ·rw [if_pos c4] at H
       have c4b0 : decide (x4_2 < x3_1) = true := decide_eq_true c4
       clear c4
       obtain ⟨y1325, hy1325⟩ : ∃ y_ : List Int, y_ = (([2, x3_1] : List Int)) := ⟨_, rfl⟩
       replace H : (if 0 ≤ (wrap64 (2 * x3_1)) then (if (wrap64 (2 * x3_1) : Int).toNat ≤ 35184372088832 then (graduslaw5_GateTies.l2 k2 x3_1 x4_2 0 l0_0 l0_1 y1325 (List.replicate (wrap64 (2 * x3_1) : Int).toNat 0)) else (none)) else (none)) = some r := by first | (rw [hy1325]; with_reducible exact H) | (have H2_ := (Option.bind_some _ _).symm.trans H; rw [hy1325]; with_reducible exact H2_) | (have H2_ := (Option.bind_some _ _).symm.trans H; with_reducible exact H2_) | with_reducible exact H | (rw [hy1325]; exact H) | exact H
       have Ny1325 := Aside0.mk hy1325
       clear hy1325
       obtain ⟨ji5, hji5⟩ : ∃ j_ : Int, (wrap64 (2 * x3_1)) = j_ := ⟨_, rfl⟩
       replace H : (if 0 ≤ (ji5) then (if (ji5 : Int).toNat ≤ 35184372088832 then (graduslaw5_GateTies.l2 k2 x3_1 x4_2 0 l0_0 l0_1 y1325 (List.replicate (ji5 : Int).toNat 0)) else (none)) else (none)) = some r := by first | (rw [hji5] at H; exact H) | (simp only [hji5] at H ⊢; exact H)
       have hji5w : (IntKind.i64.wrap (2 * x3_1)) = ji5 := (i64_w _).trans hji5
       by_cases c6 : 0 ≤ (ji5)
       ·rw [if_pos c6] at H
        have c6b0 := eq_true c6
        have c6b1 : decide (0 ≤ (ji5)) = true := decide_eq_true c6
        clear c6
        by_cases c7 : (ji5 : Int).toNat ≤ 35184372088832
        ·rw [if_pos c7] at H
         have c7b0 := eq_true c7
         have c7b1 : decide ((ji5 : Int).toNat ≤ 35184372088832) = true := decide_eq_true c7
         clear c7
         obtain ⟨y1328, hy1328⟩ : ∃ y_ : List Int, y_ = (List.replicate (ji5 : Int).toNat 0) := ⟨_, rfl⟩
         replace H : (graduslaw5_GateTies.l2 k2 x3_1 x4_2 0 l0_0 l0_1 y1325 y1328) = some r := by first | (rw [hy1328]; with_reducible exact H) | (have H2_ := (Option.bind_some _ _).symm.trans H; rw [hy1328]; with_reducible exact H2_) | (have H2_ := (Option.bind_some _ _).symm.trans H; with_reducible exact H2_) | with_reducible exact H | (rw [hy1328]; exact H) | exact H
         have Ny1328 := Aside0.mk hy1328
         clear hy1328
         have H' := Aside0.mk H
         clear H
         go_wp2_with (first | ((with_reducible refine gate_dst (N := 24) rfl ?_); (try (refine gate_guard (by rfl) ?_; dsimp only)); refine Kd.R_lit (Kd.int .i64) _ 3 ?hg (N := 24) ?hd (xs := ([2, x3_1] : List Int)) (inner := [.int .i64 2, .int .i64 x3_1]) (ok := fun _ => True) (okp := fun _ => True) ?hr ?hp (fun _ hk => hk) trivial (Below.refl _ _) (Nat.le_refl _) (by simp) ?_; (case hd => rfl); (case hg => rfl); (case hr => first | (go_simp; done) | (go_simp; rfl)); (case hp => exact (Reps.one (show Kd.M (Kd.int .i64) _ _ _ 2 [.int .i64 2] from rfl) (Reps.one (show Kd.M (Kd.int .i64) _ _ _ x3_1 [.int .i64 x3_1] from rfl) (Reps.none _ _)))); intro v1326 w8 ho9 hb hg_ hnew_; clear hg_ hnew_; (first | rw [← Ny1325.out] at ho9 | (simp only [Int.reduceToNat] at ho9; rw [← Ny1325.out] at ho9)); have n0_ := Aside0.mk (Kd.R_lower ho9 (below_size (by repeat (first | (with_reducible first | exact HB.out | apply below_alloc | apply pw_below_drewN | apply below_drew1 | refine below_set ?_ GE1323.out) | exact HB.out)))); have n1_ := Aside0.mk (blk_below (g := gb1323) (o := .cells #[.slice A0_0 l0_0.length c0_0, .slice A0_1 l0_1.length c0_1] 46 (0, 0)) (by (with_reducible repeat (first | refine blk_drewN ?_ _ | refine blk_drew ?_ | refine blk_alloc ?_ _)); exact BK1323.out) hb); have n2_ := Aside0.mk (below_step (by repeat (first | (with_reducible first | exact HB.out | apply below_alloc | apply pw_below_drewN | apply below_drew1 | refine below_set ?_ GE1323.out) | exact HB.out)) hb); clear BK1323; clear HB; have HO1327 := n0_; have BK1323 := n1_; have HB := n2_; clear n0_ n1_ n2_; clear hb ho9) | ((with_reducible refine gate_dst (N := 27) rfl ?_); (try (refine gate_guard (by rfl) ?_; dsimp only)); refine Kd.R_make (Kd.int .i64) _ 3 rfl (N := 27) rfl 23 _ _ rfl ji5 rfl rfl Try.underlying23 (.int .i64 0) 8 info3 rfl (by decide) (by omega) 0 (ok := fun _ => True) (okp := fun _ => True) rfl (fun _ hk => hk) trivial (of_decide_eq_true (by first | (with_reducible assumption) | assumption)) (Nat.le_trans (Nat.mul_le_mul_right _ (of_decide_eq_true (by first | (with_reducible assumption) | assumption) : ji5.toNat ≤ 35184372088832)) (by omega)) (Below.refl _ _) (Nat.le_refl _) ?_; intro v1329 w10 ho11 hb hg_ hnew_; clear hg_ hnew_; (first | rw [← Ny1328.out] at ho11 | (simp only [Int.reduceToNat] at ho11; rw [← Ny1328.out] at ho11)); have n0_ := Aside0.mk (Kd.R_elder' (by (with_reducible repeat (first | apply Kd.R_alloc | apply Kd.R_drewN | apply Kd.R_drew)); exact HO1327.out) (Kd.R_base ho11) hb); have n1_ := Aside0.mk (Kd.R_lower (Kd.R_new' ho11 (Kd.R_lt (by (with_reducible repeat (first | apply Kd.R_alloc | apply Kd.R_drewN | apply Kd.R_drew)); exact HO1327.out))) (below_size (by repeat (first | (with_reducible first | exact HB.out | apply below_alloc | apply pw_below_drewN | apply below_drew1 | refine below_set ?_ GE1323.out) | exact HB.out)))); have n2_ := Aside0.mk (blk_below (g := gb1323) (o := .cells #[.slice A0_0 l0_0.length c0_0, .slice A0_1 l0_1.length c0_1] 46 (0, 0)) (by (with_reducible repeat (first | refine blk_drewN ?_ _ | refine blk_drew ?_ | refine blk_alloc ?_ _)); exact BK1323.out) hb); have n3_ := Aside0.mk (below_step (by repeat (first | (with_reducible first | exact HB.out | apply below_alloc | apply pw_below_drewN | apply below_drew1 | refine below_set ?_ GE1323.out) | exact HB.out)) hb); clear HO1327; clear BK1323; clear HB; have HO1327 := n0_; have HO1330 := n1_; have BK1323 := n2_; have HB := n3_; clear n0_ n1_ n2_ n3_; clear hb ho11; obtain ⟨Ao12, co12, eo12⟩ := Kd.R_slice HO1330.out; subst eo12; obtain ⟨Ao13, co13, eo13⟩ := Kd.R_slice HO1327.out; subst eo13) | ((with_reducible refine gate_dst (N := 5) rfl ?_); (try (refine gate_guard (by rfl) ?_; dsimp only)); refine box_event ?hg (N := 5) ?hd (cs := #[.slice none 0 0, .slice none 0 0]) (t := 34) ?hr ?_; (case hd => rfl); (case hg => rfl); (case hr => first | (go_simp; done) | (go_simp; rfl)); intro gb1331 hg w14 hbox hb; have n0_ := Aside0.mk (Kd.R_below (by (with_reducible repeat (first | apply Kd.R_alloc | apply Kd.R_drewN | apply Kd.R_drew)); exact HO1327.out) hb); have n1_ := Aside0.mk (Kd.R_below (by (with_reducible repeat (first | apply Kd.R_alloc | apply Kd.R_drewN | apply Kd.R_drew)); exact HO1330.out) hb); have n2_ := Aside0.mk (blk_below (g := gb1323) (o := .cells #[.slice A0_0 l0_0.length c0_0, .slice A0_1 l0_1.length c0_1] 46 (0, 0)) (by (with_reducible repeat (first | refine blk_drewN ?_ _ | refine blk_drew ?_ | refine blk_alloc ?_ _)); exact BK1323.out) hb); have n3_ := Aside0.mk (below_step (by repeat (first | (with_reducible first | exact HB.out | apply below_alloc | apply pw_below_drewN | apply below_drew1 | refine below_set ?_ GE1323.out) | exact HB.out)) hb); have n4_ := Aside0.mk (hbox); have n5_ := Aside0.mk ((by rw [hg]; exact (below_size (by repeat (first | (with_reducible first | exact HB.out | apply below_alloc | apply pw_below_drewN | apply below_drew1 | refine below_set ?_ GE1323.out) | exact HB.out))) : w.heap.size ≤ gb1331)); have n6_ := Aside0.mk ((by rw [hg]; exact (below_size (by repeat (first | (with_reducible first | exact HB.out | apply below_alloc | apply pw_below_drewN | apply below_drew1 | refine below_set ?_ GE1323.out) | exact HB.out))) : w.heap.size ≤ gb1331)); have n7_ := Aside0.mk ((by rw [hg]; exact Nat.ne_of_lt (blk_lt (g := gb1323) (o := .cells #[.slice A0_0 l0_0.length c0_0, .slice A0_1 l0_1.length c0_1] 46 (0, 0)) (by (with_reducible repeat (first | refine blk_drewN ?_ _ | refine blk_drew ?_ | refine blk_alloc ?_ _)); exact BK1323.out)) : gb1323 ≠ gb1331)); have n8_ := Aside0.mk ((by rw [hg]; exact Nat.ne_of_gt (blk_lt (g := gb1323) (o := .cells #[.slice A0_0 l0_0.length c0_0, .slice A0_1 l0_1.length c0_1] 46 (0, 0)) (by (with_reducible repeat (first | refine blk_drewN ?_ _ | refine blk_drew ?_ | refine blk_alloc ?_ _)); exact BK1323.out)) : gb1331 ≠ gb1323)); clear HO1327; clear HO1330; clear BK1323; clear HB; have HO1327 := n0_; have HO1330 := n1_; have BK1323 := n2_; have HB := n3_; have BK1331 := n4_; have GW1331 := n5_; have GE1331 := n6_; have NB1323_1331 := n7_; have NB1331_1323 := n8_; clear n0_ n1_ n2_ n3_ n4_ n5_ n6_ n7_ n8_; clear hb hbox hg; have hnb15 := NB1331_1323.out; have hnc15 := NB1323_1331.out; have hcz16_0 : w14.cell? ⟨gb1331, 0, none⟩ = some (.slice none 0 0) := (blk_cell BK1331.out 0).trans rfl; have hcz16_1 : w14.cell? ⟨gb1331, 1, none⟩ = some (.slice none 0 0) := (blk_cell BK1331.out 1).trans rfl; have hfz16_0 := blk_frozen BK1331.out 0; have hfz16_1 := blk_frozen BK1331.out 1))
         go_loopg [6] k2 (fun kq v6 w' => ∃ (x6_3 : Int) (x1332000_3 : List Int) (x1332001_3 : List Int) (u1332000 : Value) (u1332001 : Value), v6 = .int .i64 x6_3 ∧ Aside0 (graduslaw5_GateTies.l2 kq x3_1 x4_2 x6_3 l0_0 l0_1 x1332000_3 x1332001_3 = some r) ∧ Aside0 (kq ≤ k2) ∧ Aside0 (Kd.R (Kd.int .i64) 3 w' w.heap.size (fun k_ => some k_ ≠ (u1332001 : Value).ownBlock) u1332000 x1332000_3) ∧ Aside0 (Kd.R (Kd.int .i64) 3 w' w.heap.size (fun k_ => some k_ ≠ (u1332000 : Value).ownBlock) u1332001 x1332001_3) ∧ Aside0 (w'.heap[gb1323]? = some (.cells #[(.slice A0_0 l0_0.length c0_0), (.slice A0_1 l0_1.length c0_1)] 46 (0, 0))) ∧ Aside0 (w'.heap[gb1331]? = some (.cells #[u1332000, u1332001] 34 (0, 0))) ∧ Aside0 (Below w.heap.size w w'))
         case atStart => exact ⟨(0), (y1325), (y1328), (.slice Ao13 y1325.length co13), (.slice Ao12 y1328.length co12), (by first | rfl | (simp; done) | (simp [*]; done)), H', ⟨Nat.le_refl _⟩, ⟨by (with_reducible repeat (first | apply Kd.R_alloc | apply Kd.R_drewN | apply Kd.R_drew)); exact Kd.R_mono (Kd.R_far (p := ⟨gb1331, 1, none⟩) (Kd.R_far (p := ⟨gb1331, 0, none⟩) (Kd.R_types HO1327.out BK1331.out (by decide)) (fun _ hk => hk.2) (.slice Ao13 y1325.length co13)) (fun _ hk => hk.2) (.slice Ao12 y1328.length co12)) (fun _ hk => hk.1.2)⟩, ⟨by (with_reducible repeat (first | apply Kd.R_alloc | apply Kd.R_drewN | apply Kd.R_drew)); exact Kd.R_mono (Kd.R_far (p := ⟨gb1331, 1, none⟩) (Kd.R_far (p := ⟨gb1331, 0, none⟩) (Kd.R_types HO1330.out BK1331.out (by decide)) (fun _ hk => hk.2) (.slice Ao13 y1325.length co13)) (fun _ hk => hk.2) (.slice Ao12 y1328.length co12)) (fun _ hk => hk.1.2)⟩, ⟨by (with_reducible repeat (first | refine blk_drewN ?_ _ | refine blk_drew ?_ | refine blk_alloc ?_ _)); refine blk_far ?_ NB1323_1331.out _; (with_reducible repeat (first | refine blk_drewN ?_ _ | refine blk_drew ?_ | refine blk_alloc ?_ _)); refine blk_far ?_ NB1323_1331.out _; (with_reducible repeat (first | refine blk_drewN ?_ _ | refine blk_drew ?_ | refine blk_alloc ?_ _)); exact BK1323.out⟩, ⟨by (with_reducible repeat (first | refine blk_drewN ?_ _ | refine blk_drew ?_ | refine blk_alloc ?_ _)); refine blk_put (cs := #[.slice Ao13 y1325.length co13, .slice none 0 0]) ?_ 1 _ rfl; (with_reducible repeat (first | refine blk_drewN ?_ _ | refine blk_drew ?_ | refine blk_alloc ?_ _)); refine blk_put (cs := #[.slice none 0 0, .slice none 0 0]) ?_ 0 _ rfl; (with_reducible repeat (first | refine blk_drewN ?_ _ | refine blk_drew ?_ | refine blk_alloc ?_ _)); exact BK1331.out⟩, ⟨by repeat (first | (with_reducible first | exact HB.out | apply below_alloc | apply pw_below_drewN | apply below_drew1 | refine below_set ?_ GE1323.out | refine below_set ?_ GE1331.out) | exact HB.out)⟩⟩
         case round =>
          clear H'
          try clear c1
          try clear p2
          try clear c3
          try clear c3b0
          try clear c4
          try clear c4b0
          try clear c6
          try clear c6b0
          try clear c6b1
          try clear p6
          try clear c7
          try clear c7b0
          try clear c7b1
          try clear c13
          try clear c15
          try clear hcz16_0
          try clear hcz16_1
          try clear hfz16_0
          try clear hfz16_1
          try clear p2
          obtain ⟨x6_3, x1332000_3, x1332001_3, u1332000, u1332001, rfl, HA, HK3, HO_1332000, HO_1332001, BK1323, BK1331, HB⟩ := hrel
          cases gk with
          | zero => exact absurd HA.out (by simp [graduslaw5_GateTies.l2])
          | succ k3 =>
           have H := HA.out
           clear HA
           simp only [graduslaw5_GateTies.l2] at H
           by_cases c17 : x6_3 < (wrap64 (2 * x3_1))
           ·rw [if_pos c17] at H
            have c17b0 : decide (x6_3 < (wrap64 (2 * x3_1))) = true := decide_eq_true c17
            clear c17
            (try (have c17b8_16 := c17b0; rw [hji5] at c17b8_16))
            by_cases c18 : 0 ≤ x6_3
            ·rw [if_pos c18] at H
             have c18b0 : decide (0 ≤ x6_3) = true := decide_eq_true c18
             clear c18
             by_cases c19 : x6_3 < (x1332001_3.length : Int)
             ·rw [if_pos c19] at H
              have c19b0 : decide (x6_3 < (x1332001_3.length : Int)) = true := decide_eq_true c19
              clear c19
              obtain ⟨y1332, hy1332⟩ : ∃ y_ : List Int, y_ = (x1332001_3.set (x6_3 : Int).toNat (wrap64 ((-9) - (l0_0.length : Int)))) := ⟨_, rfl⟩
              replace H : (if x3_1 = 0 then (none) else (if (x6_3 % x3_1) ≥ x4_2 then (graduslaw5_GateTies.l2 k3 x3_1 x4_2 (wrap64 (x6_3 + 1)) l0_0 l0_1 x1332000_3 (y1332.set (x6_3 : Int).toNat 5)) else (graduslaw5_GateTies.l2 k3 x3_1 x4_2 (wrap64 (x6_3 + 1)) l0_0 l0_1 x1332000_3 y1332))) = some r := by first | (rw [hy1332]; with_reducible exact H) | (have H2_ := (Option.bind_some _ _).symm.trans H; rw [hy1332]; with_reducible exact H2_) | (have H2_ := (Option.bind_some _ _).symm.trans H; with_reducible exact H2_) | with_reducible exact H | (rw [hy1332]; exact H) | exact H
              have Ny1332 := Aside0.mk hy1332
              clear hy1332
              by_cases c21 : x3_1 = 0
              ·rw [if_pos c21] at H
               exact absurd H (by simp)
              ·rw [if_neg c21] at H
               have c21b0 : (x3_1 == 0) = false := beq_eq_false_iff_ne.mpr c21
               have c21b1 : (x3_1 != 0) = true := bne_iff_ne.mpr c21
               (try have c22m : 0 ≤ (x6_3 : Int) := of_decide_eq_true (by first | (with_reducible assumption) | assumption))
               by_cases c22 : (x6_3 % x3_1) ≥ x4_2
               ·rw [if_pos c22] at H
                have c22b0 : decide (x4_2 ≤ (x6_3 % x3_1)) = true := decide_eq_true c22
                clear c22
                obtain ⟨y1333, hy1333⟩ : ∃ y_ : List Int, y_ = (y1332.set (x6_3 : Int).toNat 5) := ⟨_, rfl⟩
                replace H : (graduslaw5_GateTies.l2 k3 x3_1 x4_2 (wrap64 (x6_3 + 1)) l0_0 l0_1 x1332000_3 y1333) = some r := by first | (rw [hy1333]; with_reducible exact H) | (have H2_ := (Option.bind_some _ _).symm.trans H; rw [hy1333]; with_reducible exact H2_) | (have H2_ := (Option.bind_some _ _).symm.trans H; with_reducible exact H2_) | with_reducible exact H | (rw [hy1333]; exact H) | exact H
                have Ny1333 := Aside0.mk hy1333
                clear hy1333
                have H' := Aside0.mk H
                clear H
                have hnb24 := NB1331_1323.out
                have hnc24 := NB1323_1331.out
                have hcz25_0 : wr.cell? ⟨gb1331, 0, none⟩ = some (u1332000) := (blk_cell BK1331.out 0).trans rfl
                have hcz25_1 : wr.cell? ⟨gb1331, 1, none⟩ = some (u1332001) := (blk_cell BK1331.out 1).trans rfl
                have hfz25_0 := blk_frozen BK1331.out 0
                have hfz25_1 := blk_frozen BK1331.out 1
                have hcz26_0 : wr.cell? ⟨gb1323, 0, none⟩ = some (.slice A0_0 l0_0.length c0_0) := (blk_cell BK1323.out 0).trans rfl
                have hcz26_1 : wr.cell? ⟨gb1323, 1, none⟩ = some (.slice A0_1 l0_1.length c0_1) := (blk_cell BK1323.out 1).trans rfl
                have hfz26_0 := blk_frozen BK1323.out 0
                have hfz26_1 := blk_frozen BK1323.out 1
                have p20 : 0 ≤ (x6_3 : Int) := of_decide_eq_true (by first | (with_reducible assumption) | assumption)
                have q20 : (x6_3 : Int) < ((x1332001_3.length : Int) : Int) := of_decide_eq_true (by first | (with_reducible assumption) | assumption)
                obtain ⟨go20, co20, eo20, gb20, gl20, cl20, HG20⟩ := Kd.R_form HO_1332001.out (by omega)
                (first | cases eo20 | (injection eo20 with ea_ en_ ec_; (first | subst ea_ | (injection ea_ with ea_; subst ea_)); subst ec_; clear en_))
                have GB20 := Aside0.mk gb20
                have GG20 := Aside0.mk HG20
                clear gb20 gl20 HG20
                obtain ⟨hx20_0, hf20_0⟩ := Kd.R_celln 0 HO_1332001.out (x6_3 : Int) p20 q20
                replace p20 := eq_true p20
                replace q20 := eq_true q20
                have HP27 := Kd.R_putg HO_1332001.out (x6_3 : Int) (wrap64 ((-9) - (l0_0.length : Int)))
                go_wp2_with (first | ((with_reducible refine gate_store (t := 3) (p := 42) rfl ?_); refine store_event (t := 3) (p := 42) (v := ?vo_w28) (w1 := (wr.setCell ⟨go20, (x6_3 : Int).toNat, none⟩ (.int .i64 (wrap64 ((-9) - (l0_0.length : Int)))))) ?hg ?ho ?hn ?hr ?_; (case ho => rfl); (case hg => rfl); (case hn => rfl); (case hr => first | (go_simp; done) | (go_simp; rfl)); intro w28 hw; have hg : wr.grownBy w28 (some go20) := (by rw [hw]; exact HP27.2); have hp_ : Kd.R (Kd.int .i64) 3 w28 w.heap.size (fun k_ => some k_ ≠ (u1332000 : Value).ownBlock) (.slice (some ⟨go20, 0, none⟩) x1332001_3.length co20) y1332 := (by rw [hw, Ny1332.out]; exact HP27.1); clear HP27; have n0_ := Aside0.mk (Kd.R_after (v := (.slice (some ⟨go20, 0, none⟩) x1332001_3.length co20)) (v1 := (.slice (some ⟨go20, 0, none⟩) x1332001_3.length co20)) (ok := (fun _ => True)) (by (with_reducible repeat (first | apply Kd.R_alloc | apply Kd.R_drewN | apply Kd.R_drew)); exact Kd.R_mono HO_1332000.out (fun _ hk => ⟨trivial, hk⟩)) hg (.inl rfl)); have n1_ := Aside0.mk (hp_); have n2_ := Aside0.mk (blk_grown (g := gb1323) (o := .cells #[.slice A0_0 l0_0.length c0_0, .slice A0_1 l0_1.length c0_1] 46 (0, 0)) (by (with_reducible repeat (first | refine blk_drewN ?_ _ | refine blk_drew ?_ | refine blk_alloc ?_ _)); exact BK1323.out) hg (Kd.R_ne HO_1332001.out BK1323.out (by decide))); have n3_ := Aside0.mk (blk_grown (g := gb1331) (o := .cells #[u1332000, .slice (some ⟨go20, 0, none⟩) x1332001_3.length co20] 34 (0, 0)) (by (with_reducible repeat (first | refine blk_drewN ?_ _ | refine blk_drew ?_ | refine blk_alloc ?_ _)); exact BK1331.out) hg (Kd.R_ne HO_1332001.out BK1331.out (by decide))); have n4_ := Aside0.mk ((by rw [hw]; exact below_set (HB.out) GB20.out : Below w.heap.size w w28)); clear HO_1332000; clear HO_1332001; clear BK1323; clear BK1331; clear HB; have HO_1332000 := n0_; have HO_1332001 := n1_; have BK1323 := n2_; have BK1331 := n3_; have HB := n4_; clear n0_ n1_ n2_ n3_ n4_; clear hg hw hp_; have hcz29_0 : w28.cell? ⟨gb1331, 0, none⟩ = some (u1332000) := (blk_cell BK1331.out 0).trans rfl; have hcz29_1 : w28.cell? ⟨gb1331, 1, none⟩ = some (.slice (some ⟨go20, 0, none⟩) x1332001_3.length co20) := (blk_cell BK1331.out 1).trans rfl; have hfz29_0 := blk_frozen BK1331.out 0; have hfz29_1 := blk_frozen BK1331.out 1; have p23 : 0 ≤ (x6_3 : Int) := of_decide_eq_true (by first | (with_reducible assumption) | assumption); have q23 : (x6_3 : Int) < ((x1332001_3.length : Int) : Int) := of_decide_eq_true (by first | (with_reducible assumption) | assumption); obtain ⟨hx23_0, hf23_0⟩ := Kd.R_celln 0 HO_1332001.out (x6_3 : Int) p23 q23; replace p23 := eq_true p23; replace q23 := eq_true q23; obtain ⟨hy30_, hz30_⟩ := Kd.R_celln 0 HO_1332001.out (x6_3 : Int) (of_decide_eq_true (by first | (with_reducible assumption) | assumption)) (of_decide_eq_true (by first | (with_reducible assumption) | assumption)); have HP30 := Kd.R_putg HO_1332001.out (x6_3 : Int) 5) | ((with_reducible refine gate_store (t := 3) (p := 51) rfl ?_); refine store_event (t := 3) (p := 51) (v := ?vo_w31) (w1 := (w28.setCell ⟨go20, (x6_3 : Int).toNat, none⟩ (.int .i64 5))) ?hg ?ho ?hn ?hr ?_; (case ho => rfl); (case hg => rfl); (case hn => rfl); (case hr => first | (go_simp; done) | (go_simp; rfl)); intro w31 hw; have hg : w28.grownBy w31 (some go20) := (by rw [hw]; exact HP30.2); have hp_ : Kd.R (Kd.int .i64) 3 w31 w.heap.size (fun k_ => some k_ ≠ (u1332000 : Value).ownBlock) (.slice (some ⟨go20, 0, none⟩) x1332001_3.length co20) y1333 := (by rw [hw, Ny1333.out]; exact HP30.1); clear HP30; have n0_ := Aside0.mk (Kd.R_after (v := (.slice (some ⟨go20, 0, none⟩) x1332001_3.length co20)) (v1 := (.slice (some ⟨go20, 0, none⟩) x1332001_3.length co20)) (ok := (fun _ => True)) (by (with_reducible repeat (first | apply Kd.R_alloc | apply Kd.R_drewN | apply Kd.R_drew)); exact HO_1332000.out) hg (.inl rfl)); have n1_ := Aside0.mk (hp_); have n2_ := Aside0.mk (blk_grown (g := gb1323) (o := .cells #[.slice A0_0 l0_0.length c0_0, .slice A0_1 l0_1.length c0_1] 46 (0, 0)) (by (with_reducible repeat (first | refine blk_drewN ?_ _ | refine blk_drew ?_ | refine blk_alloc ?_ _)); exact BK1323.out) hg (Kd.R_ne HO_1332001.out BK1323.out (by decide))); have n3_ := Aside0.mk (blk_grown (g := gb1331) (o := .cells #[u1332000, .slice (some ⟨go20, 0, none⟩) x1332001_3.length co20] 34 (0, 0)) (by (with_reducible repeat (first | refine blk_drewN ?_ _ | refine blk_drew ?_ | refine blk_alloc ?_ _)); exact BK1331.out) hg (Kd.R_ne HO_1332001.out BK1331.out (by decide))); have n4_ := Aside0.mk ((by rw [hw]; exact below_set (HB.out) GB20.out : Below w.heap.size w w31)); clear HO_1332000; clear HO_1332001; clear BK1323; clear BK1331; clear HB; have HO_1332000 := n0_; have HO_1332001 := n1_; have BK1323 := n2_; have BK1331 := n3_; have HB := n4_; clear n0_ n1_ n2_ n3_ n4_; clear hg hw hp_))
                go_roundg k3
                case measure => have := HK1.out; have := HK2.out; have := HK3.out; omega
                case rel => exact ⟨(wrap64 (x6_3 + 1)), (x1332000_3), (y1333), (u1332000), (.slice (some ⟨go20, 0, none⟩) x1332001_3.length co20), (by first | rfl | (simp; done) | (simp [*]; done)), H', ⟨by have := HK1.out; have := HK2.out; have := HK3.out; omega⟩, ⟨by (with_reducible repeat (first | apply Kd.R_alloc | apply Kd.R_drewN | apply Kd.R_drew)); exact Kd.R_mono HO_1332000.out (fun _ hk => hk.2)⟩, ⟨by (with_reducible repeat (first | apply Kd.R_alloc | apply Kd.R_drewN | apply Kd.R_drew)); exact HO_1332001.out⟩, ⟨by (with_reducible repeat (first | refine blk_drewN ?_ _ | refine blk_drew ?_ | refine blk_alloc ?_ _)); exact BK1323.out⟩, ⟨by (with_reducible repeat (first | refine blk_drewN ?_ _ | refine blk_drew ?_ | refine blk_alloc ?_ _)); exact BK1331.out⟩, ⟨by repeat (first | (with_reducible first | exact HB.out | apply below_alloc | apply pw_below_drewN | apply below_drew1 | refine below_set ?_ GE1323.out | refine below_set ?_ GE1331.out) | exact HB.out)⟩⟩
               ·rw [if_neg c22] at H
                have c22b0 : decide (x4_2 ≤ (x6_3 % x3_1)) = false := decide_eq_false c22
                clear c22
                have H' := Aside0.mk H
                clear H
                have hnb32 := NB1331_1323.out
                have hnc32 := NB1323_1331.out
                have hcz33_0 : wr.cell? ⟨gb1331, 0, none⟩ = some (u1332000) := (blk_cell BK1331.out 0).trans rfl
                have hcz33_1 : wr.cell? ⟨gb1331, 1, none⟩ = some (u1332001) := (blk_cell BK1331.out 1).trans rfl
                have hfz33_0 := blk_frozen BK1331.out 0
                have hfz33_1 := blk_frozen BK1331.out 1
                have hcz34_0 : wr.cell? ⟨gb1323, 0, none⟩ = some (.slice A0_0 l0_0.length c0_0) := (blk_cell BK1323.out 0).trans rfl
                have hcz34_1 : wr.cell? ⟨gb1323, 1, none⟩ = some (.slice A0_1 l0_1.length c0_1) := (blk_cell BK1323.out 1).trans rfl
                have hfz34_0 := blk_frozen BK1323.out 0
                have hfz34_1 := blk_frozen BK1323.out 1
                have p20 : 0 ≤ (x6_3 : Int) := of_decide_eq_true (by first | (with_reducible assumption) | assumption)
                have q20 : (x6_3 : Int) < ((x1332001_3.length : Int) : Int) := of_decide_eq_true (by first | (with_reducible assumption) | assumption)
                obtain ⟨go20, co20, eo20, gb20, gl20, cl20, HG20⟩ := Kd.R_form HO_1332001.out (by omega)
                (first | cases eo20 | (injection eo20 with ea_ en_ ec_; (first | subst ea_ | (injection ea_ with ea_; subst ea_)); subst ec_; clear en_))
                have GB20 := Aside0.mk gb20
                have GG20 := Aside0.mk HG20
                clear gb20 gl20 HG20
                obtain ⟨hx20_0, hf20_0⟩ := Kd.R_celln 0 HO_1332001.out (x6_3 : Int) p20 q20
                replace p20 := eq_true p20
                replace q20 := eq_true q20
                have HP35 := Kd.R_putg HO_1332001.out (x6_3 : Int) (wrap64 ((-9) - (l0_0.length : Int)))
                go_wp2_with (first | ((with_reducible refine gate_store (t := 3) (p := 42) rfl ?_); refine store_event (t := 3) (p := 42) (v := ?vo_w36) (w1 := (wr.setCell ⟨go20, (x6_3 : Int).toNat, none⟩ (.int .i64 (wrap64 ((-9) - (l0_0.length : Int)))))) ?hg ?ho ?hn ?hr ?_; (case ho => rfl); (case hg => rfl); (case hn => rfl); (case hr => first | (go_simp; done) | (go_simp; rfl)); intro w36 hw; have hg : wr.grownBy w36 (some go20) := (by rw [hw]; exact HP35.2); have hp_ : Kd.R (Kd.int .i64) 3 w36 w.heap.size (fun k_ => some k_ ≠ (u1332000 : Value).ownBlock) (.slice (some ⟨go20, 0, none⟩) x1332001_3.length co20) y1332 := (by rw [hw, Ny1332.out]; exact HP35.1); clear HP35; have n0_ := Aside0.mk (Kd.R_after (v := (.slice (some ⟨go20, 0, none⟩) x1332001_3.length co20)) (v1 := (.slice (some ⟨go20, 0, none⟩) x1332001_3.length co20)) (ok := (fun _ => True)) (by (with_reducible repeat (first | apply Kd.R_alloc | apply Kd.R_drewN | apply Kd.R_drew)); exact Kd.R_mono HO_1332000.out (fun _ hk => ⟨trivial, hk⟩)) hg (.inl rfl)); have n1_ := Aside0.mk (hp_); have n2_ := Aside0.mk (blk_grown (g := gb1323) (o := .cells #[.slice A0_0 l0_0.length c0_0, .slice A0_1 l0_1.length c0_1] 46 (0, 0)) (by (with_reducible repeat (first | refine blk_drewN ?_ _ | refine blk_drew ?_ | refine blk_alloc ?_ _)); exact BK1323.out) hg (Kd.R_ne HO_1332001.out BK1323.out (by decide))); have n3_ := Aside0.mk (blk_grown (g := gb1331) (o := .cells #[u1332000, .slice (some ⟨go20, 0, none⟩) x1332001_3.length co20] 34 (0, 0)) (by (with_reducible repeat (first | refine blk_drewN ?_ _ | refine blk_drew ?_ | refine blk_alloc ?_ _)); exact BK1331.out) hg (Kd.R_ne HO_1332001.out BK1331.out (by decide))); have n4_ := Aside0.mk ((by rw [hw]; exact below_set (HB.out) GB20.out : Below w.heap.size w w36)); clear HO_1332000; clear HO_1332001; clear BK1323; clear BK1331; clear HB; have HO_1332000 := n0_; have HO_1332001 := n1_; have BK1323 := n2_; have BK1331 := n3_; have HB := n4_; clear n0_ n1_ n2_ n3_ n4_; clear hg hw hp_))
                go_roundg k3
                case measure => have := HK1.out; have := HK2.out; have := HK3.out; omega
                case rel => exact ⟨(wrap64 (x6_3 + 1)), (x1332000_3), (y1332), (u1332000), (.slice (some ⟨go20, 0, none⟩) x1332001_3.length co20), (by first | rfl | (simp; done) | (simp [*]; done)), H', ⟨by have := HK1.out; have := HK2.out; have := HK3.out; omega⟩, ⟨by (with_reducible repeat (first | apply Kd.R_alloc | apply Kd.R_drewN | apply Kd.R_drew)); exact Kd.R_mono HO_1332000.out (fun _ hk => hk.2)⟩, ⟨by (with_reducible repeat (first | apply Kd.R_alloc | apply Kd.R_drewN | apply Kd.R_drew)); exact HO_1332001.out⟩, ⟨by (with_reducible repeat (first | refine blk_drewN ?_ _ | refine blk_drew ?_ | refine blk_alloc ?_ _)); exact BK1323.out⟩, ⟨by (with_reducible repeat (first | refine blk_drewN ?_ _ | refine blk_drew ?_ | refine blk_alloc ?_ _)); exact BK1331.out⟩, ⟨by repeat (first | (with_reducible first | exact HB.out | apply below_alloc | apply pw_below_drewN | apply below_drew1 | refine below_set ?_ GE1323.out | refine below_set ?_ GE1331.out) | exact HB.out)⟩⟩
             ·rw [if_neg c19] at H
              exact absurd H (by simp)
            ·rw [if_neg c18] at H
             exact absurd H (by simp)
           ·rw [if_neg c17] at H
            have c17b0 : decide (x6_3 < (wrap64 (2 * x3_1))) = false := decide_eq_false c17
            clear c17
            (try (have c17b8_16 := c17b0; rw [hji5] at c17b8_16))
            replace H := Option.bind_eq_some_iff.mp H
            obtain ⟨⟨t1334, t1337, t1340⟩, A370, H⟩ := H
            replace H : ((gate_Pick.f k3 x1332000_3 x1332001_3 (([2, 1] : List Int)) (([3, 4] : List Int)) x3_1).bind fun bt1349 => ((graduslaw5_num.f t1340).bind fun t1357 => (if t1357 = 0 then ((graduslaw5_num.f bt1349.2.2).bind fun t1358 => (if t1358 = 0 then ((gradusref0_EqNumbers.f k3 t1337 (([5, 5] : List Int))).bind fun t1362 => (if t1362 = true then (graduslaw5_GateTies.j3 k3 x3_1 x4_2 ((bt1349.2.1.length : Int) != (wrap64 (2 * x3_1))) l0_0 l0_1 bt1349.1 bt1349.2.1) else (graduslaw5_GateTies.j3 k3 x3_1 x4_2 true l0_0 l0_1 bt1349.1 bt1349.2.1))) else (graduslaw5_GateTies.j3 k3 x3_1 x4_2 true l0_0 l0_1 bt1349.1 bt1349.2.1))) else (graduslaw5_GateTies.j3 k3 x3_1 x4_2 true l0_0 l0_1 bt1349.1 bt1349.2.1)))) = some r := H
            have A37 := Aside0.mk A370
            clear A370
            obtain ⟨y1342, hy1342⟩ : ∃ y_ : List Int, y_ = (([2, 1] : List Int)) := ⟨_, rfl⟩
            replace H : ((gate_Pick.f k3 x1332000_3 x1332001_3 y1342 (([3, 4] : List Int)) x3_1).bind fun bt1349 => ((graduslaw5_num.f t1340).bind fun t1357 => (if t1357 = 0 then ((graduslaw5_num.f bt1349.2.2).bind fun t1358 => (if t1358 = 0 then ((gradusref0_EqNumbers.f k3 t1337 (([5, 5] : List Int))).bind fun t1362 => (if t1362 = true then (graduslaw5_GateTies.j3 k3 x3_1 x4_2 ((bt1349.2.1.length : Int) != (wrap64 (2 * x3_1))) l0_0 l0_1 bt1349.1 bt1349.2.1) else (graduslaw5_GateTies.j3 k3 x3_1 x4_2 true l0_0 l0_1 bt1349.1 bt1349.2.1))) else (graduslaw5_GateTies.j3 k3 x3_1 x4_2 true l0_0 l0_1 bt1349.1 bt1349.2.1))) else (graduslaw5_GateTies.j3 k3 x3_1 x4_2 true l0_0 l0_1 bt1349.1 bt1349.2.1)))) = some r := by first | (rw [hy1342]; with_reducible exact H) | (have H2_ := (Option.bind_some _ _).symm.trans H; rw [hy1342]; with_reducible exact H2_) | (have H2_ := (Option.bind_some _ _).symm.trans H; with_reducible exact H2_) | with_reducible exact H | (rw [hy1342]; exact H) | exact H
            have Ny1342 := Aside0.mk hy1342
            clear hy1342
            obtain ⟨y1345, hy1345⟩ : ∃ y_ : List Int, y_ = (([3, 4] : List Int)) := ⟨_, rfl⟩
            replace H : ((gate_Pick.f k3 x1332000_3 x1332001_3 y1342 y1345 x3_1).bind fun bt1349 => ((graduslaw5_num.f t1340).bind fun t1357 => (if t1357 = 0 then ((graduslaw5_num.f bt1349.2.2).bind fun t1358 => (if t1358 = 0 then ((gradusref0_EqNumbers.f k3 t1337 (([5, 5] : List Int))).bind fun t1362 => (if t1362 = true then (graduslaw5_GateTies.j3 k3 x3_1 x4_2 ((bt1349.2.1.length : Int) != (wrap64 (2 * x3_1))) l0_0 l0_1 bt1349.1 bt1349.2.1) else (graduslaw5_GateTies.j3 k3 x3_1 x4_2 true l0_0 l0_1 bt1349.1 bt1349.2.1))) else (graduslaw5_GateTies.j3 k3 x3_1 x4_2 true l0_0 l0_1 bt1349.1 bt1349.2.1))) else (graduslaw5_GateTies.j3 k3 x3_1 x4_2 true l0_0 l0_1 bt1349.1 bt1349.2.1)))) = some r := by first | (rw [hy1345]; with_reducible exact H) | (have H2_ := (Option.bind_some _ _).symm.trans H; rw [hy1345]; with_reducible exact H2_) | (have H2_ := (Option.bind_some _ _).symm.trans H; with_reducible exact H2_) | with_reducible exact H | (rw [hy1345]; exact H) | exact H
            have Ny1345 := Aside0.mk hy1345
            clear hy1345
            replace H := Option.bind_eq_some_iff.mp H
            obtain ⟨⟨t1349, t1352, t1355⟩, A380, H⟩ := H
            replace H : ((graduslaw5_num.f t1340).bind fun t1357 => (if t1357 = 0 then ((graduslaw5_num.f t1355).bind fun t1358 => (if t1358 = 0 then ((gradusref0_EqNumbers.f k3 t1337 (([5, 5] : List Int))).bind fun t1362 => (if t1362 = true then (graduslaw5_GateTies.j3 k3 x3_1 x4_2 ((t1352.length : Int) != (wrap64 (2 * x3_1))) l0_0 l0_1 t1349 t1352) else (graduslaw5_GateTies.j3 k3 x3_1 x4_2 true l0_0 l0_1 t1349 t1352))) else (graduslaw5_GateTies.j3 k3 x3_1 x4_2 true l0_0 l0_1 t1349 t1352))) else (graduslaw5_GateTies.j3 k3 x3_1 x4_2 true l0_0 l0_1 t1349 t1352))) = some r := H
            have A38 := Aside0.mk A380
            clear A380
            have HC39 := Aside0.mk H
            clear H
            have hnb40 := NB1331_1323.out
            have hnc40 := NB1323_1331.out
            have hcz41_0 : wr.cell? ⟨gb1331, 0, none⟩ = some (u1332000) := (blk_cell BK1331.out 0).trans rfl
            have hcz41_1 : wr.cell? ⟨gb1331, 1, none⟩ = some (u1332001) := (blk_cell BK1331.out 1).trans rfl
            have hfz41_0 := blk_frozen BK1331.out 0
            have hfz41_1 := blk_frozen BK1331.out 1
            obtain ⟨Ao42, co42, eo42⟩ := Kd.R_slice HO_1332000.out
            subst eo42
            obtain ⟨Ao43, co43, eo43⟩ := Kd.R_slice HO_1332001.out
            subst eo43
            go_upto_region 17 with (first | ((with_reducible refine gate_callee (f := 68) rfl ?_); refine goesL_ (some 55) rfl rfl Try.func68 (by kernel_rfl) rfl #[.agg #[.slice Ao42 x1332000_3.length co42, .slice Ao43 x1332001_3.length co43], .int .i64 x3_1] rfl (by (try simp only [List.map_toArray, List.map_cons, List.map_nil]); first | done | rfl | (simp only [List.length_drop, List.length_take]; rfl)) ?_; (with_reducible refine (gate_Max.calls k3 _ _ x1332000_3 _ _ x1332001_3 x3_1 t1334 t1337 t1340 _ ?side1 ?side2 ?side3 ?side4 A37.out).mono ?_); (case side1 => repeat (first | exact (Kd.R_reads' HO_1332000.out).2.2 | (with_reducible refine Kd.C_alloc ?_ _) | (with_reducible refine Kd.C_drewN ?_ _) | (with_reducible refine Kd.C_drew ?_))); (case side2 => exact (Kd.R_reads' HO_1332000.out).2.1); (case side3 => repeat (first | exact (Kd.R_reads' HO_1332001.out).2.2 | (with_reducible refine Kd.C_alloc ?_ _) | (with_reducible refine Kd.C_drewN ?_ _) | (with_reducible refine Kd.C_drew ?_))); (case side4 => exact (Kd.R_reads' HO_1332001.out).2.1); rintro e w44 ⟨v1335, v1338, rfl, ho0, ho1, hb⟩; refine ⟨_, rfl, ?_⟩; have n0_ := Aside0.mk (Kd.R_mono (Kd.R_told (Kd.R_told (Kd.R_old (by (with_reducible repeat (first | apply Kd.R_alloc | apply Kd.R_drewN | apply Kd.R_drew)); exact HO_1332000.out) hb) (Kd.R_base ho0)) (Kd.R_base ho1)) (fun _ h_ => h_.1)); have n1_ := Aside0.mk (Kd.R_mono (Kd.R_told (Kd.R_told (Kd.R_old (by (with_reducible repeat (first | apply Kd.R_alloc | apply Kd.R_drewN | apply Kd.R_drew)); exact HO_1332001.out) hb) (Kd.R_base ho0)) (Kd.R_base ho1)) (fun _ h_ => h_.1)); have n2_ := Aside0.mk (Kd.R_lower (Kd.R_new' (Kd.R_new' ho0 (Kd.R_lt (by (with_reducible repeat (first | apply Kd.R_alloc | apply Kd.R_drewN | apply Kd.R_drew)); exact HO_1332000.out))) (Kd.R_lt (by (with_reducible repeat (first | apply Kd.R_alloc | apply Kd.R_drewN | apply Kd.R_drew)); exact HO_1332001.out))) (below_size (by repeat (first | (with_reducible first | exact HB.out | apply below_alloc | apply pw_below_drewN | apply below_drew1 | refine below_set ?_ GE1323.out | refine below_set ?_ GE1331.out) | exact HB.out)))); have n3_ := Aside0.mk (Kd.R_lower (Kd.R_new' (Kd.R_new' ho1 (Kd.R_lt (by (with_reducible repeat (first | apply Kd.R_alloc | apply Kd.R_drewN | apply Kd.R_drew)); exact HO_1332000.out))) (Kd.R_lt (by (with_reducible repeat (first | apply Kd.R_alloc | apply Kd.R_drewN | apply Kd.R_drew)); exact HO_1332001.out))) (below_size (by repeat (first | (with_reducible first | exact HB.out | apply below_alloc | apply pw_below_drewN | apply below_drew1 | refine below_set ?_ GE1323.out | refine below_set ?_ GE1331.out) | exact HB.out)))); have n4_ := Aside0.mk (blk_below (g := gb1323) (o := .cells #[.slice A0_0 l0_0.length c0_0, .slice A0_1 l0_1.length c0_1] 46 (0, 0)) (by (with_reducible repeat (first | refine blk_drewN ?_ _ | refine blk_drew ?_ | refine blk_alloc ?_ _)); exact BK1323.out) hb); have n5_ := Aside0.mk (blk_below (g := gb1331) (o := .cells #[.slice Ao42 x1332000_3.length co42, .slice Ao43 x1332001_3.length co43] 34 (0, 0)) (by (with_reducible repeat (first | refine blk_drewN ?_ _ | refine blk_drew ?_ | refine blk_alloc ?_ _)); exact BK1331.out) hb); have n6_ := Aside0.mk (below_step (by repeat (first | (with_reducible first | exact HB.out | apply below_alloc | apply pw_below_drewN | apply below_drew1 | refine below_set ?_ GE1323.out | refine below_set ?_ GE1331.out) | exact HB.out)) hb); clear HO_1332000; clear HO_1332001; clear BK1323; clear BK1331; clear HB; have HO_1332000 := n0_; have HO_1332001 := n1_; have HO1336 := n2_; have HO1339 := n3_; have BK1323 := n4_; have BK1331 := n5_; have HB := n6_; clear n0_ n1_ n2_ n3_ n4_ n5_ n6_; (try clear hb); (try clear hb2); (try clear hk); (try clear hi); (try clear ho0); (try clear ho1)) | ((with_reducible refine gate_dst (N := 7) rfl ?_); (try (refine gate_guard (by rfl) ?_; dsimp only)); refine box_event ?hg (N := 7) ?hd (cs := #[.slice none 0 0, .slice none 0 0]) (t := 34) ?hr ?_; (case hd => rfl); (case hg => rfl); (case hr => first | (go_simp; done) | (go_simp; rfl)); intro gb1341 hg w45 hbox hb; have n0_ := Aside0.mk (Kd.R_below (by (with_reducible repeat (first | apply Kd.R_alloc | apply Kd.R_drewN | apply Kd.R_drew)); exact HO_1332000.out) hb); have n1_ := Aside0.mk (Kd.R_below (by (with_reducible repeat (first | apply Kd.R_alloc | apply Kd.R_drewN | apply Kd.R_drew)); exact HO_1332001.out) hb); have n2_ := Aside0.mk (Kd.R_below (by (with_reducible repeat (first | apply Kd.R_alloc | apply Kd.R_drewN | apply Kd.R_drew)); exact HO1336.out) hb); have n3_ := Aside0.mk (Kd.R_below (by (with_reducible repeat (first | apply Kd.R_alloc | apply Kd.R_drewN | apply Kd.R_drew)); exact HO1339.out) hb); have n4_ := Aside0.mk (blk_below (g := gb1323) (o := .cells #[.slice A0_0 l0_0.length c0_0, .slice A0_1 l0_1.length c0_1] 46 (0, 0)) (by (with_reducible repeat (first | refine blk_drewN ?_ _ | refine blk_drew ?_ | refine blk_alloc ?_ _)); exact BK1323.out) hb); have n5_ := Aside0.mk (blk_below (g := gb1331) (o := .cells #[.slice Ao42 x1332000_3.length co42, .slice Ao43 x1332001_3.length co43] 34 (0, 0)) (by (with_reducible repeat (first | refine blk_drewN ?_ _ | refine blk_drew ?_ | refine blk_alloc ?_ _)); exact BK1331.out) hb); have n6_ := Aside0.mk (below_step (by repeat (first | (with_reducible first | exact HB.out | apply below_alloc | apply pw_below_drewN | apply below_drew1 | refine below_set ?_ GE1323.out | refine below_set ?_ GE1331.out) | exact HB.out)) hb); have n7_ := Aside0.mk (hbox); have n8_ := Aside0.mk ((by rw [hg]; exact (below_size (by repeat (first | (with_reducible first | exact HB.out | apply below_alloc | apply pw_below_drewN | apply below_drew1 | refine below_set ?_ GE1323.out | refine below_set ?_ GE1331.out) | exact HB.out))) : w.heap.size ≤ gb1341)); have n9_ := Aside0.mk ((by rw [hg]; exact (below_size (by repeat (first | (with_reducible first | exact HB.out | apply below_alloc | apply pw_below_drewN | apply below_drew1 | refine below_set ?_ GE1323.out | refine below_set ?_ GE1331.out) | exact HB.out))) : w.heap.size ≤ gb1341)); have n10_ := Aside0.mk ((by rw [hg]; exact Nat.ne_of_lt (blk_lt (g := gb1323) (o := .cells #[.slice A0_0 l0_0.length c0_0, .slice A0_1 l0_1.length c0_1] 46 (0, 0)) (by (with_reducible repeat (first | refine blk_drewN ?_ _ | refine blk_drew ?_ | refine blk_alloc ?_ _)); exact BK1323.out)) : gb1323 ≠ gb1341)); have n11_ := Aside0.mk ((by rw [hg]; exact Nat.ne_of_gt (blk_lt (g := gb1323) (o := .cells #[.slice A0_0 l0_0.length c0_0, .slice A0_1 l0_1.length c0_1] 46 (0, 0)) (by (with_reducible repeat (first | refine blk_drewN ?_ _ | refine blk_drew ?_ | refine blk_alloc ?_ _)); exact BK1323.out)) : gb1341 ≠ gb1323)); have n12_ := Aside0.mk ((by rw [hg]; exact Nat.ne_of_lt (blk_lt (g := gb1331) (o := .cells #[.slice Ao42 x1332000_3.length co42, .slice Ao43 x1332001_3.length co43] 34 (0, 0)) (by (with_reducible repeat (first | refine blk_drewN ?_ _ | refine blk_drew ?_ | refine blk_alloc ?_ _)); exact BK1331.out)) : gb1331 ≠ gb1341)); have n13_ := Aside0.mk ((by rw [hg]; exact Nat.ne_of_gt (blk_lt (g := gb1331) (o := .cells #[.slice Ao42 x1332000_3.length co42, .slice Ao43 x1332001_3.length co43] 34 (0, 0)) (by (with_reducible repeat (first | refine blk_drewN ?_ _ | refine blk_drew ?_ | refine blk_alloc ?_ _)); exact BK1331.out)) : gb1341 ≠ gb1331)); clear HO_1332000; clear HO_1332001; clear HO1336; clear HO1339; clear BK1323; clear BK1331; clear HB; have HO_1332000 := n0_; have HO_1332001 := n1_; have HO1336 := n2_; have HO1339 := n3_; have BK1323 := n4_; have BK1331 := n5_; have HB := n6_; have BK1341 := n7_; have GW1341 := n8_; have GE1341 := n9_; have NB1323_1341 := n10_; have NB1341_1323 := n11_; have NB1331_1341 := n12_; have NB1341_1331 := n13_; clear n0_ n1_ n2_ n3_ n4_ n5_ n6_ n7_ n8_ n9_ n10_ n11_ n12_ n13_; clear hb hbox hg; obtain ⟨Ao46, co46, eo46⟩ := Kd.R_slice HO1336.out; subst eo46; have hnb47 := NB1341_1323.out; have hnc47 := NB1323_1341.out; have hnb48 := NB1341_1331.out; have hnc48 := NB1331_1341.out; have hcz49_0 : w45.cell? ⟨gb1341, 0, none⟩ = some (.slice none 0 0) := (blk_cell BK1341.out 0).trans rfl; have hcz49_1 : w45.cell? ⟨gb1341, 1, none⟩ = some (.slice none 0 0) := (blk_cell BK1341.out 1).trans rfl; have hfz49_0 := blk_frozen BK1341.out 0; have hfz49_1 := blk_frozen BK1341.out 1; obtain ⟨Ao50, co50, eo50⟩ := Kd.R_slice HO1339.out; subst eo50) | ((with_reducible refine gate_dst (N := 58) rfl ?_); (try (refine gate_guard (by rfl) ?_; dsimp only)); refine Kd.R_lit (Kd.int .i64) _ 3 ?hg (N := 58) ?hd (xs := ([2, 1] : List Int)) (inner := [.int .i64 2, .int .i64 1]) (ok := fun _ => True) (okp := fun _ => True) ?hr ?hp (fun _ hk => hk) trivial (Below.refl _ _) (Nat.le_refl _) (by simp) ?_; (case hd => rfl); (case hg => rfl); (case hr => first | (go_simp; done) | (go_simp; rfl)); (case hp => exact (Reps.one (show Kd.M (Kd.int .i64) _ _ _ 2 [.int .i64 2] from rfl) (Reps.one (show Kd.M (Kd.int .i64) _ _ _ 1 [.int .i64 1] from rfl) (Reps.none _ _)))); intro v1343 w51 ho52 hb hg_ hnew_; clear hg_ hnew_; (first | rw [← Ny1342.out] at ho52 | (simp only [Int.reduceToNat] at ho52; rw [← Ny1342.out] at ho52)); have n0_ := Aside0.mk (Kd.R_elder' (by (with_reducible repeat (first | apply Kd.R_alloc | apply Kd.R_drewN | apply Kd.R_drew)); exact (Kd.R_mono (Kd.R_far (p := ⟨gb1341, 1, none⟩) (Kd.R_far (p := ⟨gb1341, 0, none⟩) (Kd.R_types HO_1332000.out BK1341.out (by decide)) (fun _ hk => hk.2) (.slice Ao46 t1334.length co46)) (fun _ hk => hk.2) (.slice Ao50 t1337.length co50)) (fun _ h_ => h_.1))) (Kd.R_base ho52) hb); have n1_ := Aside0.mk (Kd.R_elder' (by (with_reducible repeat (first | apply Kd.R_alloc | apply Kd.R_drewN | apply Kd.R_drew)); exact (Kd.R_mono (Kd.R_far (p := ⟨gb1341, 1, none⟩) (Kd.R_far (p := ⟨gb1341, 0, none⟩) (Kd.R_types HO_1332001.out BK1341.out (by decide)) (fun _ hk => hk.2) (.slice Ao46 t1334.length co46)) (fun _ hk => hk.2) (.slice Ao50 t1337.length co50)) (fun _ h_ => h_.1))) (Kd.R_base ho52) hb); have n2_ := Aside0.mk (Kd.R_elder' (by (with_reducible repeat (first | apply Kd.R_alloc | apply Kd.R_drewN | apply Kd.R_drew)); exact (Kd.R_mono (Kd.R_far (p := ⟨gb1341, 1, none⟩) (Kd.R_far (p := ⟨gb1341, 0, none⟩) (Kd.R_types HO1336.out BK1341.out (by decide)) (fun _ hk => hk.2) (.slice Ao46 t1334.length co46)) (fun _ hk => hk.2) (.slice Ao50 t1337.length co50)) (fun _ h_ => h_.1))) (Kd.R_base ho52) hb); have n3_ := Aside0.mk (Kd.R_elder' (by (with_reducible repeat (first | apply Kd.R_alloc | apply Kd.R_drewN | apply Kd.R_drew)); exact (Kd.R_mono (Kd.R_far (p := ⟨gb1341, 1, none⟩) (Kd.R_far (p := ⟨gb1341, 0, none⟩) (Kd.R_types HO1339.out BK1341.out (by decide)) (fun _ hk => hk.2) (.slice Ao46 t1334.length co46)) (fun _ hk => hk.2) (.slice Ao50 t1337.length co50)) (fun _ h_ => h_.1))) (Kd.R_base ho52) hb); have n4_ := Aside0.mk (Kd.R_lower (Kd.R_new' (Kd.R_new' (Kd.R_new' (Kd.R_new' ho52 (Kd.R_lt (by (with_reducible repeat (first | apply Kd.R_alloc | apply Kd.R_drewN | apply Kd.R_drew)); exact (Kd.R_mono (Kd.R_far (p := ⟨gb1341, 1, none⟩) (Kd.R_far (p := ⟨gb1341, 0, none⟩) (Kd.R_types HO_1332000.out BK1341.out (by decide)) (fun _ hk => hk.2) (.slice Ao46 t1334.length co46)) (fun _ hk => hk.2) (.slice Ao50 t1337.length co50)) (fun _ h_ => h_.1))))) (Kd.R_lt (by (with_reducible repeat (first | apply Kd.R_alloc | apply Kd.R_drewN | apply Kd.R_drew)); exact (Kd.R_mono (Kd.R_far (p := ⟨gb1341, 1, none⟩) (Kd.R_far (p := ⟨gb1341, 0, none⟩) (Kd.R_types HO_1332001.out BK1341.out (by decide)) (fun _ hk => hk.2) (.slice Ao46 t1334.length co46)) (fun _ hk => hk.2) (.slice Ao50 t1337.length co50)) (fun _ h_ => h_.1))))) (Kd.R_lt (by (with_reducible repeat (first | apply Kd.R_alloc | apply Kd.R_drewN | apply Kd.R_drew)); exact (Kd.R_mono (Kd.R_far (p := ⟨gb1341, 1, none⟩) (Kd.R_far (p := ⟨gb1341, 0, none⟩) (Kd.R_types HO1336.out BK1341.out (by decide)) (fun _ hk => hk.2) (.slice Ao46 t1334.length co46)) (fun _ hk => hk.2) (.slice Ao50 t1337.length co50)) (fun _ h_ => h_.1))))) (Kd.R_lt (by (with_reducible repeat (first | apply Kd.R_alloc | apply Kd.R_drewN | apply Kd.R_drew)); exact (Kd.R_mono (Kd.R_far (p := ⟨gb1341, 1, none⟩) (Kd.R_far (p := ⟨gb1341, 0, none⟩) (Kd.R_types HO1339.out BK1341.out (by decide)) (fun _ hk => hk.2) (.slice Ao46 t1334.length co46)) (fun _ hk => hk.2) (.slice Ao50 t1337.length co50)) (fun _ h_ => h_.1))))) (below_size (by repeat (first | (with_reducible first | exact HB.out | apply below_alloc | apply pw_below_drewN | apply below_drew1 | refine below_set ?_ GE1323.out | refine below_set ?_ GE1331.out | refine below_set ?_ GE1341.out) | exact HB.out)))); have n5_ := Aside0.mk (blk_below (g := gb1323) (o := .cells #[.slice A0_0 l0_0.length c0_0, .slice A0_1 l0_1.length c0_1] 46 (0, 0)) (by (with_reducible repeat (first | refine blk_drewN ?_ _ | refine blk_drew ?_ | refine blk_alloc ?_ _)); refine blk_far ?_ NB1323_1341.out _; (with_reducible repeat (first | refine blk_drewN ?_ _ | refine blk_drew ?_ | refine blk_alloc ?_ _)); refine blk_far ?_ NB1323_1341.out _; (with_reducible repeat (first | refine blk_drewN ?_ _ | refine blk_drew ?_ | refine blk_alloc ?_ _)); exact BK1323.out) hb); have n6_ := Aside0.mk (blk_below (g := gb1331) (o := .cells #[.slice Ao42 x1332000_3.length co42, .slice Ao43 x1332001_3.length co43] 34 (0, 0)) (by (with_reducible repeat (first | refine blk_drewN ?_ _ | refine blk_drew ?_ | refine blk_alloc ?_ _)); refine blk_far ?_ NB1331_1341.out _; (with_reducible repeat (first | refine blk_drewN ?_ _ | refine blk_drew ?_ | refine blk_alloc ?_ _)); refine blk_far ?_ NB1331_1341.out _; (with_reducible repeat (first | refine blk_drewN ?_ _ | refine blk_drew ?_ | refine blk_alloc ?_ _)); exact BK1331.out) hb); have n7_ := Aside0.mk (blk_below (g := gb1341) (o := .cells #[.slice Ao46 t1334.length co46, .slice Ao50 t1337.length co50] 34 (0, 0)) (by (with_reducible repeat (first | refine blk_drewN ?_ _ | refine blk_drew ?_ | refine blk_alloc ?_ _)); refine blk_put (cs := #[.slice Ao46 t1334.length co46, .slice none 0 0]) ?_ 1 _ rfl; (with_reducible repeat (first | refine blk_drewN ?_ _ | refine blk_drew ?_ | refine blk_alloc ?_ _)); refine blk_put (cs := #[.slice none 0 0, .slice none 0 0]) ?_ 0 _ rfl; (with_reducible repeat (first | refine blk_drewN ?_ _ | refine blk_drew ?_ | refine blk_alloc ?_ _)); exact BK1341.out) hb); have n8_ := Aside0.mk (below_step (by repeat (first | (with_reducible first | exact HB.out | apply below_alloc | apply pw_below_drewN | apply below_drew1 | refine below_set ?_ GE1323.out | refine below_set ?_ GE1331.out | refine below_set ?_ GE1341.out) | exact HB.out)) hb); clear HO_1332000; clear HO_1332001; clear HO1336; clear HO1339; clear BK1323; clear BK1331; clear BK1341; clear HB; have HO_1332000 := n0_; have HO_1332001 := n1_; have HO1336 := n2_; have HO1339 := n3_; have HO1344 := n4_; have BK1323 := n5_; have BK1331 := n6_; have BK1341 := n7_; have HB := n8_; clear n0_ n1_ n2_ n3_ n4_ n5_ n6_ n7_ n8_; clear hb ho52) | ((with_reducible refine gate_dst (N := 59) rfl ?_); (try (refine gate_guard (by rfl) ?_; dsimp only)); refine Kd.R_lit (Kd.int .i64) _ 3 ?hg (N := 59) ?hd (xs := ([3, 4] : List Int)) (inner := [.int .i64 3, .int .i64 4]) (ok := fun _ => True) (okp := fun _ => True) ?hr ?hp (fun _ hk => hk) trivial (Below.refl _ _) (Nat.le_refl _) (by simp) ?_; (case hd => rfl); (case hg => rfl); (case hr => first | (go_simp; done) | (go_simp; rfl)); (case hp => exact (Reps.one (show Kd.M (Kd.int .i64) _ _ _ 3 [.int .i64 3] from rfl) (Reps.one (show Kd.M (Kd.int .i64) _ _ _ 4 [.int .i64 4] from rfl) (Reps.none _ _)))); intro v1346 w53 ho54 hb hg_ hnew_; clear hg_ hnew_; (first | rw [← Ny1345.out] at ho54 | (simp only [Int.reduceToNat] at ho54; rw [← Ny1345.out] at ho54)); have n0_ := Aside0.mk (Kd.R_elder' (by (with_reducible repeat (first | apply Kd.R_alloc | apply Kd.R_drewN | apply Kd.R_drew)); exact HO_1332000.out) (Kd.R_base ho54) hb); have n1_ := Aside0.mk (Kd.R_elder' (by (with_reducible repeat (first | apply Kd.R_alloc | apply Kd.R_drewN | apply Kd.R_drew)); exact HO_1332001.out) (Kd.R_base ho54) hb); have n2_ := Aside0.mk (Kd.R_elder' (by (with_reducible repeat (first | apply Kd.R_alloc | apply Kd.R_drewN | apply Kd.R_drew)); exact HO1336.out) (Kd.R_base ho54) hb); have n3_ := Aside0.mk (Kd.R_elder' (by (with_reducible repeat (first | apply Kd.R_alloc | apply Kd.R_drewN | apply Kd.R_drew)); exact HO1339.out) (Kd.R_base ho54) hb); have n4_ := Aside0.mk (Kd.R_elder' (by (with_reducible repeat (first | apply Kd.R_alloc | apply Kd.R_drewN | apply Kd.R_drew)); exact HO1344.out) (Kd.R_base ho54) hb); have n5_ := Aside0.mk (Kd.R_lower (Kd.R_new' (Kd.R_new' (Kd.R_new' (Kd.R_new' (Kd.R_new' ho54 (Kd.R_lt (by (with_reducible repeat (first | apply Kd.R_alloc | apply Kd.R_drewN | apply Kd.R_drew)); exact HO_1332000.out))) (Kd.R_lt (by (with_reducible repeat (first | apply Kd.R_alloc | apply Kd.R_drewN | apply Kd.R_drew)); exact HO_1332001.out))) (Kd.R_lt (by (with_reducible repeat (first | apply Kd.R_alloc | apply Kd.R_drewN | apply Kd.R_drew)); exact HO1336.out))) (Kd.R_lt (by (with_reducible repeat (first | apply Kd.R_alloc | apply Kd.R_drewN | apply Kd.R_drew)); exact HO1339.out))) (Kd.R_lt (by (with_reducible repeat (first | apply Kd.R_alloc | apply Kd.R_drewN | apply Kd.R_drew)); exact HO1344.out))) (below_size (by repeat (first | (with_reducible first | exact HB.out | apply below_alloc | apply pw_below_drewN | apply below_drew1 | refine below_set ?_ GE1323.out | refine below_set ?_ GE1331.out | refine below_set ?_ GE1341.out) | exact HB.out)))); have n6_ := Aside0.mk (blk_below (g := gb1323) (o := .cells #[.slice A0_0 l0_0.length c0_0, .slice A0_1 l0_1.length c0_1] 46 (0, 0)) (by (with_reducible repeat (first | refine blk_drewN ?_ _ | refine blk_drew ?_ | refine blk_alloc ?_ _)); exact BK1323.out) hb); have n7_ := Aside0.mk (blk_below (g := gb1331) (o := .cells #[.slice Ao42 x1332000_3.length co42, .slice Ao43 x1332001_3.length co43] 34 (0, 0)) (by (with_reducible repeat (first | refine blk_drewN ?_ _ | refine blk_drew ?_ | refine blk_alloc ?_ _)); exact BK1331.out) hb); have n8_ := Aside0.mk (blk_below (g := gb1341) (o := .cells #[.slice Ao46 t1334.length co46, .slice Ao50 t1337.length co50] 34 (0, 0)) (by (with_reducible repeat (first | refine blk_drewN ?_ _ | refine blk_drew ?_ | refine blk_alloc ?_ _)); exact BK1341.out) hb); have n9_ := Aside0.mk (below_step (by repeat (first | (with_reducible first | exact HB.out | apply below_alloc | apply pw_below_drewN | apply below_drew1 | refine below_set ?_ GE1323.out | refine below_set ?_ GE1331.out | refine below_set ?_ GE1341.out) | exact HB.out)) hb); clear HO_1332000; clear HO_1332001; clear HO1336; clear HO1339; clear HO1344; clear BK1323; clear BK1331; clear BK1341; clear HB; have HO_1332000 := n0_; have HO_1332001 := n1_; have HO1336 := n2_; have HO1339 := n3_; have HO1344 := n4_; have HO1347 := n5_; have BK1323 := n6_; have BK1331 := n7_; have BK1341 := n8_; have HB := n9_; clear n0_ n1_ n2_ n3_ n4_ n5_ n6_ n7_ n8_ n9_; clear hb ho54; obtain ⟨Ao55, co55, eo55⟩ := Kd.R_slice HO1347.out; subst eo55; obtain ⟨Ao56, co56, eo56⟩ := Kd.R_slice HO1344.out; subst eo56) | ((with_reducible refine gate_dst (N := 9) rfl ?_); (try (refine gate_guard (by rfl) ?_; dsimp only)); refine box_event ?hg (N := 9) ?hd (cs := #[.slice none 0 0, .slice none 0 0]) (t := 34) ?hr ?_; (case hd => rfl); (case hg => rfl); (case hr => first | (go_simp; done) | (go_simp; rfl)); intro gb1348 hg w57 hbox hb; have n0_ := Aside0.mk (Kd.R_below (by (with_reducible repeat (first | apply Kd.R_alloc | apply Kd.R_drewN | apply Kd.R_drew)); exact HO_1332000.out) hb); have n1_ := Aside0.mk (Kd.R_below (by (with_reducible repeat (first | apply Kd.R_alloc | apply Kd.R_drewN | apply Kd.R_drew)); exact HO_1332001.out) hb); have n2_ := Aside0.mk (Kd.R_below (by (with_reducible repeat (first | apply Kd.R_alloc | apply Kd.R_drewN | apply Kd.R_drew)); exact HO1336.out) hb); have n3_ := Aside0.mk (Kd.R_below (by (with_reducible repeat (first | apply Kd.R_alloc | apply Kd.R_drewN | apply Kd.R_drew)); exact HO1339.out) hb); have n4_ := Aside0.mk (Kd.R_below (by (with_reducible repeat (first | apply Kd.R_alloc | apply Kd.R_drewN | apply Kd.R_drew)); exact HO1344.out) hb); have n5_ := Aside0.mk (Kd.R_below (by (with_reducible repeat (first | apply Kd.R_alloc | apply Kd.R_drewN | apply Kd.R_drew)); exact HO1347.out) hb); have n6_ := Aside0.mk (blk_below (g := gb1323) (o := .cells #[.slice A0_0 l0_0.length c0_0, .slice A0_1 l0_1.length c0_1] 46 (0, 0)) (by (with_reducible repeat (first | refine blk_drewN ?_ _ | refine blk_drew ?_ | refine blk_alloc ?_ _)); exact BK1323.out) hb); have n7_ := Aside0.mk (blk_below (g := gb1331) (o := .cells #[.slice Ao42 x1332000_3.length co42, .slice Ao43 x1332001_3.length co43] 34 (0, 0)) (by (with_reducible repeat (first | refine blk_drewN ?_ _ | refine blk_drew ?_ | refine blk_alloc ?_ _)); exact BK1331.out) hb); have n8_ := Aside0.mk (blk_below (g := gb1341) (o := .cells #[.slice Ao46 t1334.length co46, .slice Ao50 t1337.length co50] 34 (0, 0)) (by (with_reducible repeat (first | refine blk_drewN ?_ _ | refine blk_drew ?_ | refine blk_alloc ?_ _)); exact BK1341.out) hb); have n9_ := Aside0.mk (below_step (by repeat (first | (with_reducible first | exact HB.out | apply below_alloc | apply pw_below_drewN | apply below_drew1 | refine below_set ?_ GE1323.out | refine below_set ?_ GE1331.out | refine below_set ?_ GE1341.out) | exact HB.out)) hb); have n10_ := Aside0.mk (hbox); have n11_ := Aside0.mk ((by rw [hg]; exact (below_size (by repeat (first | (with_reducible first | exact HB.out | apply below_alloc | apply pw_below_drewN | apply below_drew1 | refine below_set ?_ GE1323.out | refine below_set ?_ GE1331.out | refine below_set ?_ GE1341.out) | exact HB.out))) : w.heap.size ≤ gb1348)); have n12_ := Aside0.mk ((by rw [hg]; exact (below_size (by repeat (first | (with_reducible first | exact HB.out | apply below_alloc | apply pw_below_drewN | apply below_drew1 | refine below_set ?_ GE1323.out | refine below_set ?_ GE1331.out | refine below_set ?_ GE1341.out) | exact HB.out))) : w.heap.size ≤ gb1348)); have n13_ := Aside0.mk ((by rw [hg]; exact Nat.ne_of_lt (blk_lt (g := gb1323) (o := .cells #[.slice A0_0 l0_0.length c0_0, .slice A0_1 l0_1.length c0_1] 46 (0, 0)) (by (with_reducible repeat (first | refine blk_drewN ?_ _ | refine blk_drew ?_ | refine blk_alloc ?_ _)); exact BK1323.out)) : gb1323 ≠ gb1348)); have n14_ := Aside0.mk ((by rw [hg]; exact Nat.ne_of_gt (blk_lt (g := gb1323) (o := .cells #[.slice A0_0 l0_0.length c0_0, .slice A0_1 l0_1.length c0_1] 46 (0, 0)) (by (with_reducible repeat (first | refine blk_drewN ?_ _ | refine blk_drew ?_ | refine blk_alloc ?_ _)); exact BK1323.out)) : gb1348 ≠ gb1323)); have n15_ := Aside0.mk ((by rw [hg]; exact Nat.ne_of_lt (blk_lt (g := gb1331) (o := .cells #[.slice Ao42 x1332000_3.length co42, .slice Ao43 x1332001_3.length co43] 34 (0, 0)) (by (with_reducible repeat (first | refine blk_drewN ?_ _ | refine blk_drew ?_ | refine blk_alloc ?_ _)); exact BK1331.out)) : gb1331 ≠ gb1348)); have n16_ := Aside0.mk ((by rw [hg]; exact Nat.ne_of_gt (blk_lt (g := gb1331) (o := .cells #[.slice Ao42 x1332000_3.length co42, .slice Ao43 x1332001_3.length co43] 34 (0, 0)) (by (with_reducible repeat (first | refine blk_drewN ?_ _ | refine blk_drew ?_ | refine blk_alloc ?_ _)); exact BK1331.out)) : gb1348 ≠ gb1331)); have n17_ := Aside0.mk ((by rw [hg]; exact Nat.ne_of_lt (blk_lt (g := gb1341) (o := .cells #[.slice Ao46 t1334.length co46, .slice Ao50 t1337.length co50] 34 (0, 0)) (by (with_reducible repeat (first | refine blk_drewN ?_ _ | refine blk_drew ?_ | refine blk_alloc ?_ _)); exact BK1341.out)) : gb1341 ≠ gb1348)); have n18_ := Aside0.mk ((by rw [hg]; exact Nat.ne_of_gt (blk_lt (g := gb1341) (o := .cells #[.slice Ao46 t1334.length co46, .slice Ao50 t1337.length co50] 34 (0, 0)) (by (with_reducible repeat (first | refine blk_drewN ?_ _ | refine blk_drew ?_ | refine blk_alloc ?_ _)); exact BK1341.out)) : gb1348 ≠ gb1341)); clear HO_1332000; clear HO_1332001; clear HO1336; clear HO1339; clear HO1344; clear HO1347; clear BK1323; clear BK1331; clear BK1341; clear HB; have HO_1332000 := n0_; have HO_1332001 := n1_; have HO1336 := n2_; have HO1339 := n3_; have HO1344 := n4_; have HO1347 := n5_; have BK1323 := n6_; have BK1331 := n7_; have BK1341 := n8_; have HB := n9_; have BK1348 := n10_; have GW1348 := n11_; have GE1348 := n12_; have NB1323_1348 := n13_; have NB1348_1323 := n14_; have NB1331_1348 := n15_; have NB1348_1331 := n16_; have NB1341_1348 := n17_; have NB1348_1341 := n18_; clear n0_ n1_ n2_ n3_ n4_ n5_ n6_ n7_ n8_ n9_ n10_ n11_ n12_ n13_ n14_ n15_ n16_ n17_ n18_; clear hb hbox hg; have hnb58 := NB1348_1323.out; have hnc58 := NB1323_1348.out; have hnb59 := NB1348_1331.out; have hnc59 := NB1331_1348.out; have hnb60 := NB1348_1341.out; have hnc60 := NB1341_1348.out; have hcz61_0 : w57.cell? ⟨gb1348, 0, none⟩ = some (.slice none 0 0) := (blk_cell BK1348.out 0).trans rfl; have hcz61_1 : w57.cell? ⟨gb1348, 1, none⟩ = some (.slice none 0 0) := (blk_cell BK1348.out 1).trans rfl; have hfz61_0 := blk_frozen BK1348.out 0; have hfz61_1 := blk_frozen BK1348.out 1; have hcz62_0 : w57.cell? ⟨gb1331, 0, none⟩ = some (.slice Ao42 x1332000_3.length co42) := (blk_cell BK1331.out 0).trans rfl; have hcz62_1 : w57.cell? ⟨gb1331, 1, none⟩ = some (.slice Ao43 x1332001_3.length co43) := (blk_cell BK1331.out 1).trans rfl; have hfz62_0 := blk_frozen BK1331.out 0; have hfz62_1 := blk_frozen BK1331.out 1) | ((with_reducible refine gate_callee (f := 69) rfl ?_); refine goesL_ (some 65) rfl rfl Try.func69 (by kernel_rfl) rfl #[.agg #[.slice Ao42 x1332000_3.length co42, .slice Ao43 x1332001_3.length co43], .agg #[.slice Ao56 y1342.length co56, .slice Ao55 y1345.length co55], .int .i64 x3_1] rfl (by (try simp only [List.map_toArray, List.map_cons, List.map_nil]); first | done | rfl | (simp only [List.length_drop, List.length_take]; rfl)) ?_; (with_reducible refine (gate_Pick.calls k3 _ _ x1332000_3 _ _ x1332001_3 _ _ y1342 _ _ y1345 x3_1 t1349 t1352 t1355 _ ?side1 ?side2 ?side3 ?side4 ?side5 ?side6 ?side7 ?side8 A38.out).mono ?_); (case side1 => refine (Kd.R_reads' (e := 3) (base := w.heap.size) (ok := fun k_ => ((((some k_ ≠ (.slice Ao43 x1332001_3.length co43 : Value).ownBlock ∧ some k_ ≠ (.slice Ao46 t1334.length co46 : Value).ownBlock) ∧ some k_ ≠ (.slice Ao50 t1337.length co50 : Value).ownBlock) ∧ some k_ ≠ (.slice Ao56 y1342.length co56 : Value).ownBlock) ∧ some k_ ≠ (.slice Ao55 y1345.length co55 : Value).ownBlock)) (n := x1332000_3.length) (c := co42) ?_).2.2; exact (by (with_reducible repeat (first | apply Kd.R_alloc | apply Kd.R_drewN | apply Kd.R_drew)); exact (Kd.R_mono (Kd.R_far (p := ⟨gb1348, 1, none⟩) (Kd.R_far (p := ⟨gb1348, 0, none⟩) (Kd.R_types HO_1332000.out BK1348.out (by decide)) (fun _ hk => hk.2) (.slice Ao56 y1342.length co56)) (fun _ hk => hk.2) (.slice Ao55 y1345.length co55)) (fun _ h_ => h_.1)))); (case side2 => exact (Kd.R_reads' HO_1332000.out).2.1); (case side3 => refine (Kd.R_reads' (e := 3) (base := w.heap.size) (ok := fun k_ => ((((some k_ ≠ (.slice Ao42 x1332000_3.length co42 : Value).ownBlock ∧ some k_ ≠ (.slice Ao46 t1334.length co46 : Value).ownBlock) ∧ some k_ ≠ (.slice Ao50 t1337.length co50 : Value).ownBlock) ∧ some k_ ≠ (.slice Ao56 y1342.length co56 : Value).ownBlock) ∧ some k_ ≠ (.slice Ao55 y1345.length co55 : Value).ownBlock)) (n := x1332001_3.length) (c := co43) ?_).2.2; exact (by (with_reducible repeat (first | apply Kd.R_alloc | apply Kd.R_drewN | apply Kd.R_drew)); exact (Kd.R_mono (Kd.R_far (p := ⟨gb1348, 1, none⟩) (Kd.R_far (p := ⟨gb1348, 0, none⟩) (Kd.R_types HO_1332001.out BK1348.out (by decide)) (fun _ hk => hk.2) (.slice Ao56 y1342.length co56)) (fun _ hk => hk.2) (.slice Ao55 y1345.length co55)) (fun _ h_ => h_.1)))); (case side4 => exact (Kd.R_reads' HO_1332001.out).2.1); (case side5 => refine (Kd.R_reads' (e := 3) (base := w.heap.size) (ok := fun k_ => (((((True ∧ some k_ ≠ (.slice Ao42 x1332000_3.length co42 : Value).ownBlock) ∧ some k_ ≠ (.slice Ao43 x1332001_3.length co43 : Value).ownBlock) ∧ some k_ ≠ (.slice Ao46 t1334.length co46 : Value).ownBlock) ∧ some k_ ≠ (.slice Ao50 t1337.length co50 : Value).ownBlock) ∧ some k_ ≠ (.slice Ao55 y1345.length co55 : Value).ownBlock)) (n := y1342.length) (c := co56) ?_).2.2; exact (by (with_reducible repeat (first | apply Kd.R_alloc | apply Kd.R_drewN | apply Kd.R_drew)); exact (Kd.R_mono (Kd.R_far (p := ⟨gb1348, 1, none⟩) (Kd.R_far (p := ⟨gb1348, 0, none⟩) (Kd.R_types HO1344.out BK1348.out (by decide)) (fun _ hk => hk.2) (.slice Ao56 y1342.length co56)) (fun _ hk => hk.2) (.slice Ao55 y1345.length co55)) (fun _ h_ => h_.1)))); (case side6 => exact (Kd.R_reads' HO1344.out).2.1); (case side7 => refine (Kd.R_reads' (e := 3) (base := w.heap.size) (ok := fun k_ => (((((True ∧ some k_ ≠ (.slice Ao42 x1332000_3.length co42 : Value).ownBlock) ∧ some k_ ≠ (.slice Ao43 x1332001_3.length co43 : Value).ownBlock) ∧ some k_ ≠ (.slice Ao46 t1334.length co46 : Value).ownBlock) ∧ some k_ ≠ (.slice Ao50 t1337.length co50 : Value).ownBlock) ∧ some k_ ≠ (.slice Ao56 y1342.length co56 : Value).ownBlock)) (n := y1345.length) (c := co55) ?_).2.2; exact (by (with_reducible repeat (first | apply Kd.R_alloc | apply Kd.R_drewN | apply Kd.R_drew)); exact (Kd.R_mono (Kd.R_far (p := ⟨gb1348, 1, none⟩) (Kd.R_far (p := ⟨gb1348, 0, none⟩) (Kd.R_types HO1347.out BK1348.out (by decide)) (fun _ hk => hk.2) (.slice Ao56 y1342.length co56)) (fun _ hk => hk.2) (.slice Ao55 y1345.length co55)) (fun _ h_ => h_.1)))); (case side8 => exact (Kd.R_reads' HO1347.out).2.1); rintro e w63 ⟨v1350, v1353, rfl, ho0, ho1, hb⟩; refine ⟨_, rfl, ?_⟩; have n0_ := Aside0.mk (Kd.R_mono (Kd.R_told (Kd.R_told (Kd.R_old (by (with_reducible repeat (first | apply Kd.R_alloc | apply Kd.R_drewN | apply Kd.R_drew)); exact (Kd.R_mono (Kd.R_far (p := ⟨gb1348, 1, none⟩) (Kd.R_far (p := ⟨gb1348, 0, none⟩) (Kd.R_types HO_1332000.out BK1348.out (by decide)) (fun _ hk => hk.2) (.slice Ao56 y1342.length co56)) (fun _ hk => hk.2) (.slice Ao55 y1345.length co55)) (fun _ h_ => h_.1))) hb) (Kd.R_base ho0)) (Kd.R_base ho1)) (fun _ h_ => h_.1)); have n1_ := Aside0.mk (Kd.R_mono (Kd.R_told (Kd.R_told (Kd.R_old (by (with_reducible repeat (first | apply Kd.R_alloc | apply Kd.R_drewN | apply Kd.R_drew)); exact (Kd.R_mono (Kd.R_far (p := ⟨gb1348, 1, none⟩) (Kd.R_far (p := ⟨gb1348, 0, none⟩) (Kd.R_types HO_1332001.out BK1348.out (by decide)) (fun _ hk => hk.2) (.slice Ao56 y1342.length co56)) (fun _ hk => hk.2) (.slice Ao55 y1345.length co55)) (fun _ h_ => h_.1))) hb) (Kd.R_base ho0)) (Kd.R_base ho1)) (fun _ h_ => h_.1)); have n2_ := Aside0.mk (Kd.R_mono (Kd.R_told (Kd.R_told (Kd.R_old (by (with_reducible repeat (first | apply Kd.R_alloc | apply Kd.R_drewN | apply Kd.R_drew)); exact (Kd.R_mono (Kd.R_far (p := ⟨gb1348, 1, none⟩) (Kd.R_far (p := ⟨gb1348, 0, none⟩) (Kd.R_types HO1336.out BK1348.out (by decide)) (fun _ hk => hk.2) (.slice Ao56 y1342.length co56)) (fun _ hk => hk.2) (.slice Ao55 y1345.length co55)) (fun _ h_ => h_.1))) hb) (Kd.R_base ho0)) (Kd.R_base ho1)) (fun _ h_ => h_.1)); have n3_ := Aside0.mk (Kd.R_mono (Kd.R_told (Kd.R_told (Kd.R_old (by (with_reducible repeat (first | apply Kd.R_alloc | apply Kd.R_drewN | apply Kd.R_drew)); exact (Kd.R_mono (Kd.R_far (p := ⟨gb1348, 1, none⟩) (Kd.R_far (p := ⟨gb1348, 0, none⟩) (Kd.R_types HO1339.out BK1348.out (by decide)) (fun _ hk => hk.2) (.slice Ao56 y1342.length co56)) (fun _ hk => hk.2) (.slice Ao55 y1345.length co55)) (fun _ h_ => h_.1))) hb) (Kd.R_base ho0)) (Kd.R_base ho1)) (fun _ h_ => h_.1)); have n4_ := Aside0.mk (Kd.R_mono (Kd.R_told (Kd.R_told (Kd.R_old (by (with_reducible repeat (first | apply Kd.R_alloc | apply Kd.R_drewN | apply Kd.R_drew)); exact (Kd.R_mono (Kd.R_far (p := ⟨gb1348, 1, none⟩) (Kd.R_far (p := ⟨gb1348, 0, none⟩) (Kd.R_types HO1344.out BK1348.out (by decide)) (fun _ hk => hk.2) (.slice Ao56 y1342.length co56)) (fun _ hk => hk.2) (.slice Ao55 y1345.length co55)) (fun _ h_ => h_.1))) hb) (Kd.R_base ho0)) (Kd.R_base ho1)) (fun _ h_ => h_.1)); have n5_ := Aside0.mk (Kd.R_mono (Kd.R_told (Kd.R_told (Kd.R_old (by (with_reducible repeat (first | apply Kd.R_alloc | apply Kd.R_drewN | apply Kd.R_drew)); exact (Kd.R_mono (Kd.R_far (p := ⟨gb1348, 1, none⟩) (Kd.R_far (p := ⟨gb1348, 0, none⟩) (Kd.R_types HO1347.out BK1348.out (by decide)) (fun _ hk => hk.2) (.slice Ao56 y1342.length co56)) (fun _ hk => hk.2) (.slice Ao55 y1345.length co55)) (fun _ h_ => h_.1))) hb) (Kd.R_base ho0)) (Kd.R_base ho1)) (fun _ h_ => h_.1)); have n6_ := Aside0.mk (Kd.R_lower (Kd.R_new' (Kd.R_new' (Kd.R_new' (Kd.R_new' (Kd.R_new' (Kd.R_new' ho0 (Kd.R_lt (by (with_reducible repeat (first | apply Kd.R_alloc | apply Kd.R_drewN | apply Kd.R_drew)); exact (Kd.R_mono (Kd.R_far (p := ⟨gb1348, 1, none⟩) (Kd.R_far (p := ⟨gb1348, 0, none⟩) (Kd.R_types HO_1332000.out BK1348.out (by decide)) (fun _ hk => hk.2) (.slice Ao56 y1342.length co56)) (fun _ hk => hk.2) (.slice Ao55 y1345.length co55)) (fun _ h_ => h_.1))))) (Kd.R_lt (by (with_reducible repeat (first | apply Kd.R_alloc | apply Kd.R_drewN | apply Kd.R_drew)); exact (Kd.R_mono (Kd.R_far (p := ⟨gb1348, 1, none⟩) (Kd.R_far (p := ⟨gb1348, 0, none⟩) (Kd.R_types HO_1332001.out BK1348.out (by decide)) (fun _ hk => hk.2) (.slice Ao56 y1342.length co56)) (fun _ hk => hk.2) (.slice Ao55 y1345.length co55)) (fun _ h_ => h_.1))))) (Kd.R_lt (by (with_reducible repeat (first | apply Kd.R_alloc | apply Kd.R_drewN | apply Kd.R_drew)); exact (Kd.R_mono (Kd.R_far (p := ⟨gb1348, 1, none⟩) (Kd.R_far (p := ⟨gb1348, 0, none⟩) (Kd.R_types HO1336.out BK1348.out (by decide)) (fun _ hk => hk.2) (.slice Ao56 y1342.length co56)) (fun _ hk => hk.2) (.slice Ao55 y1345.length co55)) (fun _ h_ => h_.1))))) (Kd.R_lt (by (with_reducible repeat (first | apply Kd.R_alloc | apply Kd.R_drewN | apply Kd.R_drew)); exact (Kd.R_mono (Kd.R_far (p := ⟨gb1348, 1, none⟩) (Kd.R_far (p := ⟨gb1348, 0, none⟩) (Kd.R_types HO1339.out BK1348.out (by decide)) (fun _ hk => hk.2) (.slice Ao56 y1342.length co56)) (fun _ hk => hk.2) (.slice Ao55 y1345.length co55)) (fun _ h_ => h_.1))))) (Kd.R_lt (by (with_reducible repeat (first | apply Kd.R_alloc | apply Kd.R_drewN | apply Kd.R_drew)); exact (Kd.R_mono (Kd.R_far (p := ⟨gb1348, 1, none⟩) (Kd.R_far (p := ⟨gb1348, 0, none⟩) (Kd.R_types HO1344.out BK1348.out (by decide)) (fun _ hk => hk.2) (.slice Ao56 y1342.length co56)) (fun _ hk => hk.2) (.slice Ao55 y1345.length co55)) (fun _ h_ => h_.1))))) (Kd.R_lt (by (with_reducible repeat (first | apply Kd.R_alloc | apply Kd.R_drewN | apply Kd.R_drew)); exact (Kd.R_mono (Kd.R_far (p := ⟨gb1348, 1, none⟩) (Kd.R_far (p := ⟨gb1348, 0, none⟩) (Kd.R_types HO1347.out BK1348.out (by decide)) (fun _ hk => hk.2) (.slice Ao56 y1342.length co56)) (fun _ hk => hk.2) (.slice Ao55 y1345.length co55)) (fun _ h_ => h_.1))))) (below_size (by repeat (first | (with_reducible first | exact HB.out | apply below_alloc | apply pw_below_drewN | apply below_drew1 | refine below_set ?_ GE1323.out | refine below_set ?_ GE1331.out | refine below_set ?_ GE1341.out | refine below_set ?_ GE1348.out) | exact HB.out)))); have n7_ := Aside0.mk (Kd.R_lower (Kd.R_new' (Kd.R_new' (Kd.R_new' (Kd.R_new' (Kd.R_new' (Kd.R_new' ho1 (Kd.R_lt (by (with_reducible repeat (first | apply Kd.R_alloc | apply Kd.R_drewN | apply Kd.R_drew)); exact (Kd.R_mono (Kd.R_far (p := ⟨gb1348, 1, none⟩) (Kd.R_far (p := ⟨gb1348, 0, none⟩) (Kd.R_types HO_1332000.out BK1348.out (by decide)) (fun _ hk => hk.2) (.slice Ao56 y1342.length co56)) (fun _ hk => hk.2) (.slice Ao55 y1345.length co55)) (fun _ h_ => h_.1))))) (Kd.R_lt (by (with_reducible repeat (first | apply Kd.R_alloc | apply Kd.R_drewN | apply Kd.R_drew)); exact (Kd.R_mono (Kd.R_far (p := ⟨gb1348, 1, none⟩) (Kd.R_far (p := ⟨gb1348, 0, none⟩) (Kd.R_types HO_1332001.out BK1348.out (by decide)) (fun _ hk => hk.2) (.slice Ao56 y1342.length co56)) (fun _ hk => hk.2) (.slice Ao55 y1345.length co55)) (fun _ h_ => h_.1))))) (Kd.R_lt (by (with_reducible repeat (first | apply Kd.R_alloc | apply Kd.R_drewN | apply Kd.R_drew)); exact (Kd.R_mono (Kd.R_far (p := ⟨gb1348, 1, none⟩) (Kd.R_far (p := ⟨gb1348, 0, none⟩) (Kd.R_types HO1336.out BK1348.out (by decide)) (fun _ hk => hk.2) (.slice Ao56 y1342.length co56)) (fun _ hk => hk.2) (.slice Ao55 y1345.length co55)) (fun _ h_ => h_.1))))) (Kd.R_lt (by (with_reducible repeat (first | apply Kd.R_alloc | apply Kd.R_drewN | apply Kd.R_drew)); exact (Kd.R_mono (Kd.R_far (p := ⟨gb1348, 1, none⟩) (Kd.R_far (p := ⟨gb1348, 0, none⟩) (Kd.R_types HO1339.out BK1348.out (by decide)) (fun _ hk => hk.2) (.slice Ao56 y1342.length co56)) (fun _ hk => hk.2) (.slice Ao55 y1345.length co55)) (fun _ h_ => h_.1))))) (Kd.R_lt (by (with_reducible repeat (first | apply Kd.R_alloc | apply Kd.R_drewN | apply Kd.R_drew)); exact (Kd.R_mono (Kd.R_far (p := ⟨gb1348, 1, none⟩) (Kd.R_far (p := ⟨gb1348, 0, none⟩) (Kd.R_types HO1344.out BK1348.out (by decide)) (fun _ hk => hk.2) (.slice Ao56 y1342.length co56)) (fun _ hk => hk.2) (.slice Ao55 y1345.length co55)) (fun _ h_ => h_.1))))) (Kd.R_lt (by (with_reducible repeat (first | apply Kd.R_alloc | apply Kd.R_drewN | apply Kd.R_drew)); exact (Kd.R_mono (Kd.R_far (p := ⟨gb1348, 1, none⟩) (Kd.R_far (p := ⟨gb1348, 0, none⟩) (Kd.R_types HO1347.out BK1348.out (by decide)) (fun _ hk => hk.2) (.slice Ao56 y1342.length co56)) (fun _ hk => hk.2) (.slice Ao55 y1345.length co55)) (fun _ h_ => h_.1))))) (below_size (by repeat (first | (with_reducible first | exact HB.out | apply below_alloc | apply pw_below_drewN | apply below_drew1 | refine below_set ?_ GE1323.out | refine below_set ?_ GE1331.out | refine below_set ?_ GE1341.out | refine below_set ?_ GE1348.out) | exact HB.out)))); have n8_ := Aside0.mk (blk_below (g := gb1323) (o := .cells #[.slice A0_0 l0_0.length c0_0, .slice A0_1 l0_1.length c0_1] 46 (0, 0)) (by (with_reducible repeat (first | refine blk_drewN ?_ _ | refine blk_drew ?_ | refine blk_alloc ?_ _)); refine blk_far ?_ NB1323_1348.out _; (with_reducible repeat (first | refine blk_drewN ?_ _ | refine blk_drew ?_ | refine blk_alloc ?_ _)); refine blk_far ?_ NB1323_1348.out _; (with_reducible repeat (first | refine blk_drewN ?_ _ | refine blk_drew ?_ | refine blk_alloc ?_ _)); exact BK1323.out) hb); have n9_ := Aside0.mk (blk_below (g := gb1331) (o := .cells #[.slice Ao42 x1332000_3.length co42, .slice Ao43 x1332001_3.length co43] 34 (0, 0)) (by (with_reducible repeat (first | refine blk_drewN ?_ _ | refine blk_drew ?_ | refine blk_alloc ?_ _)); refine blk_far ?_ NB1331_1348.out _; (with_reducible repeat (first | refine blk_drewN ?_ _ | refine blk_drew ?_ | refine blk_alloc ?_ _)); refine blk_far ?_ NB1331_1348.out _; (with_reducible repeat (first | refine blk_drewN ?_ _ | refine blk_drew ?_ | refine blk_alloc ?_ _)); exact BK1331.out) hb); have n10_ := Aside0.mk (blk_below (g := gb1341) (o := .cells #[.slice Ao46 t1334.length co46, .slice Ao50 t1337.length co50] 34 (0, 0)) (by (with_reducible repeat (first | refine blk_drewN ?_ _ | refine blk_drew ?_ | refine blk_alloc ?_ _)); refine blk_far ?_ NB1341_1348.out _; (with_reducible repeat (first | refine blk_drewN ?_ _ | refine blk_drew ?_ | refine blk_alloc ?_ _)); refine blk_far ?_ NB1341_1348.out _; (with_reducible repeat (first | refine blk_drewN ?_ _ | refine blk_drew ?_ | refine blk_alloc ?_ _)); exact BK1341.out) hb); have n11_ := Aside0.mk (blk_below (g := gb1348) (o := .cells #[.slice Ao56 y1342.length co56, .slice Ao55 y1345.length co55] 34 (0, 0)) (by (with_reducible repeat (first | refine blk_drewN ?_ _ | refine blk_drew ?_ | refine blk_alloc ?_ _)); refine blk_put (cs := #[.slice Ao56 y1342.length co56, .slice none 0 0]) ?_ 1 _ rfl; (with_reducible repeat (first | refine blk_drewN ?_ _ | refine blk_drew ?_ | refine blk_alloc ?_ _)); refine blk_put (cs := #[.slice none 0 0, .slice none 0 0]) ?_ 0 _ rfl; (with_reducible repeat (first | refine blk_drewN ?_ _ | refine blk_drew ?_ | refine blk_alloc ?_ _)); exact BK1348.out) hb); have n12_ := Aside0.mk (below_step (by repeat (first | (with_reducible first | exact HB.out | apply below_alloc | apply pw_below_drewN | apply below_drew1 | refine below_set ?_ GE1323.out | refine below_set ?_ GE1331.out | refine below_set ?_ GE1341.out | refine below_set ?_ GE1348.out) | exact HB.out)) hb); clear HO_1332000; clear HO_1332001; clear HO1336; clear HO1339; clear HO1344; clear HO1347; clear BK1323; clear BK1331; clear BK1341; clear BK1348; clear HB; have HO_1332000 := n0_; have HO_1332001 := n1_; have HO1336 := n2_; have HO1339 := n3_; have HO1344 := n4_; have HO1347 := n5_; have HO1351 := n6_; have HO1354 := n7_; have BK1323 := n8_; have BK1331 := n9_; have BK1341 := n10_; have BK1348 := n11_; have HB := n12_; clear n0_ n1_ n2_ n3_ n4_ n5_ n6_ n7_ n8_ n9_ n10_ n11_ n12_; (try clear hb); (try clear hb2); (try clear hk); (try clear hi); (try clear ho0); (try clear ho1)) | ((with_reducible refine gate_dst (N := 10) rfl ?_); (try (refine gate_guard (by rfl) ?_; dsimp only)); refine box_event ?hg (N := 10) ?hd (cs := #[.slice none 0 0, .slice none 0 0]) (t := 34) ?hr ?_; (case hd => rfl); (case hg => rfl); (case hr => first | (go_simp; done) | (go_simp; rfl)); intro gb1356 hg w64 hbox hb; have n0_ := Aside0.mk (Kd.R_below (by (with_reducible repeat (first | apply Kd.R_alloc | apply Kd.R_drewN | apply Kd.R_drew)); exact HO_1332000.out) hb); have n1_ := Aside0.mk (Kd.R_below (by (with_reducible repeat (first | apply Kd.R_alloc | apply Kd.R_drewN | apply Kd.R_drew)); exact HO_1332001.out) hb); have n2_ := Aside0.mk (Kd.R_below (by (with_reducible repeat (first | apply Kd.R_alloc | apply Kd.R_drewN | apply Kd.R_drew)); exact HO1336.out) hb); have n3_ := Aside0.mk (Kd.R_below (by (with_reducible repeat (first | apply Kd.R_alloc | apply Kd.R_drewN | apply Kd.R_drew)); exact HO1339.out) hb); have n4_ := Aside0.mk (Kd.R_below (by (with_reducible repeat (first | apply Kd.R_alloc | apply Kd.R_drewN | apply Kd.R_drew)); exact HO1344.out) hb); have n5_ := Aside0.mk (Kd.R_below (by (with_reducible repeat (first | apply Kd.R_alloc | apply Kd.R_drewN | apply Kd.R_drew)); exact HO1347.out) hb); have n6_ := Aside0.mk (Kd.R_below (by (with_reducible repeat (first | apply Kd.R_alloc | apply Kd.R_drewN | apply Kd.R_drew)); exact HO1351.out) hb); have n7_ := Aside0.mk (Kd.R_below (by (with_reducible repeat (first | apply Kd.R_alloc | apply Kd.R_drewN | apply Kd.R_drew)); exact HO1354.out) hb); have n8_ := Aside0.mk (blk_below (g := gb1323) (o := .cells #[.slice A0_0 l0_0.length c0_0, .slice A0_1 l0_1.length c0_1] 46 (0, 0)) (by (with_reducible repeat (first | refine blk_drewN ?_ _ | refine blk_drew ?_ | refine blk_alloc ?_ _)); exact BK1323.out) hb); have n9_ := Aside0.mk (blk_below (g := gb1331) (o := .cells #[.slice Ao42 x1332000_3.length co42, .slice Ao43 x1332001_3.length co43] 34 (0, 0)) (by (with_reducible repeat (first | refine blk_drewN ?_ _ | refine blk_drew ?_ | refine blk_alloc ?_ _)); exact BK1331.out) hb); have n10_ := Aside0.mk (blk_below (g := gb1341) (o := .cells #[.slice Ao46 t1334.length co46, .slice Ao50 t1337.length co50] 34 (0, 0)) (by (with_reducible repeat (first | refine blk_drewN ?_ _ | refine blk_drew ?_ | refine blk_alloc ?_ _)); exact BK1341.out) hb); have n11_ := Aside0.mk (blk_below (g := gb1348) (o := .cells #[.slice Ao56 y1342.length co56, .slice Ao55 y1345.length co55] 34 (0, 0)) (by (with_reducible repeat (first | refine blk_drewN ?_ _ | refine blk_drew ?_ | refine blk_alloc ?_ _)); exact BK1348.out) hb); have n12_ := Aside0.mk (below_step (by repeat (first | (with_reducible first | exact HB.out | apply below_alloc | apply pw_below_drewN | apply below_drew1 | refine below_set ?_ GE1323.out | refine below_set ?_ GE1331.out | refine below_set ?_ GE1341.out | refine below_set ?_ GE1348.out) | exact HB.out)) hb); have n13_ := Aside0.mk (hbox); have n14_ := Aside0.mk ((by rw [hg]; exact (below_size (by repeat (first | (with_reducible first | exact HB.out | apply below_alloc | apply pw_below_drewN | apply below_drew1 | refine below_set ?_ GE1323.out | refine below_set ?_ GE1331.out | refine below_set ?_ GE1341.out | refine below_set ?_ GE1348.out) | exact HB.out))) : w.heap.size ≤ gb1356)); have n15_ := Aside0.mk ((by rw [hg]; exact (below_size (by repeat (first | (with_reducible first | exact HB.out | apply below_alloc | apply pw_below_drewN | apply below_drew1 | refine below_set ?_ GE1323.out | refine below_set ?_ GE1331.out | refine below_set ?_ GE1341.out | refine below_set ?_ GE1348.out) | exact HB.out))) : w.heap.size ≤ gb1356)); have n16_ := Aside0.mk ((by rw [hg]; exact Nat.ne_of_lt (blk_lt (g := gb1323) (o := .cells #[.slice A0_0 l0_0.length c0_0, .slice A0_1 l0_1.length c0_1] 46 (0, 0)) (by (with_reducible repeat (first | refine blk_drewN ?_ _ | refine blk_drew ?_ | refine blk_alloc ?_ _)); exact BK1323.out)) : gb1323 ≠ gb1356)); have n17_ := Aside0.mk ((by rw [hg]; exact Nat.ne_of_gt (blk_lt (g := gb1323) (o := .cells #[.slice A0_0 l0_0.length c0_0, .slice A0_1 l0_1.length c0_1] 46 (0, 0)) (by (with_reducible repeat (first | refine blk_drewN ?_ _ | refine blk_drew ?_ | refine blk_alloc ?_ _)); exact BK1323.out)) : gb1356 ≠ gb1323)); have n18_ := Aside0.mk ((by rw [hg]; exact Nat.ne_of_lt (blk_lt (g := gb1331) (o := .cells #[.slice Ao42 x1332000_3.length co42, .slice Ao43 x1332001_3.length co43] 34 (0, 0)) (by (with_reducible repeat (first | refine blk_drewN ?_ _ | refine blk_drew ?_ | refine blk_alloc ?_ _)); exact BK1331.out)) : gb1331 ≠ gb1356)); have n19_ := Aside0.mk ((by rw [hg]; exact Nat.ne_of_gt (blk_lt (g := gb1331) (o := .cells #[.slice Ao42 x1332000_3.length co42, .slice Ao43 x1332001_3.length co43] 34 (0, 0)) (by (with_reducible repeat (first | refine blk_drewN ?_ _ | refine blk_drew ?_ | refine blk_alloc ?_ _)); exact BK1331.out)) : gb1356 ≠ gb1331)); have n20_ := Aside0.mk ((by rw [hg]; exact Nat.ne_of_lt (blk_lt (g := gb1341) (o := .cells #[.slice Ao46 t1334.length co46, .slice Ao50 t1337.length co50] 34 (0, 0)) (by (with_reducible repeat (first | refine blk_drewN ?_ _ | refine blk_drew ?_ | refine blk_alloc ?_ _)); exact BK1341.out)) : gb1341 ≠ gb1356)); have n21_ := Aside0.mk ((by rw [hg]; exact Nat.ne_of_gt (blk_lt (g := gb1341) (o := .cells #[.slice Ao46 t1334.length co46, .slice Ao50 t1337.length co50] 34 (0, 0)) (by (with_reducible repeat (first | refine blk_drewN ?_ _ | refine blk_drew ?_ | refine blk_alloc ?_ _)); exact BK1341.out)) : gb1356 ≠ gb1341)); have n22_ := Aside0.mk ((by rw [hg]; exact Nat.ne_of_lt (blk_lt (g := gb1348) (o := .cells #[.slice Ao56 y1342.length co56, .slice Ao55 y1345.length co55] 34 (0, 0)) (by (with_reducible repeat (first | refine blk_drewN ?_ _ | refine blk_drew ?_ | refine blk_alloc ?_ _)); exact BK1348.out)) : gb1348 ≠ gb1356)); have n23_ := Aside0.mk ((by rw [hg]; exact Nat.ne_of_gt (blk_lt (g := gb1348) (o := .cells #[.slice Ao56 y1342.length co56, .slice Ao55 y1345.length co55] 34 (0, 0)) (by (with_reducible repeat (first | refine blk_drewN ?_ _ | refine blk_drew ?_ | refine blk_alloc ?_ _)); exact BK1348.out)) : gb1356 ≠ gb1348)); clear HO_1332000; clear HO_1332001; clear HO1336; clear HO1339; clear HO1344; clear HO1347; clear HO1351; clear HO1354; clear BK1323; clear BK1331; clear BK1341; clear BK1348; clear HB; have HO_1332000 := n0_; have HO_1332001 := n1_; have HO1336 := n2_; have HO1339 := n3_; have HO1344 := n4_; have HO1347 := n5_; have HO1351 := n6_; have HO1354 := n7_; have BK1323 := n8_; have BK1331 := n9_; have BK1341 := n10_; have BK1348 := n11_; have HB := n12_; have BK1356 := n13_; have GW1356 := n14_; have GE1356 := n15_; have NB1323_1356 := n16_; have NB1356_1323 := n17_; have NB1331_1356 := n18_; have NB1356_1331 := n19_; have NB1341_1356 := n20_; have NB1356_1341 := n21_; have NB1348_1356 := n22_; have NB1356_1348 := n23_; clear n0_ n1_ n2_ n3_ n4_ n5_ n6_ n7_ n8_ n9_ n10_ n11_ n12_ n13_ n14_ n15_ n16_ n17_ n18_ n19_ n20_ n21_ n22_ n23_; clear hb hbox hg; obtain ⟨Ao65, co65, eo65⟩ := Kd.R_slice HO1351.out; subst eo65; have hnb66 := NB1356_1323.out; have hnc66 := NB1323_1356.out; have hnb67 := NB1356_1331.out; have hnc67 := NB1331_1356.out; have hnb68 := NB1356_1341.out; have hnc68 := NB1341_1356.out; have hnb69 := NB1356_1348.out; have hnc69 := NB1348_1356.out; have hcz70_0 : w64.cell? ⟨gb1356, 0, none⟩ = some (.slice none 0 0) := (blk_cell BK1356.out 0).trans rfl; have hcz70_1 : w64.cell? ⟨gb1356, 1, none⟩ = some (.slice none 0 0) := (blk_cell BK1356.out 1).trans rfl; have hfz70_0 := blk_frozen BK1356.out 0; have hfz70_1 := blk_frozen BK1356.out 1; obtain ⟨Ao71, co71, eo71⟩ := Kd.R_slice HO1354.out; subst eo71))
            (try simp only [Act.put, List.setIfInBounds_toArray, List.set_cons_zero, List.set_cons_succ])
            go_cut [90] (fun v90 wc => ∃ (kq : Nat) (x90_38 : Bool), v90 = .bool x90_38 ∧ Aside0 (graduslaw5_GateTies.j3 kq x3_1 x4_2 x90_38 l0_0 l0_1 t1349 t1352 = some r) ∧ Aside0 (kq ≤ k3) ∧ Aside0 (Kd.R (Kd.int .i64) 3 wc w.heap.size (fun k_ => some k_ ≠ ((.slice Ao43 x1332001_3.length co43) : Value).ownBlock ∧ some k_ ≠ ((.slice Ao46 t1334.length co46) : Value).ownBlock ∧ some k_ ≠ ((.slice Ao50 t1337.length co50) : Value).ownBlock ∧ some k_ ≠ ((.slice Ao56 y1342.length co56) : Value).ownBlock ∧ some k_ ≠ ((.slice Ao55 y1345.length co55) : Value).ownBlock ∧ some k_ ≠ ((.slice Ao65 t1349.length co65) : Value).ownBlock ∧ some k_ ≠ ((.slice Ao71 t1352.length co71) : Value).ownBlock) (.slice Ao42 x1332000_3.length co42) x1332000_3) ∧ Aside0 (Kd.R (Kd.int .i64) 3 wc w.heap.size (fun k_ => some k_ ≠ ((.slice Ao42 x1332000_3.length co42) : Value).ownBlock ∧ some k_ ≠ ((.slice Ao46 t1334.length co46) : Value).ownBlock ∧ some k_ ≠ ((.slice Ao50 t1337.length co50) : Value).ownBlock ∧ some k_ ≠ ((.slice Ao56 y1342.length co56) : Value).ownBlock ∧ some k_ ≠ ((.slice Ao55 y1345.length co55) : Value).ownBlock ∧ some k_ ≠ ((.slice Ao65 t1349.length co65) : Value).ownBlock ∧ some k_ ≠ ((.slice Ao71 t1352.length co71) : Value).ownBlock) (.slice Ao43 x1332001_3.length co43) x1332001_3) ∧ Aside0 (Kd.R (Kd.int .i64) 3 wc w.heap.size (fun k_ => some k_ ≠ ((.slice Ao42 x1332000_3.length co42) : Value).ownBlock ∧ some k_ ≠ ((.slice Ao43 x1332001_3.length co43) : Value).ownBlock ∧ some k_ ≠ ((.slice Ao50 t1337.length co50) : Value).ownBlock ∧ some k_ ≠ ((.slice Ao56 y1342.length co56) : Value).ownBlock ∧ some k_ ≠ ((.slice Ao55 y1345.length co55) : Value).ownBlock ∧ some k_ ≠ ((.slice Ao65 t1349.length co65) : Value).ownBlock ∧ some k_ ≠ ((.slice Ao71 t1352.length co71) : Value).ownBlock) (.slice Ao46 t1334.length co46) t1334) ∧ Aside0 (Kd.R (Kd.int .i64) 3 wc w.heap.size (fun k_ => some k_ ≠ ((.slice Ao42 x1332000_3.length co42) : Value).ownBlock ∧ some k_ ≠ ((.slice Ao43 x1332001_3.length co43) : Value).ownBlock ∧ some k_ ≠ ((.slice Ao46 t1334.length co46) : Value).ownBlock ∧ some k_ ≠ ((.slice Ao56 y1342.length co56) : Value).ownBlock ∧ some k_ ≠ ((.slice Ao55 y1345.length co55) : Value).ownBlock ∧ some k_ ≠ ((.slice Ao65 t1349.length co65) : Value).ownBlock ∧ some k_ ≠ ((.slice Ao71 t1352.length co71) : Value).ownBlock) (.slice Ao50 t1337.length co50) t1337) ∧ Aside0 (Kd.R (Kd.int .i64) 3 wc w.heap.size (fun k_ => some k_ ≠ ((.slice Ao42 x1332000_3.length co42) : Value).ownBlock ∧ some k_ ≠ ((.slice Ao43 x1332001_3.length co43) : Value).ownBlock ∧ some k_ ≠ ((.slice Ao46 t1334.length co46) : Value).ownBlock ∧ some k_ ≠ ((.slice Ao50 t1337.length co50) : Value).ownBlock ∧ some k_ ≠ ((.slice Ao55 y1345.length co55) : Value).ownBlock ∧ some k_ ≠ ((.slice Ao65 t1349.length co65) : Value).ownBlock ∧ some k_ ≠ ((.slice Ao71 t1352.length co71) : Value).ownBlock) (.slice Ao56 y1342.length co56) y1342) ∧ Aside0 (Kd.R (Kd.int .i64) 3 wc w.heap.size (fun k_ => some k_ ≠ ((.slice Ao42 x1332000_3.length co42) : Value).ownBlock ∧ some k_ ≠ ((.slice Ao43 x1332001_3.length co43) : Value).ownBlock ∧ some k_ ≠ ((.slice Ao46 t1334.length co46) : Value).ownBlock ∧ some k_ ≠ ((.slice Ao50 t1337.length co50) : Value).ownBlock ∧ some k_ ≠ ((.slice Ao56 y1342.length co56) : Value).ownBlock ∧ some k_ ≠ ((.slice Ao65 t1349.length co65) : Value).ownBlock ∧ some k_ ≠ ((.slice Ao71 t1352.length co71) : Value).ownBlock) (.slice Ao55 y1345.length co55) y1345) ∧ Aside0 (Kd.R (Kd.int .i64) 3 wc w.heap.size (fun k_ => some k_ ≠ ((.slice Ao42 x1332000_3.length co42) : Value).ownBlock ∧ some k_ ≠ ((.slice Ao43 x1332001_3.length co43) : Value).ownBlock ∧ some k_ ≠ ((.slice Ao46 t1334.length co46) : Value).ownBlock ∧ some k_ ≠ ((.slice Ao50 t1337.length co50) : Value).ownBlock ∧ some k_ ≠ ((.slice Ao56 y1342.length co56) : Value).ownBlock ∧ some k_ ≠ ((.slice Ao55 y1345.length co55) : Value).ownBlock ∧ some k_ ≠ ((.slice Ao71 t1352.length co71) : Value).ownBlock) (.slice Ao65 t1349.length co65) t1349) ∧ Aside0 (Kd.R (Kd.int .i64) 3 wc w.heap.size (fun k_ => some k_ ≠ ((.slice Ao42 x1332000_3.length co42) : Value).ownBlock ∧ some k_ ≠ ((.slice Ao43 x1332001_3.length co43) : Value).ownBlock ∧ some k_ ≠ ((.slice Ao46 t1334.length co46) : Value).ownBlock ∧ some k_ ≠ ((.slice Ao50 t1337.length co50) : Value).ownBlock ∧ some k_ ≠ ((.slice Ao56 y1342.length co56) : Value).ownBlock ∧ some k_ ≠ ((.slice Ao55 y1345.length co55) : Value).ownBlock ∧ some k_ ≠ ((.slice Ao65 t1349.length co65) : Value).ownBlock) (.slice Ao71 t1352.length co71) t1352) ∧ Aside0 (wc.heap[gb1323]? = some (.cells #[(.slice A0_0 l0_0.length c0_0), (.slice A0_1 l0_1.length c0_1)] 46 (0, 0))) ∧ Aside0 (wc.heap[gb1331]? = some (.cells #[(.slice Ao42 x1332000_3.length co42), (.slice Ao43 x1332001_3.length co43)] 34 (0, 0))) ∧ Aside0 (wc.heap[gb1341]? = some (.cells #[(.slice Ao46 t1334.length co46), (.slice Ao50 t1337.length co50)] 34 (0, 0))) ∧ Aside0 (wc.heap[gb1348]? = some (.cells #[(.slice Ao56 y1342.length co56), (.slice Ao55 y1345.length co55)] 34 (0, 0))) ∧ Aside0 (wc.heap[gb1356]? = some (.cells #[(.slice Ao65 t1349.length co65), (.slice Ao71 t1352.length co71)] 34 (0, 0))) ∧ Aside0 (Below w.heap.size w wc))
            case first =>
             have H := HC39.out
             clear HC39
             replace H := Option.bind_eq_some_iff.mp H
             obtain ⟨t1357, A720, H⟩ := H
             replace H : (if t1357 = 0 then ((graduslaw5_num.f t1355).bind fun t1358 => (if t1358 = 0 then ((gradusref0_EqNumbers.f k3 t1337 (([5, 5] : List Int))).bind fun t1362 => (if t1362 = true then (graduslaw5_GateTies.j3 k3 x3_1 x4_2 ((t1352.length : Int) != (wrap64 (2 * x3_1))) l0_0 l0_1 t1349 t1352) else (graduslaw5_GateTies.j3 k3 x3_1 x4_2 true l0_0 l0_1 t1349 t1352))) else (graduslaw5_GateTies.j3 k3 x3_1 x4_2 true l0_0 l0_1 t1349 t1352))) else (graduslaw5_GateTies.j3 k3 x3_1 x4_2 true l0_0 l0_1 t1349 t1352)) = some r := H
             have A72 := Aside0.mk A720
             clear A720
             by_cases c73 : t1357 = 0
             ·rw [if_pos c73] at H
              have c73b0 : (t1357 == 0) = true := beq_iff_eq.mpr c73
              have c73b1 : (t1357 != 0) = false := bne_eq_false_iff_eq.mpr c73
              clear c73
              (first | rw [c73b0] | (simp only [i64_w, i32_w]; rw [c73b0]) | skip)
              replace H := Option.bind_eq_some_iff.mp H
              obtain ⟨t1358, A740, H⟩ := H
              replace H : (if t1358 = 0 then ((gradusref0_EqNumbers.f k3 t1337 (([5, 5] : List Int))).bind fun t1362 => (if t1362 = true then (graduslaw5_GateTies.j3 k3 x3_1 x4_2 ((t1352.length : Int) != (wrap64 (2 * x3_1))) l0_0 l0_1 t1349 t1352) else (graduslaw5_GateTies.j3 k3 x3_1 x4_2 true l0_0 l0_1 t1349 t1352))) else (graduslaw5_GateTies.j3 k3 x3_1 x4_2 true l0_0 l0_1 t1349 t1352)) = some r := H
              have A74 := Aside0.mk A740
              clear A740
              by_cases c75 : t1358 = 0
              ·rw [if_pos c75] at H
               have c75b0 : (t1358 == 0) = true := beq_iff_eq.mpr c75
               have c75b1 : (t1358 != 0) = false := bne_eq_false_iff_eq.mpr c75
               clear c75
               obtain ⟨y1359, hy1359⟩ : ∃ y_ : List Int, y_ = (([5, 5] : List Int)) := ⟨_, rfl⟩
               replace H : ((gradusref0_EqNumbers.f k3 t1337 y1359).bind fun t1362 => (if t1362 = true then (graduslaw5_GateTies.j3 k3 x3_1 x4_2 ((t1352.length : Int) != (wrap64 (2 * x3_1))) l0_0 l0_1 t1349 t1352) else (graduslaw5_GateTies.j3 k3 x3_1 x4_2 true l0_0 l0_1 t1349 t1352))) = some r := by first | (rw [hy1359]; with_reducible exact H) | (have H2_ := (Option.bind_some _ _).symm.trans H; rw [hy1359]; with_reducible exact H2_) | (have H2_ := (Option.bind_some _ _).symm.trans H; with_reducible exact H2_) | with_reducible exact H | (rw [hy1359]; exact H) | exact H
               have Ny1359 := Aside0.mk hy1359
               clear hy1359
               replace H := Option.bind_eq_some_iff.mp H
               obtain ⟨t1362, A760, H⟩ := H
               replace H : (if t1362 = true then (graduslaw5_GateTies.j3 k3 x3_1 x4_2 ((t1352.length : Int) != (wrap64 (2 * x3_1))) l0_0 l0_1 t1349 t1352) else (graduslaw5_GateTies.j3 k3 x3_1 x4_2 true l0_0 l0_1 t1349 t1352)) = some r := H
               have A76 := Aside0.mk A760
               clear A760
               by_cases c77 : t1362 = true
               ·subst c77
                have H1 : (graduslaw5_GateTies.j3 k3 x3_1 x4_2 ((t1352.length : Int) != (wrap64 (2 * x3_1))) l0_0 l0_1 t1349 t1352) = some r := by rw [if_pos rfl] at H; exact H
                clear H
                have H := H1
                clear H1
                have H' := Aside0.mk H
                clear H
                go_wp2_with (first | ((with_reducible refine gate_callee (f := 70) rfl ?_); refine goesL_ (some 69) rfl rfl Try.func70 (by kernel_rfl) rfl #[.int .i64 t1340] rfl (by (try simp only [List.map_toArray, List.map_cons, List.map_nil]); first | done | rfl | (simp only [List.length_drop, List.length_take]; rfl)) ?_; (with_reducible refine (graduslaw5_num.calls t1340 t1357 _ A72.out).mono ?_); rintro e w' ⟨rfl, ⟨nd, rfl⟩⟩; refine ⟨_, rfl, ?_⟩) | (go_at_call 70; (with_reducible refine (graduslaw5_num.calls t1355 t1358 _ A74.out).mono ?_); rintro e w' ⟨rfl, ⟨nd, rfl⟩⟩; have hnb78 := NB1341_1323.out; have hnc78 := NB1323_1341.out; have hnb79 := NB1341_1331.out; have hnc79 := NB1331_1341.out; have hnb80 := NB1341_1348.out; have hnc80 := NB1348_1341.out; have hnb81 := NB1341_1356.out; have hnc81 := NB1356_1341.out; have hcz82_0 : w64.cell? ⟨gb1341, 0, none⟩ = some (.slice Ao46 t1334.length co46) := (blk_cell BK1341.out 0).trans rfl; have hcz82_1 : w64.cell? ⟨gb1341, 1, none⟩ = some (.slice Ao50 t1337.length co50) := (blk_cell BK1341.out 1).trans rfl; have hfz82_0 := blk_frozen BK1341.out 0; have hfz82_1 := blk_frozen BK1341.out 1) | ((with_reducible refine gate_dst (N := 79) rfl ?_); (try (refine gate_guard (by rfl) ?_; dsimp only)); refine Kd.R_lit (Kd.int .i64) _ 3 ?hg (N := 79) ?hd (xs := ([5, 5] : List Int)) (inner := [.int .i64 5, .int .i64 5]) (ok := fun _ => True) (okp := fun _ => True) ?hr ?hp (fun _ hk => hk) trivial (Below.refl _ _) (Nat.le_refl _) (by simp) ?_; (case hd => rfl); (case hg => rfl); (case hr => first | (go_simp; done) | (go_simp; rfl)); (case hp => exact (Reps.one (show Kd.M (Kd.int .i64) _ _ _ 5 [.int .i64 5] from rfl) (Reps.one (show Kd.M (Kd.int .i64) _ _ _ 5 [.int .i64 5] from rfl) (Reps.none _ _)))); intro v1360 w83 ho84 hb hg_ hnew_; clear hg_ hnew_; (first | rw [← Ny1359.out] at ho84 | (simp only [Int.reduceToNat] at ho84; rw [← Ny1359.out] at ho84)); have n0_ := Aside0.mk (Kd.R_elder' (by (with_reducible repeat (first | apply Kd.R_alloc | apply Kd.R_drewN | apply Kd.R_drew)); exact (Kd.R_mono (Kd.R_far (p := ⟨gb1356, 1, none⟩) (Kd.R_far (p := ⟨gb1356, 0, none⟩) (Kd.R_types HO_1332000.out BK1356.out (by decide)) (fun _ hk => hk.2) (.slice Ao65 t1349.length co65)) (fun _ hk => hk.2) (.slice Ao71 t1352.length co71)) (fun _ h_ => h_.1))) (Kd.R_base ho84) hb); have n1_ := Aside0.mk (Kd.R_elder' (by (with_reducible repeat (first | apply Kd.R_alloc | apply Kd.R_drewN | apply Kd.R_drew)); exact (Kd.R_mono (Kd.R_far (p := ⟨gb1356, 1, none⟩) (Kd.R_far (p := ⟨gb1356, 0, none⟩) (Kd.R_types HO_1332001.out BK1356.out (by decide)) (fun _ hk => hk.2) (.slice Ao65 t1349.length co65)) (fun _ hk => hk.2) (.slice Ao71 t1352.length co71)) (fun _ h_ => h_.1))) (Kd.R_base ho84) hb); have n2_ := Aside0.mk (Kd.R_elder' (by (with_reducible repeat (first | apply Kd.R_alloc | apply Kd.R_drewN | apply Kd.R_drew)); exact (Kd.R_mono (Kd.R_far (p := ⟨gb1356, 1, none⟩) (Kd.R_far (p := ⟨gb1356, 0, none⟩) (Kd.R_types HO1336.out BK1356.out (by decide)) (fun _ hk => hk.2) (.slice Ao65 t1349.length co65)) (fun _ hk => hk.2) (.slice Ao71 t1352.length co71)) (fun _ h_ => h_.1))) (Kd.R_base ho84) hb); have n3_ := Aside0.mk (Kd.R_elder' (by (with_reducible repeat (first | apply Kd.R_alloc | apply Kd.R_drewN | apply Kd.R_drew)); exact (Kd.R_mono (Kd.R_far (p := ⟨gb1356, 1, none⟩) (Kd.R_far (p := ⟨gb1356, 0, none⟩) (Kd.R_types HO1339.out BK1356.out (by decide)) (fun _ hk => hk.2) (.slice Ao65 t1349.length co65)) (fun _ hk => hk.2) (.slice Ao71 t1352.length co71)) (fun _ h_ => h_.1))) (Kd.R_base ho84) hb); have n4_ := Aside0.mk (Kd.R_elder' (by (with_reducible repeat (first | apply Kd.R_alloc | apply Kd.R_drewN | apply Kd.R_drew)); exact (Kd.R_mono (Kd.R_far (p := ⟨gb1356, 1, none⟩) (Kd.R_far (p := ⟨gb1356, 0, none⟩) (Kd.R_types HO1344.out BK1356.out (by decide)) (fun _ hk => hk.2) (.slice Ao65 t1349.length co65)) (fun _ hk => hk.2) (.slice Ao71 t1352.length co71)) (fun _ h_ => h_.1))) (Kd.R_base ho84) hb); have n5_ := Aside0.mk (Kd.R_elder' (by (with_reducible repeat (first | apply Kd.R_alloc | apply Kd.R_drewN | apply Kd.R_drew)); exact (Kd.R_mono (Kd.R_far (p := ⟨gb1356, 1, none⟩) (Kd.R_far (p := ⟨gb1356, 0, none⟩) (Kd.R_types HO1347.out BK1356.out (by decide)) (fun _ hk => hk.2) (.slice Ao65 t1349.length co65)) (fun _ hk => hk.2) (.slice Ao71 t1352.length co71)) (fun _ h_ => h_.1))) (Kd.R_base ho84) hb); have n6_ := Aside0.mk (Kd.R_elder' (by (with_reducible repeat (first | apply Kd.R_alloc | apply Kd.R_drewN | apply Kd.R_drew)); exact (Kd.R_mono (Kd.R_far (p := ⟨gb1356, 1, none⟩) (Kd.R_far (p := ⟨gb1356, 0, none⟩) (Kd.R_types HO1351.out BK1356.out (by decide)) (fun _ hk => hk.2) (.slice Ao65 t1349.length co65)) (fun _ hk => hk.2) (.slice Ao71 t1352.length co71)) (fun _ h_ => h_.1))) (Kd.R_base ho84) hb); have n7_ := Aside0.mk (Kd.R_elder' (by (with_reducible repeat (first | apply Kd.R_alloc | apply Kd.R_drewN | apply Kd.R_drew)); exact (Kd.R_mono (Kd.R_far (p := ⟨gb1356, 1, none⟩) (Kd.R_far (p := ⟨gb1356, 0, none⟩) (Kd.R_types HO1354.out BK1356.out (by decide)) (fun _ hk => hk.2) (.slice Ao65 t1349.length co65)) (fun _ hk => hk.2) (.slice Ao71 t1352.length co71)) (fun _ h_ => h_.1))) (Kd.R_base ho84) hb); have n8_ := Aside0.mk (Kd.R_lower (Kd.R_new' (Kd.R_new' (Kd.R_new' (Kd.R_new' (Kd.R_new' (Kd.R_new' (Kd.R_new' (Kd.R_new' ho84 (Kd.R_lt (by (with_reducible repeat (first | apply Kd.R_alloc | apply Kd.R_drewN | apply Kd.R_drew)); exact (Kd.R_mono (Kd.R_far (p := ⟨gb1356, 1, none⟩) (Kd.R_far (p := ⟨gb1356, 0, none⟩) (Kd.R_types HO_1332000.out BK1356.out (by decide)) (fun _ hk => hk.2) (.slice Ao65 t1349.length co65)) (fun _ hk => hk.2) (.slice Ao71 t1352.length co71)) (fun _ h_ => h_.1))))) (Kd.R_lt (by (with_reducible repeat (first | apply Kd.R_alloc | apply Kd.R_drewN | apply Kd.R_drew)); exact (Kd.R_mono (Kd.R_far (p := ⟨gb1356, 1, none⟩) (Kd.R_far (p := ⟨gb1356, 0, none⟩) (Kd.R_types HO_1332001.out BK1356.out (by decide)) (fun _ hk => hk.2) (.slice Ao65 t1349.length co65)) (fun _ hk => hk.2) (.slice Ao71 t1352.length co71)) (fun _ h_ => h_.1))))) (Kd.R_lt (by (with_reducible repeat (first | apply Kd.R_alloc | apply Kd.R_drewN | apply Kd.R_drew)); exact (Kd.R_mono (Kd.R_far (p := ⟨gb1356, 1, none⟩) (Kd.R_far (p := ⟨gb1356, 0, none⟩) (Kd.R_types HO1336.out BK1356.out (by decide)) (fun _ hk => hk.2) (.slice Ao65 t1349.length co65)) (fun _ hk => hk.2) (.slice Ao71 t1352.length co71)) (fun _ h_ => h_.1))))) (Kd.R_lt (by (with_reducible repeat (first | apply Kd.R_alloc | apply Kd.R_drewN | apply Kd.R_drew)); exact (Kd.R_mono (Kd.R_far (p := ⟨gb1356, 1, none⟩) (Kd.R_far (p := ⟨gb1356, 0, none⟩) (Kd.R_types HO1339.out BK1356.out (by decide)) (fun _ hk => hk.2) (.slice Ao65 t1349.length co65)) (fun _ hk => hk.2) (.slice Ao71 t1352.length co71)) (fun _ h_ => h_.1))))) (Kd.R_lt (by (with_reducible repeat (first | apply Kd.R_alloc | apply Kd.R_drewN | apply Kd.R_drew)); exact (Kd.R_mono (Kd.R_far (p := ⟨gb1356, 1, none⟩) (Kd.R_far (p := ⟨gb1356, 0, none⟩) (Kd.R_types HO1344.out BK1356.out (by decide)) (fun _ hk => hk.2) (.slice Ao65 t1349.length co65)) (fun _ hk => hk.2) (.slice Ao71 t1352.length co71)) (fun _ h_ => h_.1))))) (Kd.R_lt (by (with_reducible repeat (first | apply Kd.R_alloc | apply Kd.R_drewN | apply Kd.R_drew)); exact (Kd.R_mono (Kd.R_far (p := ⟨gb1356, 1, none⟩) (Kd.R_far (p := ⟨gb1356, 0, none⟩) (Kd.R_types HO1347.out BK1356.out (by decide)) (fun _ hk => hk.2) (.slice Ao65 t1349.length co65)) (fun _ hk => hk.2) (.slice Ao71 t1352.length co71)) (fun _ h_ => h_.1))))) (Kd.R_lt (by (with_reducible repeat (first | apply Kd.R_alloc | apply Kd.R_drewN | apply Kd.R_drew)); exact (Kd.R_mono (Kd.R_far (p := ⟨gb1356, 1, none⟩) (Kd.R_far (p := ⟨gb1356, 0, none⟩) (Kd.R_types HO1351.out BK1356.out (by decide)) (fun _ hk => hk.2) (.slice Ao65 t1349.length co65)) (fun _ hk => hk.2) (.slice Ao71 t1352.length co71)) (fun _ h_ => h_.1))))) (Kd.R_lt (by (with_reducible repeat (first | apply Kd.R_alloc | apply Kd.R_drewN | apply Kd.R_drew)); exact (Kd.R_mono (Kd.R_far (p := ⟨gb1356, 1, none⟩) (Kd.R_far (p := ⟨gb1356, 0, none⟩) (Kd.R_types HO1354.out BK1356.out (by decide)) (fun _ hk => hk.2) (.slice Ao65 t1349.length co65)) (fun _ hk => hk.2) (.slice Ao71 t1352.length co71)) (fun _ h_ => h_.1))))) (below_size (by repeat (first | (with_reducible first | exact HB.out | apply below_alloc | apply pw_below_drewN | apply below_drew1 | refine below_set ?_ GE1323.out | refine below_set ?_ GE1331.out | refine below_set ?_ GE1341.out | refine below_set ?_ GE1348.out | refine below_set ?_ GE1356.out) | exact HB.out)))); have n9_ := Aside0.mk (blk_below (g := gb1323) (o := .cells #[.slice A0_0 l0_0.length c0_0, .slice A0_1 l0_1.length c0_1] 46 (0, 0)) (by (with_reducible repeat (first | refine blk_drewN ?_ _ | refine blk_drew ?_ | refine blk_alloc ?_ _)); refine blk_far ?_ NB1323_1356.out _; (with_reducible repeat (first | refine blk_drewN ?_ _ | refine blk_drew ?_ | refine blk_alloc ?_ _)); refine blk_far ?_ NB1323_1356.out _; (with_reducible repeat (first | refine blk_drewN ?_ _ | refine blk_drew ?_ | refine blk_alloc ?_ _)); exact BK1323.out) hb); have n10_ := Aside0.mk (blk_below (g := gb1331) (o := .cells #[.slice Ao42 x1332000_3.length co42, .slice Ao43 x1332001_3.length co43] 34 (0, 0)) (by (with_reducible repeat (first | refine blk_drewN ?_ _ | refine blk_drew ?_ | refine blk_alloc ?_ _)); refine blk_far ?_ NB1331_1356.out _; (with_reducible repeat (first | refine blk_drewN ?_ _ | refine blk_drew ?_ | refine blk_alloc ?_ _)); refine blk_far ?_ NB1331_1356.out _; (with_reducible repeat (first | refine blk_drewN ?_ _ | refine blk_drew ?_ | refine blk_alloc ?_ _)); exact BK1331.out) hb); have n11_ := Aside0.mk (blk_below (g := gb1341) (o := .cells #[.slice Ao46 t1334.length co46, .slice Ao50 t1337.length co50] 34 (0, 0)) (by (with_reducible repeat (first | refine blk_drewN ?_ _ | refine blk_drew ?_ | refine blk_alloc ?_ _)); refine blk_far ?_ NB1341_1356.out _; (with_reducible repeat (first | refine blk_drewN ?_ _ | refine blk_drew ?_ | refine blk_alloc ?_ _)); refine blk_far ?_ NB1341_1356.out _; (with_reducible repeat (first | refine blk_drewN ?_ _ | refine blk_drew ?_ | refine blk_alloc ?_ _)); exact BK1341.out) hb); have n12_ := Aside0.mk (blk_below (g := gb1348) (o := .cells #[.slice Ao56 y1342.length co56, .slice Ao55 y1345.length co55] 34 (0, 0)) (by (with_reducible repeat (first | refine blk_drewN ?_ _ | refine blk_drew ?_ | refine blk_alloc ?_ _)); refine blk_far ?_ NB1348_1356.out _; (with_reducible repeat (first | refine blk_drewN ?_ _ | refine blk_drew ?_ | refine blk_alloc ?_ _)); refine blk_far ?_ NB1348_1356.out _; (with_reducible repeat (first | refine blk_drewN ?_ _ | refine blk_drew ?_ | refine blk_alloc ?_ _)); exact BK1348.out) hb); have n13_ := Aside0.mk (blk_below (g := gb1356) (o := .cells #[.slice Ao65 t1349.length co65, .slice Ao71 t1352.length co71] 34 (0, 0)) (by (with_reducible repeat (first | refine blk_drewN ?_ _ | refine blk_drew ?_ | refine blk_alloc ?_ _)); refine blk_put (cs := #[.slice Ao65 t1349.length co65, .slice none 0 0]) ?_ 1 _ rfl; (with_reducible repeat (first | refine blk_drewN ?_ _ | refine blk_drew ?_ | refine blk_alloc ?_ _)); refine blk_put (cs := #[.slice none 0 0, .slice none 0 0]) ?_ 0 _ rfl; (with_reducible repeat (first | refine blk_drewN ?_ _ | refine blk_drew ?_ | refine blk_alloc ?_ _)); exact BK1356.out) hb); have n14_ := Aside0.mk (below_step (by repeat (first | (with_reducible first | exact HB.out | apply below_alloc | apply pw_below_drewN | apply below_drew1 | refine below_set ?_ GE1323.out | refine below_set ?_ GE1331.out | refine below_set ?_ GE1341.out | refine below_set ?_ GE1348.out | refine below_set ?_ GE1356.out) | exact HB.out)) hb); clear HO_1332000; clear HO_1332001; clear HO1336; clear HO1339; clear HO1344; clear HO1347; clear HO1351; clear HO1354; clear BK1323; clear BK1331; clear BK1341; clear BK1348; clear BK1356; clear HB; have HO_1332000 := n0_; have HO_1332001 := n1_; have HO1336 := n2_; have HO1339 := n3_; have HO1344 := n4_; have HO1347 := n5_; have HO1351 := n6_; have HO1354 := n7_; have HO1361 := n8_; have BK1323 := n9_; have BK1331 := n10_; have BK1341 := n11_; have BK1348 := n12_; have BK1356 := n13_; have HB := n14_; clear n0_ n1_ n2_ n3_ n4_ n5_ n6_ n7_ n8_ n9_ n10_ n11_ n12_ n13_ n14_; clear hb ho84; obtain ⟨Ao85, co85, eo85⟩ := Kd.R_slice HO1361.out; subst eo85) | (go_at_call 28; (with_reducible refine (gradusref0_EqNumbers.calls k3 _ _ t1337 _ _ y1359 true _ ?side1 ?side2 ?side3 ?side4 A76.out).mono ?_); (case side1 => repeat (first | exact (Kd.R_reads' HO1339.out).2.2 | (with_reducible refine Kd.C_alloc ?_ _) | (with_reducible refine Kd.C_drewN ?_ _) | (with_reducible refine Kd.C_drew ?_))); (case side2 => exact (Kd.R_reads' HO1339.out).2.1); (case side3 => repeat (first | exact (Kd.R_reads' HO1361.out).2.2 | (with_reducible refine Kd.C_alloc ?_ _) | (with_reducible refine Kd.C_drewN ?_ _) | (with_reducible refine Kd.C_drew ?_))); (case side4 => exact (Kd.R_reads' HO1361.out).2.1); rintro e w' ⟨rfl, ⟨nd, rfl⟩⟩; have hnb86 := NB1356_1323.out; have hnc86 := NB1323_1356.out; have hnb87 := NB1356_1331.out; have hnc87 := NB1331_1356.out; have hnb88 := NB1356_1348.out; have hnc88 := NB1348_1356.out; have hcz89_0 : w83.cell? ⟨gb1356, 0, none⟩ = some (.slice Ao65 t1349.length co65) := (blk_cell BK1356.out 0).trans rfl; have hcz89_1 : w83.cell? ⟨gb1356, 1, none⟩ = some (.slice Ao71 t1352.length co71) := (blk_cell BK1356.out 1).trans rfl; have hfz89_0 := blk_frozen BK1356.out 0; have hfz89_1 := blk_frozen BK1356.out 1))
                go_meet
                case rel => exact ⟨_, (((t1352.length : Int) != (wrap64 (2 * x3_1)))), (by first | rfl | (simp; done) | (simp [*]; done)), H', ⟨by have := HK1.out; have := HK2.out; have := HK3.out; first | omega | exact Nat.le_refl _⟩, ⟨by (with_reducible repeat (first | apply Kd.R_alloc | apply Kd.R_drewN | apply Kd.R_drew)); exact Kd.R_mono HO_1332000.out (fun _ hk => ⟨hk.1.1.1.1.1.1.1, ⟨hk.1.1.1.1.1.1.2, ⟨hk.1.1.1.1.1.2, ⟨hk.1.1.1.1.2, ⟨hk.1.1.1.2, ⟨hk.1.1.2, hk.1.2⟩⟩⟩⟩⟩⟩)⟩, ⟨by (with_reducible repeat (first | apply Kd.R_alloc | apply Kd.R_drewN | apply Kd.R_drew)); exact Kd.R_mono HO_1332001.out (fun _ hk => ⟨hk.1.1.1.1.1.1.1, ⟨hk.1.1.1.1.1.1.2, ⟨hk.1.1.1.1.1.2, ⟨hk.1.1.1.1.2, ⟨hk.1.1.1.2, ⟨hk.1.1.2, hk.1.2⟩⟩⟩⟩⟩⟩)⟩, ⟨by (with_reducible repeat (first | apply Kd.R_alloc | apply Kd.R_drewN | apply Kd.R_drew)); exact Kd.R_mono HO1336.out (fun _ hk => ⟨hk.1.1.1.1.1.1.2, ⟨hk.1.1.1.1.1.2, ⟨hk.1.1.1.1.1.1.1, ⟨hk.1.1.1.1.2, ⟨hk.1.1.1.2, ⟨hk.1.1.2, hk.1.2⟩⟩⟩⟩⟩⟩)⟩, ⟨by (with_reducible repeat (first | apply Kd.R_alloc | apply Kd.R_drewN | apply Kd.R_drew)); exact Kd.R_mono HO1339.out (fun _ hk => ⟨hk.1.1.1.1.1.1.2, ⟨hk.1.1.1.1.1.2, ⟨hk.1.1.1.1.1.1.1, ⟨hk.1.1.1.1.2, ⟨hk.1.1.1.2, ⟨hk.1.1.2, hk.1.2⟩⟩⟩⟩⟩⟩)⟩, ⟨by (with_reducible repeat (first | apply Kd.R_alloc | apply Kd.R_drewN | apply Kd.R_drew)); exact Kd.R_mono HO1344.out (fun _ hk => ⟨hk.1.1.1.1.1.1.1.2, ⟨hk.1.1.1.1.1.1.2, ⟨hk.1.1.1.1.1.2, ⟨hk.1.1.1.1.2, ⟨hk.1.1.1.2, ⟨hk.1.1.2, hk.1.2⟩⟩⟩⟩⟩⟩)⟩, ⟨by (with_reducible repeat (first | apply Kd.R_alloc | apply Kd.R_drewN | apply Kd.R_drew)); exact Kd.R_mono HO1347.out (fun _ hk => ⟨hk.1.1.1.1.1.1.1.2, ⟨hk.1.1.1.1.1.1.2, ⟨hk.1.1.1.1.1.2, ⟨hk.1.1.1.1.2, ⟨hk.1.1.1.2, ⟨hk.1.1.2, hk.1.2⟩⟩⟩⟩⟩⟩)⟩, ⟨by (with_reducible repeat (first | apply Kd.R_alloc | apply Kd.R_drewN | apply Kd.R_drew)); exact Kd.R_mono HO1351.out (fun _ hk => ⟨hk.1.1.1.1.1.1.2, ⟨hk.1.1.1.1.1.2, ⟨hk.1.1.1.1.2, ⟨hk.1.1.1.2, ⟨hk.1.1.2, ⟨hk.1.2, hk.1.1.1.1.1.1.1⟩⟩⟩⟩⟩⟩)⟩, ⟨by (with_reducible repeat (first | apply Kd.R_alloc | apply Kd.R_drewN | apply Kd.R_drew)); exact Kd.R_mono HO1354.out (fun _ hk => ⟨hk.1.1.1.1.1.1.2, ⟨hk.1.1.1.1.1.2, ⟨hk.1.1.1.1.2, ⟨hk.1.1.1.2, ⟨hk.1.1.2, ⟨hk.1.2, hk.1.1.1.1.1.1.1⟩⟩⟩⟩⟩⟩)⟩, ⟨by (with_reducible repeat (first | refine blk_drewN ?_ _ | refine blk_drew ?_ | refine blk_alloc ?_ _)); exact BK1323.out⟩, ⟨by (with_reducible repeat (first | refine blk_drewN ?_ _ | refine blk_drew ?_ | refine blk_alloc ?_ _)); exact BK1331.out⟩, ⟨by (with_reducible repeat (first | refine blk_drewN ?_ _ | refine blk_drew ?_ | refine blk_alloc ?_ _)); exact BK1341.out⟩, ⟨by (with_reducible repeat (first | refine blk_drewN ?_ _ | refine blk_drew ?_ | refine blk_alloc ?_ _)); exact BK1348.out⟩, ⟨by (with_reducible repeat (first | refine blk_drewN ?_ _ | refine blk_drew ?_ | refine blk_alloc ?_ _)); exact BK1356.out⟩, ⟨by repeat (first | (with_reducible first | exact HB.out | apply below_alloc | apply pw_below_drewN | apply below_drew1 | refine below_set ?_ GE1323.out | refine below_set ?_ GE1331.out | refine below_set ?_ GE1341.out | refine below_set ?_ GE1348.out | refine below_set ?_ GE1356.out) | exact HB.out)⟩⟩
               ·replace c77 := Bool.eq_false_iff.mpr c77
                subst c77
                have H1 : (graduslaw5_GateTies.j3 k3 x3_1 x4_2 true l0_0 l0_1 t1349 t1352) = some r := by rw [if_neg (show ¬ (false = true) by decide)] at H; exact H
                clear H
                have H := H1
                clear H1
                have H' := Aside0.mk H
                clear H
                go_wp2_with (first | ((with_reducible refine gate_callee (f := 70) rfl ?_); refine goesL_ (some 69) rfl rfl Try.func70 (by kernel_rfl) rfl #[.int .i64 t1340] rfl (by (try simp only [List.map_toArray, List.map_cons, List.map_nil]); first | done | rfl | (simp only [List.length_drop, List.length_take]; rfl)) ?_; (with_reducible refine (graduslaw5_num.calls t1340 t1357 _ A72.out).mono ?_); rintro e w' ⟨rfl, ⟨nd, rfl⟩⟩; refine ⟨_, rfl, ?_⟩) | (go_at_call 70; (with_reducible refine (graduslaw5_num.calls t1355 t1358 _ A74.out).mono ?_); rintro e w' ⟨rfl, ⟨nd, rfl⟩⟩; have hnb90 := NB1341_1323.out; have hnc90 := NB1323_1341.out; have hnb91 := NB1341_1331.out; have hnc91 := NB1331_1341.out; have hnb92 := NB1341_1348.out; have hnc92 := NB1348_1341.out; have hnb93 := NB1341_1356.out; have hnc93 := NB1356_1341.out; have hcz94_0 : w64.cell? ⟨gb1341, 0, none⟩ = some (.slice Ao46 t1334.length co46) := (blk_cell BK1341.out 0).trans rfl; have hcz94_1 : w64.cell? ⟨gb1341, 1, none⟩ = some (.slice Ao50 t1337.length co50) := (blk_cell BK1341.out 1).trans rfl; have hfz94_0 := blk_frozen BK1341.out 0; have hfz94_1 := blk_frozen BK1341.out 1) | ((with_reducible refine gate_dst (N := 79) rfl ?_); (try (refine gate_guard (by rfl) ?_; dsimp only)); refine Kd.R_lit (Kd.int .i64) _ 3 ?hg (N := 79) ?hd (xs := ([5, 5] : List Int)) (inner := [.int .i64 5, .int .i64 5]) (ok := fun _ => True) (okp := fun _ => True) ?hr ?hp (fun _ hk => hk) trivial (Below.refl _ _) (Nat.le_refl _) (by simp) ?_; (case hd => rfl); (case hg => rfl); (case hr => first | (go_simp; done) | (go_simp; rfl)); (case hp => exact (Reps.one (show Kd.M (Kd.int .i64) _ _ _ 5 [.int .i64 5] from rfl) (Reps.one (show Kd.M (Kd.int .i64) _ _ _ 5 [.int .i64 5] from rfl) (Reps.none _ _)))); intro v1360 w95 ho96 hb hg_ hnew_; clear hg_ hnew_; (first | rw [← Ny1359.out] at ho96 | (simp only [Int.reduceToNat] at ho96; rw [← Ny1359.out] at ho96)); have n0_ := Aside0.mk (Kd.R_elder' (by (with_reducible repeat (first | apply Kd.R_alloc | apply Kd.R_drewN | apply Kd.R_drew)); exact (Kd.R_mono (Kd.R_far (p := ⟨gb1356, 1, none⟩) (Kd.R_far (p := ⟨gb1356, 0, none⟩) (Kd.R_types HO_1332000.out BK1356.out (by decide)) (fun _ hk => hk.2) (.slice Ao65 t1349.length co65)) (fun _ hk => hk.2) (.slice Ao71 t1352.length co71)) (fun _ h_ => h_.1))) (Kd.R_base ho96) hb); have n1_ := Aside0.mk (Kd.R_elder' (by (with_reducible repeat (first | apply Kd.R_alloc | apply Kd.R_drewN | apply Kd.R_drew)); exact (Kd.R_mono (Kd.R_far (p := ⟨gb1356, 1, none⟩) (Kd.R_far (p := ⟨gb1356, 0, none⟩) (Kd.R_types HO_1332001.out BK1356.out (by decide)) (fun _ hk => hk.2) (.slice Ao65 t1349.length co65)) (fun _ hk => hk.2) (.slice Ao71 t1352.length co71)) (fun _ h_ => h_.1))) (Kd.R_base ho96) hb); have n2_ := Aside0.mk (Kd.R_elder' (by (with_reducible repeat (first | apply Kd.R_alloc | apply Kd.R_drewN | apply Kd.R_drew)); exact (Kd.R_mono (Kd.R_far (p := ⟨gb1356, 1, none⟩) (Kd.R_far (p := ⟨gb1356, 0, none⟩) (Kd.R_types HO1336.out BK1356.out (by decide)) (fun _ hk => hk.2) (.slice Ao65 t1349.length co65)) (fun _ hk => hk.2) (.slice Ao71 t1352.length co71)) (fun _ h_ => h_.1))) (Kd.R_base ho96) hb); have n3_ := Aside0.mk (Kd.R_elder' (by (with_reducible repeat (first | apply Kd.R_alloc | apply Kd.R_drewN | apply Kd.R_drew)); exact (Kd.R_mono (Kd.R_far (p := ⟨gb1356, 1, none⟩) (Kd.R_far (p := ⟨gb1356, 0, none⟩) (Kd.R_types HO1339.out BK1356.out (by decide)) (fun _ hk => hk.2) (.slice Ao65 t1349.length co65)) (fun _ hk => hk.2) (.slice Ao71 t1352.length co71)) (fun _ h_ => h_.1))) (Kd.R_base ho96) hb); have n4_ := Aside0.mk (Kd.R_elder' (by (with_reducible repeat (first | apply Kd.R_alloc | apply Kd.R_drewN | apply Kd.R_drew)); exact (Kd.R_mono (Kd.R_far (p := ⟨gb1356, 1, none⟩) (Kd.R_far (p := ⟨gb1356, 0, none⟩) (Kd.R_types HO1344.out BK1356.out (by decide)) (fun _ hk => hk.2) (.slice Ao65 t1349.length co65)) (fun _ hk => hk.2) (.slice Ao71 t1352.length co71)) (fun _ h_ => h_.1))) (Kd.R_base ho96) hb); have n5_ := Aside0.mk (Kd.R_elder' (by (with_reducible repeat (first | apply Kd.R_alloc | apply Kd.R_drewN | apply Kd.R_drew)); exact (Kd.R_mono (Kd.R_far (p := ⟨gb1356, 1, none⟩) (Kd.R_far (p := ⟨gb1356, 0, none⟩) (Kd.R_types HO1347.out BK1356.out (by decide)) (fun _ hk => hk.2) (.slice Ao65 t1349.length co65)) (fun _ hk => hk.2) (.slice Ao71 t1352.length co71)) (fun _ h_ => h_.1))) (Kd.R_base ho96) hb); have n6_ := Aside0.mk (Kd.R_elder' (by (with_reducible repeat (first | apply Kd.R_alloc | apply Kd.R_drewN | apply Kd.R_drew)); exact (Kd.R_mono (Kd.R_far (p := ⟨gb1356, 1, none⟩) (Kd.R_far (p := ⟨gb1356, 0, none⟩) (Kd.R_types HO1351.out BK1356.out (by decide)) (fun _ hk => hk.2) (.slice Ao65 t1349.length co65)) (fun _ hk => hk.2) (.slice Ao71 t1352.length co71)) (fun _ h_ => h_.1))) (Kd.R_base ho96) hb); have n7_ := Aside0.mk (Kd.R_elder' (by (with_reducible repeat (first | apply Kd.R_alloc | apply Kd.R_drewN | apply Kd.R_drew)); exact (Kd.R_mono (Kd.R_far (p := ⟨gb1356, 1, none⟩) (Kd.R_far (p := ⟨gb1356, 0, none⟩) (Kd.R_types HO1354.out BK1356.out (by decide)) (fun _ hk => hk.2) (.slice Ao65 t1349.length co65)) (fun _ hk => hk.2) (.slice Ao71 t1352.length co71)) (fun _ h_ => h_.1))) (Kd.R_base ho96) hb); have n8_ := Aside0.mk (Kd.R_lower (Kd.R_new' (Kd.R_new' (Kd.R_new' (Kd.R_new' (Kd.R_new' (Kd.R_new' (Kd.R_new' (Kd.R_new' ho96 (Kd.R_lt (by (with_reducible repeat (first | apply Kd.R_alloc | apply Kd.R_drewN | apply Kd.R_drew)); exact (Kd.R_mono (Kd.R_far (p := ⟨gb1356, 1, none⟩) (Kd.R_far (p := ⟨gb1356, 0, none⟩) (Kd.R_types HO_1332000.out BK1356.out (by decide)) (fun _ hk => hk.2) (.slice Ao65 t1349.length co65)) (fun _ hk => hk.2) (.slice Ao71 t1352.length co71)) (fun _ h_ => h_.1))))) (Kd.R_lt (by (with_reducible repeat (first | apply Kd.R_alloc | apply Kd.R_drewN | apply Kd.R_drew)); exact (Kd.R_mono (Kd.R_far (p := ⟨gb1356, 1, none⟩) (Kd.R_far (p := ⟨gb1356, 0, none⟩) (Kd.R_types HO_1332001.out BK1356.out (by decide)) (fun _ hk => hk.2) (.slice Ao65 t1349.length co65)) (fun _ hk => hk.2) (.slice Ao71 t1352.length co71)) (fun _ h_ => h_.1))))) (Kd.R_lt (by (with_reducible repeat (first | apply Kd.R_alloc | apply Kd.R_drewN | apply Kd.R_drew)); exact (Kd.R_mono (Kd.R_far (p := ⟨gb1356, 1, none⟩) (Kd.R_far (p := ⟨gb1356, 0, none⟩) (Kd.R_types HO1336.out BK1356.out (by decide)) (fun _ hk => hk.2) (.slice Ao65 t1349.length co65)) (fun _ hk => hk.2) (.slice Ao71 t1352.length co71)) (fun _ h_ => h_.1))))) (Kd.R_lt (by (with_reducible repeat (first | apply Kd.R_alloc | apply Kd.R_drewN | apply Kd.R_drew)); exact (Kd.R_mono (Kd.R_far (p := ⟨gb1356, 1, none⟩) (Kd.R_far (p := ⟨gb1356, 0, none⟩) (Kd.R_types HO1339.out BK1356.out (by decide)) (fun _ hk => hk.2) (.slice Ao65 t1349.length co65)) (fun _ hk => hk.2) (.slice Ao71 t1352.length co71)) (fun _ h_ => h_.1))))) (Kd.R_lt (by (with_reducible repeat (first | apply Kd.R_alloc | apply Kd.R_drewN | apply Kd.R_drew)); exact (Kd.R_mono (Kd.R_far (p := ⟨gb1356, 1, none⟩) (Kd.R_far (p := ⟨gb1356, 0, none⟩) (Kd.R_types HO1344.out BK1356.out (by decide)) (fun _ hk => hk.2) (.slice Ao65 t1349.length co65)) (fun _ hk => hk.2) (.slice Ao71 t1352.length co71)) (fun _ h_ => h_.1))))) (Kd.R_lt (by (with_reducible repeat (first | apply Kd.R_alloc | apply Kd.R_drewN | apply Kd.R_drew)); exact (Kd.R_mono (Kd.R_far (p := ⟨gb1356, 1, none⟩) (Kd.R_far (p := ⟨gb1356, 0, none⟩) (Kd.R_types HO1347.out BK1356.out (by decide)) (fun _ hk => hk.2) (.slice Ao65 t1349.length co65)) (fun _ hk => hk.2) (.slice Ao71 t1352.length co71)) (fun _ h_ => h_.1))))) (Kd.R_lt (by (with_reducible repeat (first | apply Kd.R_alloc | apply Kd.R_drewN | apply Kd.R_drew)); exact (Kd.R_mono (Kd.R_far (p := ⟨gb1356, 1, none⟩) (Kd.R_far (p := ⟨gb1356, 0, none⟩) (Kd.R_types HO1351.out BK1356.out (by decide)) (fun _ hk => hk.2) (.slice Ao65 t1349.length co65)) (fun _ hk => hk.2) (.slice Ao71 t1352.length co71)) (fun _ h_ => h_.1))))) (Kd.R_lt (by (with_reducible repeat (first | apply Kd.R_alloc | apply Kd.R_drewN | apply Kd.R_drew)); exact (Kd.R_mono (Kd.R_far (p := ⟨gb1356, 1, none⟩) (Kd.R_far (p := ⟨gb1356, 0, none⟩) (Kd.R_types HO1354.out BK1356.out (by decide)) (fun _ hk => hk.2) (.slice Ao65 t1349.length co65)) (fun _ hk => hk.2) (.slice Ao71 t1352.length co71)) (fun _ h_ => h_.1))))) (below_size (by repeat (first | (with_reducible first | exact HB.out | apply below_alloc | apply pw_below_drewN | apply below_drew1 | refine below_set ?_ GE1323.out | refine below_set ?_ GE1331.out | refine below_set ?_ GE1341.out | refine below_set ?_ GE1348.out | refine below_set ?_ GE1356.out) | exact HB.out)))); have n9_ := Aside0.mk (blk_below (g := gb1323) (o := .cells #[.slice A0_0 l0_0.length c0_0, .slice A0_1 l0_1.length c0_1] 46 (0, 0)) (by (with_reducible repeat (first | refine blk_drewN ?_ _ | refine blk_drew ?_ | refine blk_alloc ?_ _)); refine blk_far ?_ NB1323_1356.out _; (with_reducible repeat (first | refine blk_drewN ?_ _ | refine blk_drew ?_ | refine blk_alloc ?_ _)); refine blk_far ?_ NB1323_1356.out _; (with_reducible repeat (first | refine blk_drewN ?_ _ | refine blk_drew ?_ | refine blk_alloc ?_ _)); exact BK1323.out) hb); have n10_ := Aside0.mk (blk_below (g := gb1331) (o := .cells #[.slice Ao42 x1332000_3.length co42, .slice Ao43 x1332001_3.length co43] 34 (0, 0)) (by (with_reducible repeat (first | refine blk_drewN ?_ _ | refine blk_drew ?_ | refine blk_alloc ?_ _)); refine blk_far ?_ NB1331_1356.out _; (with_reducible repeat (first | refine blk_drewN ?_ _ | refine blk_drew ?_ | refine blk_alloc ?_ _)); refine blk_far ?_ NB1331_1356.out _; (with_reducible repeat (first | refine blk_drewN ?_ _ | refine blk_drew ?_ | refine blk_alloc ?_ _)); exact BK1331.out) hb); have n11_ := Aside0.mk (blk_below (g := gb1341) (o := .cells #[.slice Ao46 t1334.length co46, .slice Ao50 t1337.length co50] 34 (0, 0)) (by (with_reducible repeat (first | refine blk_drewN ?_ _ | refine blk_drew ?_ | refine blk_alloc ?_ _)); refine blk_far ?_ NB1341_1356.out _; (with_reducible repeat (first | refine blk_drewN ?_ _ | refine blk_drew ?_ | refine blk_alloc ?_ _)); refine blk_far ?_ NB1341_1356.out _; (with_reducible repeat (first | refine blk_drewN ?_ _ | refine blk_drew ?_ | refine blk_alloc ?_ _)); exact BK1341.out) hb); have n12_ := Aside0.mk (blk_below (g := gb1348) (o := .cells #[.slice Ao56 y1342.length co56, .slice Ao55 y1345.length co55] 34 (0, 0)) (by (with_reducible repeat (first | refine blk_drewN ?_ _ | refine blk_drew ?_ | refine blk_alloc ?_ _)); refine blk_far ?_ NB1348_1356.out _; (with_reducible repeat (first | refine blk_drewN ?_ _ | refine blk_drew ?_ | refine blk_alloc ?_ _)); refine blk_far ?_ NB1348_1356.out _; (with_reducible repeat (first | refine blk_drewN ?_ _ | refine blk_drew ?_ | refine blk_alloc ?_ _)); exact BK1348.out) hb); have n13_ := Aside0.mk (blk_below (g := gb1356) (o := .cells #[.slice Ao65 t1349.length co65, .slice Ao71 t1352.length co71] 34 (0, 0)) (by (with_reducible repeat (first | refine blk_drewN ?_ _ | refine blk_drew ?_ | refine blk_alloc ?_ _)); refine blk_put (cs := #[.slice Ao65 t1349.length co65, .slice none 0 0]) ?_ 1 _ rfl; (with_reducible repeat (first | refine blk_drewN ?_ _ | refine blk_drew ?_ | refine blk_alloc ?_ _)); refine blk_put (cs := #[.slice none 0 0, .slice none 0 0]) ?_ 0 _ rfl; (with_reducible repeat (first | refine blk_drewN ?_ _ | refine blk_drew ?_ | refine blk_alloc ?_ _)); exact BK1356.out) hb); have n14_ := Aside0.mk (below_step (by repeat (first | (with_reducible first | exact HB.out | apply below_alloc | apply pw_below_drewN | apply below_drew1 | refine below_set ?_ GE1323.out | refine below_set ?_ GE1331.out | refine below_set ?_ GE1341.out | refine below_set ?_ GE1348.out | refine below_set ?_ GE1356.out) | exact HB.out)) hb); clear HO_1332000; clear HO_1332001; clear HO1336; clear HO1339; clear HO1344; clear HO1347; clear HO1351; clear HO1354; clear BK1323; clear BK1331; clear BK1341; clear BK1348; clear BK1356; clear HB; have HO_1332000 := n0_; have HO_1332001 := n1_; have HO1336 := n2_; have HO1339 := n3_; have HO1344 := n4_; have HO1347 := n5_; have HO1351 := n6_; have HO1354 := n7_; have HO1361 := n8_; have BK1323 := n9_; have BK1331 := n10_; have BK1341 := n11_; have BK1348 := n12_; have BK1356 := n13_; have HB := n14_; clear n0_ n1_ n2_ n3_ n4_ n5_ n6_ n7_ n8_ n9_ n10_ n11_ n12_ n13_ n14_; clear hb ho96; obtain ⟨Ao97, co97, eo97⟩ := Kd.R_slice HO1361.out; subst eo97) | (go_at_call 28; (with_reducible refine (gradusref0_EqNumbers.calls k3 _ _ t1337 _ _ y1359 false _ ?side1 ?side2 ?side3 ?side4 A76.out).mono ?_); (case side1 => repeat (first | exact (Kd.R_reads' HO1339.out).2.2 | (with_reducible refine Kd.C_alloc ?_ _) | (with_reducible refine Kd.C_drewN ?_ _) | (with_reducible refine Kd.C_drew ?_))); (case side2 => exact (Kd.R_reads' HO1339.out).2.1); (case side3 => repeat (first | exact (Kd.R_reads' HO1361.out).2.2 | (with_reducible refine Kd.C_alloc ?_ _) | (with_reducible refine Kd.C_drewN ?_ _) | (with_reducible refine Kd.C_drew ?_))); (case side4 => exact (Kd.R_reads' HO1361.out).2.1); rintro e w' ⟨rfl, ⟨nd, rfl⟩⟩))
                go_meet
                case rel => exact ⟨_, (true), (by first | rfl | (simp; done) | (simp [*]; done)), H', ⟨by have := HK1.out; have := HK2.out; have := HK3.out; first | omega | exact Nat.le_refl _⟩, ⟨by (with_reducible repeat (first | apply Kd.R_alloc | apply Kd.R_drewN | apply Kd.R_drew)); exact Kd.R_mono HO_1332000.out (fun _ hk => ⟨hk.1.1.1.1.1.1.1, ⟨hk.1.1.1.1.1.1.2, ⟨hk.1.1.1.1.1.2, ⟨hk.1.1.1.1.2, ⟨hk.1.1.1.2, ⟨hk.1.1.2, hk.1.2⟩⟩⟩⟩⟩⟩)⟩, ⟨by (with_reducible repeat (first | apply Kd.R_alloc | apply Kd.R_drewN | apply Kd.R_drew)); exact Kd.R_mono HO_1332001.out (fun _ hk => ⟨hk.1.1.1.1.1.1.1, ⟨hk.1.1.1.1.1.1.2, ⟨hk.1.1.1.1.1.2, ⟨hk.1.1.1.1.2, ⟨hk.1.1.1.2, ⟨hk.1.1.2, hk.1.2⟩⟩⟩⟩⟩⟩)⟩, ⟨by (with_reducible repeat (first | apply Kd.R_alloc | apply Kd.R_drewN | apply Kd.R_drew)); exact Kd.R_mono HO1336.out (fun _ hk => ⟨hk.1.1.1.1.1.1.2, ⟨hk.1.1.1.1.1.2, ⟨hk.1.1.1.1.1.1.1, ⟨hk.1.1.1.1.2, ⟨hk.1.1.1.2, ⟨hk.1.1.2, hk.1.2⟩⟩⟩⟩⟩⟩)⟩, ⟨by (with_reducible repeat (first | apply Kd.R_alloc | apply Kd.R_drewN | apply Kd.R_drew)); exact Kd.R_mono HO1339.out (fun _ hk => ⟨hk.1.1.1.1.1.1.2, ⟨hk.1.1.1.1.1.2, ⟨hk.1.1.1.1.1.1.1, ⟨hk.1.1.1.1.2, ⟨hk.1.1.1.2, ⟨hk.1.1.2, hk.1.2⟩⟩⟩⟩⟩⟩)⟩, ⟨by (with_reducible repeat (first | apply Kd.R_alloc | apply Kd.R_drewN | apply Kd.R_drew)); exact Kd.R_mono HO1344.out (fun _ hk => ⟨hk.1.1.1.1.1.1.1.2, ⟨hk.1.1.1.1.1.1.2, ⟨hk.1.1.1.1.1.2, ⟨hk.1.1.1.1.2, ⟨hk.1.1.1.2, ⟨hk.1.1.2, hk.1.2⟩⟩⟩⟩⟩⟩)⟩, ⟨by (with_reducible repeat (first | apply Kd.R_alloc | apply Kd.R_drewN | apply Kd.R_drew)); exact Kd.R_mono HO1347.out (fun _ hk => ⟨hk.1.1.1.1.1.1.1.2, ⟨hk.1.1.1.1.1.1.2, ⟨hk.1.1.1.1.1.2, ⟨hk.1.1.1.1.2, ⟨hk.1.1.1.2, ⟨hk.1.1.2, hk.1.2⟩⟩⟩⟩⟩⟩)⟩, ⟨by (with_reducible repeat (first | apply Kd.R_alloc | apply Kd.R_drewN | apply Kd.R_drew)); exact Kd.R_mono HO1351.out (fun _ hk => ⟨hk.1.1.1.1.1.1.2, ⟨hk.1.1.1.1.1.2, ⟨hk.1.1.1.1.2, ⟨hk.1.1.1.2, ⟨hk.1.1.2, ⟨hk.1.2, hk.1.1.1.1.1.1.1⟩⟩⟩⟩⟩⟩)⟩, ⟨by (with_reducible repeat (first | apply Kd.R_alloc | apply Kd.R_drewN | apply Kd.R_drew)); exact Kd.R_mono HO1354.out (fun _ hk => ⟨hk.1.1.1.1.1.1.2, ⟨hk.1.1.1.1.1.2, ⟨hk.1.1.1.1.2, ⟨hk.1.1.1.2, ⟨hk.1.1.2, ⟨hk.1.2, hk.1.1.1.1.1.1.1⟩⟩⟩⟩⟩⟩)⟩, ⟨by (with_reducible repeat (first | refine blk_drewN ?_ _ | refine blk_drew ?_ | refine blk_alloc ?_ _)); exact BK1323.out⟩, ⟨by (with_reducible repeat (first | refine blk_drewN ?_ _ | refine blk_drew ?_ | refine blk_alloc ?_ _)); exact BK1331.out⟩, ⟨by (with_reducible repeat (first | refine blk_drewN ?_ _ | refine blk_drew ?_ | refine blk_alloc ?_ _)); exact BK1341.out⟩, ⟨by (with_reducible repeat (first | refine blk_drewN ?_ _ | refine blk_drew ?_ | refine blk_alloc ?_ _)); exact BK1348.out⟩, ⟨by (with_reducible repeat (first | refine blk_drewN ?_ _ | refine blk_drew ?_ | refine blk_alloc ?_ _)); exact BK1356.out⟩, ⟨by repeat (first | (with_reducible first | exact HB.out | apply below_alloc | apply pw_below_drewN | apply below_drew1 | refine below_set ?_ GE1323.out | refine below_set ?_ GE1331.out | refine below_set ?_ GE1341.out | refine below_set ?_ GE1348.out | refine below_set ?_ GE1356.out) | exact HB.out)⟩⟩
              ·rw [if_neg c75] at H
               have c75b0 : (t1358 == 0) = false := beq_eq_false_iff_ne.mpr c75
               have c75b1 : (t1358 != 0) = true := bne_iff_ne.mpr c75
               have H' := Aside0.mk H
               clear H
               go_wp2_with (first | ((with_reducible refine gate_callee (f := 70) rfl ?_); refine goesL_ (some 69) rfl rfl Try.func70 (by kernel_rfl) rfl #[.int .i64 t1340] rfl (by (try simp only [List.map_toArray, List.map_cons, List.map_nil]); first | done | rfl | (simp only [List.length_drop, List.length_take]; rfl)) ?_; (with_reducible refine (graduslaw5_num.calls t1340 t1357 _ A72.out).mono ?_); rintro e w' ⟨rfl, ⟨nd, rfl⟩⟩; refine ⟨_, rfl, ?_⟩) | (go_at_call 70; (with_reducible refine (graduslaw5_num.calls t1355 t1358 _ A74.out).mono ?_); rintro e w' ⟨rfl, ⟨nd, rfl⟩⟩))
               go_meet
               case rel => exact ⟨_, (true), (by first | rfl | (simp; done) | (simp [*]; done)), H', ⟨by have := HK1.out; have := HK2.out; have := HK3.out; first | omega | exact Nat.le_refl _⟩, ⟨by (with_reducible repeat (first | apply Kd.R_alloc | apply Kd.R_drewN | apply Kd.R_drew)); exact Kd.R_mono (Kd.R_far (p := ⟨gb1356, 1, none⟩) (Kd.R_far (p := ⟨gb1356, 0, none⟩) (Kd.R_types HO_1332000.out BK1356.out (by decide)) (fun _ hk => hk.2) (.slice Ao65 t1349.length co65)) (fun _ hk => hk.2) (.slice Ao71 t1352.length co71)) (fun _ hk => ⟨hk.1.1.1.1.1.1.1, ⟨hk.1.1.1.1.1.1.2, ⟨hk.1.1.1.1.1.2, ⟨hk.1.1.1.1.2, ⟨hk.1.1.1.2, ⟨hk.1.1.2, hk.1.2⟩⟩⟩⟩⟩⟩)⟩, ⟨by (with_reducible repeat (first | apply Kd.R_alloc | apply Kd.R_drewN | apply Kd.R_drew)); exact Kd.R_mono (Kd.R_far (p := ⟨gb1356, 1, none⟩) (Kd.R_far (p := ⟨gb1356, 0, none⟩) (Kd.R_types HO_1332001.out BK1356.out (by decide)) (fun _ hk => hk.2) (.slice Ao65 t1349.length co65)) (fun _ hk => hk.2) (.slice Ao71 t1352.length co71)) (fun _ hk => ⟨hk.1.1.1.1.1.1.1, ⟨hk.1.1.1.1.1.1.2, ⟨hk.1.1.1.1.1.2, ⟨hk.1.1.1.1.2, ⟨hk.1.1.1.2, ⟨hk.1.1.2, hk.1.2⟩⟩⟩⟩⟩⟩)⟩, ⟨by (with_reducible repeat (first | apply Kd.R_alloc | apply Kd.R_drewN | apply Kd.R_drew)); exact Kd.R_mono (Kd.R_far (p := ⟨gb1356, 1, none⟩) (Kd.R_far (p := ⟨gb1356, 0, none⟩) (Kd.R_types HO1336.out BK1356.out (by decide)) (fun _ hk => hk.2) (.slice Ao65 t1349.length co65)) (fun _ hk => hk.2) (.slice Ao71 t1352.length co71)) (fun _ hk => ⟨hk.1.1.1.1.1.1.2, ⟨hk.1.1.1.1.1.2, ⟨hk.1.1.1.1.1.1.1, ⟨hk.1.1.1.1.2, ⟨hk.1.1.1.2, ⟨hk.1.1.2, hk.1.2⟩⟩⟩⟩⟩⟩)⟩, ⟨by (with_reducible repeat (first | apply Kd.R_alloc | apply Kd.R_drewN | apply Kd.R_drew)); exact Kd.R_mono (Kd.R_far (p := ⟨gb1356, 1, none⟩) (Kd.R_far (p := ⟨gb1356, 0, none⟩) (Kd.R_types HO1339.out BK1356.out (by decide)) (fun _ hk => hk.2) (.slice Ao65 t1349.length co65)) (fun _ hk => hk.2) (.slice Ao71 t1352.length co71)) (fun _ hk => ⟨hk.1.1.1.1.1.1.2, ⟨hk.1.1.1.1.1.2, ⟨hk.1.1.1.1.1.1.1, ⟨hk.1.1.1.1.2, ⟨hk.1.1.1.2, ⟨hk.1.1.2, hk.1.2⟩⟩⟩⟩⟩⟩)⟩, ⟨by (with_reducible repeat (first | apply Kd.R_alloc | apply Kd.R_drewN | apply Kd.R_drew)); exact Kd.R_mono (Kd.R_far (p := ⟨gb1356, 1, none⟩) (Kd.R_far (p := ⟨gb1356, 0, none⟩) (Kd.R_types HO1344.out BK1356.out (by decide)) (fun _ hk => hk.2) (.slice Ao65 t1349.length co65)) (fun _ hk => hk.2) (.slice Ao71 t1352.length co71)) (fun _ hk => ⟨hk.1.1.1.1.1.1.1.2, ⟨hk.1.1.1.1.1.1.2, ⟨hk.1.1.1.1.1.2, ⟨hk.1.1.1.1.2, ⟨hk.1.1.1.2, ⟨hk.1.1.2, hk.1.2⟩⟩⟩⟩⟩⟩)⟩, ⟨by (with_reducible repeat (first | apply Kd.R_alloc | apply Kd.R_drewN | apply Kd.R_drew)); exact Kd.R_mono (Kd.R_far (p := ⟨gb1356, 1, none⟩) (Kd.R_far (p := ⟨gb1356, 0, none⟩) (Kd.R_types HO1347.out BK1356.out (by decide)) (fun _ hk => hk.2) (.slice Ao65 t1349.length co65)) (fun _ hk => hk.2) (.slice Ao71 t1352.length co71)) (fun _ hk => ⟨hk.1.1.1.1.1.1.1.2, ⟨hk.1.1.1.1.1.1.2, ⟨hk.1.1.1.1.1.2, ⟨hk.1.1.1.1.2, ⟨hk.1.1.1.2, ⟨hk.1.1.2, hk.1.2⟩⟩⟩⟩⟩⟩)⟩, ⟨by (with_reducible repeat (first | apply Kd.R_alloc | apply Kd.R_drewN | apply Kd.R_drew)); exact Kd.R_mono (Kd.R_far (p := ⟨gb1356, 1, none⟩) (Kd.R_far (p := ⟨gb1356, 0, none⟩) (Kd.R_types HO1351.out BK1356.out (by decide)) (fun _ hk => hk.2) (.slice Ao65 t1349.length co65)) (fun _ hk => hk.2) (.slice Ao71 t1352.length co71)) (fun _ hk => ⟨hk.1.1.1.1.1.1.2, ⟨hk.1.1.1.1.1.2, ⟨hk.1.1.1.1.2, ⟨hk.1.1.1.2, ⟨hk.1.1.2, ⟨hk.1.2, hk.1.1.1.1.1.1.1⟩⟩⟩⟩⟩⟩)⟩, ⟨by (with_reducible repeat (first | apply Kd.R_alloc | apply Kd.R_drewN | apply Kd.R_drew)); exact Kd.R_mono (Kd.R_far (p := ⟨gb1356, 1, none⟩) (Kd.R_far (p := ⟨gb1356, 0, none⟩) (Kd.R_types HO1354.out BK1356.out (by decide)) (fun _ hk => hk.2) (.slice Ao65 t1349.length co65)) (fun _ hk => hk.2) (.slice Ao71 t1352.length co71)) (fun _ hk => ⟨hk.1.1.1.1.1.1.2, ⟨hk.1.1.1.1.1.2, ⟨hk.1.1.1.1.2, ⟨hk.1.1.1.2, ⟨hk.1.1.2, ⟨hk.1.2, hk.1.1.1.1.1.1.1⟩⟩⟩⟩⟩⟩)⟩, ⟨by (with_reducible repeat (first | refine blk_drewN ?_ _ | refine blk_drew ?_ | refine blk_alloc ?_ _)); refine blk_far ?_ NB1323_1356.out _; (with_reducible repeat (first | refine blk_drewN ?_ _ | refine blk_drew ?_ | refine blk_alloc ?_ _)); refine blk_far ?_ NB1323_1356.out _; (with_reducible repeat (first | refine blk_drewN ?_ _ | refine blk_drew ?_ | refine blk_alloc ?_ _)); exact BK1323.out⟩, ⟨by (with_reducible repeat (first | refine blk_drewN ?_ _ | refine blk_drew ?_ | refine blk_alloc ?_ _)); refine blk_far ?_ NB1331_1356.out _; (with_reducible repeat (first | refine blk_drewN ?_ _ | refine blk_drew ?_ | refine blk_alloc ?_ _)); refine blk_far ?_ NB1331_1356.out _; (with_reducible repeat (first | refine blk_drewN ?_ _ | refine blk_drew ?_ | refine blk_alloc ?_ _)); exact BK1331.out⟩, ⟨by (with_reducible repeat (first | refine blk_drewN ?_ _ | refine blk_drew ?_ | refine blk_alloc ?_ _)); refine blk_far ?_ NB1341_1356.out _; (with_reducible repeat (first | refine blk_drewN ?_ _ | refine blk_drew ?_ | refine blk_alloc ?_ _)); refine blk_far ?_ NB1341_1356.out _; (with_reducible repeat (first | refine blk_drewN ?_ _ | refine blk_drew ?_ | refine blk_alloc ?_ _)); exact BK1341.out⟩, ⟨by (with_reducible repeat (first | refine blk_drewN ?_ _ | refine blk_drew ?_ | refine blk_alloc ?_ _)); refine blk_far ?_ NB1348_1356.out _; (with_reducible repeat (first | refine blk_drewN ?_ _ | refine blk_drew ?_ | refine blk_alloc ?_ _)); refine blk_far ?_ NB1348_1356.out _; (with_reducible repeat (first | refine blk_drewN ?_ _ | refine blk_drew ?_ | refine blk_alloc ?_ _)); exact BK1348.out⟩, ⟨by (with_reducible repeat (first | refine blk_drewN ?_ _ | refine blk_drew ?_ | refine blk_alloc ?_ _)); refine blk_put (cs := #[.slice Ao65 t1349.length co65, .slice none 0 0]) ?_ 1 _ rfl; (with_reducible repeat (first | refine blk_drewN ?_ _ | refine blk_drew ?_ | refine blk_alloc ?_ _)); refine blk_put (cs := #[.slice none 0 0, .slice none 0 0]) ?_ 0 _ rfl; (with_reducible repeat (first | refine blk_drewN ?_ _ | refine blk_drew ?_ | refine blk_alloc ?_ _)); exact BK1356.out⟩, ⟨by repeat (first | (with_reducible first | exact HB.out | apply below_alloc | apply pw_below_drewN | apply below_drew1 | refine below_set ?_ GE1323.out | refine below_set ?_ GE1331.out | refine below_set ?_ GE1341.out | refine below_set ?_ GE1348.out | refine below_set ?_ GE1356.out) | exact HB.out)⟩⟩
             ·rw [if_neg c73] at H
              have c73b0 : (t1357 == 0) = false := beq_eq_false_iff_ne.mpr c73
              have c73b1 : (t1357 != 0) = true := bne_iff_ne.mpr c73
              (first | rw [c73b0] | (simp only [i64_w, i32_w]; rw [c73b0]) | skip)
              have H' := Aside0.mk H
              clear H
              go_wp2_with (first | ((with_reducible refine gate_callee (f := 70) rfl ?_); refine goesL_ (some 69) rfl rfl Try.func70 (by kernel_rfl) rfl #[.int .i64 t1340] rfl (by (try simp only [List.map_toArray, List.map_cons, List.map_nil]); first | done | rfl | (simp only [List.length_drop, List.length_take]; rfl)) ?_; (with_reducible refine (graduslaw5_num.calls t1340 t1357 _ A72.out).mono ?_); rintro e w' ⟨rfl, ⟨nd, rfl⟩⟩; refine ⟨_, rfl, ?_⟩))
              go_meet
              case rel => exact ⟨_, (true), (by first | rfl | (simp; done) | (simp [*]; done)), H', ⟨by have := HK1.out; have := HK2.out; have := HK3.out; first | omega | exact Nat.le_refl _⟩, ⟨by (with_reducible repeat (first | apply Kd.R_alloc | apply Kd.R_drewN | apply Kd.R_drew)); exact Kd.R_mono (Kd.R_far (p := ⟨gb1356, 1, none⟩) (Kd.R_far (p := ⟨gb1356, 0, none⟩) (Kd.R_types HO_1332000.out BK1356.out (by decide)) (fun _ hk => hk.2) (.slice Ao65 t1349.length co65)) (fun _ hk => hk.2) (.slice Ao71 t1352.length co71)) (fun _ hk => ⟨hk.1.1.1.1.1.1.1, ⟨hk.1.1.1.1.1.1.2, ⟨hk.1.1.1.1.1.2, ⟨hk.1.1.1.1.2, ⟨hk.1.1.1.2, ⟨hk.1.1.2, hk.1.2⟩⟩⟩⟩⟩⟩)⟩, ⟨by (with_reducible repeat (first | apply Kd.R_alloc | apply Kd.R_drewN | apply Kd.R_drew)); exact Kd.R_mono (Kd.R_far (p := ⟨gb1356, 1, none⟩) (Kd.R_far (p := ⟨gb1356, 0, none⟩) (Kd.R_types HO_1332001.out BK1356.out (by decide)) (fun _ hk => hk.2) (.slice Ao65 t1349.length co65)) (fun _ hk => hk.2) (.slice Ao71 t1352.length co71)) (fun _ hk => ⟨hk.1.1.1.1.1.1.1, ⟨hk.1.1.1.1.1.1.2, ⟨hk.1.1.1.1.1.2, ⟨hk.1.1.1.1.2, ⟨hk.1.1.1.2, ⟨hk.1.1.2, hk.1.2⟩⟩⟩⟩⟩⟩)⟩, ⟨by (with_reducible repeat (first | apply Kd.R_alloc | apply Kd.R_drewN | apply Kd.R_drew)); exact Kd.R_mono (Kd.R_far (p := ⟨gb1356, 1, none⟩) (Kd.R_far (p := ⟨gb1356, 0, none⟩) (Kd.R_types HO1336.out BK1356.out (by decide)) (fun _ hk => hk.2) (.slice Ao65 t1349.length co65)) (fun _ hk => hk.2) (.slice Ao71 t1352.length co71)) (fun _ hk => ⟨hk.1.1.1.1.1.1.2, ⟨hk.1.1.1.1.1.2, ⟨hk.1.1.1.1.1.1.1, ⟨hk.1.1.1.1.2, ⟨hk.1.1.1.2, ⟨hk.1.1.2, hk.1.2⟩⟩⟩⟩⟩⟩)⟩, ⟨by (with_reducible repeat (first | apply Kd.R_alloc | apply Kd.R_drewN | apply Kd.R_drew)); exact Kd.R_mono (Kd.R_far (p := ⟨gb1356, 1, none⟩) (Kd.R_far (p := ⟨gb1356, 0, none⟩) (Kd.R_types HO1339.out BK1356.out (by decide)) (fun _ hk => hk.2) (.slice Ao65 t1349.length co65)) (fun _ hk => hk.2) (.slice Ao71 t1352.length co71)) (fun _ hk => ⟨hk.1.1.1.1.1.1.2, ⟨hk.1.1.1.1.1.2, ⟨hk.1.1.1.1.1.1.1, ⟨hk.1.1.1.1.2, ⟨hk.1.1.1.2, ⟨hk.1.1.2, hk.1.2⟩⟩⟩⟩⟩⟩)⟩, ⟨by (with_reducible repeat (first | apply Kd.R_alloc | apply Kd.R_drewN | apply Kd.R_drew)); exact Kd.R_mono (Kd.R_far (p := ⟨gb1356, 1, none⟩) (Kd.R_far (p := ⟨gb1356, 0, none⟩) (Kd.R_types HO1344.out BK1356.out (by decide)) (fun _ hk => hk.2) (.slice Ao65 t1349.length co65)) (fun _ hk => hk.2) (.slice Ao71 t1352.length co71)) (fun _ hk => ⟨hk.1.1.1.1.1.1.1.2, ⟨hk.1.1.1.1.1.1.2, ⟨hk.1.1.1.1.1.2, ⟨hk.1.1.1.1.2, ⟨hk.1.1.1.2, ⟨hk.1.1.2, hk.1.2⟩⟩⟩⟩⟩⟩)⟩, ⟨by (with_reducible repeat (first | apply Kd.R_alloc | apply Kd.R_drewN | apply Kd.R_drew)); exact Kd.R_mono (Kd.R_far (p := ⟨gb1356, 1, none⟩) (Kd.R_far (p := ⟨gb1356, 0, none⟩) (Kd.R_types HO1347.out BK1356.out (by decide)) (fun _ hk => hk.2) (.slice Ao65 t1349.length co65)) (fun _ hk => hk.2) (.slice Ao71 t1352.length co71)) (fun _ hk => ⟨hk.1.1.1.1.1.1.1.2, ⟨hk.1.1.1.1.1.1.2, ⟨hk.1.1.1.1.1.2, ⟨hk.1.1.1.1.2, ⟨hk.1.1.1.2, ⟨hk.1.1.2, hk.1.2⟩⟩⟩⟩⟩⟩)⟩, ⟨by (with_reducible repeat (first | apply Kd.R_alloc | apply Kd.R_drewN | apply Kd.R_drew)); exact Kd.R_mono (Kd.R_far (p := ⟨gb1356, 1, none⟩) (Kd.R_far (p := ⟨gb1356, 0, none⟩) (Kd.R_types HO1351.out BK1356.out (by decide)) (fun _ hk => hk.2) (.slice Ao65 t1349.length co65)) (fun _ hk => hk.2) (.slice Ao71 t1352.length co71)) (fun _ hk => ⟨hk.1.1.1.1.1.1.2, ⟨hk.1.1.1.1.1.2, ⟨hk.1.1.1.1.2, ⟨hk.1.1.1.2, ⟨hk.1.1.2, ⟨hk.1.2, hk.1.1.1.1.1.1.1⟩⟩⟩⟩⟩⟩)⟩, ⟨by (with_reducible repeat (first | apply Kd.R_alloc | apply Kd.R_drewN | apply Kd.R_drew)); exact Kd.R_mono (Kd.R_far (p := ⟨gb1356, 1, none⟩) (Kd.R_far (p := ⟨gb1356, 0, none⟩) (Kd.R_types HO1354.out BK1356.out (by decide)) (fun _ hk => hk.2) (.slice Ao65 t1349.length co65)) (fun _ hk => hk.2) (.slice Ao71 t1352.length co71)) (fun _ hk => ⟨hk.1.1.1.1.1.1.2, ⟨hk.1.1.1.1.1.2, ⟨hk.1.1.1.1.2, ⟨hk.1.1.1.2, ⟨hk.1.1.2, ⟨hk.1.2, hk.1.1.1.1.1.1.1⟩⟩⟩⟩⟩⟩)⟩, ⟨by (with_reducible repeat (first | refine blk_drewN ?_ _ | refine blk_drew ?_ | refine blk_alloc ?_ _)); refine blk_far ?_ NB1323_1356.out _; (with_reducible repeat (first | refine blk_drewN ?_ _ | refine blk_drew ?_ | refine blk_alloc ?_ _)); refine blk_far ?_ NB1323_1356.out _; (with_reducible repeat (first | refine blk_drewN ?_ _ | refine blk_drew ?_ | refine blk_alloc ?_ _)); exact BK1323.out⟩, ⟨by (with_reducible repeat (first | refine blk_drewN ?_ _ | refine blk_drew ?_ | refine blk_alloc ?_ _)); refine blk_far ?_ NB1331_1356.out _; (with_reducible repeat (first | refine blk_drewN ?_ _ | refine blk_drew ?_ | refine blk_alloc ?_ _)); refine blk_far ?_ NB1331_1356.out _; (with_reducible repeat (first | refine blk_drewN ?_ _ | refine blk_drew ?_ | refine blk_alloc ?_ _)); exact BK1331.out⟩, ⟨by (with_reducible repeat (first | refine blk_drewN ?_ _ | refine blk_drew ?_ | refine blk_alloc ?_ _)); refine blk_far ?_ NB1341_1356.out _; (with_reducible repeat (first | refine blk_drewN ?_ _ | refine blk_drew ?_ | refine blk_alloc ?_ _)); refine blk_far ?_ NB1341_1356.out _; (with_reducible repeat (first | refine blk_drewN ?_ _ | refine blk_drew ?_ | refine blk_alloc ?_ _)); exact BK1341.out⟩, ⟨by (with_reducible repeat (first | refine blk_drewN ?_ _ | refine blk_drew ?_ | refine blk_alloc ?_ _)); refine blk_far ?_ NB1348_1356.out _; (with_reducible repeat (first | refine blk_drewN ?_ _ | refine blk_drew ?_ | refine blk_alloc ?_ _)); refine blk_far ?_ NB1348_1356.out _; (with_reducible repeat (first | refine blk_drewN ?_ _ | refine blk_drew ?_ | refine blk_alloc ?_ _)); exact BK1348.out⟩, ⟨by (with_reducible repeat (first | refine blk_drewN ?_ _ | refine blk_drew ?_ | refine blk_alloc ?_ _)); refine blk_put (cs := #[.slice Ao65 t1349.length co65, .slice none 0 0]) ?_ 1 _ rfl; (with_reducible repeat (first | refine blk_drewN ?_ _ | refine blk_drew ?_ | refine blk_alloc ?_ _)); refine blk_put (cs := #[.slice none 0 0, .slice none 0 0]) ?_ 0 _ rfl; (with_reducible repeat (first | refine blk_drewN ?_ _ | refine blk_drew ?_ | refine blk_alloc ?_ _)); exact BK1356.out⟩, ⟨by repeat (first | (with_reducible first | exact HB.out | apply below_alloc | apply pw_below_drewN | apply below_drew1 | refine below_set ?_ GE1323.out | refine below_set ?_ GE1331.out | refine below_set ?_ GE1341.out | refine below_set ?_ GE1348.out | refine below_set ?_ GE1356.out) | exact HB.out)⟩⟩
            case rest =>
             clear HC39
             try clear c1
             try clear c2
             try clear p2
             try clear q2
             try clear hx2
             try clear hf2
             try clear c3
             try clear c3b0
             try clear c4
             try clear c4b0
             try clear c5
             try clear c6
             try clear c6b0
             try clear c6b1
             try clear p6
             try clear c7
             try clear c7b0
             try clear c7b1
             try clear c8
             try clear c9
             try clear c13
             try clear c15
             try clear c17
             try clear c17b0
             try clear c18
             try clear c18b0
             try clear c19
             try clear c19b0
             try clear p20
             try clear q20
             try clear hx20
             try clear hf20
             try clear c21
             try clear c21b0
             try clear c21b1
             try clear c22
             try clear c22b0
             try clear p23
             try clear q23
             try clear hx23
             try clear hf23
             try clear c24
             try clear c32
             try clear c40
             try clear c47
             try clear c48
             try clear c58
             try clear c59
             try clear c60
             try clear p64
             try clear c66
             try clear c67
             try clear c68
             try clear c69
             try clear c70
             try clear c73
             try clear c73b0
             try clear c73b1
             try clear c75
             try clear c75b0
             try clear c75b1
             try clear c77
             try clear c78
             try clear c79
             try clear c80
             try clear c81
             try clear c86
             try clear c87
             try clear c88
             try clear c90
             try clear c91
             try clear c92
             try clear c93
             try clear hcz16_0
             try clear hcz16_1
             try clear hcz25_0
             try clear hcz25_1
             try clear hcz26_0
             try clear hcz26_1
             try clear hcz29_0
             try clear hcz29_1
             try clear hcz33_0
             try clear hcz33_1
             try clear hcz34_0
             try clear hcz34_1
             try clear hcz41_0
             try clear hcz41_1
             try clear hcz49_0
             try clear hcz49_1
             try clear hcz61_0
             try clear hcz61_1
             try clear hcz62_0
             try clear hcz62_1
             try clear hcz70_0
             try clear hcz70_1
             try clear hcz82_0
             try clear hcz82_1
             try clear hcz89_0
             try clear hcz89_1
             try clear hcz94_0
             try clear hcz94_1
             try clear hfz16_0
             try clear hfz16_1
             try clear hfz25_0
             try clear hfz25_1
             try clear hfz26_0
             try clear hfz26_1
             try clear hfz29_0
             try clear hfz29_1
             try clear hfz33_0
             try clear hfz33_1
             try clear hfz34_0
             try clear hfz34_1
             try clear hfz41_0
             try clear hfz41_1
             try clear hfz49_0
             try clear hfz49_1
             try clear hfz61_0
             try clear hfz61_1
             try clear hfz62_0
             try clear hfz62_1
             try clear hfz70_0
             try clear hfz70_1
             try clear hfz82_0
             try clear hfz82_1
             try clear hfz89_0
             try clear hfz89_1
             try clear hfz94_0
             try clear hfz94_1
             try clear hx20_0
             try clear hx23_0
             try clear p2
             try clear p20
             try clear p23
             try clear p6
             try clear q20
             try clear q23
             obtain ⟨kq, x90_38, rfl, HA, HJ38, HO_1332000, HO_1332001, HO_1342000, HO_1342001, HO_1349000, HO_1349001, HO_1357000, HO_1357001, BK1323, BK1331, BK1341, BK1348, BK1356, HB⟩ := hcut
             cases kq with
             | zero => exact absurd HA.out (by simp [graduslaw5_GateTies.j3])
             | succ kj38 =>
              have H := HA.out
              clear HA
              simp only [graduslaw5_GateTies.j3] at H
              by_cases c98 : x90_38 = true
              ·subst c98
               have H1 : (none) = some r := by rw [if_pos rfl] at H; exact H
               clear H
               have H := H1
               clear H1
               exact absurd H (by simp)
              ·replace c98 := Bool.eq_false_iff.mpr c98
               subst c98
               have H1 : (graduslaw5_GateTies.l3 kj38 x3_1 x4_2 0 l0_0 l0_1 t1349 t1352) = some r := by rw [if_neg (show ¬ (false = true) by decide)] at H; exact H
               clear H
               have H := H1
               clear H1
               have H' := Aside0.mk H
               clear H
               go_wp2
               go_loopg [12] kj38 (fun kq v12 w' => ∃ (x12_5 : Int), v12 = .int .i64 x12_5 ∧ Aside0 (graduslaw5_GateTies.l3 kq x3_1 x4_2 x12_5 l0_0 l0_1 t1349 t1352 = some r) ∧ Aside0 (kq ≤ kj38) ∧ Aside0 (Kd.R (Kd.int .i64) 3 w' w.heap.size (fun k_ => some k_ ≠ ((.slice Ao43 x1332001_3.length co43) : Value).ownBlock ∧ some k_ ≠ ((.slice Ao46 t1334.length co46) : Value).ownBlock ∧ some k_ ≠ ((.slice Ao50 t1337.length co50) : Value).ownBlock ∧ some k_ ≠ ((.slice Ao56 y1342.length co56) : Value).ownBlock ∧ some k_ ≠ ((.slice Ao55 y1345.length co55) : Value).ownBlock ∧ some k_ ≠ ((.slice Ao65 t1349.length co65) : Value).ownBlock ∧ some k_ ≠ ((.slice Ao71 t1352.length co71) : Value).ownBlock) (.slice Ao42 x1332000_3.length co42) x1332000_3) ∧ Aside0 (Kd.R (Kd.int .i64) 3 w' w.heap.size (fun k_ => some k_ ≠ ((.slice Ao42 x1332000_3.length co42) : Value).ownBlock ∧ some k_ ≠ ((.slice Ao46 t1334.length co46) : Value).ownBlock ∧ some k_ ≠ ((.slice Ao50 t1337.length co50) : Value).ownBlock ∧ some k_ ≠ ((.slice Ao56 y1342.length co56) : Value).ownBlock ∧ some k_ ≠ ((.slice Ao55 y1345.length co55) : Value).ownBlock ∧ some k_ ≠ ((.slice Ao65 t1349.length co65) : Value).ownBlock ∧ some k_ ≠ ((.slice Ao71 t1352.length co71) : Value).ownBlock) (.slice Ao43 x1332001_3.length co43) x1332001_3) ∧ Aside0 (Kd.R (Kd.int .i64) 3 w' w.heap.size (fun k_ => some k_ ≠ ((.slice Ao42 x1332000_3.length co42) : Value).ownBlock ∧ some k_ ≠ ((.slice Ao43 x1332001_3.length co43) : Value).ownBlock ∧ some k_ ≠ ((.slice Ao50 t1337.length co50) : Value).ownBlock ∧ some k_ ≠ ((.slice Ao56 y1342.length co56) : Value).ownBlock ∧ some k_ ≠ ((.slice Ao55 y1345.length co55) : Value).ownBlock ∧ some k_ ≠ ((.slice Ao65 t1349.length co65) : Value).ownBlock ∧ some k_ ≠ ((.slice Ao71 t1352.length co71) : Value).ownBlock) (.slice Ao46 t1334.length co46) t1334) ∧ Aside0 (Kd.R (Kd.int .i64) 3 w' w.heap.size (fun k_ => some k_ ≠ ((.slice Ao42 x1332000_3.length co42) : Value).ownBlock ∧ some k_ ≠ ((.slice Ao43 x1332001_3.length co43) : Value).ownBlock ∧ some k_ ≠ ((.slice Ao46 t1334.length co46) : Value).ownBlock ∧ some k_ ≠ ((.slice Ao56 y1342.length co56) : Value).ownBlock ∧ some k_ ≠ ((.slice Ao55 y1345.length co55) : Value).ownBlock ∧ some k_ ≠ ((.slice Ao65 t1349.length co65) : Value).ownBlock ∧ some k_ ≠ ((.slice Ao71 t1352.length co71) : Value).ownBlock) (.slice Ao50 t1337.length co50) t1337) ∧ Aside0 (Kd.R (Kd.int .i64) 3 w' w.heap.size (fun k_ => some k_ ≠ ((.slice Ao42 x1332000_3.length co42) : Value).ownBlock ∧ some k_ ≠ ((.slice Ao43 x1332001_3.length co43) : Value).ownBlock ∧ some k_ ≠ ((.slice Ao46 t1334.length co46) : Value).ownBlock ∧ some k_ ≠ ((.slice Ao50 t1337.length co50) : Value).ownBlock ∧ some k_ ≠ ((.slice Ao55 y1345.length co55) : Value).ownBlock ∧ some k_ ≠ ((.slice Ao65 t1349.length co65) : Value).ownBlock ∧ some k_ ≠ ((.slice Ao71 t1352.length co71) : Value).ownBlock) (.slice Ao56 y1342.length co56) y1342) ∧ Aside0 (Kd.R (Kd.int .i64) 3 w' w.heap.size (fun k_ => some k_ ≠ ((.slice Ao42 x1332000_3.length co42) : Value).ownBlock ∧ some k_ ≠ ((.slice Ao43 x1332001_3.length co43) : Value).ownBlock ∧ some k_ ≠ ((.slice Ao46 t1334.length co46) : Value).ownBlock ∧ some k_ ≠ ((.slice Ao50 t1337.length co50) : Value).ownBlock ∧ some k_ ≠ ((.slice Ao56 y1342.length co56) : Value).ownBlock ∧ some k_ ≠ ((.slice Ao65 t1349.length co65) : Value).ownBlock ∧ some k_ ≠ ((.slice Ao71 t1352.length co71) : Value).ownBlock) (.slice Ao55 y1345.length co55) y1345) ∧ Aside0 (Kd.R (Kd.int .i64) 3 w' w.heap.size (fun k_ => some k_ ≠ ((.slice Ao42 x1332000_3.length co42) : Value).ownBlock ∧ some k_ ≠ ((.slice Ao43 x1332001_3.length co43) : Value).ownBlock ∧ some k_ ≠ ((.slice Ao46 t1334.length co46) : Value).ownBlock ∧ some k_ ≠ ((.slice Ao50 t1337.length co50) : Value).ownBlock ∧ some k_ ≠ ((.slice Ao56 y1342.length co56) : Value).ownBlock ∧ some k_ ≠ ((.slice Ao55 y1345.length co55) : Value).ownBlock ∧ some k_ ≠ ((.slice Ao71 t1352.length co71) : Value).ownBlock) (.slice Ao65 t1349.length co65) t1349) ∧ Aside0 (Kd.R (Kd.int .i64) 3 w' w.heap.size (fun k_ => some k_ ≠ ((.slice Ao42 x1332000_3.length co42) : Value).ownBlock ∧ some k_ ≠ ((.slice Ao43 x1332001_3.length co43) : Value).ownBlock ∧ some k_ ≠ ((.slice Ao46 t1334.length co46) : Value).ownBlock ∧ some k_ ≠ ((.slice Ao50 t1337.length co50) : Value).ownBlock ∧ some k_ ≠ ((.slice Ao56 y1342.length co56) : Value).ownBlock ∧ some k_ ≠ ((.slice Ao55 y1345.length co55) : Value).ownBlock ∧ some k_ ≠ ((.slice Ao65 t1349.length co65) : Value).ownBlock) (.slice Ao71 t1352.length co71) t1352) ∧ Aside0 (w'.heap[gb1323]? = some (.cells #[(.slice A0_0 l0_0.length c0_0), (.slice A0_1 l0_1.length c0_1)] 46 (0, 0))) ∧ Aside0 (w'.heap[gb1331]? = some (.cells #[(.slice Ao42 x1332000_3.length co42), (.slice Ao43 x1332001_3.length co43)] 34 (0, 0))) ∧ Aside0 (w'.heap[gb1341]? = some (.cells #[(.slice Ao46 t1334.length co46), (.slice Ao50 t1337.length co50)] 34 (0, 0))) ∧ Aside0 (w'.heap[gb1348]? = some (.cells #[(.slice Ao56 y1342.length co56), (.slice Ao55 y1345.length co55)] 34 (0, 0))) ∧ Aside0 (w'.heap[gb1356]? = some (.cells #[(.slice Ao65 t1349.length co65), (.slice Ao71 t1352.length co71)] 34 (0, 0))) ∧ Aside0 (Below w.heap.size w w'))
               case atStart => exact ⟨(0), (by first | rfl | (simp; done) | (simp [*]; done)), H', ⟨Nat.le_refl _⟩, ⟨by (with_reducible repeat (first | apply Kd.R_alloc | apply Kd.R_drewN | apply Kd.R_drew)); exact HO_1332000.out⟩, ⟨by (with_reducible repeat (first | apply Kd.R_alloc | apply Kd.R_drewN | apply Kd.R_drew)); exact HO_1332001.out⟩, ⟨by (with_reducible repeat (first | apply Kd.R_alloc | apply Kd.R_drewN | apply Kd.R_drew)); exact HO_1342000.out⟩, ⟨by (with_reducible repeat (first | apply Kd.R_alloc | apply Kd.R_drewN | apply Kd.R_drew)); exact HO_1342001.out⟩, ⟨by (with_reducible repeat (first | apply Kd.R_alloc | apply Kd.R_drewN | apply Kd.R_drew)); exact HO_1349000.out⟩, ⟨by (with_reducible repeat (first | apply Kd.R_alloc | apply Kd.R_drewN | apply Kd.R_drew)); exact HO_1349001.out⟩, ⟨by (with_reducible repeat (first | apply Kd.R_alloc | apply Kd.R_drewN | apply Kd.R_drew)); exact HO_1357000.out⟩, ⟨by (with_reducible repeat (first | apply Kd.R_alloc | apply Kd.R_drewN | apply Kd.R_drew)); exact HO_1357001.out⟩, ⟨by (with_reducible repeat (first | refine blk_drewN ?_ _ | refine blk_drew ?_ | refine blk_alloc ?_ _)); exact BK1323.out⟩, ⟨by (with_reducible repeat (first | refine blk_drewN ?_ _ | refine blk_drew ?_ | refine blk_alloc ?_ _)); exact BK1331.out⟩, ⟨by (with_reducible repeat (first | refine blk_drewN ?_ _ | refine blk_drew ?_ | refine blk_alloc ?_ _)); exact BK1341.out⟩, ⟨by (with_reducible repeat (first | refine blk_drewN ?_ _ | refine blk_drew ?_ | refine blk_alloc ?_ _)); exact BK1348.out⟩, ⟨by (with_reducible repeat (first | refine blk_drewN ?_ _ | refine blk_drew ?_ | refine blk_alloc ?_ _)); exact BK1356.out⟩, ⟨by repeat (first | (with_reducible first | exact HB.out | apply below_alloc | apply pw_below_drewN | apply below_drew1 | refine below_set ?_ GE1323.out | refine below_set ?_ GE1331.out | refine below_set ?_ GE1341.out | refine below_set ?_ GE1348.out | refine below_set ?_ GE1356.out) | exact HB.out)⟩⟩
               case round =>
                clear H'
                try clear c1
                try clear c2
                try clear p2
                try clear q2
                try clear hx2
                try clear hf2
                try clear c3
                try clear c3b0
                try clear c4
                try clear c4b0
                try clear c5
                try clear c6
                try clear c6b0
                try clear c6b1
                try clear p6
                try clear c7
                try clear c7b0
                try clear c7b1
                try clear c8
                try clear c9
                try clear c13
                try clear c15
                try clear c17
                try clear c17b0
                try clear c18
                try clear c18b0
                try clear c19
                try clear c19b0
                try clear p20
                try clear q20
                try clear hx20
                try clear hf20
                try clear c21
                try clear c21b0
                try clear c21b1
                try clear c22
                try clear c22b0
                try clear p23
                try clear q23
                try clear hx23
                try clear hf23
                try clear c24
                try clear c32
                try clear c40
                try clear c47
                try clear c48
                try clear c58
                try clear c59
                try clear c60
                try clear p64
                try clear c66
                try clear c67
                try clear c68
                try clear c69
                try clear c70
                try clear c73
                try clear c73b0
                try clear c73b1
                try clear c75
                try clear c75b0
                try clear c75b1
                try clear c77
                try clear c78
                try clear c79
                try clear c80
                try clear c81
                try clear c86
                try clear c87
                try clear c88
                try clear c90
                try clear c91
                try clear c92
                try clear c93
                try clear c98
                try clear hcz16_0
                try clear hcz16_1
                try clear hcz25_0
                try clear hcz25_1
                try clear hcz26_0
                try clear hcz26_1
                try clear hcz29_0
                try clear hcz29_1
                try clear hcz33_0
                try clear hcz33_1
                try clear hcz34_0
                try clear hcz34_1
                try clear hcz41_0
                try clear hcz41_1
                try clear hcz49_0
                try clear hcz49_1
                try clear hcz61_0
                try clear hcz61_1
                try clear hcz62_0
                try clear hcz62_1
                try clear hcz70_0
                try clear hcz70_1
                try clear hcz82_0
                try clear hcz82_1
                try clear hcz89_0
                try clear hcz89_1
                try clear hcz94_0
                try clear hcz94_1
                try clear hfz16_0
                try clear hfz16_1
                try clear hfz25_0
                try clear hfz25_1
                try clear hfz26_0
                try clear hfz26_1
                try clear hfz29_0
                try clear hfz29_1
                try clear hfz33_0
                try clear hfz33_1
                try clear hfz34_0
                try clear hfz34_1
                try clear hfz41_0
                try clear hfz41_1
                try clear hfz49_0
                try clear hfz49_1
                try clear hfz61_0
                try clear hfz61_1
                try clear hfz62_0
                try clear hfz62_1
                try clear hfz70_0
                try clear hfz70_1
                try clear hfz82_0
                try clear hfz82_1
                try clear hfz89_0
                try clear hfz89_1
                try clear hfz94_0
                try clear hfz94_1
                try clear hx20_0
                try clear hx23_0
                try clear p2
                try clear p20
                try clear p23
                try clear p6
                try clear p64
                try clear q2
                try clear q20
                try clear q23
                obtain ⟨x12_5, rfl, HA, HK5, HO_1332000, HO_1332001, HO_1342000, HO_1342001, HO_1349000, HO_1349001, HO_1357000, HO_1357001, BK1323, BK1331, BK1341, BK1348, BK1356, HB⟩ := hrel
                cases gk with
                | zero => exact absurd HA.out (by simp [graduslaw5_GateTies.l3])
                | succ k5 =>
                 have H := HA.out
                 clear HA
                 simp only [graduslaw5_GateTies.l3] at H
                 by_cases c99 : x12_5 < (wrap64 (2 * x3_1))
                 ·rw [if_pos c99] at H
                  have c99b0 : decide (x12_5 < (wrap64 (2 * x3_1))) = true := decide_eq_true c99
                  clear c99
                  (try (have c99b8_16 := c99b0; rw [hji5] at c99b8_16))
                  by_cases c100 : x3_1 = 0
                  ·rw [if_pos c100] at H
                   exact absurd H (by simp)
                  ·rw [if_neg c100] at H
                   have c100b0 : (x3_1 == 0) = false := beq_eq_false_iff_ne.mpr c100
                   have c100b1 : (x3_1 != 0) = true := bne_iff_ne.mpr c100
                   by_cases c101 : (Int.tmod x12_5 x3_1) = x4_2
                   ·rw [if_pos c101] at H
                    have c101b0 : ((Int.tmod x12_5 x3_1) == x4_2) = true := beq_iff_eq.mpr c101
                    have c101b1 : ((Int.tmod x12_5 x3_1) != x4_2) = false := bne_eq_false_iff_eq.mpr c101
                    clear c101
                    by_cases c102 : 0 ≤ x12_5
                    ·rw [if_pos c102] at H
                     have c102b0 : decide (0 ≤ x12_5) = true := decide_eq_true c102
                     clear c102
                     by_cases c103 : x12_5 < (t1352.length : Int)
                     ·rw [if_pos c103] at H
                      have c103b0 : decide (x12_5 < (t1352.length : Int)) = true := decide_eq_true c103
                      clear c103
                      by_cases c104 : (rd t1352 x12_5) = (wrap64 (3 + (wrap64 (Int.tdiv x12_5 x3_1))))
                      ·rw [if_pos c104] at H
                       have c104b0 : ((rd t1352 x12_5) == (wrap64 (3 + (wrap64 (Int.tdiv x12_5 x3_1))))) = true := beq_iff_eq.mpr c104
                       have c104b1 : ((rd t1352 x12_5) != (wrap64 (3 + (wrap64 (Int.tdiv x12_5 x3_1))))) = false := bne_eq_false_iff_eq.mpr c104
                       clear c104
                       have H' := Aside0.mk H
                       clear H
                       have hnb105 := NB1356_1323.out
                       have hnc105 := NB1323_1356.out
                       have hnb106 := NB1356_1331.out
                       have hnc106 := NB1331_1356.out
                       have hnb107 := NB1356_1341.out
                       have hnc107 := NB1341_1356.out
                       have hnb108 := NB1356_1348.out
                       have hnc108 := NB1348_1356.out
                       have hcz109_0 : wr.cell? ⟨gb1356, 0, none⟩ = some (.slice Ao65 t1349.length co65) := (blk_cell BK1356.out 0).trans rfl
                       have hcz109_1 : wr.cell? ⟨gb1356, 1, none⟩ = some (.slice Ao71 t1352.length co71) := (blk_cell BK1356.out 1).trans rfl
                       have hfz109_0 := blk_frozen BK1356.out 0
                       have hfz109_1 := blk_frozen BK1356.out 1
                       have p1363 : 0 ≤ (x12_5 : Int) := of_decide_eq_true (by first | (with_reducible assumption) | assumption)
                       have q1363 : x12_5 < (t1352.length : Int) := of_decide_eq_true (by first | (with_reducible assumption) | assumption)
                       obtain ⟨ad1363, e1363, hx1363_0⟩ := Kd.at_int (Kd.R_reads' HO_1357001.out).2.2 x12_5 p1363 q1363
                       cases e1363
                       replace p1363 := eq_true p1363
                       replace q1363 := eq_true q1363
                       go_wp2
                       go_roundg k5
                       case measure => have := HK1.out; have := HK2.out; have := HK3.out; have := HJ38.out; have := HK5.out; omega
                       case rel => exact ⟨(wrap64 (x12_5 + 1)), (by first | rfl | (simp; done) | (simp [*]; done)), H', ⟨by have := HK1.out; have := HK2.out; have := HK3.out; have := HJ38.out; have := HK5.out; omega⟩, ⟨by (with_reducible repeat (first | apply Kd.R_alloc | apply Kd.R_drewN | apply Kd.R_drew)); exact HO_1332000.out⟩, ⟨by (with_reducible repeat (first | apply Kd.R_alloc | apply Kd.R_drewN | apply Kd.R_drew)); exact HO_1332001.out⟩, ⟨by (with_reducible repeat (first | apply Kd.R_alloc | apply Kd.R_drewN | apply Kd.R_drew)); exact HO_1342000.out⟩, ⟨by (with_reducible repeat (first | apply Kd.R_alloc | apply Kd.R_drewN | apply Kd.R_drew)); exact HO_1342001.out⟩, ⟨by (with_reducible repeat (first | apply Kd.R_alloc | apply Kd.R_drewN | apply Kd.R_drew)); exact HO_1349000.out⟩, ⟨by (with_reducible repeat (first | apply Kd.R_alloc | apply Kd.R_drewN | apply Kd.R_drew)); exact HO_1349001.out⟩, ⟨by (with_reducible repeat (first | apply Kd.R_alloc | apply Kd.R_drewN | apply Kd.R_drew)); exact HO_1357000.out⟩, ⟨by (with_reducible repeat (first | apply Kd.R_alloc | apply Kd.R_drewN | apply Kd.R_drew)); exact HO_1357001.out⟩, ⟨by (with_reducible repeat (first | refine blk_drewN ?_ _ | refine blk_drew ?_ | refine blk_alloc ?_ _)); exact BK1323.out⟩, ⟨by (with_reducible repeat (first | refine blk_drewN ?_ _ | refine blk_drew ?_ | refine blk_alloc ?_ _)); exact BK1331.out⟩, ⟨by (with_reducible repeat (first | refine blk_drewN ?_ _ | refine blk_drew ?_ | refine blk_alloc ?_ _)); exact BK1341.out⟩, ⟨by (with_reducible repeat (first | refine blk_drewN ?_ _ | refine blk_drew ?_ | refine blk_alloc ?_ _)); exact BK1348.out⟩, ⟨by (with_reducible repeat (first | refine blk_drewN ?_ _ | refine blk_drew ?_ | refine blk_alloc ?_ _)); exact BK1356.out⟩, ⟨by repeat (first | (with_reducible first | exact HB.out | apply below_alloc | apply pw_below_drewN | apply below_drew1 | refine below_set ?_ GE1323.out | refine below_set ?_ GE1331.out | refine below_set ?_ GE1341.out | refine below_set ?_ GE1348.out | refine below_set ?_ GE1356.out) | exact HB.out)⟩⟩
                      ·rw [if_neg c104] at H
                       exact absurd H (by simp)
                     ·rw [if_neg c103] at H
                      exact absurd H (by simp)
                    ·rw [if_neg c102] at H
                     exact absurd H (by simp)
                   ·rw [if_neg c101] at H
                    have c101b0 : ((Int.tmod x12_5 x3_1) == x4_2) = false := beq_eq_false_iff_ne.mpr c101
                    have c101b1 : ((Int.tmod x12_5 x3_1) != x4_2) = true := bne_iff_ne.mpr c101
                    by_cases c110 : 0 ≤ x12_5
                    ·rw [if_pos c110] at H
                     have c110b0 : decide (0 ≤ x12_5) = true := decide_eq_true c110
                     clear c110
                     by_cases c111 : x12_5 < (t1352.length : Int)
                     ·rw [if_pos c111] at H
                      have c111b0 : decide (x12_5 < (t1352.length : Int)) = true := decide_eq_true c111
                      clear c111
                      by_cases c112 : (rd t1352 x12_5) = 0
                      ·rw [if_pos c112] at H
                       have c112b0 : ((rd t1352 x12_5) == 0) = true := beq_iff_eq.mpr c112
                       have c112b1 : ((rd t1352 x12_5) != 0) = false := bne_eq_false_iff_eq.mpr c112
                       clear c112
                       have H' := Aside0.mk H
                       clear H
                       have hnb113 := NB1356_1323.out
                       have hnc113 := NB1323_1356.out
                       have hnb114 := NB1356_1331.out
                       have hnc114 := NB1331_1356.out
                       have hnb115 := NB1356_1341.out
                       have hnc115 := NB1341_1356.out
                       have hnb116 := NB1356_1348.out
                       have hnc116 := NB1348_1356.out
                       have hcz117_0 : wr.cell? ⟨gb1356, 0, none⟩ = some (.slice Ao65 t1349.length co65) := (blk_cell BK1356.out 0).trans rfl
                       have hcz117_1 : wr.cell? ⟨gb1356, 1, none⟩ = some (.slice Ao71 t1352.length co71) := (blk_cell BK1356.out 1).trans rfl
                       have hfz117_0 := blk_frozen BK1356.out 0
                       have hfz117_1 := blk_frozen BK1356.out 1
                       have p1364 : 0 ≤ (x12_5 : Int) := of_decide_eq_true (by first | (with_reducible assumption) | assumption)
                       have q1364 : x12_5 < (t1352.length : Int) := of_decide_eq_true (by first | (with_reducible assumption) | assumption)
                       obtain ⟨ad1364, e1364, hx1364_0⟩ := Kd.at_int (Kd.R_reads' HO_1357001.out).2.2 x12_5 p1364 q1364
                       cases e1364
                       replace p1364 := eq_true p1364
                       replace q1364 := eq_true q1364
                       go_wp2
                       go_roundg k5
                       case measure => have := HK1.out; have := HK2.out; have := HK3.out; have := HJ38.out; have := HK5.out; omega
                       case rel => exact ⟨(wrap64 (x12_5 + 1)), (by first | rfl | (simp; done) | (simp [*]; done)), H', ⟨by have := HK1.out; have := HK2.out; have := HK3.out; have := HJ38.out; have := HK5.out; omega⟩, ⟨by (with_reducible repeat (first | apply Kd.R_alloc | apply Kd.R_drewN | apply Kd.R_drew)); exact HO_1332000.out⟩, ⟨by (with_reducible repeat (first | apply Kd.R_alloc | apply Kd.R_drewN | apply Kd.R_drew)); exact HO_1332001.out⟩, ⟨by (with_reducible repeat (first | apply Kd.R_alloc | apply Kd.R_drewN | apply Kd.R_drew)); exact HO_1342000.out⟩, ⟨by (with_reducible repeat (first | apply Kd.R_alloc | apply Kd.R_drewN | apply Kd.R_drew)); exact HO_1342001.out⟩, ⟨by (with_reducible repeat (first | apply Kd.R_alloc | apply Kd.R_drewN | apply Kd.R_drew)); exact HO_1349000.out⟩, ⟨by (with_reducible repeat (first | apply Kd.R_alloc | apply Kd.R_drewN | apply Kd.R_drew)); exact HO_1349001.out⟩, ⟨by (with_reducible repeat (first | apply Kd.R_alloc | apply Kd.R_drewN | apply Kd.R_drew)); exact HO_1357000.out⟩, ⟨by (with_reducible repeat (first | apply Kd.R_alloc | apply Kd.R_drewN | apply Kd.R_drew)); exact HO_1357001.out⟩, ⟨by (with_reducible repeat (first | refine blk_drewN ?_ _ | refine blk_drew ?_ | refine blk_alloc ?_ _)); exact BK1323.out⟩, ⟨by (with_reducible repeat (first | refine blk_drewN ?_ _ | refine blk_drew ?_ | refine blk_alloc ?_ _)); exact BK1331.out⟩, ⟨by (with_reducible repeat (first | refine blk_drewN ?_ _ | refine blk_drew ?_ | refine blk_alloc ?_ _)); exact BK1341.out⟩, ⟨by (with_reducible repeat (first | refine blk_drewN ?_ _ | refine blk_drew ?_ | refine blk_alloc ?_ _)); exact BK1348.out⟩, ⟨by (with_reducible repeat (first | refine blk_drewN ?_ _ | refine blk_drew ?_ | refine blk_alloc ?_ _)); exact BK1356.out⟩, ⟨by repeat (first | (with_reducible first | exact HB.out | apply below_alloc | apply pw_below_drewN | apply below_drew1 | refine below_set ?_ GE1323.out | refine below_set ?_ GE1331.out | refine below_set ?_ GE1341.out | refine below_set ?_ GE1348.out | refine below_set ?_ GE1356.out) | exact HB.out)⟩⟩
                      ·rw [if_neg c112] at H
                       exact absurd H (by simp)
                     ·rw [if_neg c111] at H
                      exact absurd H (by simp)
                    ·rw [if_neg c110] at H
                     exact absurd H (by simp)
                 ·rw [if_neg c99] at H
                  have c99b0 : decide (x12_5 < (wrap64 (2 * x3_1))) = false := decide_eq_false c99
                  clear c99
                  (try (have c99b8_16 := c99b0; rw [hji5] at c99b8_16))
                  have H' := Aside0.mk H
                  clear H
                  go_wp2
                  go_roundg k5
                  case measure => have := HK1.out; have := HK2.out; have := HK3.out; have := HJ38.out; have := HK5.out; omega
                  case rel => exact ⟨(wrap64 (x4_2 + 1)), (by first | rfl | (simp; done) | (simp [*]; done)), H', ⟨by have := HK1.out; have := HK2.out; have := HK3.out; have := HJ38.out; have := HK5.out; omega⟩, ⟨by (with_reducible repeat (first | refine blk_drewN ?_ _ | refine blk_drew ?_ | refine blk_alloc ?_ _)); exact BK1323.out⟩, ⟨by repeat (first | (with_reducible first | exact HB.out | apply below_alloc | apply pw_below_drewN | apply below_drew1 | refine below_set ?_ GE1323.out | refine below_set ?_ GE1331.out | refine below_set ?_ GE1341.out | refine below_set ?_ GE1348.out | refine below_set ?_ GE1356.out) | exact HB.out)⟩⟩
        ·rw [if_neg c7] at H
         exact absurd H (by simp)
       ·rw [if_neg c6] at H
        exact absurd H (by simp)
      ·rw [if_neg c4] at H
       have c4b0 : decide (x4_2 < x3_1) = false := decide_eq_false c4
       clear c4
       have H' := Aside0.mk H
       clear H
       go_wp2
       go_roundg k2
       case measure => have := HK1.out; have := HK2.out; omega
       case rel => exact ⟨(wrap64 (x3_1 + 1)), (by first | rfl | (simp; done) | (simp [*]; done)), H', ⟨by have := HK1.out; have := HK2.out; omega⟩, ⟨by (with_reducible repeat (first | refine blk_drewN ?_ _ | refine blk_drew ?_ | refine blk_alloc ?_ _)); exact BK1323.out⟩, ⟨by repeat (first | (with_reducible first | exact HB.out | apply below_alloc | apply pw_below_drewN | apply below_drew1 | refine below_set ?_ GE1323.out) | exact HB.out)⟩⟩
   ·rw [if_neg c3] at H
    have c3b0 : decide (x3_1 ≤ 8) = false := decide_eq_false c3
    clear c3
    replace H := Option.bind_eq_some_iff.mp H
    obtain ⟨t1324, A1180, H⟩ := H
    replace H : (some t1324) = some r := H
    have A118 := Aside0.mk A1180
    clear A1180
    obtain rfl := Option.some.inj H
    go_wp2_with (first | ((with_reducible refine gate_callee (f := 71) rfl ?_); refine goesL_ (some 113) rfl rfl Try.func71 (by kernel_rfl) rfl #[] rfl (by (try simp only [List.map_toArray, List.map_cons, List.map_nil]); first | done | rfl | (simp only [List.length_drop, List.length_take]; rfl)) ?_; (with_reducible refine (graduslaw5_wakes.calls k1  t1324 _ A118.out).mono ?_); rintro e w119 ⟨rfl, hb⟩; refine ⟨_, rfl, ?_⟩; have n0_ := Aside0.mk (blk_below (g := gb1323) (o := .cells #[.slice A0_0 l0_0.length c0_0, .slice A0_1 l0_1.length c0_1] 46 (0, 0)) (by (with_reducible repeat (first | refine blk_drewN ?_ _ | refine blk_drew ?_ | refine blk_alloc ?_ _)); exact BK1323.out) hb); have n1_ := Aside0.mk (below_step (by repeat (first | (with_reducible first | exact HB.out | apply below_alloc | apply pw_below_drewN | apply below_drew1 | refine below_set ?_ GE1323.out) | exact HB.out)) hb); clear BK1323; clear HB; have BK1323 := n0_; have HB := n1_; clear n0_ n1_; (try clear hb); (try clear hb2); (try clear hk); (try clear hi)))
    go_ret
    exact ⟨by first | rfl | (simp [errW_none, errW_some] <;> rfl) | (simp [*, errW_none, errW_some] <;> rfl), by repeat (first | (with_reducible first | exact HB.out | apply below_alloc | apply pw_below_drewN | apply below_drew1 | refine below_set ?_ GE1323.out) | exact HB.out)⟩

end Go.Proofs.Ytpjcidlkdfebhaa.PT
