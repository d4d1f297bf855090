/- For every program, list of stores and expression the law ProdValues returns true, and what came in reads as before. No condition. -/
import Derived.Test.YtilebfkehmecaaaU3
import Derived.LoopIn
import Derived.LoopNIn
import Derived.OwnWalkIn
import Derived.RangeFuncBound
import Derived.RangeFuncCalls
import Derived.RangeFuncIn
import Derived.RangeFuncLeaves
import Derived.RangeFuncNested
import Derived.RangeFuncOwn
import Derived.Shelf.Abstract
import Derived.Shelf.RegionOpen
import Derived.TacticsInMore
import Derived.WalkKit
set_option maxRecDepth 100000
set_option maxHeartbeats 16000000
namespace Go.Proofs.Ytilebfkehmecaaa.Print
open Go.RowKit Go.Proofs.YtilebfkehmecaaaW.PrintWords Go.Proofs.YtilebfkehmecaaaW.PrintLast Go.Proofs.YtilebfkehmecaaaW.PrintMore
attribute [local go_sem] max2_int min2_int max_two min_two max_three min_three max_four min_four
set_option linter.unusedVariables false
set_option linter.unusedSimpArgs false
def r2_Value.f : Nat → Int → List (S66) → List (List Int) → Int → Int → Int → List (S28) → Option (Int)
 | 0, _, _, _, _, _, _, _ => none
 | k + 1, a0, l1, l2, a3_0, a3_1, a3_2, l3_3 => if a3_0 = 0 then (some a3_1) else (if a3_0 = 1 then (if (l3_3.length : Int) > 0 then (if 0 < (l3_3.length : Int) then ((r2_Value.f k a0 l1 l2 ((rd_T28 l3_3 0).f0) ((rd_T28 l3_3 0).f1) ((rd_T28 l3_3 0).f2) ((rd_T28 l3_3 0).f3)).bind fun t434 => (if 0 ≤ a3_2 then (if a3_2 < (l2.length : Int) then ((r2_At.f k l1 a3_1 t434).bind fun t436 => (if 0 ≤ t436 then (if t436 < ((rd_L10 l2 a3_2).length : Int) then (some (rd (rd_L10 l2 a3_2) t436)) else (none)) else (none))) else (none)) else (none))) else (none)) else (if 0 ≤ a3_2 then (if a3_2 < (l2.length : Int) then ((r2_At.f k l1 a3_1 0).bind fun t439 => (if 0 ≤ t439 then (if t439 < ((rd_L10 l2 a3_2).length : Int) then (some (rd (rd_L10 l2 a3_2) t439)) else (none)) else (none))) else (none)) else (none))) else (if a3_0 = 12 then (if 0 < (l3_3.length : Int) then ((r2_Value.f k a0 l1 l2 ((rd_T28 l3_3 0).f0) ((rd_T28 l3_3 0).f1) ((rd_T28 l3_3 0).f2) ((rd_T28 l3_3 0).f3)).bind fun t442 => ((r1_Not.f k a0 t442).bind fun t443 => (some t443))) else (none)) else (if 0 < (l3_3.length : Int) then ((r2_Value.f k a0 l1 l2 ((rd_T28 l3_3 0).f0) ((rd_T28 l3_3 0).f1) ((rd_T28 l3_3 0).f2) ((rd_T28 l3_3 0).f3)).bind fun t445 => (if 1 < (l3_3.length : Int) then ((r2_Value.f k a0 l1 l2 ((rd_T28 l3_3 1).f0) ((rd_T28 l3_3 1).f1) ((rd_T28 l3_3 1).f2) ((rd_T28 l3_3 1).f3)).bind fun t447 => (if a3_0 = 15 then (if t445 = 0 then (if 2 < (l3_3.length : Int) then ((r2_Value.f k a0 l1 l2 ((rd_T28 l3_3 2).f0) ((rd_T28 l3_3 2).f1) ((rd_T28 l3_3 2).f2) ((rd_T28 l3_3 2).f3)).bind fun t449 => (some t449)) else (none)) else (some t447)) else ((r1_Do.f k a3_0 a0 t445 t447).bind fun t450 => (some t450)))) else (none))) else (none))))
theorem r2_Value.calls (k : Nat) : ∀ (a0 : Int) (A1 : Option Addr) (c1 : Nat) (l1 : List (S66)) (A2 : Option Addr) (c2 : Nat) (l2 : List (List Int)) (a3_0 : Int) (a3_1 : Int) (a3_2 : Int) (A3_3 : Option Addr) (c3_3 : Nat) (l3_3 : List (S28)) (r : Int) (w : World) (hr1 : Kd.C k66 w A1 l1.length l1) (hc1 : l1.length ≤ c1) (hr2 : Kd.C (Kd.slice 3 (Kd.int .i64)) w A2 l2.length l2) (hc2 : l2.length ≤ c2) (hr3_3 : Kd.C k28 w A3_3 l3_3.length l3_3) (hc3_3 : l3_3.length ≤ c3_3) (h : r2_Value.f k a0 l1 l2 a3_0 a3_1 a3_2 l3_3 = some r),
  Calls Try.prog 24 #[.int .i64 a0, .slice A1 l1.length c1, .slice A2 l2.length c2, .agg #[.int .i64 a3_0, .int .i64 a3_1, .int .i64 a3_2, .slice A3_3 l3_3.length c3_3]] w fun e w' => e = .returned (.int .i64 r) ∧ Below w.heap.size w w' := by
 induction k using Nat.strongRecOn with
 | _ k ih =>
 intro a0 A1 c1 l1 A2 c2 l2 a3_0 a3_1 a3_2 A3_3 c3_3 l3_3 r w hr1 hc1 hr2 hc2 hr3_3 hc3_3 h
 cases k with
 | zero => exact absurd h (by simp [r2_Value.f])
 | succ k =>
 simp only [r2_Value.f] at h
 have hu28 := Try.underlying28
 have HR1 := Aside0.mk hr1
 have HC1 := Aside0.mk hc1
 clear hr1 hc1
 have HR2 := Aside0.mk hr2
 have HC2 := Aside0.mk hc2
 clear hr2 hc2
 have HR3_3 := Aside0.mk hr3_3
 have HC3_3 := Aside0.mk hc3_3
 clear hr3_3 hc3_3
 have HB := Aside0.mk (Below.refl w.heap.size w)
 have H : (if a3_0 = 0 then (some a3_1) else (if a3_0 = 1 then (if (l3_3.length : Int) > 0 then (if 0 < (l3_3.length : Int) then ((r2_Value.f k a0 l1 l2 ((rd_T28 l3_3 0).f0) ((rd_T28 l3_3 0).f1) ((rd_T28 l3_3 0).f2) ((rd_T28 l3_3 0).f3)).bind fun t434 => (if 0 ≤ a3_2 then (if a3_2 < (l2.length : Int) then ((r2_At.f k l1 a3_1 t434).bind fun t436 => (if 0 ≤ t436 then (if t436 < ((rd_L10 l2 a3_2).length : Int) then (some (rd (rd_L10 l2 a3_2) t436)) else (none)) else (none))) else (none)) else (none))) else (none)) else (if 0 ≤ a3_2 then (if a3_2 < (l2.length : Int) then ((r2_At.f k l1 a3_1 0).bind fun t439 => (if 0 ≤ t439 then (if t439 < ((rd_L10 l2 a3_2).length : Int) then (some (rd (rd_L10 l2 a3_2) t439)) else (none)) else (none))) else (none)) else (none))) else (if a3_0 = 12 then (if 0 < (l3_3.length : Int) then ((r2_Value.f k a0 l1 l2 ((rd_T28 l3_3 0).f0) ((rd_T28 l3_3 0).f1) ((rd_T28 l3_3 0).f2) ((rd_T28 l3_3 0).f3)).bind fun t442 => ((r1_Not.f k a0 t442).bind fun t443 => (some t443))) else (none)) else (if 0 < (l3_3.length : Int) then ((r2_Value.f k a0 l1 l2 ((rd_T28 l3_3 0).f0) ((rd_T28 l3_3 0).f1) ((rd_T28 l3_3 0).f2) ((rd_T28 l3_3 0).f3)).bind fun t445 => (if 1 < (l3_3.length : Int) then ((r2_Value.f k a0 l1 l2 ((rd_T28 l3_3 1).f0) ((rd_T28 l3_3 1).f1) ((rd_T28 l3_3 1).f2) ((rd_T28 l3_3 1).f3)).bind fun t447 => (if a3_0 = 15 then (if t445 = 0 then (if 2 < (l3_3.length : Int) then ((r2_Value.f k a0 l1 l2 ((rd_T28 l3_3 2).f0) ((rd_T28 l3_3 2).f1) ((rd_T28 l3_3 2).f2) ((rd_T28 l3_3 2).f3)).bind fun t449 => (some t449)) else (none)) else (some t447)) else ((r1_Do.f k a3_0 a0 t445 t447).bind fun t450 => (some t450)))) else (none))) else (none))))) = some r := h
 clear h
 by_cases c5 : a3_0 = 0
 ·rw [if_pos c5] at H
  have c5b0 : (a3_0 == 0) = true := beq_iff_eq.mpr c5
  have c5b1 : (a3_0 != 0) = false := bne_eq_false_iff_eq.mpr c5
  clear c5
  obtain rfl := Option.some.inj H
  go_enter Try.func24, Try.ntmps24
  go_wp2_with (first | ((with_reducible refine gate_dst (N := 7) rfl ?_); refine bx 7 rfl rfl #[.int .i64 a3_0, .int .i64 a3_1, .int .i64 a3_2, .slice A3_3 l3_3.length c3_3] 28 ?_; intro gb432 hg w6 hbox hb; have BK432 := Aside0.mk (hbox); have GE432 := ge HB hg; replace HB := sb HB hb; clear hb hbox hg; obtain ⟨hcz7_0, hcz7_1, hcz7_2, hcz7_3, hfz7_0, hfz7_1, hfz7_2, hfz7_3⟩ := cf4 BK432.out))
  repeat (go_quiet (first | ((with_reducible refine gate_dst (N := 7) rfl ?_); refine bx 7 rfl rfl #[.int .i64 a3_0, .int .i64 a3_1, .int .i64 a3_2, .slice A3_3 l3_3.length c3_3] 28 ?_; intro gb432 hg w6 hbox hb; have BK432 := Aside0.mk (hbox); have GE432 := ge HB hg; replace HB := sb HB hb; clear hb hbox hg; obtain ⟨hcz7_0, hcz7_1, hcz7_2, hcz7_3, hfz7_0, hfz7_1, hfz7_2, hfz7_3⟩ := cf4 BK432.out)); try go_wp2_with (first | ((with_reducible refine gate_dst (N := 7) rfl ?_); refine bx 7 rfl rfl #[.int .i64 a3_0, .int .i64 a3_1, .int .i64 a3_2, .slice A3_3 l3_3.length c3_3] 28 ?_; intro gb432 hg w6 hbox hb; have BK432 := Aside0.mk (hbox); have GE432 := ge HB hg; replace HB := sb HB hb; clear hb hbox hg; obtain ⟨hcz7_0, hcz7_1, hcz7_2, hcz7_3, hfz7_0, hfz7_1, hfz7_2, hfz7_3⟩ := cf4 BK432.out)))
  go_ret
  exact ⟨rr, bb HB⟩
 rw [if_neg c5] at H
 have c5b0 : (a3_0 == 0) = false := beq_eq_false_iff_ne.mpr c5
 have c5b1 : (a3_0 != 0) = true := bne_iff_ne.mpr c5
 by_cases c8 : a3_0 = 1
 ·rw [if_pos c8] at H
  have c8b0 : (a3_0 == 1) = true := beq_iff_eq.mpr c8
  have c8b1 : (a3_0 != 1) = false := bne_eq_false_iff_eq.mpr c8
  clear c8
  by_cases c9 : (l3_3.length : Int) > 0
  rotate_left
  ·rw [if_neg c9] at H
   have c9b0 : decide (0 < (l3_3.length : Int)) = false := decide_eq_false c9
   have c9b1 : decide (0 < l3_3.length) = false := decide_eq_false (by omega)
   clear c9
   by_cases c21 : 0 ≤ a3_2
   rotate_left
   ·rw [if_neg c21] at H
    exact absurd H (by simp)
   rw [if_pos c21] at H
   have c21b0 : decide (0 ≤ a3_2) = true := decide_eq_true c21
   clear c21
   by_cases c22 : a3_2 < (l2.length : Int)
   rotate_left
   ·rw [if_neg c22] at H
    exact absurd H (by simp)
   rw [if_pos c22] at H
   have c22b0 : decide (a3_2 < (l2.length : Int)) = true := decide_eq_true c22
   clear c22
   obtain ⟨t439, A23, H⟩ := be H
   by_cases c24 : 0 ≤ t439
   rotate_left
   ·rw [if_neg c24] at H
    exact absurd H (by simp)
   rw [if_pos c24] at H
   have c24b0 : decide (0 ≤ t439) = true := decide_eq_true c24
   clear c24
   by_cases c25 : t439 < ((rd_L10 l2 a3_2).length : Int)
   rotate_left
   ·rw [if_neg c25] at H
    exact absurd H (by simp)
   rw [if_pos c25] at H
   have c25b0 : decide (t439 < ((rd_L10 l2 a3_2).length : Int)) = true := decide_eq_true c25
   clear c25
   obtain rfl := Option.some.inj H
   go_enter Try.func24, Try.ntmps24
   go_wp2_with (first | ((with_reducible refine gate_dst (N := 7) rfl ?_); refine bx 7 rfl rfl #[.int .i64 a3_0, .int .i64 a3_1, .int .i64 a3_2, .slice A3_3 l3_3.length c3_3] 28 ?_; intro gb432 hg w26 hbox hb; have BK432 := Aside0.mk (hbox); have GE432 := ge HB hg; replace HB := sb HB hb; clear hb hbox hg; obtain ⟨hcz27_0, hcz27_1, hcz27_2, hcz27_3, hfz27_0, hfz27_1, hfz27_2, hfz27_3⟩ := cf4 BK432.out; have p438 : 0 ≤ (a3_2 : Int) := od; have q438 : a3_2 < (l2.length : Int) := od; obtain ⟨ad438, A438_0, c438_0, e438, hx438_0, hl438_0, hi438_0⟩ := at_L10 HR2.out a3_2 p438 q438; cases e438; replace hx438_0 := bcell HB.out hx438_0; have HR438_0 := Aside0.mk hi438_0; have HC438_0 := Aside0.mk hl438_0; clear hi438_0 hl438_0; replace p438 := eq_true p438; replace q438 := eq_true q438) | (go_at_call 60; (with_reducible refine (r2_At.calls k _ _ l1 a3_1 0 t439 _ ?side1 ?side2 A23.out).mono ?_); (case side1 => exact cb HR1 HB); (case side2 => exact HC1.out); rintro e w' ⟨rfl, ⟨nd, rfl⟩⟩; (try first | exact ⟨rfl, _, World.drewN_drewN _ _ _⟩ | exact ⟨rfl, _, Eq.trans (World.drewN_drewN _ _ _) (congrArg (World.drewN _) (Nat.add_assoc _ _ _))⟩); have p440 : 0 ≤ (t439 : Int) := od; have q440 : t439 < ((rd_L10 l2 a3_2).length : Int) := od; obtain ⟨ad440, e440, hx440_0⟩ := Kd.at_int HR438_0.out t439 p440 q440; cases e440; replace hx440_0 := bcell HB.out hx440_0; replace p440 := eq_true p440; replace q440 := eq_true q440))
   repeat (go_quiet (first | ((with_reducible refine gate_dst (N := 7) rfl ?_); refine bx 7 rfl rfl #[.int .i64 a3_0, .int .i64 a3_1, .int .i64 a3_2, .slice A3_3 l3_3.length c3_3] 28 ?_; intro gb432 hg w26 hbox hb; have BK432 := Aside0.mk (hbox); have GE432 := ge HB hg; replace HB := sb HB hb; clear hb hbox hg; obtain ⟨hcz27_0, hcz27_1, hcz27_2, hcz27_3, hfz27_0, hfz27_1, hfz27_2, hfz27_3⟩ := cf4 BK432.out; have p438 : 0 ≤ (a3_2 : Int) := od; have q438 : a3_2 < (l2.length : Int) := od; obtain ⟨ad438, A438_0, c438_0, e438, hx438_0, hl438_0, hi438_0⟩ := at_L10 HR2.out a3_2 p438 q438; cases e438; replace hx438_0 := bcell HB.out hx438_0; have HR438_0 := Aside0.mk hi438_0; have HC438_0 := Aside0.mk hl438_0; clear hi438_0 hl438_0; replace p438 := eq_true p438; replace q438 := eq_true q438) | (go_at_call 60; (with_reducible refine (r2_At.calls k _ _ l1 a3_1 0 t439 _ ?side1 ?side2 A23.out).mono ?_); (case side1 => exact cb HR1 HB); (case side2 => exact HC1.out); rintro e w' ⟨rfl, ⟨nd, rfl⟩⟩; (try first | exact ⟨rfl, _, World.drewN_drewN _ _ _⟩ | exact ⟨rfl, _, Eq.trans (World.drewN_drewN _ _ _) (congrArg (World.drewN _) (Nat.add_assoc _ _ _))⟩); have p440 : 0 ≤ (t439 : Int) := od; have q440 : t439 < ((rd_L10 l2 a3_2).length : Int) := od; obtain ⟨ad440, e440, hx440_0⟩ := Kd.at_int HR438_0.out t439 p440 q440; cases e440; replace hx440_0 := bcell HB.out hx440_0; replace p440 := eq_true p440; replace q440 := eq_true q440)); try go_wp2_with (first | ((with_reducible refine gate_dst (N := 7) rfl ?_); refine bx 7 rfl rfl #[.int .i64 a3_0, .int .i64 a3_1, .int .i64 a3_2, .slice A3_3 l3_3.length c3_3] 28 ?_; intro gb432 hg w26 hbox hb; have BK432 := Aside0.mk (hbox); have GE432 := ge HB hg; replace HB := sb HB hb; clear hb hbox hg; obtain ⟨hcz27_0, hcz27_1, hcz27_2, hcz27_3, hfz27_0, hfz27_1, hfz27_2, hfz27_3⟩ := cf4 BK432.out; have p438 : 0 ≤ (a3_2 : Int) := od; have q438 : a3_2 < (l2.length : Int) := od; obtain ⟨ad438, A438_0, c438_0, e438, hx438_0, hl438_0, hi438_0⟩ := at_L10 HR2.out a3_2 p438 q438; cases e438; replace hx438_0 := bcell HB.out hx438_0; have HR438_0 := Aside0.mk hi438_0; have HC438_0 := Aside0.mk hl438_0; clear hi438_0 hl438_0; replace p438 := eq_true p438; replace q438 := eq_true q438) | (go_at_call 60; (with_reducible refine (r2_At.calls k _ _ l1 a3_1 0 t439 _ ?side1 ?side2 A23.out).mono ?_); (case side1 => exact cb HR1 HB); (case side2 => exact HC1.out); rintro e w' ⟨rfl, ⟨nd, rfl⟩⟩; (try first | exact ⟨rfl, _, World.drewN_drewN _ _ _⟩ | exact ⟨rfl, _, Eq.trans (World.drewN_drewN _ _ _) (congrArg (World.drewN _) (Nat.add_assoc _ _ _))⟩); have p440 : 0 ≤ (t439 : Int) := od; have q440 : t439 < ((rd_L10 l2 a3_2).length : Int) := od; obtain ⟨ad440, e440, hx440_0⟩ := Kd.at_int HR438_0.out t439 p440 q440; cases e440; replace hx440_0 := bcell HB.out hx440_0; replace p440 := eq_true p440; replace q440 := eq_true q440)))
   go_ret
   exact ⟨rr, bb HB⟩
  rw [if_pos c9] at H
  have c9b0 : decide (0 < (l3_3.length : Int)) = true := decide_eq_true c9
  have c9b1 : decide (0 < l3_3.length) = true := decide_eq_true (by omega)
  clear c9
  by_cases c10 : 0 < (l3_3.length : Int)
  rotate_left
  ·rw [if_neg c10] at H
   exact absurd H (by simp)
  rw [if_pos c10] at H
  have c10b0 : decide (0 < (l3_3.length : Int)) = true := decide_eq_true c10
  have c10b1 : decide (0 < l3_3.length) = true := decide_eq_true (by omega)
  clear c10
  obtain ⟨t434, A11, H⟩ := be H
  by_cases c12 : 0 ≤ a3_2
  rotate_left
  ·rw [if_neg c12] at H
   exact absurd H (by simp)
  rw [if_pos c12] at H
  have c12b0 : decide (0 ≤ a3_2) = true := decide_eq_true c12
  clear c12
  by_cases c13 : a3_2 < (l2.length : Int)
  rotate_left
  ·rw [if_neg c13] at H
   exact absurd H (by simp)
  rw [if_pos c13] at H
  have c13b0 : decide (a3_2 < (l2.length : Int)) = true := decide_eq_true c13
  clear c13
  obtain ⟨t436, A14, H⟩ := be H
  by_cases c15 : 0 ≤ t436
  rotate_left
  ·rw [if_neg c15] at H
   exact absurd H (by simp)
  rw [if_pos c15] at H
  have c15b0 : decide (0 ≤ t436) = true := decide_eq_true c15
  clear c15
  by_cases c16 : t436 < ((rd_L10 l2 a3_2).length : Int)
  rotate_left
  ·rw [if_neg c16] at H
   exact absurd H (by simp)
  rw [if_pos c16] at H
  have c16b0 : decide (t436 < ((rd_L10 l2 a3_2).length : Int)) = true := decide_eq_true c16
  clear c16
  obtain rfl := Option.some.inj H
  go_enter Try.func24, Try.ntmps24
  go_wp2_with (first | ((with_reducible refine gate_dst (N := 7) rfl ?_); refine bx 7 rfl rfl #[.int .i64 a3_0, .int .i64 a3_1, .int .i64 a3_2, .slice A3_3 l3_3.length c3_3] 28 ?_; intro gb432 hg w17 hbox hb; have BK432 := Aside0.mk (hbox); have GE432 := ge HB hg; replace HB := sb HB hb; clear hb hbox hg; obtain ⟨hcz18_0, hcz18_1, hcz18_2, hcz18_3, hfz18_0, hfz18_1, hfz18_2, hfz18_3⟩ := cf4 BK432.out; have p433 : 0 ≤ (0 : Int) := (by omega); have q433 : 0 < (l3_3.length : Int) := od; obtain ⟨ad433, A433_3, c433_3, e433, hx433_0, hx433_1, hx433_2, hx433_3, hl433_3, hi433_3⟩ := at_T28 HR3_3.out 0 p433 q433; cases e433; have qi433 : (0 < l3_3.length) = True := eq_true (by omega); (try rw [show ((0 : Int)).toNat = 0 from rfl] at hx433_0); (try rw [show 0 * 4 = 0 from rfl] at hx433_0); (try rw [Addr.add_zero'] at hx433_0); (try rw [show ((0 : Int)).toNat = 0 from rfl] at hx433_1); (try rw [show 0 * 4 = 0 from rfl] at hx433_1); (try rw [Addr.add_zero'] at hx433_1); (try rw [show ((0 : Int)).toNat = 0 from rfl] at hx433_2); (try rw [show 0 * 4 = 0 from rfl] at hx433_2); (try rw [Addr.add_zero'] at hx433_2); (try rw [show ((0 : Int)).toNat = 0 from rfl] at hx433_3); (try rw [show 0 * 4 = 0 from rfl] at hx433_3); (try rw [Addr.add_zero'] at hx433_3); replace hx433_0 := bcell HB.out hx433_0; replace hx433_1 := bcell HB.out hx433_1; replace hx433_2 := bcell HB.out hx433_2; replace hx433_3 := bcell HB.out hx433_3; have HR433_3 := Aside0.mk hi433_3; have HC433_3 := Aside0.mk hl433_3; clear hi433_3 hl433_3; replace p433 := eq_true p433; replace q433 := eq_true q433) | (go_at_call 24; (with_reducible refine (ih k (by omega) a0 _ _ l1 _ _ l2 ((rd_T28 l3_3 0).f0) ((rd_T28 l3_3 0).f1) ((rd_T28 l3_3 0).f2) _ _ ((rd_T28 l3_3 0).f3) t434 _ ?side1 ?side2 ?side3 ?side4 ?side5 ?side6 A11.out).mono ?_); (case side1 => exact cb HR1 HB); (case side2 => exact HC1.out); (case side3 => exact cb HR2 HB); (case side4 => exact HC2.out); (case side5 => exact cb HR433_3 HB); (case side6 => exact HC433_3.out); rintro e w19 ⟨rfl, hb⟩; replace BK432 := kb BK432 hb; replace HB := sb HB hb; (try clear hb); obtain ⟨hcz20_0, hcz20_1, hcz20_2, hcz20_3, hfz20_0, hfz20_1, hfz20_2, hfz20_3⟩ := cf4 BK432.out; have p435 : 0 ≤ (a3_2 : Int) := od; have q435 : a3_2 < (l2.length : Int) := od; obtain ⟨ad435, A435_0, c435_0, e435, hx435_0, hl435_0, hi435_0⟩ := at_L10 HR2.out a3_2 p435 q435; cases e435; replace hx435_0 := bcell HB.out hx435_0; have HR435_0 := Aside0.mk hi435_0; have HC435_0 := Aside0.mk hl435_0; clear hi435_0 hl435_0; replace p435 := eq_true p435; replace q435 := eq_true q435) | (go_at_call 60; (with_reducible refine (r2_At.calls k _ _ l1 a3_1 t434 t436 _ ?side1 ?side2 A14.out).mono ?_); (case side1 => exact cb HR1 HB); (case side2 => exact HC1.out); rintro e w' ⟨rfl, ⟨nd, rfl⟩⟩; (try first | exact ⟨rfl, _, World.drewN_drewN _ _ _⟩ | exact ⟨rfl, _, Eq.trans (World.drewN_drewN _ _ _) (congrArg (World.drewN _) (Nat.add_assoc _ _ _))⟩); have p437 : 0 ≤ (t436 : Int) := od; have q437 : t436 < ((rd_L10 l2 a3_2).length : Int) := od; obtain ⟨ad437, e437, hx437_0⟩ := Kd.at_int HR435_0.out t436 p437 q437; cases e437; replace hx437_0 := bcell HB.out hx437_0; replace p437 := eq_true p437; replace q437 := eq_true q437))
  repeat (go_quiet (first | ((with_reducible refine gate_dst (N := 7) rfl ?_); refine bx 7 rfl rfl #[.int .i64 a3_0, .int .i64 a3_1, .int .i64 a3_2, .slice A3_3 l3_3.length c3_3] 28 ?_; intro gb432 hg w17 hbox hb; have BK432 := Aside0.mk (hbox); have GE432 := ge HB hg; replace HB := sb HB hb; clear hb hbox hg; obtain ⟨hcz18_0, hcz18_1, hcz18_2, hcz18_3, hfz18_0, hfz18_1, hfz18_2, hfz18_3⟩ := cf4 BK432.out; have p433 : 0 ≤ (0 : Int) := (by omega); have q433 : 0 < (l3_3.length : Int) := od; obtain ⟨ad433, A433_3, c433_3, e433, hx433_0, hx433_1, hx433_2, hx433_3, hl433_3, hi433_3⟩ := at_T28 HR3_3.out 0 p433 q433; cases e433; have qi433 : (0 < l3_3.length) = True := eq_true (by omega); (try rw [show ((0 : Int)).toNat = 0 from rfl] at hx433_0); (try rw [show 0 * 4 = 0 from rfl] at hx433_0); (try rw [Addr.add_zero'] at hx433_0); (try rw [show ((0 : Int)).toNat = 0 from rfl] at hx433_1); (try rw [show 0 * 4 = 0 from rfl] at hx433_1); (try rw [Addr.add_zero'] at hx433_1); (try rw [show ((0 : Int)).toNat = 0 from rfl] at hx433_2); (try rw [show 0 * 4 = 0 from rfl] at hx433_2); (try rw [Addr.add_zero'] at hx433_2); (try rw [show ((0 : Int)).toNat = 0 from rfl] at hx433_3); (try rw [show 0 * 4 = 0 from rfl] at hx433_3); (try rw [Addr.add_zero'] at hx433_3); replace hx433_0 := bcell HB.out hx433_0; replace hx433_1 := bcell HB.out hx433_1; replace hx433_2 := bcell HB.out hx433_2; replace hx433_3 := bcell HB.out hx433_3; have HR433_3 := Aside0.mk hi433_3; have HC433_3 := Aside0.mk hl433_3; clear hi433_3 hl433_3; replace p433 := eq_true p433; replace q433 := eq_true q433) | (go_at_call 24; (with_reducible refine (ih k (by omega) a0 _ _ l1 _ _ l2 ((rd_T28 l3_3 0).f0) ((rd_T28 l3_3 0).f1) ((rd_T28 l3_3 0).f2) _ _ ((rd_T28 l3_3 0).f3) t434 _ ?side1 ?side2 ?side3 ?side4 ?side5 ?side6 A11.out).mono ?_); (case side1 => exact cb HR1 HB); (case side2 => exact HC1.out); (case side3 => exact cb HR2 HB); (case side4 => exact HC2.out); (case side5 => exact cb HR433_3 HB); (case side6 => exact HC433_3.out); rintro e w19 ⟨rfl, hb⟩; replace BK432 := kb BK432 hb; replace HB := sb HB hb; (try clear hb); obtain ⟨hcz20_0, hcz20_1, hcz20_2, hcz20_3, hfz20_0, hfz20_1, hfz20_2, hfz20_3⟩ := cf4 BK432.out; have p435 : 0 ≤ (a3_2 : Int) := od; have q435 : a3_2 < (l2.length : Int) := od; obtain ⟨ad435, A435_0, c435_0, e435, hx435_0, hl435_0, hi435_0⟩ := at_L10 HR2.out a3_2 p435 q435; cases e435; replace hx435_0 := bcell HB.out hx435_0; have HR435_0 := Aside0.mk hi435_0; have HC435_0 := Aside0.mk hl435_0; clear hi435_0 hl435_0; replace p435 := eq_true p435; replace q435 := eq_true q435) | (go_at_call 60; (with_reducible refine (r2_At.calls k _ _ l1 a3_1 t434 t436 _ ?side1 ?side2 A14.out).mono ?_); (case side1 => exact cb HR1 HB); (case side2 => exact HC1.out); rintro e w' ⟨rfl, ⟨nd, rfl⟩⟩; (try first | exact ⟨rfl, _, World.drewN_drewN _ _ _⟩ | exact ⟨rfl, _, Eq.trans (World.drewN_drewN _ _ _) (congrArg (World.drewN _) (Nat.add_assoc _ _ _))⟩); have p437 : 0 ≤ (t436 : Int) := od; have q437 : t436 < ((rd_L10 l2 a3_2).length : Int) := od; obtain ⟨ad437, e437, hx437_0⟩ := Kd.at_int HR435_0.out t436 p437 q437; cases e437; replace hx437_0 := bcell HB.out hx437_0; replace p437 := eq_true p437; replace q437 := eq_true q437)); try go_wp2_with (first | ((with_reducible refine gate_dst (N := 7) rfl ?_); refine bx 7 rfl rfl #[.int .i64 a3_0, .int .i64 a3_1, .int .i64 a3_2, .slice A3_3 l3_3.length c3_3] 28 ?_; intro gb432 hg w17 hbox hb; have BK432 := Aside0.mk (hbox); have GE432 := ge HB hg; replace HB := sb HB hb; clear hb hbox hg; obtain ⟨hcz18_0, hcz18_1, hcz18_2, hcz18_3, hfz18_0, hfz18_1, hfz18_2, hfz18_3⟩ := cf4 BK432.out; have p433 : 0 ≤ (0 : Int) := (by omega); have q433 : 0 < (l3_3.length : Int) := od; obtain ⟨ad433, A433_3, c433_3, e433, hx433_0, hx433_1, hx433_2, hx433_3, hl433_3, hi433_3⟩ := at_T28 HR3_3.out 0 p433 q433; cases e433; have qi433 : (0 < l3_3.length) = True := eq_true (by omega); (try rw [show ((0 : Int)).toNat = 0 from rfl] at hx433_0); (try rw [show 0 * 4 = 0 from rfl] at hx433_0); (try rw [Addr.add_zero'] at hx433_0); (try rw [show ((0 : Int)).toNat = 0 from rfl] at hx433_1); (try rw [show 0 * 4 = 0 from rfl] at hx433_1); (try rw [Addr.add_zero'] at hx433_1); (try rw [show ((0 : Int)).toNat = 0 from rfl] at hx433_2); (try rw [show 0 * 4 = 0 from rfl] at hx433_2); (try rw [Addr.add_zero'] at hx433_2); (try rw [show ((0 : Int)).toNat = 0 from rfl] at hx433_3); (try rw [show 0 * 4 = 0 from rfl] at hx433_3); (try rw [Addr.add_zero'] at hx433_3); replace hx433_0 := bcell HB.out hx433_0; replace hx433_1 := bcell HB.out hx433_1; replace hx433_2 := bcell HB.out hx433_2; replace hx433_3 := bcell HB.out hx433_3; have HR433_3 := Aside0.mk hi433_3; have HC433_3 := Aside0.mk hl433_3; clear hi433_3 hl433_3; replace p433 := eq_true p433; replace q433 := eq_true q433) | (go_at_call 24; (with_reducible refine (ih k (by omega) a0 _ _ l1 _ _ l2 ((rd_T28 l3_3 0).f0) ((rd_T28 l3_3 0).f1) ((rd_T28 l3_3 0).f2) _ _ ((rd_T28 l3_3 0).f3) t434 _ ?side1 ?side2 ?side3 ?side4 ?side5 ?side6 A11.out).mono ?_); (case side1 => exact cb HR1 HB); (case side2 => exact HC1.out); (case side3 => exact cb HR2 HB); (case side4 => exact HC2.out); (case side5 => exact cb HR433_3 HB); (case side6 => exact HC433_3.out); rintro e w19 ⟨rfl, hb⟩; replace BK432 := kb BK432 hb; replace HB := sb HB hb; (try clear hb); obtain ⟨hcz20_0, hcz20_1, hcz20_2, hcz20_3, hfz20_0, hfz20_1, hfz20_2, hfz20_3⟩ := cf4 BK432.out; have p435 : 0 ≤ (a3_2 : Int) := od; have q435 : a3_2 < (l2.length : Int) := od; obtain ⟨ad435, A435_0, c435_0, e435, hx435_0, hl435_0, hi435_0⟩ := at_L10 HR2.out a3_2 p435 q435; cases e435; replace hx435_0 := bcell HB.out hx435_0; have HR435_0 := Aside0.mk hi435_0; have HC435_0 := Aside0.mk hl435_0; clear hi435_0 hl435_0; replace p435 := eq_true p435; replace q435 := eq_true q435) | (go_at_call 60; (with_reducible refine (r2_At.calls k _ _ l1 a3_1 t434 t436 _ ?side1 ?side2 A14.out).mono ?_); (case side1 => exact cb HR1 HB); (case side2 => exact HC1.out); rintro e w' ⟨rfl, ⟨nd, rfl⟩⟩; (try first | exact ⟨rfl, _, World.drewN_drewN _ _ _⟩ | exact ⟨rfl, _, Eq.trans (World.drewN_drewN _ _ _) (congrArg (World.drewN _) (Nat.add_assoc _ _ _))⟩); have p437 : 0 ≤ (t436 : Int) := od; have q437 : t436 < ((rd_L10 l2 a3_2).length : Int) := od; obtain ⟨ad437, e437, hx437_0⟩ := Kd.at_int HR435_0.out t436 p437 q437; cases e437; replace hx437_0 := bcell HB.out hx437_0; replace p437 := eq_true p437; replace q437 := eq_true q437)))
  go_ret
  exact ⟨rr, bb HB⟩
 rw [if_neg c8] at H
 have c8b0 : (a3_0 == 1) = false := beq_eq_false_iff_ne.mpr c8
 have c8b1 : (a3_0 != 1) = true := bne_iff_ne.mpr c8
 by_cases c28 : a3_0 = 12
 ·rw [if_pos c28] at H
  have c28b0 : (a3_0 == 12) = true := beq_iff_eq.mpr c28
  have c28b1 : (a3_0 != 12) = false := bne_eq_false_iff_eq.mpr c28
  clear c28
  by_cases c29 : 0 < (l3_3.length : Int)
  rotate_left
  ·rw [if_neg c29] at H
   exact absurd H (by simp)
  rw [if_pos c29] at H
  have c29b0 : decide (0 < (l3_3.length : Int)) = true := decide_eq_true c29
  have c29b1 : decide (0 < l3_3.length) = true := decide_eq_true (by omega)
  clear c29
  obtain ⟨t442, A30, H⟩ := be H
  obtain ⟨t443, A31, H⟩ := be H
  obtain rfl := Option.some.inj H
  go_enter Try.func24, Try.ntmps24
  go_wp2_with (first | ((with_reducible refine gate_dst (N := 7) rfl ?_); refine bx 7 rfl rfl #[.int .i64 a3_0, .int .i64 a3_1, .int .i64 a3_2, .slice A3_3 l3_3.length c3_3] 28 ?_; intro gb432 hg w32 hbox hb; have BK432 := Aside0.mk (hbox); have GE432 := ge HB hg; replace HB := sb HB hb; clear hb hbox hg; obtain ⟨hcz33_0, hcz33_1, hcz33_2, hcz33_3, hfz33_0, hfz33_1, hfz33_2, hfz33_3⟩ := cf4 BK432.out; have p441 : 0 ≤ (0 : Int) := (by omega); have q441 : 0 < (l3_3.length : Int) := od; obtain ⟨ad441, A441_3, c441_3, e441, hx441_0, hx441_1, hx441_2, hx441_3, hl441_3, hi441_3⟩ := at_T28 HR3_3.out 0 p441 q441; cases e441; have qi441 : (0 < l3_3.length) = True := eq_true (by omega); (try rw [show ((0 : Int)).toNat = 0 from rfl] at hx441_0); (try rw [show 0 * 4 = 0 from rfl] at hx441_0); (try rw [Addr.add_zero'] at hx441_0); (try rw [show ((0 : Int)).toNat = 0 from rfl] at hx441_1); (try rw [show 0 * 4 = 0 from rfl] at hx441_1); (try rw [Addr.add_zero'] at hx441_1); (try rw [show ((0 : Int)).toNat = 0 from rfl] at hx441_2); (try rw [show 0 * 4 = 0 from rfl] at hx441_2); (try rw [Addr.add_zero'] at hx441_2); (try rw [show ((0 : Int)).toNat = 0 from rfl] at hx441_3); (try rw [show 0 * 4 = 0 from rfl] at hx441_3); (try rw [Addr.add_zero'] at hx441_3); replace hx441_0 := bcell HB.out hx441_0; replace hx441_1 := bcell HB.out hx441_1; replace hx441_2 := bcell HB.out hx441_2; replace hx441_3 := bcell HB.out hx441_3; have HR441_3 := Aside0.mk hi441_3; have HC441_3 := Aside0.mk hl441_3; clear hi441_3 hl441_3; replace p441 := eq_true p441; replace q441 := eq_true q441) | (go_at_call 24; (with_reducible refine (ih k (by omega) a0 _ _ l1 _ _ l2 ((rd_T28 l3_3 0).f0) ((rd_T28 l3_3 0).f1) ((rd_T28 l3_3 0).f2) _ _ ((rd_T28 l3_3 0).f3) t442 _ ?side1 ?side2 ?side3 ?side4 ?side5 ?side6 A30.out).mono ?_); (case side1 => exact cb HR1 HB); (case side2 => exact HC1.out); (case side3 => exact cb HR2 HB); (case side4 => exact HC2.out); (case side5 => exact cb HR441_3 HB); (case side6 => exact HC441_3.out); rintro e w34 ⟨rfl, hb⟩; replace BK432 := kb BK432 hb; replace HB := sb HB hb; (try clear hb)) | (go_at_call 61; (with_reducible refine (r1_Not.calls k a0 t442 t443 _ A31.out).mono ?_); rintro e w' ⟨rfl, ⟨nd, rfl⟩⟩; (try first | exact ⟨rfl, _, World.drewN_drewN _ _ _⟩ | exact ⟨rfl, _, Eq.trans (World.drewN_drewN _ _ _) (congrArg (World.drewN _) (Nat.add_assoc _ _ _))⟩)))
  repeat (go_quiet (first | ((with_reducible refine gate_dst (N := 7) rfl ?_); refine bx 7 rfl rfl #[.int .i64 a3_0, .int .i64 a3_1, .int .i64 a3_2, .slice A3_3 l3_3.length c3_3] 28 ?_; intro gb432 hg w32 hbox hb; have BK432 := Aside0.mk (hbox); have GE432 := ge HB hg; replace HB := sb HB hb; clear hb hbox hg; obtain ⟨hcz33_0, hcz33_1, hcz33_2, hcz33_3, hfz33_0, hfz33_1, hfz33_2, hfz33_3⟩ := cf4 BK432.out; have p441 : 0 ≤ (0 : Int) := (by omega); have q441 : 0 < (l3_3.length : Int) := od; obtain ⟨ad441, A441_3, c441_3, e441, hx441_0, hx441_1, hx441_2, hx441_3, hl441_3, hi441_3⟩ := at_T28 HR3_3.out 0 p441 q441; cases e441; have qi441 : (0 < l3_3.length) = True := eq_true (by omega); (try rw [show ((0 : Int)).toNat = 0 from rfl] at hx441_0); (try rw [show 0 * 4 = 0 from rfl] at hx441_0); (try rw [Addr.add_zero'] at hx441_0); (try rw [show ((0 : Int)).toNat = 0 from rfl] at hx441_1); (try rw [show 0 * 4 = 0 from rfl] at hx441_1); (try rw [Addr.add_zero'] at hx441_1); (try rw [show ((0 : Int)).toNat = 0 from rfl] at hx441_2); (try rw [show 0 * 4 = 0 from rfl] at hx441_2); (try rw [Addr.add_zero'] at hx441_2); (try rw [show ((0 : Int)).toNat = 0 from rfl] at hx441_3); (try rw [show 0 * 4 = 0 from rfl] at hx441_3); (try rw [Addr.add_zero'] at hx441_3); replace hx441_0 := bcell HB.out hx441_0; replace hx441_1 := bcell HB.out hx441_1; replace hx441_2 := bcell HB.out hx441_2; replace hx441_3 := bcell HB.out hx441_3; have HR441_3 := Aside0.mk hi441_3; have HC441_3 := Aside0.mk hl441_3; clear hi441_3 hl441_3; replace p441 := eq_true p441; replace q441 := eq_true q441) | (go_at_call 24; (with_reducible refine (ih k (by omega) a0 _ _ l1 _ _ l2 ((rd_T28 l3_3 0).f0) ((rd_T28 l3_3 0).f1) ((rd_T28 l3_3 0).f2) _ _ ((rd_T28 l3_3 0).f3) t442 _ ?side1 ?side2 ?side3 ?side4 ?side5 ?side6 A30.out).mono ?_); (case side1 => exact cb HR1 HB); (case side2 => exact HC1.out); (case side3 => exact cb HR2 HB); (case side4 => exact HC2.out); (case side5 => exact cb HR441_3 HB); (case side6 => exact HC441_3.out); rintro e w34 ⟨rfl, hb⟩; replace BK432 := kb BK432 hb; replace HB := sb HB hb; (try clear hb)) | (go_at_call 61; (with_reducible refine (r1_Not.calls k a0 t442 t443 _ A31.out).mono ?_); rintro e w' ⟨rfl, ⟨nd, rfl⟩⟩; (try first | exact ⟨rfl, _, World.drewN_drewN _ _ _⟩ | exact ⟨rfl, _, Eq.trans (World.drewN_drewN _ _ _) (congrArg (World.drewN _) (Nat.add_assoc _ _ _))⟩))); try go_wp2_with (first | ((with_reducible refine gate_dst (N := 7) rfl ?_); refine bx 7 rfl rfl #[.int .i64 a3_0, .int .i64 a3_1, .int .i64 a3_2, .slice A3_3 l3_3.length c3_3] 28 ?_; intro gb432 hg w32 hbox hb; have BK432 := Aside0.mk (hbox); have GE432 := ge HB hg; replace HB := sb HB hb; clear hb hbox hg; obtain ⟨hcz33_0, hcz33_1, hcz33_2, hcz33_3, hfz33_0, hfz33_1, hfz33_2, hfz33_3⟩ := cf4 BK432.out; have p441 : 0 ≤ (0 : Int) := (by omega); have q441 : 0 < (l3_3.length : Int) := od; obtain ⟨ad441, A441_3, c441_3, e441, hx441_0, hx441_1, hx441_2, hx441_3, hl441_3, hi441_3⟩ := at_T28 HR3_3.out 0 p441 q441; cases e441; have qi441 : (0 < l3_3.length) = True := eq_true (by omega); (try rw [show ((0 : Int)).toNat = 0 from rfl] at hx441_0); (try rw [show 0 * 4 = 0 from rfl] at hx441_0); (try rw [Addr.add_zero'] at hx441_0); (try rw [show ((0 : Int)).toNat = 0 from rfl] at hx441_1); (try rw [show 0 * 4 = 0 from rfl] at hx441_1); (try rw [Addr.add_zero'] at hx441_1); (try rw [show ((0 : Int)).toNat = 0 from rfl] at hx441_2); (try rw [show 0 * 4 = 0 from rfl] at hx441_2); (try rw [Addr.add_zero'] at hx441_2); (try rw [show ((0 : Int)).toNat = 0 from rfl] at hx441_3); (try rw [show 0 * 4 = 0 from rfl] at hx441_3); (try rw [Addr.add_zero'] at hx441_3); replace hx441_0 := bcell HB.out hx441_0; replace hx441_1 := bcell HB.out hx441_1; replace hx441_2 := bcell HB.out hx441_2; replace hx441_3 := bcell HB.out hx441_3; have HR441_3 := Aside0.mk hi441_3; have HC441_3 := Aside0.mk hl441_3; clear hi441_3 hl441_3; replace p441 := eq_true p441; replace q441 := eq_true q441) | (go_at_call 24; (with_reducible refine (ih k (by omega) a0 _ _ l1 _ _ l2 ((rd_T28 l3_3 0).f0) ((rd_T28 l3_3 0).f1) ((rd_T28 l3_3 0).f2) _ _ ((rd_T28 l3_3 0).f3) t442 _ ?side1 ?side2 ?side3 ?side4 ?side5 ?side6 A30.out).mono ?_); (case side1 => exact cb HR1 HB); (case side2 => exact HC1.out); (case side3 => exact cb HR2 HB); (case side4 => exact HC2.out); (case side5 => exact cb HR441_3 HB); (case side6 => exact HC441_3.out); rintro e w34 ⟨rfl, hb⟩; replace BK432 := kb BK432 hb; replace HB := sb HB hb; (try clear hb)) | (go_at_call 61; (with_reducible refine (r1_Not.calls k a0 t442 t443 _ A31.out).mono ?_); rintro e w' ⟨rfl, ⟨nd, rfl⟩⟩; (try first | exact ⟨rfl, _, World.drewN_drewN _ _ _⟩ | exact ⟨rfl, _, Eq.trans (World.drewN_drewN _ _ _) (congrArg (World.drewN _) (Nat.add_assoc _ _ _))⟩))))
  go_ret
  exact ⟨rr, bb HB⟩
 rw [if_neg c28] at H
 have c28b0 : (a3_0 == 12) = false := beq_eq_false_iff_ne.mpr c28
 have c28b1 : (a3_0 != 12) = true := bne_iff_ne.mpr c28
 by_cases c35 : 0 < (l3_3.length : Int)
 rotate_left
 ·rw [if_neg c35] at H
  exact absurd H (by simp)
 rw [if_pos c35] at H
 have c35b0 : decide (0 < (l3_3.length : Int)) = true := decide_eq_true c35
 have c35b1 : decide (0 < l3_3.length) = true := decide_eq_true (by omega)
 clear c35
 obtain ⟨t445, A36, H⟩ := be H
 by_cases c37 : 1 < (l3_3.length : Int)
 rotate_left
 ·rw [if_neg c37] at H
  exact absurd H (by simp)
 rw [if_pos c37] at H
 have c37b0 : decide (1 < (l3_3.length : Int)) = true := decide_eq_true c37
 have c37b1 : decide (1 < l3_3.length) = true := decide_eq_true (by omega)
 clear c37
 obtain ⟨t447, A38, H⟩ := be H
 by_cases c39 : a3_0 = 15
 rotate_left
 ·rw [if_neg c39] at H
  have c39b0 : (a3_0 == 15) = false := beq_eq_false_iff_ne.mpr c39
  have c39b1 : (a3_0 != 15) = true := bne_iff_ne.mpr c39
  obtain ⟨t450, A56, H⟩ := be H
  obtain rfl := Option.some.inj H
  go_enter Try.func24, Try.ntmps24
  go_wp2_with (first | ((with_reducible refine gate_dst (N := 7) rfl ?_); refine bx 7 rfl rfl #[.int .i64 a3_0, .int .i64 a3_1, .int .i64 a3_2, .slice A3_3 l3_3.length c3_3] 28 ?_; intro gb432 hg w57 hbox hb; have BK432 := Aside0.mk (hbox); have GE432 := ge HB hg; replace HB := sb HB hb; clear hb hbox hg; obtain ⟨hcz58_0, hcz58_1, hcz58_2, hcz58_3, hfz58_0, hfz58_1, hfz58_2, hfz58_3⟩ := cf4 BK432.out; have p444 : 0 ≤ (0 : Int) := (by omega); have q444 : 0 < (l3_3.length : Int) := od; obtain ⟨ad444, A444_3, c444_3, e444, hx444_0, hx444_1, hx444_2, hx444_3, hl444_3, hi444_3⟩ := at_T28 HR3_3.out 0 p444 q444; cases e444; have qi444 : (0 < l3_3.length) = True := eq_true (by omega); (try rw [show ((0 : Int)).toNat = 0 from rfl] at hx444_0); (try rw [show 0 * 4 = 0 from rfl] at hx444_0); (try rw [Addr.add_zero'] at hx444_0); (try rw [show ((0 : Int)).toNat = 0 from rfl] at hx444_1); (try rw [show 0 * 4 = 0 from rfl] at hx444_1); (try rw [Addr.add_zero'] at hx444_1); (try rw [show ((0 : Int)).toNat = 0 from rfl] at hx444_2); (try rw [show 0 * 4 = 0 from rfl] at hx444_2); (try rw [Addr.add_zero'] at hx444_2); (try rw [show ((0 : Int)).toNat = 0 from rfl] at hx444_3); (try rw [show 0 * 4 = 0 from rfl] at hx444_3); (try rw [Addr.add_zero'] at hx444_3); replace hx444_0 := bcell HB.out hx444_0; replace hx444_1 := bcell HB.out hx444_1; replace hx444_2 := bcell HB.out hx444_2; replace hx444_3 := bcell HB.out hx444_3; have HR444_3 := Aside0.mk hi444_3; have HC444_3 := Aside0.mk hl444_3; clear hi444_3 hl444_3; replace p444 := eq_true p444; replace q444 := eq_true q444) | (go_at_call 24; (with_reducible refine (ih k (by omega) a0 _ _ l1 _ _ l2 ((rd_T28 l3_3 0).f0) ((rd_T28 l3_3 0).f1) ((rd_T28 l3_3 0).f2) _ _ ((rd_T28 l3_3 0).f3) t445 _ ?side1 ?side2 ?side3 ?side4 ?side5 ?side6 A36.out).mono ?_); (case side1 => exact cb HR1 HB); (case side2 => exact HC1.out); (case side3 => exact cb HR2 HB); (case side4 => exact HC2.out); (case side5 => exact cb HR444_3 HB); (case side6 => exact HC444_3.out); rintro e w59 ⟨rfl, hb⟩; replace BK432 := kb BK432 hb; replace HB := sb HB hb; (try clear hb); obtain ⟨hcz60_0, hcz60_1, hcz60_2, hcz60_3, hfz60_0, hfz60_1, hfz60_2, hfz60_3⟩ := cf4 BK432.out; have p446 : 0 ≤ (1 : Int) := (by omega); have q446 : 1 < (l3_3.length : Int) := od; obtain ⟨ad446, A446_3, c446_3, e446, hx446_0, hx446_1, hx446_2, hx446_3, hl446_3, hi446_3⟩ := at_T28 HR3_3.out 1 p446 q446; obtain rfl : ad444 = ad446 := (by injection e446); (try simp only [show (1 : Int).toNat = 1 from rfl, Nat.reduceMul, Nat.reduceEqDiff, Go.Addr.add, ↓reduceIte] at hx446_0); (try simp only [show (1 : Int).toNat = 1 from rfl, Nat.reduceMul, Nat.reduceEqDiff, Go.Addr.add, ↓reduceIte] at hx446_1); (try simp only [show (1 : Int).toNat = 1 from rfl, Nat.reduceMul, Nat.reduceEqDiff, Go.Addr.add, ↓reduceIte] at hx446_2); (try simp only [show (1 : Int).toNat = 1 from rfl, Nat.reduceMul, Nat.reduceEqDiff, Go.Addr.add, ↓reduceIte] at hx446_3); have qi446 : (1 < l3_3.length) = True := eq_true (by omega); (try rw [show ((1 : Int)).toNat = 1 from rfl] at hx446_0); (try rw [show 1 * 4 = 4 from rfl] at hx446_0); (try rw [show ((1 : Int)).toNat = 1 from rfl] at hx446_1); (try rw [show 1 * 4 = 4 from rfl] at hx446_1); (try rw [show ((1 : Int)).toNat = 1 from rfl] at hx446_2); (try rw [show 1 * 4 = 4 from rfl] at hx446_2); (try rw [show ((1 : Int)).toNat = 1 from rfl] at hx446_3); (try rw [show 1 * 4 = 4 from rfl] at hx446_3); replace hx446_0 := bcell HB.out hx446_0; replace hx446_1 := bcell HB.out hx446_1; replace hx446_2 := bcell HB.out hx446_2; replace hx446_3 := bcell HB.out hx446_3; have HR446_3 := Aside0.mk hi446_3; have HC446_3 := Aside0.mk hl446_3; clear hi446_3 hl446_3; replace p446 := eq_true p446; replace q446 := eq_true q446) | (go_at_call 24; (with_reducible refine (ih k (by omega) a0 _ _ l1 _ _ l2 ((rd_T28 l3_3 1).f0) ((rd_T28 l3_3 1).f1) ((rd_T28 l3_3 1).f2) _ _ ((rd_T28 l3_3 1).f3) t447 _ ?side1 ?side2 ?side3 ?side4 ?side5 ?side6 A38.out).mono ?_); (case side1 => exact cb HR1 HB); (case side2 => exact HC1.out); (case side3 => exact cb HR2 HB); (case side4 => exact HC2.out); (case side5 => exact cb HR446_3 HB); (case side6 => exact HC446_3.out); rintro e w61 ⟨rfl, hb⟩; replace BK432 := kb BK432 hb; replace HB := sb HB hb; (try clear hb); obtain ⟨hcz62_0, hcz62_1, hcz62_2, hcz62_3, hfz62_0, hfz62_1, hfz62_2, hfz62_3⟩ := cf4 BK432.out) | (go_at_call 62; (with_reducible refine (r1_Do.calls k a3_0 a0 t445 t447 t450 _ A56.out).mono ?_); rintro e w63 ⟨rfl, hb⟩; replace BK432 := kb BK432 hb; replace HB := sb HB hb; (try clear hb)))
  repeat (go_quiet (first | ((with_reducible refine gate_dst (N := 7) rfl ?_); refine bx 7 rfl rfl #[.int .i64 a3_0, .int .i64 a3_1, .int .i64 a3_2, .slice A3_3 l3_3.length c3_3] 28 ?_; intro gb432 hg w57 hbox hb; have BK432 := Aside0.mk (hbox); have GE432 := ge HB hg; replace HB := sb HB hb; clear hb hbox hg; obtain ⟨hcz58_0, hcz58_1, hcz58_2, hcz58_3, hfz58_0, hfz58_1, hfz58_2, hfz58_3⟩ := cf4 BK432.out; have p444 : 0 ≤ (0 : Int) := (by omega); have q444 : 0 < (l3_3.length : Int) := od; obtain ⟨ad444, A444_3, c444_3, e444, hx444_0, hx444_1, hx444_2, hx444_3, hl444_3, hi444_3⟩ := at_T28 HR3_3.out 0 p444 q444; cases e444; have qi444 : (0 < l3_3.length) = True := eq_true (by omega); (try rw [show ((0 : Int)).toNat = 0 from rfl] at hx444_0); (try rw [show 0 * 4 = 0 from rfl] at hx444_0); (try rw [Addr.add_zero'] at hx444_0); (try rw [show ((0 : Int)).toNat = 0 from rfl] at hx444_1); (try rw [show 0 * 4 = 0 from rfl] at hx444_1); (try rw [Addr.add_zero'] at hx444_1); (try rw [show ((0 : Int)).toNat = 0 from rfl] at hx444_2); (try rw [show 0 * 4 = 0 from rfl] at hx444_2); (try rw [Addr.add_zero'] at hx444_2); (try rw [show ((0 : Int)).toNat = 0 from rfl] at hx444_3); (try rw [show 0 * 4 = 0 from rfl] at hx444_3); (try rw [Addr.add_zero'] at hx444_3); replace hx444_0 := bcell HB.out hx444_0; replace hx444_1 := bcell HB.out hx444_1; replace hx444_2 := bcell HB.out hx444_2; replace hx444_3 := bcell HB.out hx444_3; have HR444_3 := Aside0.mk hi444_3; have HC444_3 := Aside0.mk hl444_3; clear hi444_3 hl444_3; replace p444 := eq_true p444; replace q444 := eq_true q444) | (go_at_call 24; (with_reducible refine (ih k (by omega) a0 _ _ l1 _ _ l2 ((rd_T28 l3_3 0).f0) ((rd_T28 l3_3 0).f1) ((rd_T28 l3_3 0).f2) _ _ ((rd_T28 l3_3 0).f3) t445 _ ?side1 ?side2 ?side3 ?side4 ?side5 ?side6 A36.out).mono ?_); (case side1 => exact cb HR1 HB); (case side2 => exact HC1.out); (case side3 => exact cb HR2 HB); (case side4 => exact HC2.out); (case side5 => exact cb HR444_3 HB); (case side6 => exact HC444_3.out); rintro e w59 ⟨rfl, hb⟩; replace BK432 := kb BK432 hb; replace HB := sb HB hb; (try clear hb); obtain ⟨hcz60_0, hcz60_1, hcz60_2, hcz60_3, hfz60_0, hfz60_1, hfz60_2, hfz60_3⟩ := cf4 BK432.out; have p446 : 0 ≤ (1 : Int) := (by omega); have q446 : 1 < (l3_3.length : Int) := od; obtain ⟨ad446, A446_3, c446_3, e446, hx446_0, hx446_1, hx446_2, hx446_3, hl446_3, hi446_3⟩ := at_T28 HR3_3.out 1 p446 q446; obtain rfl : ad444 = ad446 := (by injection e446); (try simp only [show (1 : Int).toNat = 1 from rfl, Nat.reduceMul, Nat.reduceEqDiff, Go.Addr.add, ↓reduceIte] at hx446_0); (try simp only [show (1 : Int).toNat = 1 from rfl, Nat.reduceMul, Nat.reduceEqDiff, Go.Addr.add, ↓reduceIte] at hx446_1); (try simp only [show (1 : Int).toNat = 1 from rfl, Nat.reduceMul, Nat.reduceEqDiff, Go.Addr.add, ↓reduceIte] at hx446_2); (try simp only [show (1 : Int).toNat = 1 from rfl, Nat.reduceMul, Nat.reduceEqDiff, Go.Addr.add, ↓reduceIte] at hx446_3); have qi446 : (1 < l3_3.length) = True := eq_true (by omega); (try rw [show ((1 : Int)).toNat = 1 from rfl] at hx446_0); (try rw [show 1 * 4 = 4 from rfl] at hx446_0); (try rw [show ((1 : Int)).toNat = 1 from rfl] at hx446_1); (try rw [show 1 * 4 = 4 from rfl] at hx446_1); (try rw [show ((1 : Int)).toNat = 1 from rfl] at hx446_2); (try rw [show 1 * 4 = 4 from rfl] at hx446_2); (try rw [show ((1 : Int)).toNat = 1 from rfl] at hx446_3); (try rw [show 1 * 4 = 4 from rfl] at hx446_3); replace hx446_0 := bcell HB.out hx446_0; replace hx446_1 := bcell HB.out hx446_1; replace hx446_2 := bcell HB.out hx446_2; replace hx446_3 := bcell HB.out hx446_3; have HR446_3 := Aside0.mk hi446_3; have HC446_3 := Aside0.mk hl446_3; clear hi446_3 hl446_3; replace p446 := eq_true p446; replace q446 := eq_true q446) | (go_at_call 24; (with_reducible refine (ih k (by omega) a0 _ _ l1 _ _ l2 ((rd_T28 l3_3 1).f0) ((rd_T28 l3_3 1).f1) ((rd_T28 l3_3 1).f2) _ _ ((rd_T28 l3_3 1).f3) t447 _ ?side1 ?side2 ?side3 ?side4 ?side5 ?side6 A38.out).mono ?_); (case side1 => exact cb HR1 HB); (case side2 => exact HC1.out); (case side3 => exact cb HR2 HB); (case side4 => exact HC2.out); (case side5 => exact cb HR446_3 HB); (case side6 => exact HC446_3.out); rintro e w61 ⟨rfl, hb⟩; replace BK432 := kb BK432 hb; replace HB := sb HB hb; (try clear hb); obtain ⟨hcz62_0, hcz62_1, hcz62_2, hcz62_3, hfz62_0, hfz62_1, hfz62_2, hfz62_3⟩ := cf4 BK432.out) | (go_at_call 62; (with_reducible refine (r1_Do.calls k a3_0 a0 t445 t447 t450 _ A56.out).mono ?_); rintro e w63 ⟨rfl, hb⟩; replace BK432 := kb BK432 hb; replace HB := sb HB hb; (try clear hb))); try go_wp2_with (first | ((with_reducible refine gate_dst (N := 7) rfl ?_); refine bx 7 rfl rfl #[.int .i64 a3_0, .int .i64 a3_1, .int .i64 a3_2, .slice A3_3 l3_3.length c3_3] 28 ?_; intro gb432 hg w57 hbox hb; have BK432 := Aside0.mk (hbox); have GE432 := ge HB hg; replace HB := sb HB hb; clear hb hbox hg; obtain ⟨hcz58_0, hcz58_1, hcz58_2, hcz58_3, hfz58_0, hfz58_1, hfz58_2, hfz58_3⟩ := cf4 BK432.out; have p444 : 0 ≤ (0 : Int) := (by omega); have q444 : 0 < (l3_3.length : Int) := od; obtain ⟨ad444, A444_3, c444_3, e444, hx444_0, hx444_1, hx444_2, hx444_3, hl444_3, hi444_3⟩ := at_T28 HR3_3.out 0 p444 q444; cases e444; have qi444 : (0 < l3_3.length) = True := eq_true (by omega); (try rw [show ((0 : Int)).toNat = 0 from rfl] at hx444_0); (try rw [show 0 * 4 = 0 from rfl] at hx444_0); (try rw [Addr.add_zero'] at hx444_0); (try rw [show ((0 : Int)).toNat = 0 from rfl] at hx444_1); (try rw [show 0 * 4 = 0 from rfl] at hx444_1); (try rw [Addr.add_zero'] at hx444_1); (try rw [show ((0 : Int)).toNat = 0 from rfl] at hx444_2); (try rw [show 0 * 4 = 0 from rfl] at hx444_2); (try rw [Addr.add_zero'] at hx444_2); (try rw [show ((0 : Int)).toNat = 0 from rfl] at hx444_3); (try rw [show 0 * 4 = 0 from rfl] at hx444_3); (try rw [Addr.add_zero'] at hx444_3); replace hx444_0 := bcell HB.out hx444_0; replace hx444_1 := bcell HB.out hx444_1; replace hx444_2 := bcell HB.out hx444_2; replace hx444_3 := bcell HB.out hx444_3; have HR444_3 := Aside0.mk hi444_3; have HC444_3 := Aside0.mk hl444_3; clear hi444_3 hl444_3; replace p444 := eq_true p444; replace q444 := eq_true q444) | (go_at_call 24; (with_reducible refine (ih k (by omega) a0 _ _ l1 _ _ l2 ((rd_T28 l3_3 0).f0) ((rd_T28 l3_3 0).f1) ((rd_T28 l3_3 0).f2) _ _ ((rd_T28 l3_3 0).f3) t445 _ ?side1 ?side2 ?side3 ?side4 ?side5 ?side6 A36.out).mono ?_); (case side1 => exact cb HR1 HB); (case side2 => exact HC1.out); (case side3 => exact cb HR2 HB); (case side4 => exact HC2.out); (case side5 => exact cb HR444_3 HB); (case side6 => exact HC444_3.out); rintro e w59 ⟨rfl, hb⟩; replace BK432 := kb BK432 hb; replace HB := sb HB hb; (try clear hb); obtain ⟨hcz60_0, hcz60_1, hcz60_2, hcz60_3, hfz60_0, hfz60_1, hfz60_2, hfz60_3⟩ := cf4 BK432.out; have p446 : 0 ≤ (1 : Int) := (by omega); have q446 : 1 < (l3_3.length : Int) := od; obtain ⟨ad446, A446_3, c446_3, e446, hx446_0, hx446_1, hx446_2, hx446_3, hl446_3, hi446_3⟩ := at_T28 HR3_3.out 1 p446 q446; obtain rfl : ad444 = ad446 := (by injection e446); (try simp only [show (1 : Int).toNat = 1 from rfl, Nat.reduceMul, Nat.reduceEqDiff, Go.Addr.add, ↓reduceIte] at hx446_0); (try simp only [show (1 : Int).toNat = 1 from rfl, Nat.reduceMul, Nat.reduceEqDiff, Go.Addr.add, ↓reduceIte] at hx446_1); (try simp only [show (1 : Int).toNat = 1 from rfl, Nat.reduceMul, Nat.reduceEqDiff, Go.Addr.add, ↓reduceIte] at hx446_2); (try simp only [show (1 : Int).toNat = 1 from rfl, Nat.reduceMul, Nat.reduceEqDiff, Go.Addr.add, ↓reduceIte] at hx446_3); have qi446 : (1 < l3_3.length) = True := eq_true (by omega); (try rw [show ((1 : Int)).toNat = 1 from rfl] at hx446_0); (try rw [show 1 * 4 = 4 from rfl] at hx446_0); (try rw [show ((1 : Int)).toNat = 1 from rfl] at hx446_1); (try rw [show 1 * 4 = 4 from rfl] at hx446_1); (try rw [show ((1 : Int)).toNat = 1 from rfl] at hx446_2); (try rw [show 1 * 4 = 4 from rfl] at hx446_2); (try rw [show ((1 : Int)).toNat = 1 from rfl] at hx446_3); (try rw [show 1 * 4 = 4 from rfl] at hx446_3); replace hx446_0 := bcell HB.out hx446_0; replace hx446_1 := bcell HB.out hx446_1; replace hx446_2 := bcell HB.out hx446_2; replace hx446_3 := bcell HB.out hx446_3; have HR446_3 := Aside0.mk hi446_3; have HC446_3 := Aside0.mk hl446_3; clear hi446_3 hl446_3; replace p446 := eq_true p446; replace q446 := eq_true q446) | (go_at_call 24; (with_reducible refine (ih k (by omega) a0 _ _ l1 _ _ l2 ((rd_T28 l3_3 1).f0) ((rd_T28 l3_3 1).f1) ((rd_T28 l3_3 1).f2) _ _ ((rd_T28 l3_3 1).f3) t447 _ ?side1 ?side2 ?side3 ?side4 ?side5 ?side6 A38.out).mono ?_); (case side1 => exact cb HR1 HB); (case side2 => exact HC1.out); (case side3 => exact cb HR2 HB); (case side4 => exact HC2.out); (case side5 => exact cb HR446_3 HB); (case side6 => exact HC446_3.out); rintro e w61 ⟨rfl, hb⟩; replace BK432 := kb BK432 hb; replace HB := sb HB hb; (try clear hb); obtain ⟨hcz62_0, hcz62_1, hcz62_2, hcz62_3, hfz62_0, hfz62_1, hfz62_2, hfz62_3⟩ := cf4 BK432.out) | (go_at_call 62; (with_reducible refine (r1_Do.calls k a3_0 a0 t445 t447 t450 _ A56.out).mono ?_); rintro e w63 ⟨rfl, hb⟩; replace BK432 := kb BK432 hb; replace HB := sb HB hb; (try clear hb))))
  go_ret
  exact ⟨rr, bb HB⟩
 rw [if_pos c39] at H
 have c39b0 : (a3_0 == 15) = true := beq_iff_eq.mpr c39
 have c39b1 : (a3_0 != 15) = false := bne_eq_false_iff_eq.mpr c39
 clear c39
 by_cases c40 : t445 = 0
 rotate_left
 ·rw [if_neg c40] at H
  have c40b0 : (t445 == 0) = false := beq_eq_false_iff_ne.mpr c40
  have c40b1 : (t445 != 0) = true := bne_iff_ne.mpr c40
  obtain rfl := Option.some.inj H
  go_enter Try.func24, Try.ntmps24
  go_wp2_with (first | ((with_reducible refine gate_dst (N := 7) rfl ?_); refine bx 7 rfl rfl #[.int .i64 a3_0, .int .i64 a3_1, .int .i64 a3_2, .slice A3_3 l3_3.length c3_3] 28 ?_; intro gb432 hg w50 hbox hb; have BK432 := Aside0.mk (hbox); have GE432 := ge HB hg; replace HB := sb HB hb; clear hb hbox hg; obtain ⟨hcz51_0, hcz51_1, hcz51_2, hcz51_3, hfz51_0, hfz51_1, hfz51_2, hfz51_3⟩ := cf4 BK432.out; have p444 : 0 ≤ (0 : Int) := (by omega); have q444 : 0 < (l3_3.length : Int) := od; obtain ⟨ad444, A444_3, c444_3, e444, hx444_0, hx444_1, hx444_2, hx444_3, hl444_3, hi444_3⟩ := at_T28 HR3_3.out 0 p444 q444; cases e444; have qi444 : (0 < l3_3.length) = True := eq_true (by omega); (try rw [show ((0 : Int)).toNat = 0 from rfl] at hx444_0); (try rw [show 0 * 4 = 0 from rfl] at hx444_0); (try rw [Addr.add_zero'] at hx444_0); (try rw [show ((0 : Int)).toNat = 0 from rfl] at hx444_1); (try rw [show 0 * 4 = 0 from rfl] at hx444_1); (try rw [Addr.add_zero'] at hx444_1); (try rw [show ((0 : Int)).toNat = 0 from rfl] at hx444_2); (try rw [show 0 * 4 = 0 from rfl] at hx444_2); (try rw [Addr.add_zero'] at hx444_2); (try rw [show ((0 : Int)).toNat = 0 from rfl] at hx444_3); (try rw [show 0 * 4 = 0 from rfl] at hx444_3); (try rw [Addr.add_zero'] at hx444_3); replace hx444_0 := bcell HB.out hx444_0; replace hx444_1 := bcell HB.out hx444_1; replace hx444_2 := bcell HB.out hx444_2; replace hx444_3 := bcell HB.out hx444_3; have HR444_3 := Aside0.mk hi444_3; have HC444_3 := Aside0.mk hl444_3; clear hi444_3 hl444_3; replace p444 := eq_true p444; replace q444 := eq_true q444) | (go_at_call 24; (with_reducible refine (ih k (by omega) a0 _ _ l1 _ _ l2 ((rd_T28 l3_3 0).f0) ((rd_T28 l3_3 0).f1) ((rd_T28 l3_3 0).f2) _ _ ((rd_T28 l3_3 0).f3) t445 _ ?side1 ?side2 ?side3 ?side4 ?side5 ?side6 A36.out).mono ?_); (case side1 => exact cb HR1 HB); (case side2 => exact HC1.out); (case side3 => exact cb HR2 HB); (case side4 => exact HC2.out); (case side5 => exact cb HR444_3 HB); (case side6 => exact HC444_3.out); rintro e w52 ⟨rfl, hb⟩; replace BK432 := kb BK432 hb; replace HB := sb HB hb; (try clear hb); obtain ⟨hcz53_0, hcz53_1, hcz53_2, hcz53_3, hfz53_0, hfz53_1, hfz53_2, hfz53_3⟩ := cf4 BK432.out; have p446 : 0 ≤ (1 : Int) := (by omega); have q446 : 1 < (l3_3.length : Int) := od; obtain ⟨ad446, A446_3, c446_3, e446, hx446_0, hx446_1, hx446_2, hx446_3, hl446_3, hi446_3⟩ := at_T28 HR3_3.out 1 p446 q446; obtain rfl : ad444 = ad446 := (by injection e446); (try simp only [show (1 : Int).toNat = 1 from rfl, Nat.reduceMul, Nat.reduceEqDiff, Go.Addr.add, ↓reduceIte] at hx446_0); (try simp only [show (1 : Int).toNat = 1 from rfl, Nat.reduceMul, Nat.reduceEqDiff, Go.Addr.add, ↓reduceIte] at hx446_1); (try simp only [show (1 : Int).toNat = 1 from rfl, Nat.reduceMul, Nat.reduceEqDiff, Go.Addr.add, ↓reduceIte] at hx446_2); (try simp only [show (1 : Int).toNat = 1 from rfl, Nat.reduceMul, Nat.reduceEqDiff, Go.Addr.add, ↓reduceIte] at hx446_3); have qi446 : (1 < l3_3.length) = True := eq_true (by omega); (try rw [show ((1 : Int)).toNat = 1 from rfl] at hx446_0); (try rw [show 1 * 4 = 4 from rfl] at hx446_0); (try rw [show ((1 : Int)).toNat = 1 from rfl] at hx446_1); (try rw [show 1 * 4 = 4 from rfl] at hx446_1); (try rw [show ((1 : Int)).toNat = 1 from rfl] at hx446_2); (try rw [show 1 * 4 = 4 from rfl] at hx446_2); (try rw [show ((1 : Int)).toNat = 1 from rfl] at hx446_3); (try rw [show 1 * 4 = 4 from rfl] at hx446_3); replace hx446_0 := bcell HB.out hx446_0; replace hx446_1 := bcell HB.out hx446_1; replace hx446_2 := bcell HB.out hx446_2; replace hx446_3 := bcell HB.out hx446_3; have HR446_3 := Aside0.mk hi446_3; have HC446_3 := Aside0.mk hl446_3; clear hi446_3 hl446_3; replace p446 := eq_true p446; replace q446 := eq_true q446) | (go_at_call 24; (with_reducible refine (ih k (by omega) a0 _ _ l1 _ _ l2 ((rd_T28 l3_3 1).f0) ((rd_T28 l3_3 1).f1) ((rd_T28 l3_3 1).f2) _ _ ((rd_T28 l3_3 1).f3) t447 _ ?side1 ?side2 ?side3 ?side4 ?side5 ?side6 A38.out).mono ?_); (case side1 => exact cb HR1 HB); (case side2 => exact HC1.out); (case side3 => exact cb HR2 HB); (case side4 => exact HC2.out); (case side5 => exact cb HR446_3 HB); (case side6 => exact HC446_3.out); rintro e w54 ⟨rfl, hb⟩; replace BK432 := kb BK432 hb; replace HB := sb HB hb; (try clear hb); obtain ⟨hcz55_0, hcz55_1, hcz55_2, hcz55_3, hfz55_0, hfz55_1, hfz55_2, hfz55_3⟩ := cf4 BK432.out))
  repeat (go_quiet (first | ((with_reducible refine gate_dst (N := 7) rfl ?_); refine bx 7 rfl rfl #[.int .i64 a3_0, .int .i64 a3_1, .int .i64 a3_2, .slice A3_3 l3_3.length c3_3] 28 ?_; intro gb432 hg w50 hbox hb; have BK432 := Aside0.mk (hbox); have GE432 := ge HB hg; replace HB := sb HB hb; clear hb hbox hg; obtain ⟨hcz51_0, hcz51_1, hcz51_2, hcz51_3, hfz51_0, hfz51_1, hfz51_2, hfz51_3⟩ := cf4 BK432.out; have p444 : 0 ≤ (0 : Int) := (by omega); have q444 : 0 < (l3_3.length : Int) := od; obtain ⟨ad444, A444_3, c444_3, e444, hx444_0, hx444_1, hx444_2, hx444_3, hl444_3, hi444_3⟩ := at_T28 HR3_3.out 0 p444 q444; cases e444; have qi444 : (0 < l3_3.length) = True := eq_true (by omega); (try rw [show ((0 : Int)).toNat = 0 from rfl] at hx444_0); (try rw [show 0 * 4 = 0 from rfl] at hx444_0); (try rw [Addr.add_zero'] at hx444_0); (try rw [show ((0 : Int)).toNat = 0 from rfl] at hx444_1); (try rw [show 0 * 4 = 0 from rfl] at hx444_1); (try rw [Addr.add_zero'] at hx444_1); (try rw [show ((0 : Int)).toNat = 0 from rfl] at hx444_2); (try rw [show 0 * 4 = 0 from rfl] at hx444_2); (try rw [Addr.add_zero'] at hx444_2); (try rw [show ((0 : Int)).toNat = 0 from rfl] at hx444_3); (try rw [show 0 * 4 = 0 from rfl] at hx444_3); (try rw [Addr.add_zero'] at hx444_3); replace hx444_0 := bcell HB.out hx444_0; replace hx444_1 := bcell HB.out hx444_1; replace hx444_2 := bcell HB.out hx444_2; replace hx444_3 := bcell HB.out hx444_3; have HR444_3 := Aside0.mk hi444_3; have HC444_3 := Aside0.mk hl444_3; clear hi444_3 hl444_3; replace p444 := eq_true p444; replace q444 := eq_true q444) | (go_at_call 24; (with_reducible refine (ih k (by omega) a0 _ _ l1 _ _ l2 ((rd_T28 l3_3 0).f0) ((rd_T28 l3_3 0).f1) ((rd_T28 l3_3 0).f2) _ _ ((rd_T28 l3_3 0).f3) t445 _ ?side1 ?side2 ?side3 ?side4 ?side5 ?side6 A36.out).mono ?_); (case side1 => exact cb HR1 HB); (case side2 => exact HC1.out); (case side3 => exact cb HR2 HB); (case side4 => exact HC2.out); (case side5 => exact cb HR444_3 HB); (case side6 => exact HC444_3.out); rintro e w52 ⟨rfl, hb⟩; replace BK432 := kb BK432 hb; replace HB := sb HB hb; (try clear hb); obtain ⟨hcz53_0, hcz53_1, hcz53_2, hcz53_3, hfz53_0, hfz53_1, hfz53_2, hfz53_3⟩ := cf4 BK432.out; have p446 : 0 ≤ (1 : Int) := (by omega); have q446 : 1 < (l3_3.length : Int) := od; obtain ⟨ad446, A446_3, c446_3, e446, hx446_0, hx446_1, hx446_2, hx446_3, hl446_3, hi446_3⟩ := at_T28 HR3_3.out 1 p446 q446; obtain rfl : ad444 = ad446 := (by injection e446); (try simp only [show (1 : Int).toNat = 1 from rfl, Nat.reduceMul, Nat.reduceEqDiff, Go.Addr.add, ↓reduceIte] at hx446_0); (try simp only [show (1 : Int).toNat = 1 from rfl, Nat.reduceMul, Nat.reduceEqDiff, Go.Addr.add, ↓reduceIte] at hx446_1); (try simp only [show (1 : Int).toNat = 1 from rfl, Nat.reduceMul, Nat.reduceEqDiff, Go.Addr.add, ↓reduceIte] at hx446_2); (try simp only [show (1 : Int).toNat = 1 from rfl, Nat.reduceMul, Nat.reduceEqDiff, Go.Addr.add, ↓reduceIte] at hx446_3); have qi446 : (1 < l3_3.length) = True := eq_true (by omega); (try rw [show ((1 : Int)).toNat = 1 from rfl] at hx446_0); (try rw [show 1 * 4 = 4 from rfl] at hx446_0); (try rw [show ((1 : Int)).toNat = 1 from rfl] at hx446_1); (try rw [show 1 * 4 = 4 from rfl] at hx446_1); (try rw [show ((1 : Int)).toNat = 1 from rfl] at hx446_2); (try rw [show 1 * 4 = 4 from rfl] at hx446_2); (try rw [show ((1 : Int)).toNat = 1 from rfl] at hx446_3); (try rw [show 1 * 4 = 4 from rfl] at hx446_3); replace hx446_0 := bcell HB.out hx446_0; replace hx446_1 := bcell HB.out hx446_1; replace hx446_2 := bcell HB.out hx446_2; replace hx446_3 := bcell HB.out hx446_3; have HR446_3 := Aside0.mk hi446_3; have HC446_3 := Aside0.mk hl446_3; clear hi446_3 hl446_3; replace p446 := eq_true p446; replace q446 := eq_true q446) | (go_at_call 24; (with_reducible refine (ih k (by omega) a0 _ _ l1 _ _ l2 ((rd_T28 l3_3 1).f0) ((rd_T28 l3_3 1).f1) ((rd_T28 l3_3 1).f2) _ _ ((rd_T28 l3_3 1).f3) t447 _ ?side1 ?side2 ?side3 ?side4 ?side5 ?side6 A38.out).mono ?_); (case side1 => exact cb HR1 HB); (case side2 => exact HC1.out); (case side3 => exact cb HR2 HB); (case side4 => exact HC2.out); (case side5 => exact cb HR446_3 HB); (case side6 => exact HC446_3.out); rintro e w54 ⟨rfl, hb⟩; replace BK432 := kb BK432 hb; replace HB := sb HB hb; (try clear hb); obtain ⟨hcz55_0, hcz55_1, hcz55_2, hcz55_3, hfz55_0, hfz55_1, hfz55_2, hfz55_3⟩ := cf4 BK432.out)); try go_wp2_with (first | ((with_reducible refine gate_dst (N := 7) rfl ?_); refine bx 7 rfl rfl #[.int .i64 a3_0, .int .i64 a3_1, .int .i64 a3_2, .slice A3_3 l3_3.length c3_3] 28 ?_; intro gb432 hg w50 hbox hb; have BK432 := Aside0.mk (hbox); have GE432 := ge HB hg; replace HB := sb HB hb; clear hb hbox hg; obtain ⟨hcz51_0, hcz51_1, hcz51_2, hcz51_3, hfz51_0, hfz51_1, hfz51_2, hfz51_3⟩ := cf4 BK432.out; have p444 : 0 ≤ (0 : Int) := (by omega); have q444 : 0 < (l3_3.length : Int) := od; obtain ⟨ad444, A444_3, c444_3, e444, hx444_0, hx444_1, hx444_2, hx444_3, hl444_3, hi444_3⟩ := at_T28 HR3_3.out 0 p444 q444; cases e444; have qi444 : (0 < l3_3.length) = True := eq_true (by omega); (try rw [show ((0 : Int)).toNat = 0 from rfl] at hx444_0); (try rw [show 0 * 4 = 0 from rfl] at hx444_0); (try rw [Addr.add_zero'] at hx444_0); (try rw [show ((0 : Int)).toNat = 0 from rfl] at hx444_1); (try rw [show 0 * 4 = 0 from rfl] at hx444_1); (try rw [Addr.add_zero'] at hx444_1); (try rw [show ((0 : Int)).toNat = 0 from rfl] at hx444_2); (try rw [show 0 * 4 = 0 from rfl] at hx444_2); (try rw [Addr.add_zero'] at hx444_2); (try rw [show ((0 : Int)).toNat = 0 from rfl] at hx444_3); (try rw [show 0 * 4 = 0 from rfl] at hx444_3); (try rw [Addr.add_zero'] at hx444_3); replace hx444_0 := bcell HB.out hx444_0; replace hx444_1 := bcell HB.out hx444_1; replace hx444_2 := bcell HB.out hx444_2; replace hx444_3 := bcell HB.out hx444_3; have HR444_3 := Aside0.mk hi444_3; have HC444_3 := Aside0.mk hl444_3; clear hi444_3 hl444_3; replace p444 := eq_true p444; replace q444 := eq_true q444) | (go_at_call 24; (with_reducible refine (ih k (by omega) a0 _ _ l1 _ _ l2 ((rd_T28 l3_3 0).f0) ((rd_T28 l3_3 0).f1) ((rd_T28 l3_3 0).f2) _ _ ((rd_T28 l3_3 0).f3) t445 _ ?side1 ?side2 ?side3 ?side4 ?side5 ?side6 A36.out).mono ?_); (case side1 => exact cb HR1 HB); (case side2 => exact HC1.out); (case side3 => exact cb HR2 HB); (case side4 => exact HC2.out); (case side5 => exact cb HR444_3 HB); (case side6 => exact HC444_3.out); rintro e w52 ⟨rfl, hb⟩; replace BK432 := kb BK432 hb; replace HB := sb HB hb; (try clear hb); obtain ⟨hcz53_0, hcz53_1, hcz53_2, hcz53_3, hfz53_0, hfz53_1, hfz53_2, hfz53_3⟩ := cf4 BK432.out; have p446 : 0 ≤ (1 : Int) := (by omega); have q446 : 1 < (l3_3.length : Int) := od; obtain ⟨ad446, A446_3, c446_3, e446, hx446_0, hx446_1, hx446_2, hx446_3, hl446_3, hi446_3⟩ := at_T28 HR3_3.out 1 p446 q446; obtain rfl : ad444 = ad446 := (by injection e446); (try simp only [show (1 : Int).toNat = 1 from rfl, Nat.reduceMul, Nat.reduceEqDiff, Go.Addr.add, ↓reduceIte] at hx446_0); (try simp only [show (1 : Int).toNat = 1 from rfl, Nat.reduceMul, Nat.reduceEqDiff, Go.Addr.add, ↓reduceIte] at hx446_1); (try simp only [show (1 : Int).toNat = 1 from rfl, Nat.reduceMul, Nat.reduceEqDiff, Go.Addr.add, ↓reduceIte] at hx446_2); (try simp only [show (1 : Int).toNat = 1 from rfl, Nat.reduceMul, Nat.reduceEqDiff, Go.Addr.add, ↓reduceIte] at hx446_3); have qi446 : (1 < l3_3.length) = True := eq_true (by omega); (try rw [show ((1 : Int)).toNat = 1 from rfl] at hx446_0); (try rw [show 1 * 4 = 4 from rfl] at hx446_0); (try rw [show ((1 : Int)).toNat = 1 from rfl] at hx446_1); (try rw [show 1 * 4 = 4 from rfl] at hx446_1); (try rw [show ((1 : Int)).toNat = 1 from rfl] at hx446_2); (try rw [show 1 * 4 = 4 from rfl] at hx446_2); (try rw [show ((1 : Int)).toNat = 1 from rfl] at hx446_3); (try rw [show 1 * 4 = 4 from rfl] at hx446_3); replace hx446_0 := bcell HB.out hx446_0; replace hx446_1 := bcell HB.out hx446_1; replace hx446_2 := bcell HB.out hx446_2; replace hx446_3 := bcell HB.out hx446_3; have HR446_3 := Aside0.mk hi446_3; have HC446_3 := Aside0.mk hl446_3; clear hi446_3 hl446_3; replace p446 := eq_true p446; replace q446 := eq_true q446) | (go_at_call 24; (with_reducible refine (ih k (by omega) a0 _ _ l1 _ _ l2 ((rd_T28 l3_3 1).f0) ((rd_T28 l3_3 1).f1) ((rd_T28 l3_3 1).f2) _ _ ((rd_T28 l3_3 1).f3) t447 _ ?side1 ?side2 ?side3 ?side4 ?side5 ?side6 A38.out).mono ?_); (case side1 => exact cb HR1 HB); (case side2 => exact HC1.out); (case side3 => exact cb HR2 HB); (case side4 => exact HC2.out); (case side5 => exact cb HR446_3 HB); (case side6 => exact HC446_3.out); rintro e w54 ⟨rfl, hb⟩; replace BK432 := kb BK432 hb; replace HB := sb HB hb; (try clear hb); obtain ⟨hcz55_0, hcz55_1, hcz55_2, hcz55_3, hfz55_0, hfz55_1, hfz55_2, hfz55_3⟩ := cf4 BK432.out)))
  go_ret
  exact ⟨rr, bb HB⟩
 rw [if_pos c40] at H
 have c40b0 : (t445 == 0) = true := beq_iff_eq.mpr c40
 have c40b1 : (t445 != 0) = false := bne_eq_false_iff_eq.mpr c40
 clear c40
 by_cases c41 : 2 < (l3_3.length : Int)
 rotate_left
 ·rw [if_neg c41] at H
  exact absurd H (by simp)
 rw [if_pos c41] at H
 have c41b0 : decide (2 < (l3_3.length : Int)) = true := decide_eq_true c41
 have c41b1 : decide (2 < l3_3.length) = true := decide_eq_true (by omega)
 clear c41
 obtain ⟨t449, A42, H⟩ := be H
 obtain rfl := Option.some.inj H
 go_enter Try.func24, Try.ntmps24
 go_wp2_with (first | ((with_reducible refine gate_dst (N := 7) rfl ?_); refine bx 7 rfl rfl #[.int .i64 a3_0, .int .i64 a3_1, .int .i64 a3_2, .slice A3_3 l3_3.length c3_3] 28 ?_; intro gb432 hg w43 hbox hb; have BK432 := Aside0.mk (hbox); have GE432 := ge HB hg; replace HB := sb HB hb; clear hb hbox hg; obtain ⟨hcz44_0, hcz44_1, hcz44_2, hcz44_3, hfz44_0, hfz44_1, hfz44_2, hfz44_3⟩ := cf4 BK432.out; have p444 : 0 ≤ (0 : Int) := (by omega); have q444 : 0 < (l3_3.length : Int) := od; obtain ⟨ad444, A444_3, c444_3, e444, hx444_0, hx444_1, hx444_2, hx444_3, hl444_3, hi444_3⟩ := at_T28 HR3_3.out 0 p444 q444; cases e444; have qi444 : (0 < l3_3.length) = True := eq_true (by omega); (try rw [show ((0 : Int)).toNat = 0 from rfl] at hx444_0); (try rw [show 0 * 4 = 0 from rfl] at hx444_0); (try rw [Addr.add_zero'] at hx444_0); (try rw [show ((0 : Int)).toNat = 0 from rfl] at hx444_1); (try rw [show 0 * 4 = 0 from rfl] at hx444_1); (try rw [Addr.add_zero'] at hx444_1); (try rw [show ((0 : Int)).toNat = 0 from rfl] at hx444_2); (try rw [show 0 * 4 = 0 from rfl] at hx444_2); (try rw [Addr.add_zero'] at hx444_2); (try rw [show ((0 : Int)).toNat = 0 from rfl] at hx444_3); (try rw [show 0 * 4 = 0 from rfl] at hx444_3); (try rw [Addr.add_zero'] at hx444_3); replace hx444_0 := bcell HB.out hx444_0; replace hx444_1 := bcell HB.out hx444_1; replace hx444_2 := bcell HB.out hx444_2; replace hx444_3 := bcell HB.out hx444_3; have HR444_3 := Aside0.mk hi444_3; have HC444_3 := Aside0.mk hl444_3; clear hi444_3 hl444_3; replace p444 := eq_true p444; replace q444 := eq_true q444) | (go_at_call 24; (with_reducible refine (ih k (by omega) a0 _ _ l1 _ _ l2 ((rd_T28 l3_3 0).f0) ((rd_T28 l3_3 0).f1) ((rd_T28 l3_3 0).f2) _ _ ((rd_T28 l3_3 0).f3) t445 _ ?side1 ?side2 ?side3 ?side4 ?side5 ?side6 A36.out).mono ?_); (case side1 => exact cb HR1 HB); (case side2 => exact HC1.out); (case side3 => exact cb HR2 HB); (case side4 => exact HC2.out); (case side5 => exact cb HR444_3 HB); (case side6 => exact HC444_3.out); rintro e w45 ⟨rfl, hb⟩; replace BK432 := kb BK432 hb; replace HB := sb HB hb; (try clear hb); obtain ⟨hcz46_0, hcz46_1, hcz46_2, hcz46_3, hfz46_0, hfz46_1, hfz46_2, hfz46_3⟩ := cf4 BK432.out; have p446 : 0 ≤ (1 : Int) := (by omega); have q446 : 1 < (l3_3.length : Int) := od; obtain ⟨ad446, A446_3, c446_3, e446, hx446_0, hx446_1, hx446_2, hx446_3, hl446_3, hi446_3⟩ := at_T28 HR3_3.out 1 p446 q446; obtain rfl : ad444 = ad446 := (by injection e446); (try simp only [show (1 : Int).toNat = 1 from rfl, Nat.reduceMul, Nat.reduceEqDiff, Go.Addr.add, ↓reduceIte] at hx446_0); (try simp only [show (1 : Int).toNat = 1 from rfl, Nat.reduceMul, Nat.reduceEqDiff, Go.Addr.add, ↓reduceIte] at hx446_1); (try simp only [show (1 : Int).toNat = 1 from rfl, Nat.reduceMul, Nat.reduceEqDiff, Go.Addr.add, ↓reduceIte] at hx446_2); (try simp only [show (1 : Int).toNat = 1 from rfl, Nat.reduceMul, Nat.reduceEqDiff, Go.Addr.add, ↓reduceIte] at hx446_3); have qi446 : (1 < l3_3.length) = True := eq_true (by omega); (try rw [show ((1 : Int)).toNat = 1 from rfl] at hx446_0); (try rw [show 1 * 4 = 4 from rfl] at hx446_0); (try rw [show ((1 : Int)).toNat = 1 from rfl] at hx446_1); (try rw [show 1 * 4 = 4 from rfl] at hx446_1); (try rw [show ((1 : Int)).toNat = 1 from rfl] at hx446_2); (try rw [show 1 * 4 = 4 from rfl] at hx446_2); (try rw [show ((1 : Int)).toNat = 1 from rfl] at hx446_3); (try rw [show 1 * 4 = 4 from rfl] at hx446_3); replace hx446_0 := bcell HB.out hx446_0; replace hx446_1 := bcell HB.out hx446_1; replace hx446_2 := bcell HB.out hx446_2; replace hx446_3 := bcell HB.out hx446_3; have HR446_3 := Aside0.mk hi446_3; have HC446_3 := Aside0.mk hl446_3; clear hi446_3 hl446_3; replace p446 := eq_true p446; replace q446 := eq_true q446) | (go_at_call 24; (with_reducible refine (ih k (by omega) a0 _ _ l1 _ _ l2 ((rd_T28 l3_3 1).f0) ((rd_T28 l3_3 1).f1) ((rd_T28 l3_3 1).f2) _ _ ((rd_T28 l3_3 1).f3) t447 _ ?side1 ?side2 ?side3 ?side4 ?side5 ?side6 A38.out).mono ?_); (case side1 => exact cb HR1 HB); (case side2 => exact HC1.out); (case side3 => exact cb HR2 HB); (case side4 => exact HC2.out); (case side5 => exact cb HR446_3 HB); (case side6 => exact HC446_3.out); rintro e w47 ⟨rfl, hb⟩; replace BK432 := kb BK432 hb; replace HB := sb HB hb; (try clear hb); obtain ⟨hcz48_0, hcz48_1, hcz48_2, hcz48_3, hfz48_0, hfz48_1, hfz48_2, hfz48_3⟩ := cf4 BK432.out; have p448 : 0 ≤ (2 : Int) := (by omega); have q448 : 2 < (l3_3.length : Int) := od; obtain ⟨ad448, A448_3, c448_3, e448, hx448_0, hx448_1, hx448_2, hx448_3, hl448_3, hi448_3⟩ := at_T28 HR3_3.out 2 p448 q448; obtain rfl : ad444 = ad448 := (by injection e448); (try simp only [show (2 : Int).toNat = 2 from rfl, Nat.reduceMul, Nat.reduceEqDiff, Go.Addr.add, ↓reduceIte] at hx448_0); (try simp only [show (2 : Int).toNat = 2 from rfl, Nat.reduceMul, Nat.reduceEqDiff, Go.Addr.add, ↓reduceIte] at hx448_1); (try simp only [show (2 : Int).toNat = 2 from rfl, Nat.reduceMul, Nat.reduceEqDiff, Go.Addr.add, ↓reduceIte] at hx448_2); (try simp only [show (2 : Int).toNat = 2 from rfl, Nat.reduceMul, Nat.reduceEqDiff, Go.Addr.add, ↓reduceIte] at hx448_3); have qi448 : (2 < l3_3.length) = True := eq_true (by omega); (try rw [show ((2 : Int)).toNat = 2 from rfl] at hx448_0); (try rw [show 2 * 4 = 8 from rfl] at hx448_0); (try rw [show ((2 : Int)).toNat = 2 from rfl] at hx448_1); (try rw [show 2 * 4 = 8 from rfl] at hx448_1); (try rw [show ((2 : Int)).toNat = 2 from rfl] at hx448_2); (try rw [show 2 * 4 = 8 from rfl] at hx448_2); (try rw [show ((2 : Int)).toNat = 2 from rfl] at hx448_3); (try rw [show 2 * 4 = 8 from rfl] at hx448_3); replace hx448_0 := bcell HB.out hx448_0; replace hx448_1 := bcell HB.out hx448_1; replace hx448_2 := bcell HB.out hx448_2; replace hx448_3 := bcell HB.out hx448_3; have HR448_3 := Aside0.mk hi448_3; have HC448_3 := Aside0.mk hl448_3; clear hi448_3 hl448_3; replace p448 := eq_true p448; replace q448 := eq_true q448) | (go_at_call 24; (with_reducible refine (ih k (by omega) a0 _ _ l1 _ _ l2 ((rd_T28 l3_3 2).f0) ((rd_T28 l3_3 2).f1) ((rd_T28 l3_3 2).f2) _ _ ((rd_T28 l3_3 2).f3) t449 _ ?side1 ?side2 ?side3 ?side4 ?side5 ?side6 A42.out).mono ?_); (case side1 => exact cb HR1 HB); (case side2 => exact HC1.out); (case side3 => exact cb HR2 HB); (case side4 => exact HC2.out); (case side5 => exact cb HR448_3 HB); (case side6 => exact HC448_3.out); rintro e w49 ⟨rfl, hb⟩; replace BK432 := kb BK432 hb; replace HB := sb HB hb; (try clear hb)))
 repeat (go_quiet (first | ((with_reducible refine gate_dst (N := 7) rfl ?_); refine bx 7 rfl rfl #[.int .i64 a3_0, .int .i64 a3_1, .int .i64 a3_2, .slice A3_3 l3_3.length c3_3] 28 ?_; intro gb432 hg w43 hbox hb; have BK432 := Aside0.mk (hbox); have GE432 := ge HB hg; replace HB := sb HB hb; clear hb hbox hg; obtain ⟨hcz44_0, hcz44_1, hcz44_2, hcz44_3, hfz44_0, hfz44_1, hfz44_2, hfz44_3⟩ := cf4 BK432.out; have p444 : 0 ≤ (0 : Int) := (by omega); have q444 : 0 < (l3_3.length : Int) := od; obtain ⟨ad444, A444_3, c444_3, e444, hx444_0, hx444_1, hx444_2, hx444_3, hl444_3, hi444_3⟩ := at_T28 HR3_3.out 0 p444 q444; cases e444; have qi444 : (0 < l3_3.length) = True := eq_true (by omega); (try rw [show ((0 : Int)).toNat = 0 from rfl] at hx444_0); (try rw [show 0 * 4 = 0 from rfl] at hx444_0); (try rw [Addr.add_zero'] at hx444_0); (try rw [show ((0 : Int)).toNat = 0 from rfl] at hx444_1); (try rw [show 0 * 4 = 0 from rfl] at hx444_1); (try rw [Addr.add_zero'] at hx444_1); (try rw [show ((0 : Int)).toNat = 0 from rfl] at hx444_2); (try rw [show 0 * 4 = 0 from rfl] at hx444_2); (try rw [Addr.add_zero'] at hx444_2); (try rw [show ((0 : Int)).toNat = 0 from rfl] at hx444_3); (try rw [show 0 * 4 = 0 from rfl] at hx444_3); (try rw [Addr.add_zero'] at hx444_3); replace hx444_0 := bcell HB.out hx444_0; replace hx444_1 := bcell HB.out hx444_1; replace hx444_2 := bcell HB.out hx444_2; replace hx444_3 := bcell HB.out hx444_3; have HR444_3 := Aside0.mk hi444_3; have HC444_3 := Aside0.mk hl444_3; clear hi444_3 hl444_3; replace p444 := eq_true p444; replace q444 := eq_true q444) | (go_at_call 24; (with_reducible refine (ih k (by omega) a0 _ _ l1 _ _ l2 ((rd_T28 l3_3 0).f0) ((rd_T28 l3_3 0).f1) ((rd_T28 l3_3 0).f2) _ _ ((rd_T28 l3_3 0).f3) t445 _ ?side1 ?side2 ?side3 ?side4 ?side5 ?side6 A36.out).mono ?_); (case side1 => exact cb HR1 HB); (case side2 => exact HC1.out); (case side3 => exact cb HR2 HB); (case side4 => exact HC2.out); (case side5 => exact cb HR444_3 HB); (case side6 => exact HC444_3.out); rintro e w45 ⟨rfl, hb⟩; replace BK432 := kb BK432 hb; replace HB := sb HB hb; (try clear hb); obtain ⟨hcz46_0, hcz46_1, hcz46_2, hcz46_3, hfz46_0, hfz46_1, hfz46_2, hfz46_3⟩ := cf4 BK432.out; have p446 : 0 ≤ (1 : Int) := (by omega); have q446 : 1 < (l3_3.length : Int) := od; obtain ⟨ad446, A446_3, c446_3, e446, hx446_0, hx446_1, hx446_2, hx446_3, hl446_3, hi446_3⟩ := at_T28 HR3_3.out 1 p446 q446; obtain rfl : ad444 = ad446 := (by injection e446); (try simp only [show (1 : Int).toNat = 1 from rfl, Nat.reduceMul, Nat.reduceEqDiff, Go.Addr.add, ↓reduceIte] at hx446_0); (try simp only [show (1 : Int).toNat = 1 from rfl, Nat.reduceMul, Nat.reduceEqDiff, Go.Addr.add, ↓reduceIte] at hx446_1); (try simp only [show (1 : Int).toNat = 1 from rfl, Nat.reduceMul, Nat.reduceEqDiff, Go.Addr.add, ↓reduceIte] at hx446_2); (try simp only [show (1 : Int).toNat = 1 from rfl, Nat.reduceMul, Nat.reduceEqDiff, Go.Addr.add, ↓reduceIte] at hx446_3); have qi446 : (1 < l3_3.length) = True := eq_true (by omega); (try rw [show ((1 : Int)).toNat = 1 from rfl] at hx446_0); (try rw [show 1 * 4 = 4 from rfl] at hx446_0); (try rw [show ((1 : Int)).toNat = 1 from rfl] at hx446_1); (try rw [show 1 * 4 = 4 from rfl] at hx446_1); (try rw [show ((1 : Int)).toNat = 1 from rfl] at hx446_2); (try rw [show 1 * 4 = 4 from rfl] at hx446_2); (try rw [show ((1 : Int)).toNat = 1 from rfl] at hx446_3); (try rw [show 1 * 4 = 4 from rfl] at hx446_3); replace hx446_0 := bcell HB.out hx446_0; replace hx446_1 := bcell HB.out hx446_1; replace hx446_2 := bcell HB.out hx446_2; replace hx446_3 := bcell HB.out hx446_3; have HR446_3 := Aside0.mk hi446_3; have HC446_3 := Aside0.mk hl446_3; clear hi446_3 hl446_3; replace p446 := eq_true p446; replace q446 := eq_true q446) | (go_at_call 24; (with_reducible refine (ih k (by omega) a0 _ _ l1 _ _ l2 ((rd_T28 l3_3 1).f0) ((rd_T28 l3_3 1).f1) ((rd_T28 l3_3 1).f2) _ _ ((rd_T28 l3_3 1).f3) t447 _ ?side1 ?side2 ?side3 ?side4 ?side5 ?side6 A38.out).mono ?_); (case side1 => exact cb HR1 HB); (case side2 => exact HC1.out); (case side3 => exact cb HR2 HB); (case side4 => exact HC2.out); (case side5 => exact cb HR446_3 HB); (case side6 => exact HC446_3.out); rintro e w47 ⟨rfl, hb⟩; replace BK432 := kb BK432 hb; replace HB := sb HB hb; (try clear hb); obtain ⟨hcz48_0, hcz48_1, hcz48_2, hcz48_3, hfz48_0, hfz48_1, hfz48_2, hfz48_3⟩ := cf4 BK432.out; have p448 : 0 ≤ (2 : Int) := (by omega); have q448 : 2 < (l3_3.length : Int) := od; obtain ⟨ad448, A448_3, c448_3, e448, hx448_0, hx448_1, hx448_2, hx448_3, hl448_3, hi448_3⟩ := at_T28 HR3_3.out 2 p448 q448; obtain rfl : ad444 = ad448 := (by injection e448); (try simp only [show (2 : Int).toNat = 2 from rfl, Nat.reduceMul, Nat.reduceEqDiff, Go.Addr.add, ↓reduceIte] at hx448_0); (try simp only [show (2 : Int).toNat = 2 from rfl, Nat.reduceMul, Nat.reduceEqDiff, Go.Addr.add, ↓reduceIte] at hx448_1); (try simp only [show (2 : Int).toNat = 2 from rfl, Nat.reduceMul, Nat.reduceEqDiff, Go.Addr.add, ↓reduceIte] at hx448_2); (try simp only [show (2 : Int).toNat = 2 from rfl, Nat.reduceMul, Nat.reduceEqDiff, Go.Addr.add, ↓reduceIte] at hx448_3); have qi448 : (2 < l3_3.length) = True := eq_true (by omega); (try rw [show ((2 : Int)).toNat = 2 from rfl] at hx448_0); (try rw [show 2 * 4 = 8 from rfl] at hx448_0); (try rw [show ((2 : Int)).toNat = 2 from rfl] at hx448_1); (try rw [show 2 * 4 = 8 from rfl] at hx448_1); (try rw [show ((2 : Int)).toNat = 2 from rfl] at hx448_2); (try rw [show 2 * 4 = 8 from rfl] at hx448_2); (try rw [show ((2 : Int)).toNat = 2 from rfl] at hx448_3); (try rw [show 2 * 4 = 8 from rfl] at hx448_3); replace hx448_0 := bcell HB.out hx448_0; replace hx448_1 := bcell HB.out hx448_1; replace hx448_2 := bcell HB.out hx448_2; replace hx448_3 := bcell HB.out hx448_3; have HR448_3 := Aside0.mk hi448_3; have HC448_3 := Aside0.mk hl448_3; clear hi448_3 hl448_3; replace p448 := eq_true p448; replace q448 := eq_true q448) | (go_at_call 24; (with_reducible refine (ih k (by omega) a0 _ _ l1 _ _ l2 ((rd_T28 l3_3 2).f0) ((rd_T28 l3_3 2).f1) ((rd_T28 l3_3 2).f2) _ _ ((rd_T28 l3_3 2).f3) t449 _ ?side1 ?side2 ?side3 ?side4 ?side5 ?side6 A42.out).mono ?_); (case side1 => exact cb HR1 HB); (case side2 => exact HC1.out); (case side3 => exact cb HR2 HB); (case side4 => exact HC2.out); (case side5 => exact cb HR448_3 HB); (case side6 => exact HC448_3.out); rintro e w49 ⟨rfl, hb⟩; replace BK432 := kb BK432 hb; replace HB := sb HB hb; (try clear hb))); try go_wp2_with (first | ((with_reducible refine gate_dst (N := 7) rfl ?_); refine bx 7 rfl rfl #[.int .i64 a3_0, .int .i64 a3_1, .int .i64 a3_2, .slice A3_3 l3_3.length c3_3] 28 ?_; intro gb432 hg w43 hbox hb; have BK432 := Aside0.mk (hbox); have GE432 := ge HB hg; replace HB := sb HB hb; clear hb hbox hg; obtain ⟨hcz44_0, hcz44_1, hcz44_2, hcz44_3, hfz44_0, hfz44_1, hfz44_2, hfz44_3⟩ := cf4 BK432.out; have p444 : 0 ≤ (0 : Int) := (by omega); have q444 : 0 < (l3_3.length : Int) := od; obtain ⟨ad444, A444_3, c444_3, e444, hx444_0, hx444_1, hx444_2, hx444_3, hl444_3, hi444_3⟩ := at_T28 HR3_3.out 0 p444 q444; cases e444; have qi444 : (0 < l3_3.length) = True := eq_true (by omega); (try rw [show ((0 : Int)).toNat = 0 from rfl] at hx444_0); (try rw [show 0 * 4 = 0 from rfl] at hx444_0); (try rw [Addr.add_zero'] at hx444_0); (try rw [show ((0 : Int)).toNat = 0 from rfl] at hx444_1); (try rw [show 0 * 4 = 0 from rfl] at hx444_1); (try rw [Addr.add_zero'] at hx444_1); (try rw [show ((0 : Int)).toNat = 0 from rfl] at hx444_2); (try rw [show 0 * 4 = 0 from rfl] at hx444_2); (try rw [Addr.add_zero'] at hx444_2); (try rw [show ((0 : Int)).toNat = 0 from rfl] at hx444_3); (try rw [show 0 * 4 = 0 from rfl] at hx444_3); (try rw [Addr.add_zero'] at hx444_3); replace hx444_0 := bcell HB.out hx444_0; replace hx444_1 := bcell HB.out hx444_1; replace hx444_2 := bcell HB.out hx444_2; replace hx444_3 := bcell HB.out hx444_3; have HR444_3 := Aside0.mk hi444_3; have HC444_3 := Aside0.mk hl444_3; clear hi444_3 hl444_3; replace p444 := eq_true p444; replace q444 := eq_true q444) | (go_at_call 24; (with_reducible refine (ih k (by omega) a0 _ _ l1 _ _ l2 ((rd_T28 l3_3 0).f0) ((rd_T28 l3_3 0).f1) ((rd_T28 l3_3 0).f2) _ _ ((rd_T28 l3_3 0).f3) t445 _ ?side1 ?side2 ?side3 ?side4 ?side5 ?side6 A36.out).mono ?_); (case side1 => exact cb HR1 HB); (case side2 => exact HC1.out); (case side3 => exact cb HR2 HB); (case side4 => exact HC2.out); (case side5 => exact cb HR444_3 HB); (case side6 => exact HC444_3.out); rintro e w45 ⟨rfl, hb⟩; replace BK432 := kb BK432 hb; replace HB := sb HB hb; (try clear hb); obtain ⟨hcz46_0, hcz46_1, hcz46_2, hcz46_3, hfz46_0, hfz46_1, hfz46_2, hfz46_3⟩ := cf4 BK432.out; have p446 : 0 ≤ (1 : Int) := (by omega); have q446 : 1 < (l3_3.length : Int) := od; obtain ⟨ad446, A446_3, c446_3, e446, hx446_0, hx446_1, hx446_2, hx446_3, hl446_3, hi446_3⟩ := at_T28 HR3_3.out 1 p446 q446; obtain rfl : ad444 = ad446 := (by injection e446); (try simp only [show (1 : Int).toNat = 1 from rfl, Nat.reduceMul, Nat.reduceEqDiff, Go.Addr.add, ↓reduceIte] at hx446_0); (try simp only [show (1 : Int).toNat = 1 from rfl, Nat.reduceMul, Nat.reduceEqDiff, Go.Addr.add, ↓reduceIte] at hx446_1); (try simp only [show (1 : Int).toNat = 1 from rfl, Nat.reduceMul, Nat.reduceEqDiff, Go.Addr.add, ↓reduceIte] at hx446_2); (try simp only [show (1 : Int).toNat = 1 from rfl, Nat.reduceMul, Nat.reduceEqDiff, Go.Addr.add, ↓reduceIte] at hx446_3); have qi446 : (1 < l3_3.length) = True := eq_true (by omega); (try rw [show ((1 : Int)).toNat = 1 from rfl] at hx446_0); (try rw [show 1 * 4 = 4 from rfl] at hx446_0); (try rw [show ((1 : Int)).toNat = 1 from rfl] at hx446_1); (try rw [show 1 * 4 = 4 from rfl] at hx446_1); (try rw [show ((1 : Int)).toNat = 1 from rfl] at hx446_2); (try rw [show 1 * 4 = 4 from rfl] at hx446_2); (try rw [show ((1 : Int)).toNat = 1 from rfl] at hx446_3); (try rw [show 1 * 4 = 4 from rfl] at hx446_3); replace hx446_0 := bcell HB.out hx446_0; replace hx446_1 := bcell HB.out hx446_1; replace hx446_2 := bcell HB.out hx446_2; replace hx446_3 := bcell HB.out hx446_3; have HR446_3 := Aside0.mk hi446_3; have HC446_3 := Aside0.mk hl446_3; clear hi446_3 hl446_3; replace p446 := eq_true p446; replace q446 := eq_true q446) | (go_at_call 24; (with_reducible refine (ih k (by omega) a0 _ _ l1 _ _ l2 ((rd_T28 l3_3 1).f0) ((rd_T28 l3_3 1).f1) ((rd_T28 l3_3 1).f2) _ _ ((rd_T28 l3_3 1).f3) t447 _ ?side1 ?side2 ?side3 ?side4 ?side5 ?side6 A38.out).mono ?_); (case side1 => exact cb HR1 HB); (case side2 => exact HC1.out); (case side3 => exact cb HR2 HB); (case side4 => exact HC2.out); (case side5 => exact cb HR446_3 HB); (case side6 => exact HC446_3.out); rintro e w47 ⟨rfl, hb⟩; replace BK432 := kb BK432 hb; replace HB := sb HB hb; (try clear hb); obtain ⟨hcz48_0, hcz48_1, hcz48_2, hcz48_3, hfz48_0, hfz48_1, hfz48_2, hfz48_3⟩ := cf4 BK432.out; have p448 : 0 ≤ (2 : Int) := (by omega); have q448 : 2 < (l3_3.length : Int) := od; obtain ⟨ad448, A448_3, c448_3, e448, hx448_0, hx448_1, hx448_2, hx448_3, hl448_3, hi448_3⟩ := at_T28 HR3_3.out 2 p448 q448; obtain rfl : ad444 = ad448 := (by injection e448); (try simp only [show (2 : Int).toNat = 2 from rfl, Nat.reduceMul, Nat.reduceEqDiff, Go.Addr.add, ↓reduceIte] at hx448_0); (try simp only [show (2 : Int).toNat = 2 from rfl, Nat.reduceMul, Nat.reduceEqDiff, Go.Addr.add, ↓reduceIte] at hx448_1); (try simp only [show (2 : Int).toNat = 2 from rfl, Nat.reduceMul, Nat.reduceEqDiff, Go.Addr.add, ↓reduceIte] at hx448_2); (try simp only [show (2 : Int).toNat = 2 from rfl, Nat.reduceMul, Nat.reduceEqDiff, Go.Addr.add, ↓reduceIte] at hx448_3); have qi448 : (2 < l3_3.length) = True := eq_true (by omega); (try rw [show ((2 : Int)).toNat = 2 from rfl] at hx448_0); (try rw [show 2 * 4 = 8 from rfl] at hx448_0); (try rw [show ((2 : Int)).toNat = 2 from rfl] at hx448_1); (try rw [show 2 * 4 = 8 from rfl] at hx448_1); (try rw [show ((2 : Int)).toNat = 2 from rfl] at hx448_2); (try rw [show 2 * 4 = 8 from rfl] at hx448_2); (try rw [show ((2 : Int)).toNat = 2 from rfl] at hx448_3); (try rw [show 2 * 4 = 8 from rfl] at hx448_3); replace hx448_0 := bcell HB.out hx448_0; replace hx448_1 := bcell HB.out hx448_1; replace hx448_2 := bcell HB.out hx448_2; replace hx448_3 := bcell HB.out hx448_3; have HR448_3 := Aside0.mk hi448_3; have HC448_3 := Aside0.mk hl448_3; clear hi448_3 hl448_3; replace p448 := eq_true p448; replace q448 := eq_true q448) | (go_at_call 24; (with_reducible refine (ih k (by omega) a0 _ _ l1 _ _ l2 ((rd_T28 l3_3 2).f0) ((rd_T28 l3_3 2).f1) ((rd_T28 l3_3 2).f2) _ _ ((rd_T28 l3_3 2).f3) t449 _ ?side1 ?side2 ?side3 ?side4 ?side5 ?side6 A42.out).mono ?_); (case side1 => exact cb HR1 HB); (case side2 => exact HC1.out); (case side3 => exact cb HR2 HB); (case side4 => exact HC2.out); (case side5 => exact cb HR448_3 HB); (case side6 => exact HC448_3.out); rintro e w49 ⟨rfl, hb⟩; replace BK432 := kb BK432 hb; replace HB := sb HB hb; (try clear hb))))
 go_ret
 exact ⟨rr, bb HB⟩
theorem Pow_t (n : Nat) (hn : n ≤ 60) : Tells (fun k => r1_Pow.f k (n : Int)) (2 ^ n : Int) := by
  unfold r1_Pow.f
  have := pow_tells n 0 n (by omega) hn
  rw [Int.pow_zero] at this
  exact this
theorem two_pos (n : Nat) : (0 : Int) < 2 ^ n := Int.pow_pos (by decide)
theorem two_le {n : Nat} (h : n ≤ 8) : (2 : Int) ^ n ≤ 256 := by
  have := pow_le h
  have e : (2 : Int) ^ 8 = 256 := by decide
  omega
theorem tmod_r {a b : Int} (ha : 0 ≤ a) (hb : 0 < b) : 0 ≤ Int.tmod a b ∧ Int.tmod a b < b := ⟨Int.tmod_nonneg _ ha, Int.tmod_lt_of_pos _ hb⟩
theorem tdiv_r {a b : Int} (ha : 0 ≤ a) (hb : 0 < b) : 0 ≤ Int.tdiv a b ∧ Int.tdiv a b ≤ a := by
  rw [Int.tdiv_eq_ediv_of_nonneg ha]
  exact ⟨Int.ediv_nonneg ha (by omega), Int.ediv_le_self _ ha⟩
theorem bit_t (a : Int) (h0 : 0 ≤ a) (h1 : a ≤ 1000) (i : Nat) (hi : i ≤ 8) : ∃ b, Tells (fun k => r1_Bit.f k a (i : Int)) b ∧ (b = 0 ∨ b = 1) := by
  have hp := two_pos i
  have hd := tdiv_r h0 hp
  have hm := tmod_r (b := 2) hd.1 (by decide)
  refine ⟨Int.tmod (Int.tdiv a (2 ^ i)) 2, ?_, by omega⟩
  unfold r1_Bit.f
  refine Tells.bind (Pow_t i (by omega)) (Tells.ifF (by omega) ?_)
  rw [w64 (by omega) (by omega)]
  exact Tells.pure _
theorem gate_t (op : Int) {a b : Int} (ha : a = 0 ∨ a = 1) (hb : b = 0 ∨ b = 1) : ∃ c, r1_gate.f op a b = some c ∧ (c = 0 ∨ c = 1) := by
  unfold r1_gate.f
  by_cases h7 : op = 7
  · rw [if_pos h7]
    rcases ha with rfl | rfl <;> rcases hb with rfl | rfl
    · exact ⟨0, by decide +kernel, .inl rfl⟩
    · exact ⟨0, by decide +kernel, .inl rfl⟩
    · exact ⟨0, by decide +kernel, .inl rfl⟩
    · exact ⟨1, by decide +kernel, .inr rfl⟩
  · rw [if_neg h7]
    by_cases h8 : op = 8
    · rw [if_pos h8]
      rcases ha with rfl | rfl <;> rcases hb with rfl | rfl
      · exact ⟨0, by decide +kernel, .inl rfl⟩
      · exact ⟨1, by decide +kernel, .inr rfl⟩
      · exact ⟨1, by decide +kernel, .inr rfl⟩
      · exact ⟨1, by decide +kernel, .inr rfl⟩
    · rw [if_neg h8]
      rcases ha with rfl | rfl <;> rcases hb with rfl | rfl
      · exact ⟨0, by decide +kernel, .inl rfl⟩
      · exact ⟨1, by decide +kernel, .inr rfl⟩
      · exact ⟨1, by decide +kernel, .inr rfl⟩
      · exact ⟨0, by decide +kernel, .inl rfl⟩
theorem of_loop : ∀ (suf pre : List Int) (s : Int), (pre ++ suf).length ≤ 8 → (∀ x ∈ suf, x = 0 ∨ x = 1) → 0 ≤ s → s < 2 ^ pre.length →
    ∃ d, Tells (fun k => r1_Of.l0 k (pre ++ suf) s (pre.length : Int)) d ∧ 0 ≤ d ∧ d < 2 ^ (pre ++ suf).length
  | [], pre, s, _, _, h0, h1 => by
    refine ⟨s, Tells.succ ?_, h0, by rw [List.append_nil]; exact h1⟩
    simp only [r1_Of.l0, pre_nlt, if_false]
    exact Tells.pure _
  | x :: r, pre, s, hl, hx, h0, h1 => by
    have hx1 := hx x (by simp)
    have hpl : pre.length ≤ 7 := by rw [List.length_append, List.length_cons] at hl; omega
    have hp := two_le (n := pre.length) (by omega)
    have e : (2 : Int) ^ (pre ++ [x]).length = 2 * 2 ^ pre.length := by rw [List.length_append, List.length_singleton, Int.pow_succ, Int.mul_comm]
    have hxp : x * 2 ^ pre.length = 0 ∨ x * 2 ^ pre.length = 2 ^ pre.length := by
      rcases hx1 with rfl | rfl
      · left; rw [Int.zero_mul]
      · right; rw [Int.one_mul]
    have hb : 0 ≤ x * 2 ^ pre.length ∧ x * 2 ^ pre.length ≤ 2 ^ pre.length := by rcases hxp with h | h <;> rw [h] <;> omega
    obtain ⟨d, t, d0, d1⟩ := of_loop r (pre ++ [x]) (s + x * 2 ^ pre.length) (by rw [← pre_app]; exact hl) (fun u hu => hx u (by simp [hu])) (by omega) (by rw [e]; omega)
    rw [← pre_app] at t d1
    refine ⟨d, Tells.succ ?_, d0, d1⟩
    simp only [r1_Of.l0, pre_lt, pre_pos, if_true, rd_mid]
    refine Tells.bind (Pow_t pre.length (by omega)) ?_
    rw [w64 (n := x * 2 ^ pre.length) (by omega) (by omega), w64 (n := s + x * 2 ^ pre.length) (by omega) (by omega), pre_next pre x r (by omega)]
    exact t
theorem each_loop (op a b : Int) (a0 : 0 ≤ a) (a1 : a ≤ 1000) (b0 : 0 ≤ b) (b1 : b ≤ 1000) (n : Nat) (hn : n ≤ 8) : ∀ (j i : Nat) (acc : List Int), i + j = n → acc.length = i → (∀ x ∈ acc, x = 0 ∨ x = 1) →
    ∃ d, Tells (fun k => r1_each.l0 k op (n : Int) a b acc (i : Int)) d ∧ 0 ≤ d ∧ d < 2 ^ n
  | 0, i, acc, h, hl, hx => by
    obtain ⟨d, t, d0, d1⟩ := of_loop acc [] 0 (by rw [List.nil_append]; omega) hx (Int.le_refl _) (by decide)
    rw [List.nil_append, hl] at d1
    have e : i = n := by omega
    rw [e] at d1
    refine ⟨d, Tells.succ ?_, d0, d1⟩
    have : ¬ (i : Int) < (n : Int) := by omega
    simp only [r1_each.l0, this, if_false]
    refine Tells.bind ?_ (Tells.pure _)
    unfold r1_Of.f
    exact t
  | j + 1, i, acc, h, hl, hx => by
    obtain ⟨p, tp, hp⟩ := bit_t a a0 a1 i (by omega)
    obtain ⟨q, tq, hq⟩ := bit_t b b0 b1 i (by omega)
    obtain ⟨c, tc, hc⟩ := gate_t op hp hq
    obtain ⟨d, t, d0, d1⟩ := each_loop op a b a0 a1 b0 b1 n hn j (i + 1) (acc ++ [c]) (by omega) (by rw [List.length_append, List.length_singleton, hl]) (by
      intro x hx'
      rw [List.mem_append, List.mem_singleton] at hx'
      rcases hx' with hx' | rfl
      · exact hx x hx'
      · exact hc)
    refine ⟨d, Tells.succ ?_, d0, d1⟩
    have hlt : (i : Int) < (n : Int) := by omega
    simp only [r1_each.l0, hlt, if_true]
    refine Tells.bind tp (Tells.bind tq ?_)
    refine Tells.bind (g := fun _ => r1_gate.f op p q) ⟨0, fun _ _ => tc⟩ (Tells.ifT (by omega) ?_)
    rw [w64 (by omega) (by omega)]
    exact t
theorem each_t (op a b : Int) (a0 : 0 ≤ a) (a1 : a ≤ 1000) (b0 : 0 ≤ b) (b1 : b ≤ 1000) (n : Nat) (hn : n ≤ 8) : ∃ d, Tells (fun k => r1_each.f k op (n : Int) a b) d ∧ 0 ≤ d ∧ d < 2 ^ n := by
  unfold r1_each.f
  exact each_loop op a b a0 a1 b0 b1 n hn n 0 [] (by omega) rfl (by simp)
theorem One_t (b : Bool) (n : Nat) (hn : 1 ≤ n) : ∃ d, r1_One.f b = some d ∧ 0 ≤ d ∧ d < 2 ^ n := by
  have : (2 : Int) ≤ 2 ^ n := by
    have := pow_le hn
    have e : (2 : Int) ^ 1 = 2 := by decide
    omega
  unfold r1_One.f
  cases b
  · exact ⟨0, rfl, Int.le_refl _, by omega⟩
  · exact ⟨1, rfl, by decide, by omega⟩
theorem Top_t (n : Nat) (hn : n ≤ 8) : Tells (fun k => r1_Top.f k (n : Int)) (2 ^ n - 1) := by
  unfold r1_Top.f
  have h1 := two_le hn
  have h2 := two_pos n
  refine Tells.bind (Pow_t n (by omega)) ?_
  rw [w64 (by omega) (by omega)]
  exact Tells.pure _
theorem Not_t (n : Nat) (hn : n ≤ 8) (a : Int) (a0 : 0 ≤ a) (a1 : a < 2 ^ n) : Tells (fun k => r1_Not.f k (n : Int) a) (2 ^ n - 1 - a) := by
  unfold r1_Not.f
  have h1 := two_le hn
  refine Tells.bind (Top_t n hn) ?_
  rw [w64 (by omega) (by omega)]
  exact Tells.pure _
theorem mul_small {a b : Int} (a0 : 0 ≤ a) (a1 : a ≤ 256) (b0 : 0 ≤ b) (b1 : b ≤ 256) : 0 ≤ a * b ∧ a * b ≤ 65536 :=
  ⟨Int.mul_nonneg a0 b0, Int.le_trans (Int.mul_le_mul a1 b1 b0 (by decide)) (by decide)⟩
theorem do_t (n : Nat) (h1 : 1 ≤ n) (hn : n ≤ 8) (op a b : Int) (a0 : 0 ≤ a) (a1 : a < 2 ^ n) (b0 : 0 ≤ b) (b1 : b < 2 ^ n) : ∃ d, Tells (fun k => r1_Do.f k op (n : Int) a b) d ∧ 0 ≤ d ∧ d < 2 ^ n := by
  have hp := two_le hn
  have hp0 := two_pos n
  have tP := Pow_t n (by omega)
  have hab := mul_small a0 (by omega) b0 (by omega)
  unfold r1_Do.f
  by_cases o2 : op = 2
  · simp only [o2, if_true]
    have := tmod_r (a := a + b) (b := 2 ^ n) (by omega) hp0
    refine ⟨Int.tmod (a + b) (2 ^ n), Tells.bind tP (Tells.ifF (by omega) ?_), this⟩
    rw [w64 (by omega) (by omega)]
    exact Tells.pure _
  by_cases o3 : op = 3
  · simp only [o3, show ¬ ((3 : Int) = 2) by decide, if_true, if_false]
    have := tmod_r (a := a + 2 ^ n - b) (b := 2 ^ n) (by omega) hp0
    refine ⟨Int.tmod (a + 2 ^ n - b) (2 ^ n), Tells.bind tP (Tells.bind tP (Tells.ifF (by omega) ?_)), this⟩
    rw [w64 (n := a + 2 ^ n) (by omega) (by omega), w64 (by omega) (by omega)]
    exact Tells.pure _
  by_cases o4 : op = 4
  · simp only [o4, show ¬ ((4 : Int) = 2) by decide, show ¬ ((4 : Int) = 3) by decide, if_true, if_false]
    have := tmod_r (a := a * b) (b := 2 ^ n) hab.1 hp0
    refine ⟨Int.tmod (a * b) (2 ^ n), Tells.bind tP (Tells.ifF (by omega) ?_), this⟩
    rw [w64 (by omega) (by omega)]
    exact Tells.pure _
  by_cases o5 : op = 5
  · simp only [o5, show ¬ ((5 : Int) = 2) by decide, show ¬ ((5 : Int) = 3) by decide, show ¬ ((5 : Int) = 4) by decide, if_true, if_false]
    by_cases hb : b = 0
    · exact ⟨2 ^ n - 1, Tells.ifT hb (Tells.bind (Top_t n hn) (Tells.pure _)), by omega, by omega⟩
    · have := tdiv_r (a := a) (b := b) a0 (by omega)
      refine ⟨Int.tdiv a b, Tells.ifF hb ?_, this.1, by omega⟩
      rw [w64 (by omega) (by omega)]
      exact Tells.pure _
  by_cases o6 : op = 6
  · simp only [o6, show ¬ ((6 : Int) = 2) by decide, show ¬ ((6 : Int) = 3) by decide, show ¬ ((6 : Int) = 4) by decide, show ¬ ((6 : Int) = 5) by decide, if_true, if_false]
    by_cases hb : b = 0
    · exact ⟨a, Tells.ifT hb (Tells.pure _), a0, a1⟩
    · have := tmod_r (a := a) (b := b) a0 (by omega)
      exact ⟨Int.tmod a b, Tells.ifF hb (Tells.pure _), this.1, by omega⟩
  simp only [o2, o3, o4, o5, o6, if_false]
  have key : ∀ c : Bool, ∃ d, Tells (fun k => r1_Do.j0 k op (n : Int) a b op c) d ∧ 0 ≤ d ∧ d < 2 ^ n := by
    intro c
    by_cases hc : c = true
    · obtain ⟨d, t, d0, d1⟩ := each_t op a b a0 (by omega) b0 (by omega) n hn
      refine ⟨d, Tells.succ ?_, d0, d1⟩
      simp only [r1_Do.j0, hc, if_true]
      exact Tells.bind t (Tells.pure _)
    · by_cases o10 : op = 10
      · by_cases hb : b ≥ (n : Int)
        · refine ⟨0, Tells.succ ?_, Int.le_refl _, hp0⟩
          simp only [r1_Do.j0, hc, Bool.false_eq_true, o10, if_false, if_true]
          exact Tells.ifT hb (Tells.pure _)
        · obtain ⟨m, rfl⟩ : ∃ m : Nat, b = m := ⟨b.toNat, by omega⟩
          have hq := two_le (n := m) (by omega)
          have hm := mul_small (a := a) (b := 2 ^ m) a0 (by omega) (by have := two_pos m; omega) hq
          have := tmod_r (a := a * 2 ^ m) (b := 2 ^ n) hm.1 hp0
          refine ⟨Int.tmod (a * 2 ^ m) (2 ^ n), Tells.succ ?_, this⟩
          simp only [r1_Do.j0, hc, Bool.false_eq_true, o10, if_false, if_true]
          refine Tells.ifF hb (Tells.bind (Pow_t m (by omega)) (Tells.bind tP (Tells.ifF (by omega) ?_)))
          rw [w64 (by omega) (by omega)]
          exact Tells.pure _
      · by_cases o11 : op = 11
        · by_cases hb : b ≥ (n : Int)
          · refine ⟨0, Tells.succ ?_, Int.le_refl _, hp0⟩
            simp only [r1_Do.j0, hc, Bool.false_eq_true, o11, show ¬ ((11 : Int) = 10) by decide, if_false, if_true]
            exact Tells.ifT hb (Tells.pure _)
          · obtain ⟨m, rfl⟩ : ∃ m : Nat, b = m := ⟨b.toNat, by omega⟩
            have hq := two_pos m
            have := tdiv_r (a := a) (b := 2 ^ m) a0 hq
            refine ⟨Int.tdiv a (2 ^ m), Tells.succ ?_, this.1, by omega⟩
            simp only [r1_Do.j0, hc, Bool.false_eq_true, o11, show ¬ ((11 : Int) = 10) by decide, if_false, if_true]
            refine Tells.ifF hb (Tells.bind (Pow_t m (by omega)) (Tells.ifF (by omega) ?_))
            rw [w64 (by omega) (by omega)]
            exact Tells.pure _
        · by_cases o13 : op = 13
          · obtain ⟨d, t, d0, d1⟩ := One_t (a == b) n h1
            refine ⟨d, Tells.succ ?_, d0, d1⟩
            simp only [r1_Do.j0, hc, Bool.false_eq_true, o13, show ¬ ((13 : Int) = 10) by decide, show ¬ ((13 : Int) = 11) by decide, if_false, if_true]
            exact Tells.bind (g := fun _ => r1_One.f (a == b)) ⟨0, fun _ _ => t⟩ (Tells.pure _)
          · obtain ⟨d, t, d0, d1⟩ := One_t (decide (a < b)) n h1
            refine ⟨d, Tells.succ ?_, d0, d1⟩
            simp only [r1_Do.j0, hc, Bool.false_eq_true, o10, o11, o13, if_false]
            exact Tells.bind (g := fun _ => r1_One.f (decide (a < b))) ⟨0, fun _ _ => t⟩ (Tells.pure _)
  by_cases o7 : op = 7
  · simp only [o7, if_true]
    exact o7 ▸ key _
  · by_cases o8 : op = 8
    · simp only [o8, show ¬ ((8 : Int) = 7) by decide, if_false, if_true]
      exact o8 ▸ key _
    · simp only [o7, o8, if_false]
      exact key _
end Go.Proofs.Ytilebfkehmecaaa.Print
namespace Go.Proofs.Ytilebfkehmecaaa.Print
open Go.RowKit Go.Proofs.YtilebfkehmecaaaW.PrintWords Go.Proofs.YtilebfkehmecaaaW.PrintLast Go.Proofs.YtilebfkehmecaaaW.PrintMore
attribute [local go_sem] max2_int min2_int max_two min_two max_three min_three max_four min_four
set_option linter.unusedVariables false
set_option linter.unusedSimpArgs false
open Go.Shelf
attribute [local go_sem] Oper.semAt_some
mutual
def prog_walk.l0 : Nat → List S64 → Int → Int → Option (List (Int × S64) × Int)
  | 0, _, _, _ => none
  | k + 1, l, i, n => if i < (l.length : Int) then (if 0 ≤ i then (prog_walk.f k (rd_T64 l i).f3 (wrap64 (n + 1))).bind fun t => (prog_walk.f k (rd_T64 l i).f4 t.2).bind fun e => (prog_walk.l0 k l (wrap64 (i + 1)) e.2).bind fun r => some ((wrap64 (wrap64 (n + 1) - 1), rd_T64 l i) :: (t.1 ++ (e.1 ++ r.1)), r.2) else none) else some ([], n)
def prog_walk.f : Nat → List S64 → Int → Option (List (Int × S64) × Int)
  | 0, _, _ => none
  | k + 1, l, n => prog_walk.l0 k l 0 n
end
def stopAt {α : Type} (go : List α → α → Bool) : List α → List α → Option (List α)
  | _, [] => none
  | pre, x :: r => if go pre x = true then (stopAt go (pre ++ [x]) r).map (x :: ·) else some [x]
theorem stopAt_append {α : Type} (go : List α → α → Bool) : ∀ (a b pre : List α), stopAt go pre (a ++ b) = match stopAt go pre a with | some q => some q | none => (stopAt go (pre ++ a) b).map (a ++ ·)
  | [], b, pre => by simp [stopAt]
  | x :: a, b, pre => by
    rw [List.cons_append, stopAt, stopAt]
    by_cases h : go pre x = true
    · rw [if_pos h, if_pos h, stopAt_append go a b (pre ++ [x])]
      cases h1 : stopAt go (pre ++ [x]) a with
      | some q => rfl
      | none => cases h2 : stopAt go (pre ++ [x] ++ a) b <;> simp [h2] <;> simp at h2 <;> simp [h2]
    · rw [if_neg h, if_neg h]
theorem stopAt_over {α : Type} {go : List α → α → Bool} {pre a b : List α} (h : stopAt go pre a = none) : stopAt go pre (a ++ b) = (stopAt go (pre ++ a) b).map (a ++ ·) := by rw [stopAt_append, h]
theorem stopAt_in {α : Type} {go : List α → α → Bool} {pre a b q : List α} (h : stopAt go pre a = some q) : stopAt go pre (a ++ b) = some q := by rw [stopAt_append, h]
theorem stopAt_one {α : Type} {go : List α → α → Bool} {pre r : List α} {x : α} (h : go pre x = true) : stopAt go pre (x :: r) = (stopAt go (pre ++ [x]) r).map (x :: ·) := by rw [stopAt, if_pos h]
def StmtAt (w0 : World) (s : S64) (v : Value) : Prop := ∃ (A2 : Option Addr) (c2 : Nat) (A3 : Option Addr) (c3 : Nat) (A4 : Option Addr) (c4 : Nat), v = .agg #[.int .i64 s.f0, .int .i64 s.f1, .slice A2 s.f2.length c2, .slice A3 s.f3.length c3, .slice A4 s.f4.length c4] ∧
  s.f2.length ≤ c2 ∧ Kd.C k28 w0 A2 s.f2.length s.f2 ∧ s.f3.length ≤ c3 ∧ Kd.C k64 w0 A3 s.f3.length s.f3 ∧ s.f4.length ≤ c4 ∧ Kd.C k64 w0 A4 s.f4.length s.f4
structure Keeps (B : Nat) (g : Option Nat) (W W' : World) : Prop where
  size : W.heap.size ≤ W'.heap.size
  block : ∀ k, B ≤ k → k < W.heap.size → some k ≠ g → W'.heap[k]? = W.heap[k]?
theorem Keeps.trans {B : Nat} {g : Option Nat} {a b c : World} (h : Keeps B g a b) (k : Keeps B g b c) : Keeps B g a c :=
  ⟨Nat.le_trans h.size k.size, fun i h1 h2 h3 => (k.block i h1 (Nat.lt_of_lt_of_le h2 h.size) h3).trans (h.block i h1 h2 h3)⟩
theorem Keeps.some {B : Nat} {g : Option Nat} {a b : World} (h : Keeps B none a b) : Keeps B g a b := ⟨h.size, fun i h1 h2 _ => h.block i h1 h2 (by simp)⟩
theorem Keeps.refl (B : Nat) (g : Option Nat) (a : World) : Keeps B g a a := ⟨Nat.le_refl _, fun _ _ _ _ => rfl⟩
def walkPost (w0 : World) (Bj G : Nat) (J Jx : List (Int × S64) → World → Prop) (go : List (Int × S64) → (Int × S64) → Bool) (pre its : List (Int × S64)) (n' : Int) (W : World) (e : Ending) (W' : World) : Prop :=
  (stopAt go pre its = none ∧ e = .returned (.bool true) ∧ J (pre ++ its) W' ∧ W'.heap[G]? = some (.cells #[.int .i64 n'] 3 (0, 0)) ∧ Keeps Bj (some G) W W' ∧ Below w0.heap.size w0 W') ∨
  (∃ q, stopAt go pre its = some q ∧ e = .returned (.bool false) ∧ Jx (pre ++ q) W')
theorem walk_world {wr : World} {G : Nat} {a u : Value} {t : TypeId} (hG : wr.heap[G]? = some (.cells #[a] t (0, 0))) (o : Obj) :
    ((wr.setCell ⟨G, 0, none⟩ u).alloc o).heap[G]? = some (.cells #[u] t (0, 0)) ∧ ((wr.setCell ⟨G, 0, none⟩ u).alloc o).heap[wr.heap.size]? = some o ∧ wr.grownBy ((wr.setCell ⟨G, 0, none⟩ u).alloc o) (some G) := by
  have h1 : (wr.setCell ⟨G, 0, none⟩ u).heap[G]? = some (.cells #[u] t (0, 0)) := by simpa using blk_set hG 0 u
  refine ⟨kal h1 _, ?_, ?_⟩
  · have := heap_alloc_new (wr.setCell ⟨G, 0, none⟩ u) o
    simpa using this
  · refine ⟨rfl, rfl, rfl, by simp, fun i hi hne2 => ?_⟩
    have hne' : i ≠ G := fun e => hne2 (by rw [e])
    rw [Below.heap_alloc _ _ _ (by simpa using hi), Below.heap_setCell _ _ _ _ hne']
theorem round_any {m m' : Nat} {P : Program} {l : Nat} {f : FuncId} {tmps : Array Value} {assign body : Code} {w : World} {R : Ending → World → Prop} (h : RoundIn Fence.wide m P l f tmps assign body w R) : RoundIn Fence.wide m' P l f tmps assign body w R := ⟨h.1, fun c cs _ => h.2 c cs (room_wide _)⟩
theorem calls_any {m m' : Nat} {P : Program} {f : FuncId} {args : Array Value} {w : World} {R : Ending → World → Prop} (h : CallsIn Fence.wide m P f args w R) : CallsIn Fence.wide m' P f args w R := callsIn_wide.2 (callsIn_wide.1 h)
theorem wide_depth {m : Nat} : Fence.wide.depth.isSome = true → 1 ≤ m := fun h => by simp [Fence.wide] at h
theorem prog_walk.walkIn (w0 : World) (rl Bj m : Nat) (J Jx : List (Int × S64) → World → Prop) (go : List (Int × S64) → (Int × S64) → Bool) (all : List (Int × S64))
    (hw0 : w0.heap.size ≤ Bj)
    (hJ : ∀ pre W W', J pre W → Below Bj W W' → J pre W')
    (hY : ∀ pre x v W, J pre W → StmtAt w0 x.2 v → Below w0.heap.size w0 W → Bj ≤ W.heap.size → (pre ++ [x]) <+: all → YieldAt Fence.wide m Try.prog rl #[.int .i64 x.1, v] W fun e W' =>
      e = .returned (.bool (go pre x)) ∧ (go pre x = true → J (pre ++ [x]) W' ∧ Keeps Bj none W W' ∧ Below w0.heap.size w0 W') ∧ (go pre x = false → Jx (pre ++ [x]) W'))
    (k : Nat) : ∀ (l : List S64) (n : Int) (its : List (Int × S64)) (n' : Int) (pre : List (Int × S64)) (W : World) (G : Nat) (A : Option Addr) (c : Nat),
    prog_walk.f k l n = some (its, n') → Kd.C k64 w0 A l.length l → l.length ≤ c → Below w0.heap.size w0 W → W.heap[G]? = some (.cells #[.int .i64 n] 3 (0, 0)) → Bj ≤ G → J pre W → (pre ++ its) <+: all →
    CallsIn Fence.wide m Try.prog 121 #[.slice A l.length c, .pointer (some ⟨G, 0, none⟩), .func (.yield rl) #[] #[]] W (walkPost w0 Bj G J Jx go pre its n' W) := by
  induction k using Nat.strongRecOn with
  | _ k ih =>
  intro l n its n' pre W G A c h hr hc hB hG hGB hJ0 hall
  cases k with
  | zero => exact absurd h (by simp [prog_walk.f])
  | succ k =>
  simp only [prog_walk.f] at h
  have huS := Try.underlying64
  have hl0 := hr.1
  refine callsIn_of_wp Try.func121 rfl trivial ?_ rfl
  simp only [Try.ntmps121, List.size_toArray, List.length_cons, List.length_nil, Nat.reduceAdd, Nat.reduceSub, Array.replicate_succ, Array.replicate_zero, List.push_toArray, List.append_toArray, List.nil_append, List.cons_append]
  have HR := Aside0.mk hr
  have HC := Aside0.mk hc
  have HB := Aside0.mk hB
  have BG := Aside0.mk hG
  have hGlt := blk_lt hG
  have HGB := Aside0.mk hGB
  have HJ0 := Aside0.mk hJ0
  have HALL := Aside0.mk hall
  have H' := Aside0.mk h
  have ih' := Aside0.mk ih
  have hJ' := Aside0.mk hJ
  have hY' := Aside0.mk hY
  clear hr hc hB hG hGB hJ0 hall h ih hJ hY hl0
  gi_wp2
  gi_loopw [11] (fun v11 wr => ∃ (kq : Nat) (i cnt : Int) (done rest : List (Int × S64)), v11 = .int .i64 i ∧ Aside0 (0 ≤ i) ∧ Aside0 (prog_walk.l0 kq l i cnt = some (rest, n')) ∧ Aside0 (kq ≤ k) ∧ Aside0 (its = done ++ rest) ∧ Aside0 (stopAt go pre done = none) ∧
      Aside0 (J (pre ++ done) wr) ∧ Aside0 (wr.heap[G]? = some (.cells #[.int .i64 cnt] 3 (0, 0))) ∧ Aside0 (Keeps Bj (some G) W wr) ∧ Aside0 (Below w0.heap.size w0 wr)) (fun v11 _ => l.length - (intOf v11).toNat)
  case atStart => exact ⟨k, 0, n, [], its, rfl, ⟨Int.le_refl _⟩, H', ⟨Nat.le_refl _⟩, ⟨rfl⟩, ⟨rfl⟩, ⟨by simpa using HJ0.out⟩, BG, ⟨Keeps.refl _ _ _⟩, HB⟩
  case round =>
    clear H' HJ0 BG HB
    obtain ⟨kq, i, cnt, done, rest, rfl, HI0, HA, HK, HE, HS, HJ1, BG, KP, HB⟩ := hrel
    cases kq with
    | zero => exact absurd HA.out (by simp [prog_walk.l0])
    | succ k1 =>
      have H := HA.out
      clear HA
      simp only [prog_walk.l0] at H
      have H2 := ite_b H
      clear H
      have hGl := blk_lt BG.out
      have hg0 : wr.cell? ⟨G, 0, none⟩ = some (.int .i64 cnt) := (blk_cell BG.out 0).trans rfl
      have hf0 := blk_frozen BG.out 0
      have hi0 := HI0.out
      have hl : l.length ≤ 9223372036854775807 := HR.out.2.1
      rcases H2 with ⟨t1, H⟩ | ⟨t1, H⟩
      case inr =>
        injection (Option.some.inj H) with e1 e2
        subst e1 e2
        clear H
        gi_wp2
        go_ret
        have e : its = done := by simpa using HE.out
        exact .inl ⟨by rw [e]; exact HS.out, rfl, by rw [e]; exact HJ1.out, BG.out, KP.out, HB.out⟩
      have H2 := ite_b H
      clear H
      rcases H2 with ⟨t2, H⟩ | ⟨t2, H⟩
      case inr => exact absurd H (by simp)
      have p1 : i < (l.length : Int) := of_decide_eq_true t1
      obtain ⟨ad, B2, b2, B3, b3, B4, b4, e1, q0, q1, q2, q3, q4, ql2, qr2, ql3, qr3, ql4, qr4⟩ := at_T64 HR.out i hi0 p1
      cases e1
      replace q0 := (HB.out.cell (World.block_lt_of_cell? w0 _ q0)).trans q0
      replace q1 := (HB.out.cell (World.block_lt_of_cell? w0 _ q1)).trans q1
      replace q2 := (HB.out.cell (World.block_lt_of_cell? w0 _ q2)).trans q2
      replace q3 := (HB.out.cell (World.block_lt_of_cell? w0 _ q3)).trans q3
      replace q4 := (HB.out.cell (World.block_lt_of_cell? w0 _ q4)).trans q4
      have QV := Aside0.mk (show StmtAt w0 (rd_T64 l i) _ from ⟨B2, b2, B3, b3, B4, b4, rfl, ql2, qr2, ql3, qr3, ql4, qr4⟩)
      have QL3 := Aside0.mk ql3
      have QR3 := Aside0.mk qr3
      have QL4 := Aside0.mk ql4
      have QR4 := Aside0.mk qr4
      clear ql2 qr2 ql3 qr3 ql4 qr4
      replace H := Option.bind_eq_some_iff.mp H
      obtain ⟨⟨ti, tn⟩, T0, H⟩ := H
      replace H := Option.bind_eq_some_iff.mp H
      obtain ⟨⟨ei, en⟩, E0, H⟩ := H
      replace H := Option.bind_eq_some_iff.mp H
      obtain ⟨⟨ri, rn⟩, R0, H⟩ := H
      injection (Option.some.inj H) with e1 e2
      clear H
      dsimp only at T0 E0 R0 e1 e2
      subst e2
      have TT := Aside0.mk T0
      have EE := Aside0.mk E0
      have RR := Aside0.mk R0
      have RE := Aside0.mk e1
      clear T0 E0 R0 e1
      have cw := Aside0.mk (walk_world BG.out (.cells #[.int .i64 (rd_T64 l i).f0, .int .i64 (rd_T64 l i).f1, .slice B2 (rd_T64 l i).f2.length b2, .slice B3 (rd_T64 l i).f3.length b3, .slice B4 (rd_T64 l i).f4.length b4] 64) (u := .int .i64 (wrap64 (cnt + 1))))
      gi_wp2
      obtain ⟨bG, bS, gW1⟩ := cw.out
      clear cw
      generalize ((wr.setCell ⟨G, 0, none⟩ (.int .i64 (wrap64 (cnt + 1)))).alloc (.cells #[.int .i64 (rd_T64 l i).f0, .int .i64 (rd_T64 l i).f1, .slice B2 (rd_T64 l i).f2.length b2, .slice B3 (rd_T64 l i).f3.length b3, .slice B4 (rd_T64 l i).f4.length b4] 64)) = W1 at bG bS gW1 ⊢
      generalize wrap64 (cnt + 1) = c1 at TT RE bG ⊢
      have hxw : IntKind.i64.wrap (c1 - 1) = wrap64 (c1 - 1) := i64_w _
      have hd0 : W1.cell? ⟨G, 0, none⟩ = some (.int .i64 c1) := (blk_cell bG 0).trans rfl
      obtain ⟨s0, s1, s2, s3, s4⟩ := cells5 bS
      have hWB : Bj ≤ wr.heap.size := by have := HGB.out; omega
      have KW : Aside0 (Keeps Bj (some G) W W1) := ⟨KP.out.trans ⟨gW1.size, fun j _ h2 h3 => gW1.block j h2 h3⟩⟩
      have BW : Aside0 (Below w0.heap.size w0 W1) := ⟨below_gr HB.out gW1 (by have := HGB.out; omega)⟩
      have JW : Aside0 (J (pre ++ done) W1) := ⟨hJ'.out _ _ _ HJ1.out ⟨gW1.os, gW1.tape, gW1.output, gW1.size, fun j hj => gW1.block j (by omega) (by intro e; injection e with e; have := HGB.out; omega)⟩⟩
      have hszW : wr.heap.size < W1.heap.size := blk_lt bS
      have hpre : Aside0 ((pre ++ done ++ [(wrap64 (c1 - 1), rd_T64 l i)]) <+: all) := ⟨by
        refine List.IsPrefix.trans ?_ HALL.out
        rw [HE.out, ← RE.out]
        exact ⟨ti ++ (ei ++ ri), by simp⟩⟩
      have BGW := Aside0.mk bG
      have BSW := Aside0.mk bS
      have hyl := hY'.out (pre ++ done) (wrap64 (c1 - 1), rd_T64 l i) _ W1.drew (hJ'.out _ _ _ JW.out (bd1 (Below.refl _ _))) QV.out (bd1 BW.out) (by show Bj ≤ W1.heap.size; omega) hpre.out
      obtain ⟨fn, tmps, assign, body, hy, hR0⟩ := hyl
      clear bG bS gW1 q0 q1 q2 q3 q4 hg0 hf0 BG HB HJ1
      dsimp only at hy hR0
      refine wpIn_region_any (by kernel_rfl) ?_
      change wpAnyIn _ _ _ _ _ _ _ _ _ (World.drew _)
      refine wpAnyIn_take (i := 0) (v := .func (.yield rl) #[] #[]) rfl rfl (by kernel_rfl) (by kernel_rfl) (by kernel_rfl) (fun _ _ _ h => h) ⟨Or.inl ⟨by rfl, fun _ => by go_simp⟩, fun _ => rfl⟩ ?_
      go_simp
      refine wpAnyIn_take (i := 1) (v := .pointer (some ⟨G, 0, none⟩)) rfl rfl (by kernel_rfl) (by kernel_rfl) (by kernel_rfl) (fun _ _ _ h => h) ⟨Or.inl ⟨by rfl, fun _ => by go_simp⟩, fun _ => rfl⟩ ?_
      go_simp
      refine (fun (key : ?KeyT) => ?main) ?key
      case main =>
        skip
        refine wpAnyIn_ready (rs := [2, 5]) (by kernel_rfl) (by simp) ?_
        refine AllReadyIn.cons rfl (fun K hK => ?_) (AllReadyIn.cons rfl (fun K hK => ?_) AllReadyIn.nil)
        · go_simp
          refine hK _ _ ?_
          clear hK K
          refine wpAnyIn_ready (rs := [3, 5]) (by kernel_rfl) (by simp) ?_
          refine AllReadyIn.cons rfl (fun K hK => ?_) (AllReadyIn.cons rfl (fun K hK => ?_) AllReadyIn.nil)
          · go_simp
            refine hK _ _ ?_
            clear hK K
            refine wpAnyIn_take (i := 4) (v := .int .i64 (wrap64 (c1 - 1))) rfl rfl (by kernel_rfl) (by kernel_rfl) (by kernel_rfl) (fun _ _ _ h => h) ⟨Or.inl ⟨by rfl, fun _ => by go_simp⟩, fun _ => rfl⟩ ?_
            go_simp
            refine wpAnyIn_ready (rs := [5]) (by kernel_rfl) (by simp) (AllReadyIn.cons rfl (fun K hK => ?_) AllReadyIn.nil)
            go_simp
            refine hK _ _ ?_
            clear hK K
            exact key
          · go_simp
            refine hK _ _ ?_
            clear hK K
            refine wpAnyIn_ready (rs := [3]) (by kernel_rfl) (by simp) (AllReadyIn.cons rfl (fun K hK => ?_) AllReadyIn.nil)
            go_simp
            refine hK _ _ ?_
            clear hK K
            refine wpAnyIn_take (i := 4) (v := .int .i64 (wrap64 (c1 - 1))) rfl rfl (by kernel_rfl) (by kernel_rfl) (by kernel_rfl) (fun _ _ _ h => h) ⟨Or.inl ⟨by rfl, fun _ => by go_simp⟩, fun _ => rfl⟩ ?_
            go_simp
            exact key
        · go_simp
          refine hK _ _ ?_
          clear hK K
          refine wpAnyIn_ready (rs := [2]) (by kernel_rfl) (by simp) (AllReadyIn.cons rfl (fun K hK => ?_) AllReadyIn.nil)
          go_simp
          refine hK _ _ ?_
          clear hK K
          refine wpAnyIn_ready (rs := [3]) (by kernel_rfl) (by simp) (AllReadyIn.cons rfl (fun K hK => ?_) AllReadyIn.nil)
          go_simp
          refine hK _ _ ?_
          clear hK K
          refine wpAnyIn_take (i := 4) (v := .int .i64 (wrap64 (c1 - 1))) rfl rfl (by kernel_rfl) (by kernel_rfl) (by kernel_rfl) (fun _ _ _ h => h) ⟨Or.inl ⟨by rfl, fun _ => by go_simp⟩, fun _ => rfl⟩ ?_
          go_simp
          exact key
      refine wpAnyIn_ready (rs := [6]) (by kernel_rfl) (by simp) (AllReadyIn.cons rfl (fun K hK => ?_) AllReadyIn.nil)
      go_simp
      gi_wp2_with (first | (refine ⟨wide_depth, ?_⟩; refine (round_any hR0).mono ?_; rintro e W2 ⟨rfl, hx, hx2⟩))
      clear hR0 hy
      cases hgo : go (pre ++ done) (wrap64 (c1 - 1), rd_T64 l i) with
      | false =>
        clear hx
        replace hx2 := hx2 hgo
        refine wpAnyIn_take (i := 7) (v := .bool true) rfl rfl (by kernel_rfl) (by kernel_rfl) (by kernel_rfl) (fun _ _ _ h => h) ⟨Or.inl ⟨by rfl, fun _ => by go_simp⟩, fun _ => rfl⟩ ?_
        go_simp
        refine wpAnyIn_take (i := 8) (v := .bool true) rfl rfl (by kernel_rfl) (by kernel_rfl) (by kernel_rfl) (fun _ _ _ h => h) ⟨Or.inl ⟨by rfl, fun _ => by go_simp⟩, fun _ => rfl⟩ ?_
        go_simp
        refine wpAnyIn_take (i := 9) (v := undef) rfl rfl (by kernel_rfl) (by kernel_rfl) (by kernel_rfl) (fun _ _ _ h => h) ⟨Or.inr ⟨by rfl, rfl⟩, fun _ => rfl⟩ ?_
        go_simp
        refine wpAnyIn_take (i := 10) (v := undef) rfl rfl (by kernel_rfl) (by kernel_rfl) (by kernel_rfl) (fun _ _ _ h => h) ⟨Or.inr ⟨by rfl, rfl⟩, fun _ => rfl⟩ ?_
        go_simp
        refine wpAnyIn_take (i := 11) (v := undef) rfl rfl (by kernel_rfl) (by kernel_rfl) (by kernel_rfl) (fun _ _ _ h => h) ⟨Or.inr ⟨by rfl, rfl⟩, fun _ => rfl⟩ ?_
        go_simp
        refine wpAnyIn_take (i := 12) (v := undef) rfl rfl (by kernel_rfl) (by kernel_rfl) (by kernel_rfl) (fun _ _ _ h => h) ⟨Or.inr ⟨by rfl, rfl⟩, fun _ => rfl⟩ ?_
        go_simp
        refine wpAnyIn_ready (rs := [13]) (by kernel_rfl) (by simp) (AllReadyIn.cons rfl (fun K hK => ?_) AllReadyIn.nil)
        go_simp
        refine ⟨trivial, ?_⟩
        refine hK _ _ ?_
        clear hK K
        refine wpAnyIn_take (i := 14) (v := undef) rfl rfl (by kernel_rfl) (by kernel_rfl) (by kernel_rfl) (fun _ _ _ h => h) ⟨Or.inr ⟨by rfl, rfl⟩, fun _ => rfl⟩ ?_
        go_simp
        refine wpAnyIn_take (i := 15) (v := .bool true) rfl rfl (by kernel_rfl) (by kernel_rfl) (by kernel_rfl) (fun _ _ _ h => h) ⟨Or.inl ⟨by rfl, fun _ => by go_simp⟩, fun _ => rfl⟩ ?_
        go_simp
        refine wpAnyIn_take (i := 16) (v := .bool true) rfl rfl (by kernel_rfl) (by kernel_rfl) (by kernel_rfl) (fun _ _ _ h => h) ⟨Or.inl ⟨by rfl, fun _ => by go_simp⟩, fun _ => rfl⟩ ?_
        go_simp
        refine wpAnyIn_take (i := 17) (v := undef) rfl rfl (by kernel_rfl) (by kernel_rfl) (by kernel_rfl) (fun _ _ _ h => h) ⟨Or.inr ⟨by rfl, rfl⟩, fun _ => rfl⟩ ?_
        go_simp
        refine wpAnyIn_take (i := 18) (v := undef) rfl rfl (by kernel_rfl) (by kernel_rfl) (by kernel_rfl) (fun _ _ _ h => h) ⟨Or.inr ⟨by rfl, rfl⟩, fun _ => rfl⟩ ?_
        go_simp
        refine wpAnyIn_take (i := 19) (v := undef) rfl rfl (by kernel_rfl) (by kernel_rfl) (by kernel_rfl) (fun _ _ _ h => h) ⟨Or.inr ⟨by rfl, rfl⟩, fun _ => rfl⟩ ?_
        go_simp
        refine wpAnyIn_take (i := 20) (v := undef) rfl rfl (by kernel_rfl) (by kernel_rfl) (by kernel_rfl) (fun _ _ _ h => h) ⟨Or.inr ⟨by rfl, rfl⟩, fun _ => rfl⟩ ?_
        go_simp
        refine wpAnyIn_ready (rs := [21]) (by kernel_rfl) (by simp) (AllReadyIn.cons rfl (fun K hK => ?_) AllReadyIn.nil)
        go_simp
        refine ⟨trivial, ?_⟩
        refine hK _ _ ?_
        clear hK K
        refine wpAnyIn_take (i := 22) (v := undef) rfl rfl (by kernel_rfl) (by kernel_rfl) (by kernel_rfl) (fun _ _ _ h => h) ⟨Or.inr ⟨by rfl, rfl⟩, fun _ => rfl⟩ ?_
        go_simp
        refine wpAnyIn_take (i := 23) (v := .bool true) rfl rfl (by kernel_rfl) (by kernel_rfl) (by kernel_rfl) (fun _ _ _ h => h) ⟨Or.inl ⟨by rfl, fun _ => by go_simp⟩, fun _ => rfl⟩ ?_
        go_simp
        refine wpAnyIn_done (by kernel_rfl) ?_ _
        gi_wp2
        go_ret
        refine .inr ⟨done ++ [(wrap64 (c1 - 1), rd_T64 l i)], ?_, rfl, by simpa using hx2⟩
        rw [HE.out, ← RE.out, stopAt_over HS.out, stopAt, if_neg (by simp [hgo])]
        rfl
      | true =>
        clear hx2
        obtain ⟨j2, k2, b2'⟩ := hx hgo
        clear hx
        have BG2 : W2.heap[G]? = some (.cells #[.int .i64 c1] 3 (0, 0)) := (k2.block G HGB.out (blk_lt BGW.out) (by simp)).trans BGW.out
        have BS2 := (k2.block wr.heap.size hWB hszW (by simp)).trans BSW.out
        have K2 := Aside0.mk k2
        have J2 := Aside0.mk j2
        have B2' := Aside0.mk b2'
        have G2 := Aside0.mk BG2
        have S2 := Aside0.mk BS2
        obtain ⟨s0, s1, s2, s3, s4⟩ := cells5 BS2
        clear j2 k2 b2' BG2 BS2
        refine wpAnyIn_take (i := 7) (v := .bool false) rfl rfl (by kernel_rfl) (by kernel_rfl) (by kernel_rfl) (fun _ _ _ h => h) ⟨Or.inl ⟨by rfl, fun _ => by go_simp⟩, fun _ => rfl⟩ ?_
        go_simp
        refine wpAnyIn_take (i := 8) (v := .bool false) rfl rfl (by kernel_rfl) (by kernel_rfl) (by kernel_rfl) (fun _ _ _ h => h) ⟨Or.inl ⟨by rfl, fun _ => by go_simp⟩, fun _ => rfl⟩ ?_
        go_simp
        refine wpAnyIn_take (i := 9) (v := .pointer (some ⟨wr.heap.size, 3, none⟩)) rfl rfl (by kernel_rfl) (by kernel_rfl) (by kernel_rfl) (fun _ _ _ h => h) ⟨Or.inl ⟨by rfl, fun _ => by go_simp⟩, fun _ => rfl⟩ ?_
        go_simp
        refine wpAnyIn_take (i := 11) (v := .pointer (some ⟨G, 0, none⟩)) rfl rfl (by kernel_rfl) (by kernel_rfl) (by kernel_rfl) (fun _ _ _ h => h) ⟨Or.inl ⟨by rfl, fun _ => by go_simp⟩, fun _ => rfl⟩ ?_
        go_simp
        refine wpAnyIn_take (i := 12) (v := .func (.yield rl) #[] #[]) rfl rfl (by kernel_rfl) (by kernel_rfl) (by kernel_rfl) (fun _ _ _ h => h) ⟨Or.inl ⟨by rfl, fun _ => by go_simp⟩, fun _ => rfl⟩ ?_
        go_simp
        refine wpAnyIn_ready (rs := [10]) (by kernel_rfl) (by simp) (AllReadyIn.cons rfl (fun K hK => ?_) AllReadyIn.nil)
        go_simp
        refine hK _ _ ?_
        clear hK K
        refine wpAnyIn_ready (rs := [13]) (by kernel_rfl) (by simp) (AllReadyIn.cons rfl (fun K hK => ?_) AllReadyIn.nil)
        go_simp
        refine ⟨trivial, wide_depth, ?_⟩
        refine (calls_any (m' := m - 1) (ih'.out k1 (by have := HK.out; omega) (rd_T64 l i).f3 c1 ti tn (pre ++ done ++ [(wrap64 (c1 - 1), rd_T64 l i)]) W2 G _ _ TT.out QR3.out QL3.out B2'.out G2.out HGB.out J2.out ?pf)).mono ?_
        case pf =>
          refine List.IsPrefix.trans ?_ HALL.out
          rw [HE.out, ← RE.out]
          exact ⟨ei ++ ri, by simp⟩
        rintro e W3 hw3
        cases hst : stopAt go (pre ++ done ++ [(wrap64 (c1 - 1), rd_T64 l i)]) ti with
        | some q =>
          obtain ⟨h0, _⟩ | ⟨q', h0, rfl, hx2⟩ := hw3
          · exact absurd (h0.symm.trans hst) (by simp)
          cases (h0.symm.trans hst)
          refine hK _ _ ?_
          clear hK K
          refine wpAnyIn_take (i := 14) (v := .bool true) rfl rfl (by kernel_rfl) (by kernel_rfl) (by kernel_rfl) (fun _ _ _ h => h) ⟨Or.inl ⟨by rfl, fun _ => by go_simp⟩, fun _ => rfl⟩ ?_
          go_simp
          refine wpAnyIn_take (i := 15) (v := .bool true) rfl rfl (by kernel_rfl) (by kernel_rfl) (by kernel_rfl) (fun _ _ _ h => h) ⟨Or.inl ⟨by rfl, fun _ => by go_simp⟩, fun _ => rfl⟩ ?_
          go_simp
          refine wpAnyIn_take (i := 16) (v := .bool true) rfl rfl (by kernel_rfl) (by kernel_rfl) (by kernel_rfl) (fun _ _ _ h => h) ⟨Or.inl ⟨by rfl, fun _ => by go_simp⟩, fun _ => rfl⟩ ?_
          go_simp
          refine wpAnyIn_take (i := 17) (v := undef) rfl rfl (by kernel_rfl) (by kernel_rfl) (by kernel_rfl) (fun _ _ _ h => h) ⟨Or.inr ⟨by rfl, rfl⟩, fun _ => rfl⟩ ?_
          go_simp
          refine wpAnyIn_take (i := 18) (v := undef) rfl rfl (by kernel_rfl) (by kernel_rfl) (by kernel_rfl) (fun _ _ _ h => h) ⟨Or.inr ⟨by rfl, rfl⟩, fun _ => rfl⟩ ?_
          go_simp
          refine wpAnyIn_take (i := 19) (v := undef) rfl rfl (by kernel_rfl) (by kernel_rfl) (by kernel_rfl) (fun _ _ _ h => h) ⟨Or.inr ⟨by rfl, rfl⟩, fun _ => rfl⟩ ?_
          go_simp
          refine wpAnyIn_take (i := 20) (v := undef) rfl rfl (by kernel_rfl) (by kernel_rfl) (by kernel_rfl) (fun _ _ _ h => h) ⟨Or.inr ⟨by rfl, rfl⟩, fun _ => rfl⟩ ?_
          go_simp
          refine wpAnyIn_ready (rs := [21]) (by kernel_rfl) (by simp) (AllReadyIn.cons rfl (fun K hK => ?_) AllReadyIn.nil)
          go_simp
          refine ⟨trivial, ?_⟩
          refine hK _ _ ?_
          clear hK K
          refine wpAnyIn_take (i := 22) (v := undef) rfl rfl (by kernel_rfl) (by kernel_rfl) (by kernel_rfl) (fun _ _ _ h => h) ⟨Or.inr ⟨by rfl, rfl⟩, fun _ => rfl⟩ ?_
          go_simp
          refine wpAnyIn_take (i := 23) (v := .bool true) rfl rfl (by kernel_rfl) (by kernel_rfl) (by kernel_rfl) (fun _ _ _ h => h) ⟨Or.inl ⟨by rfl, fun _ => by go_simp⟩, fun _ => rfl⟩ ?_
          go_simp
          refine wpAnyIn_done (by kernel_rfl) ?_ _
          gi_wp2
          go_ret
          refine .inr ⟨done ++ [(wrap64 (c1 - 1), rd_T64 l i)] ++ q, ?_, rfl, by simpa using hx2⟩
          rw [HE.out, ← RE.out, stopAt_over HS.out, stopAt_one hgo, stopAt_in hst]
          simp
        | none =>
          obtain ⟨_, rfl, j3, g3, k3, b3'⟩ | ⟨q', h0, _, _⟩ := hw3
          rotate_left
          · exact absurd (h0.symm.trans hst) (by simp)
          have BS3 := (k3.block wr.heap.size hWB (blk_lt S2.out) (by intro e; injection e with e; omega)).trans S2.out
          have K3 := Aside0.mk k3
          have J3 := Aside0.mk j3
          have B3' := Aside0.mk b3'
          have G3 := Aside0.mk g3
          have S3 := Aside0.mk BS3
          clear s0 s1 s2 s3 s4
          obtain ⟨s0, s1, s2, s3, s4⟩ := cells5 BS3
          clear j3 k3 b3' g3 BS3
          refine hK _ _ ?_
          clear hK K
          refine wpAnyIn_take (i := 14) (v := .bool false) rfl rfl (by kernel_rfl) (by kernel_rfl) (by kernel_rfl) (fun _ _ _ h => h) ⟨Or.inl ⟨by rfl, fun _ => by go_simp⟩, fun _ => rfl⟩ ?_
          go_simp
          refine wpAnyIn_take (i := 15) (v := .bool false) rfl rfl (by kernel_rfl) (by kernel_rfl) (by kernel_rfl) (fun _ _ _ h => h) ⟨Or.inl ⟨by rfl, fun _ => by go_simp⟩, fun _ => rfl⟩ ?_
          go_simp
          refine wpAnyIn_take (i := 16) (v := .bool false) rfl rfl (by kernel_rfl) (by kernel_rfl) (by kernel_rfl) (fun _ _ _ h => h) ⟨Or.inl ⟨by rfl, fun _ => by go_simp⟩, fun _ => rfl⟩ ?_
          go_simp
          refine wpAnyIn_take (i := 17) (v := .pointer (some ⟨wr.heap.size, 4, none⟩)) rfl rfl (by kernel_rfl) (by kernel_rfl) (by kernel_rfl) (fun _ _ _ h => h) ⟨Or.inl ⟨by rfl, fun _ => by go_simp⟩, fun _ => rfl⟩ ?_
          go_simp
          refine wpAnyIn_take (i := 19) (v := .pointer (some ⟨G, 0, none⟩)) rfl rfl (by kernel_rfl) (by kernel_rfl) (by kernel_rfl) (fun _ _ _ h => h) ⟨Or.inl ⟨by rfl, fun _ => by go_simp⟩, fun _ => rfl⟩ ?_
          go_simp
          refine wpAnyIn_take (i := 20) (v := .func (.yield rl) #[] #[]) rfl rfl (by kernel_rfl) (by kernel_rfl) (by kernel_rfl) (fun _ _ _ h => h) ⟨Or.inl ⟨by rfl, fun _ => by go_simp⟩, fun _ => rfl⟩ ?_
          go_simp
          refine wpAnyIn_ready (rs := [18]) (by kernel_rfl) (by simp) (AllReadyIn.cons rfl (fun K hK => ?_) AllReadyIn.nil)
          go_simp
          refine hK _ _ ?_
          clear hK K
          refine wpAnyIn_ready (rs := [21]) (by kernel_rfl) (by simp) (AllReadyIn.cons rfl (fun K hK => ?_) AllReadyIn.nil)
          go_simp
          refine ⟨trivial, wide_depth, ?_⟩
          refine (calls_any (m' := m - 1) (ih'.out k1 (by have := HK.out; omega) (rd_T64 l i).f4 tn ei en ((pre ++ done ++ [(wrap64 (c1 - 1), rd_T64 l i)]) ++ ti) W3 G _ _ EE.out QR4.out QL4.out B3'.out G3.out HGB.out J3.out ?pf)).mono ?_
          case pf =>
            refine List.IsPrefix.trans ?_ HALL.out
            rw [HE.out, ← RE.out]
            exact ⟨ri, by simp⟩
          rintro e W4 hw4
          cases hst2 : stopAt go ((pre ++ done ++ [(wrap64 (c1 - 1), rd_T64 l i)]) ++ ti) ei with
          | some q =>
            obtain ⟨h0, _⟩ | ⟨q', h0, rfl, hx2⟩ := hw4
            · exact absurd (h0.symm.trans hst2) (by simp)
            cases (h0.symm.trans hst2)
            refine hK _ _ ?_
            clear hK K
            refine wpAnyIn_take (i := 22) (v := .bool true) rfl rfl (by kernel_rfl) (by kernel_rfl) (by kernel_rfl) (fun _ _ _ h => h) ⟨Or.inl ⟨by rfl, fun _ => by go_simp⟩, fun _ => rfl⟩ ?_
            go_simp
            refine wpAnyIn_take (i := 23) (v := .bool true) rfl rfl (by kernel_rfl) (by kernel_rfl) (by kernel_rfl) (fun _ _ _ h => h) ⟨Or.inl ⟨by rfl, fun _ => by go_simp⟩, fun _ => rfl⟩ ?_
            go_simp
            refine wpAnyIn_done (by kernel_rfl) ?_ _
            gi_wp2
            go_ret
            refine .inr ⟨done ++ [(wrap64 (c1 - 1), rd_T64 l i)] ++ ti ++ q, ?_, rfl, by simpa using hx2⟩
            rw [HE.out, ← RE.out, stopAt_over HS.out, stopAt_one hgo, stopAt_over hst, stopAt_in hst2]
            simp
          | none =>
            obtain ⟨_, rfl, j4, g4, k4, b4'⟩ | ⟨q', h0, _, _⟩ := hw4
            rotate_left
            · exact absurd (h0.symm.trans hst2) (by simp)
            clear s0 s1 s2 s3 s4
            refine hK _ _ ?_
            clear hK K
            refine wpAnyIn_take (i := 22) (v := .bool false) rfl rfl (by kernel_rfl) (by kernel_rfl) (by kernel_rfl) (fun _ _ _ h => h) ⟨Or.inl ⟨by rfl, fun _ => by go_simp⟩, fun _ => rfl⟩ ?_
            go_simp
            refine wpAnyIn_take (i := 23) (v := .bool false) rfl rfl (by kernel_rfl) (by kernel_rfl) (by kernel_rfl) (fun _ _ _ h => h) ⟨Or.inl ⟨by rfl, fun _ => by go_simp⟩, fun _ => rfl⟩ ?_
            go_simp
            refine wpAnyIn_done (by kernel_rfl) ?_ _
            gi_wp2
            have hw : wrap64 (i + 1) = i + 1 := IntWalk.wrap64_in _ ⟨by omega, by omega⟩
            have hrr := RR.out
            rw [hw] at hrr
            refine ⟨⟨k1, i + 1, en, done ++ ((wrap64 (c1 - 1), rd_T64 l i) :: (ti ++ ei)), ri, rfl, ⟨by omega⟩, ⟨hrr⟩, ⟨by have := HK.out; omega⟩, ⟨by rw [HE.out, ← RE.out]; simp⟩, ⟨?_⟩, ⟨by simpa using j4⟩, ⟨g4⟩, ⟨?_⟩, ⟨b4'⟩⟩, ?_⟩
            · rw [stopAt_over HS.out, stopAt_one hgo, stopAt_over hst, hst2]
              rfl
            · exact KW.out.trans ((Keeps.some (g := some G) (show Keeps Bj none W1 W2 from ⟨K2.out.size, K2.out.block⟩)).trans (K3.out.trans k4))
            · have e1 : intOf (Value.int IntKind.i64 (i + 1)) = i + 1 := rfl
              have e2 : intOf (Value.int IntKind.i64 i) = i := rfl
              rw [e1, e2]
              omega
end Go.Proofs.Ytilebfkehmecaaa.Print
namespace Go.Proofs.Ytilebfkehmecaaa.Print
open Go.RowKit Go.Proofs.YtilebfkehmecaaaW.PrintWords Go.Proofs.YtilebfkehmecaaaW.PrintLast Go.Proofs.YtilebfkehmecaaaW.PrintMore
attribute [local go_sem] max2_int min2_int max_two min_two max_three min_three max_four min_four
set_option linter.unusedVariables false
set_option linter.unusedSimpArgs false
mutual
def wkS (n : Int) : S64 → List (Int × S64)
  | ⟨op, m, a, t, e⟩ => (n, ⟨op, m, a, t, e⟩) :: (wks (n + 1) t ++ wks (n + 1 + sCs t) e)
def wks (n : Int) : List S64 → List (Int × S64)
  | [] => []
  | x :: r => wkS n x ++ wks (n + sC x) r
end
theorem wkS_eq (n : Int) (x : S64) : wkS n x = (n, x) :: (wks (n + 1) x.f3 ++ wks (n + 1 + sCs x.f3) x.f4) := by cases x; simp only [wkS]
theorem wks_nil (n : Int) : wks n [] = [] := by simp only [wks]
theorem wks_cons (n : Int) (x : S64) (r : List S64) : wks n (x :: r) = wkS n x ++ wks (n + sC x) r := by simp only [wks]
theorem walk_tells : (∀ x, goodS x → ∀ n : Int, 0 ≤ n → n + sC x ≤ 1000000 → Tells (fun k => prog_walk.f k x.f3 (n + 1)) (wks (n + 1) x.f3, n + 1 + sCs x.f3) ∧ Tells (fun k => prog_walk.f k x.f4 (n + 1 + sCs x.f3)) (wks (n + 1 + sCs x.f3) x.f4, n + 1 + sCs x.f3 + sCs x.f4)) ∧
    (∀ suf, ∀ (pre : List S64), goodSs suf → (pre ++ suf).length ≤ 9223372036854775807 → ∀ n : Int, 0 ≤ n → n + sCs suf ≤ 1000000 → Tells (fun k => prog_walk.l0 k (pre ++ suf) (pre.length : Int) n) (wks n suf, n + sCs suf)) := by
  refine S_ind (fun a b l t e h1 h2 => ?_) ?_ (fun x r ih1 ih2 => ?_)
  · intro hg n h0 hn
    rw [goodS_mk] at hg
    rw [sC_eq] at hn
    simp only at hn ⊢
    constructor
    · refine Tells.succ ?_
      simp only [prog_walk.f]
      exact h1 [] hg.2.1.2 hg.2.1.1 (n + 1) (by omega) (by omega)
    · refine Tells.succ ?_
      simp only [prog_walk.f]
      exact h2 [] hg.2.2.2 hg.2.2.1 (n + 1 + sCs t) (by omega) (by omega)
  · intro pre _ _ n _ _
    refine Tells.succ ?_
    simp only [prog_walk.l0, pre_nlt, if_false]
    rw [sCs_nil, wks_nil, show n + ((0 : Nat) : Int) = n by omega]
    exact Tells.pure _
  · intro pre hg hl n h0 hn
    rw [goodSs_cons] at hg
    rw [sCs_cons] at hn
    obtain ⟨t1, t2⟩ := ih1 hg.1 n h0 (by omega)
    have t3 := ih2 (pre ++ [x]) hg.2 (by rw [← pre_app]; exact hl) (n + sC x) (by omega) (by omega)
    rw [← pre_app] at t3
    have e : (sC x : Int) = 1 + sCs x.f3 + sCs x.f4 := by rw [sC_eq]; omega
    have hb := sC_eq x
    refine Tells.succ ?_
    simp only [prog_walk.l0, pre_lt, pre_pos, if_true, rdS_mid]
    rw [pre_next pre x r hl, w64 (n := n + 1) (by omega) (by omega), show n + 1 - 1 = n by omega, w64 (n := n) (by omega) (by omega)]
    rw [show n + ((sCs (x :: r) : Nat) : Int) = n + sC x + sCs r by rw [sCs_cons]; omega, wks_cons, wkS_eq, List.cons_append, List.append_assoc]
    refine Tells.bind t1 (Tells.bind t2 ?_)
    rw [show n + 1 + (sCs x.f3 : Int) + (sCs x.f4 : Int) = n + sC x by omega]
    exact Tells.bind t3 (Tells.pure _)
end Go.Proofs.Ytilebfkehmecaaa.Print
namespace Go.Proofs.Ytilebfkehmecaaa.Print
open Go.RowKit Go.Proofs.YtilebfkehmecaaaW.PrintWords Go.Proofs.YtilebfkehmecaaaW.PrintLast Go.Proofs.YtilebfkehmecaaaW.PrintMore
attribute [local go_sem] max2_int min2_int max_two min_two max_three min_three max_four min_four
set_option linter.unusedVariables false
set_option linter.unusedSimpArgs false
open Go.Shelf Go.RowKit
def SeqBy {α : Type} (P : Program) (gf : Nat) (lb : Array Value) (E : α → Array Value → Prop) (its : List α) (w0 : World) : Prop :=
  ∀ (m l : Nat) (J Jx : List α → World → Prop) (go : List α → α → Bool) (W : World), Below w0.heap.size w0 W →
    (∀ pre A B, J pre A → Below W.heap.size A B → J pre B) →
    (∀ pre x av A, J pre A → E x av → Below w0.heap.size w0 A → W.heap.size ≤ A.heap.size → (pre ++ [x]) <+: its → YieldAt Fence.wide m P l av A fun e B =>
      e = .returned (.bool (go pre x)) ∧ (go pre x = true → J (pre ++ [x]) B ∧ Keeps W.heap.size none A B ∧ Below w0.heap.size w0 B) ∧ (go pre x = false → Jx (pre ++ [x]) B)) →
    J [] W →
    CallsIn Fence.wide m P gf (#[.func (.yield l) #[] #[]] ++ lb) W fun e W' => (∃ v, e = .returned v) ∧
      ((stopAt go [] its = none ∧ J its W' ∧ Below w0.heap.size w0 W') ∨ (∃ q, stopAt go [] its = some q ∧ Jx q W'))
def roundBy {α : Type} (S0 : Nat) (w0 : World) (I : List α → World → Prop) (Ix : Code → List α → World → Prop) (go : List α → α → Bool) (pre : List α) (x : α) (W W2 : World) : Exit → Act → World → Prop
  | .normal, _, W3 => go pre x = true ∧ W2.heap.size ≤ W3.heap.size ∧ (∀ k, S0 ≤ k → k < W.heap.size → W3.heap[k]? = W2.heap[k]?) ∧ Below w0.heap.size w0 W3 ∧ I (pre ++ [x]) W3
  | .ret, _, W3 => go pre x = false ∧ (∀ k, S0 ≤ k → k < W.heap.size → W3.heap[k]? = W2.heap[k]?) ∧ Ix .ret (pre ++ [x]) W3
  | .exit id, _, W3 => go pre x = false ∧ (∀ k, S0 ≤ k → k < W.heap.size → W3.heap[k]? = W2.heap[k]?) ∧ Ix (.exit id) (pre ++ [x]) W3
  | _, _, _ => False
theorem below_put (B : Nat) (W : World) {l : Nat} (o : Obj) (h : B ≤ l) : Below B W (W.putObj l o) := by
  have g := grownBy_putObj' W l o
  refine ⟨g.os, g.tape, g.output, g.size, fun k hk => ?_⟩
  exact World.putObj_heap_other (by omega)
theorem wpIn_rangeBy {α : Type} {n : Nat} {P : Program} {g : Operand} {ps : Array Tmp} {assign body : Code} {Q : Exit → Act → World → Prop} {a : Act} {w : World} {gf : Nat} {lb : Array Value}
    (hg : a.eval g = .func (.func gf) #[] lb) (eg : ∀ args w, (callFunc gf args).run P w = .ok (.enter gf args) w)
    {E : α → Array Value → Prop} {its : List α} {w0 : World} (hseq : SeqBy P gf lb E its w0) (hb0 : Below w0.heap.size w0 w) (hps : ∀ x av, E x av → av.size = ps.size)
    (go : List α → α → Bool) (I : List α → World → Prop) (Ix : Code → List α → World → Prop)
    (hI : ∀ pre A B, I pre A → Below w.heap.size A B → I pre B) (hIx : ∀ c pre A (j : Nat) (o o' : Obj), w.heap.size ≤ j → Ix c pre A → A.heap[j]? = some o → o.isCells = false → Ix c pre (A.putObj j o')) (h0 : I [] w)
    (hround : ∀ l pre x av W, I pre W → E x av → (pre ++ [x]) <+: its → Below w0.heap.size w0 W → w.heap.size + 2 ≤ W.heap.size →
      assign.wpIn (Fence.wide.inRound l) n P (Exit.then (fun a1 W1 => W.grownBy W1 none ∧ ∀ W2, W1.grownBy W2 (some (w.heap.size + 1)) → W2.heap.size = W1.heap.size → I pre W2 → Below w0.heap.size w0 W2 →
        body.wpIn (Fence.wide.inRound l) n P (roundBy w.heap.size w0 I Ix go pre x W W2) a1 W2) (fun _ _ _ => False)) { tmps := (ps.zip av).foldl (fun t (p, v) => t.setIfInBounds p v) a.tmps, defers := [] } W)
    (hdone : ∀ W, stopAt go [] its = none → I its W → Below w0.heap.size w0 W → W.heap[w.heap.size]? = some (.deferred (some [])) → Q .normal { a with defers := { target := .collected w.heap.size, args := #[] } :: a.defers } W)
    (hstop : ∀ c q W, stopAt go [] its = some q → Ix c q W → W.heap[w.heap.size]? = some (.deferred (some [])) → c.wpIn Fence.wide n P Q { a with defers := { target := .collected w.heap.size, args := #[] } :: a.defers } W) :
    (Code.rangeFunc g ps assign body).wpIn Fence.wide n P Q a w := by
  refine wpIn_rangeFunc ?_
  intro fn hfn
  obtain ⟨rec, hrec⟩ : ∃ rec : LoopState → Option Code → Loop, rec = fun st pe => { state := st, pending := pe, fn, tmps := a.tmps, params := ps, assign, body, defers := w.heap.size } := ⟨_, rfl⟩
  obtain ⟨W1, hW1⟩ : ∃ W1, (w.alloc (.deferred (some []))).alloc (.loop (rec .ready none)) = W1 := ⟨_, rfl⟩
  have hL1 : W1.heap[w.heap.size + 1]? = some (.loop (rec .ready none)) := by
    rw [← hW1]; have := World.alloc_heap_new (w.alloc (.deferred (some []))) (.loop (rec .ready none)); rwa [World.size_alloc] at this
  have hK1 : W1.heap[w.heap.size]? = some (.deferred (some [])) := by
    rw [← hW1]; exact (Below.heap_alloc _ _ _ (by simp)).trans (World.alloc_heap_new w _)
  have hS1 : W1.heap.size = w.heap.size + 2 := by rw [← hW1]; simp
  have hw1 : Below w.heap.size w W1 := by
    rw [← hW1]; exact ((Below.refl _ w).alloc (Nat.le_refl _) _).alloc (by simp) _
  have hI1 : I [] W1 := hI _ _ _ h0 hw1
  have hb1 : Below w0.heap.size w0 W1 := hb0.trans (hw1.mono hb0.size)
  have hB0 : w0.heap.size ≤ w.heap.size := hb0.size
  refine ⟨w.heap.size + 1, [{ target := .collected w.heap.size, args := #[] }], W1, { target := .fn (.func gf) lb, args := #[.func (.yield (w.heap.size + 1)) #[] #[]] }, W1, gf,
    #[.func (.yield (w.heap.size + 1)) #[] #[]] ++ lb, W1, ?_, ?_, ?_, ?_, wide_depth, ?_⟩
  · rw [← hW1, hrec]; exact run_enterLoop_outer _ _ _ _ _
  · simp only [resolve, hg]
    simp [go_sem]
  · intro f' hf'; trivial
  · simp [invoke, go_sem, eg]
  refine (hseq (n - 1) (w.heap.size + 1)
    (fun pre W => I pre W ∧ W.heap[w.heap.size + 1]? = some (.loop (rec .ready none)) ∧ W.heap[w.heap.size]? = some (.deferred (some [])))
    (fun pre W => ∃ c, Ix c pre W ∧ W.heap[w.heap.size + 1]? = some (.loop (rec .done (some c))) ∧ W.heap[w.heap.size]? = some (.deferred (some [])))
    go W1 hb1
    (fun pre A B hs hb => ⟨hI _ _ _ hs.1 (hb.mono (by omega)), (hb.block _ (by omega)).trans hs.2.1, (hb.block _ (by omega)).trans hs.2.2⟩)
    ?_ ⟨hI1, hL1, hK1⟩).mono ?_
  · rintro pre x av W ⟨hi, hl, hk⟩ hE hbW hsz hpre
    have hlt : w.heap.size + 1 < W.heap.size := (Array.getElem?_eq_some_iff.1 hl).1
    have hy := run_yield (P := P) (args := av) hl (by rw [hrec]; exact hps x av hE)
    rw [hrec] at hy
    refine ⟨fn, _, assign, body, hy, round_any (roundIn_of_wpIn (n := n) trivial ?_)⟩
    refine wpIn_mono (hround (w.heap.size + 1) pre x av W hi hE hpre hbW (by omega)) ?_
    rintro e a1 Wa hp
    cases e with
    | normal =>
      obtain ⟨hga, hbd⟩ := hp
      have hla := (hga.block _ hlt (by simp)).trans hl
      have hka := (hga.block _ (by omega : w.heap.size < W.heap.size) (by simp)).trans hk
      have hgs := hga.size
      have hlta : w.heap.size + 1 < Wa.heap.size := by omega
      refine ⟨_, run_beginRound hla (by rw [hrec]), ?_⟩
      have hg2 := grownBy_putObj' Wa (w.heap.size + 1) (.loop { rec .ready none with state := .busy })
      have hl2 : (Wa.putObj (w.heap.size + 1) (.loop { rec .ready none with state := .busy })).heap[w.heap.size + 1]? = some (.loop { rec .ready none with state := .busy }) := World.putObj_heap_same hlta
      have hk2 : (Wa.putObj (w.heap.size + 1) (.loop { rec .ready none with state := .busy })).heap[w.heap.size]? = some (.deferred (some [])) := (World.putObj_heap_other (by omega)).trans hka
      have hs2 : (Wa.putObj (w.heap.size + 1) (.loop { rec .ready none with state := .busy })).heap.size = Wa.heap.size := by simp
      have hba : Below w.heap.size W Wa := ⟨hga.os, hga.tape, hga.output, hga.size, fun k hk => hga.block k (by omega) (by simp)⟩
      have hb2 : Below w.heap.size W (Wa.putObj (w.heap.size + 1) (.loop { rec .ready none with state := .busy })) := hba.trans (below_put _ _ _ (by omega))
      generalize Wa.putObj (w.heap.size + 1) (.loop { rec .ready none with state := .busy }) = W2 at hg2 hl2 hk2 hs2 hb2 ⊢
      refine wpIn_mono (hbd W2 hg2 hs2 (hI _ _ _ hi hb2) (hbW.trans (hb2.mono hB0))) ?_
      have fin : ∀ (jump : Option Code) (W3 : World), (∀ k, w.heap.size ≤ k → k < W.heap.size → W3.heap[k]? = W2.heap[k]?) →
          (Instr.endRound (w.heap.size + 1) jump).run P W3 = .ok (.bool jump.isNone) (W3.putObj (w.heap.size + 1) (.loop (rec (if jump.isNone then .ready else .done) jump))) ∧
          (W3.putObj (w.heap.size + 1) (.loop (rec (if jump.isNone then .ready else .done) jump))).heap[w.heap.size + 1]? = some (.loop (rec (if jump.isNone then .ready else .done) jump)) ∧
          (W3.putObj (w.heap.size + 1) (.loop (rec (if jump.isNone then .ready else .done) jump))).heap[w.heap.size]? = some (.deferred (some [])) ∧ W3.heap[w.heap.size + 1]? = some (.loop { rec .ready none with state := .busy }) := fun jump W3 hk3 => by
        have hl3 := (hk3 _ (by omega) hlt).trans hl2
        have := run_endRound (P := P) jump hl3
        rw [hrec] at this ⊢
        exact ⟨this, World.putObj_heap_same (Array.getElem?_eq_some_iff.1 hl3).1, (World.putObj_heap_other (by omega)).trans ((hk3 _ (Nat.le_refl _) (by omega)).trans hk2), by rw [hrec] at hl3; exact hl3⟩
      rintro e3 a3 W3 hq
      cases e3 with
      | normal =>
        obtain ⟨hgo, hsz3, hk3, hb3, hi3⟩ := hq
        obtain ⟨hr, hl4, hk4, hl3⟩ := fin none W3 hk3
        have hp3 := below_put w.heap.size W3 (.loop (rec .ready none)) (by omega : w.heap.size ≤ w.heap.size + 1)
        have hg3 := grownBy_putObj' W3 (w.heap.size + 1) (.loop (rec .ready none))
        refine ⟨_, _, hr, by rw [hgo]; rfl, fun _ => ⟨⟨hI _ _ _ hi3 hp3, hl4, hk4⟩, ⟨?_, ?_⟩, hb3.trans (hp3.mono hB0)⟩, fun h => by rw [hgo] at h; cases h⟩
        · have := hg3.size; simp only [Option.isNone_none, if_true]; omega
        · intro k h1 h2 _
          simp only [Option.isNone_none, if_true]
          rw [World.putObj_heap_other (by omega), hk3 k (by omega) h2, hg2.block k (by omega) (by intro e; injection e with e; omega)]
          exact hga.block k h2 (by simp)
      | ret =>
        obtain ⟨hgo, hk3, hi3⟩ := hq
        obtain ⟨hr, hl4, hk4, hl3⟩ := fin (some .ret) W3 hk3
        exact ⟨_, _, hr, by rw [hgo]; rfl, fun h => (by rw [hgo] at h; cases h), fun _ => ⟨.ret, hIx _ _ _ _ _ _ (by omega) hi3 hl3 rfl, hl4, hk4⟩⟩
      | exit id =>
        obtain ⟨hgo, hk3, hi3⟩ := hq
        obtain ⟨hr, hl4, hk4, hl3⟩ := fin (some (.exit id)) W3 hk3
        exact ⟨_, _, hr, by rw [hgo]; rfl, fun h => (by rw [hgo] at h; cases h), fun _ => ⟨.exit id, hIx _ _ _ _ _ _ (by omega) hi3 hl3 rfl, hl4, hk4⟩⟩
      | goto t => exact hq.elim
      | panic ch => exact hq.elim
      | outgrown => exact hq.elim
    | ret => exact hp.elim
    | exit id => exact hp.elim
    | goto t => exact hp.elim
    | panic ch => exact hp.elim
    | outgrown => exact hp.elim
  · rintro e W2 ⟨⟨v, rfl⟩, (⟨hS, ⟨hi, hl, hk⟩, hb2⟩ | ⟨q, hS, c, hi, hl, hk⟩)⟩
    · have hp3 := below_put w.heap.size W2 (.loop (rec .exhausted none)) (by omega : w.heap.size ≤ w.heap.size + 1)
      exact ⟨none, _, by have := run_endLoop (P := P) hl (by rw [hrec]; simp); rw [hrec] at this; exact this, hdone _ hS (hI _ _ _ hi (below_put _ _ _ (by omega))) (hb2.trans ((below_put _ _ _ (by omega)).mono hB0)) ((World.putObj_heap_other (by omega)).trans hk)⟩
    · exact ⟨some c, _, by have := run_endLoop (P := P) hl (by rw [hrec]; simp); rw [hrec] at this; exact this, hstop c q _ hS (hIx _ _ _ _ _ _ (by omega) hi hl rfl) ((World.putObj_heap_other (by omega)).trans hk)⟩
end Go.Proofs.Ytilebfkehmecaaa.Print
namespace Go.Proofs.Ytilebfkehmecaaa.Print
open Go.RowKit Go.Proofs.YtilebfkehmecaaaW.PrintWords Go.Proofs.YtilebfkehmecaaaW.PrintLast Go.Proofs.YtilebfkehmecaaaW.PrintMore
attribute [local go_sem] max2_int min2_int max_two min_two max_three min_three max_four min_four
set_option linter.unusedVariables false
set_option linter.unusedSimpArgs false
open Go.Shelf Go.RowKit
attribute [local go_sem] Oper.semAt_some
def itemAt (w0 : World) (x : Int × S64) (av : Array Value) : Prop := ∃ v, av = #[.int .i64 x.1, v] ∧ StmtAt w0 x.2 v
theorem prog_each.seq (w0 : World) (bp : Nat) (A : Option Addr) (c : Nat) (l : List S64) (its : List (Int × S64)) (n' : Int) (k : Nat)
    (hcell : w0.cell? ⟨bp, 2, none⟩ = some (.slice A l.length c)) (hr : Kd.C k64 w0 A l.length l) (hc : l.length ≤ c) (h : prog_walk.f k l 0 = some (its, n')) :
    SeqBy Try.prog 120 #[.pointer (some ⟨bp, 0, none⟩)] (itemAt w0) its w0 := by
  intro m rl J Jx go W hb hJ hY hJ0
  refine callsIn_of_wp Try.func120 rfl trivial ?_ rfl
  simp only [Try.ntmps120, List.size_toArray, List.length_cons, List.length_nil, Nat.reduceAdd, Nat.reduceSub, Array.replicate_succ, Array.replicate_zero, List.push_toArray, List.append_toArray, List.nil_append, List.cons_append]
  have hcw : W.cell? ⟨bp, 2, none⟩ = some (.slice A l.length c) := (hb.cell (World.block_lt_of_cell? w0 _ hcell)).trans hcell
  have hlt := World.block_lt_of_cell? W _ hcw
  have hS := hb.size
  have key : ∀ W2 : World, Below W.heap.size W W2 → W2.heap[W.heap.size]? = some (.cells #[.int .i64 0] 3 (0, 0)) →
      CallsIn Fence.wide m Try.prog 121 #[.slice A l.length c, .pointer (some ⟨W.heap.size, 0, none⟩), .func (.yield rl) #[] #[]] W2 (fun e W' => ∃ b, e = .returned (.bool b) ∧ ((stopAt go [] its = none ∧ J its W' ∧ Below w0.heap.size w0 W') ∨ (∃ q, stopAt go [] its = some q ∧ Jx q W'))) := by
    intro W2 h1 h2
    refine (prog_walk.walkIn w0 rl W.heap.size m J Jx go its hS hJ ?_ k l 0 its n' [] W2 W.heap.size A c h hr hc (hb.trans (h1.mono hS)) h2 (Nat.le_refl _) (hJ _ _ _ hJ0 h1) (by simp)).mono ?post
    case post =>
      rintro e W3 (⟨h0, rfl, hj, _, _, hb3⟩ | ⟨q, h0, rfl, hx⟩)
      · exact ⟨_, rfl, .inl ⟨h0, by simpa using hj, hb3⟩⟩
      · exact ⟨_, rfl, .inr ⟨q, h0, by simpa using hx⟩⟩
    intro pre x v A1 hj hv hb1 hsz hp
    exact hY pre x _ A1 hj ⟨v, rfl, hv⟩ hb1 hsz hp
  gi_wp2_with (first | (refine ⟨trivial, wide_depth, ?_⟩; refine (calls_any (m' := m - 1) (key _ ?k1 ?k2)).mono ?_; (case k1 => exact (Below.refl _ _).alloc (Nat.le_refl _) _); (case k2 => exact heap_alloc_new _ _); rintro e W3 ⟨b, rfl, hw⟩))
  go_end0
  exact ⟨⟨_, rfl⟩, hw⟩
end Go.Proofs.Ytilebfkehmecaaa.Print
namespace Go.Proofs.Ytilebfkehmecaaa.Print
open Go.RowKit Go.Proofs.YtilebfkehmecaaaW.PrintWords Go.Proofs.YtilebfkehmecaaaW.PrintLast Go.Proofs.YtilebfkehmecaaaW.PrintMore
attribute [local go_sem] max2_int min2_int max_two min_two max_three min_three max_four min_four
set_option linter.unusedVariables false
set_option linter.unusedSimpArgs false
open Go.Shelf Go.RowKit
theorem prog_each.fn (a b c : Value) (w : World) :
    Calls Try.prog 102 #[.agg #[a, b, c]] w fun e w' => e = .returned (.func (.func 120) #[] #[.pointer (some ⟨w.heap.size, 0, none⟩)]) ∧ Below w.heap.size w w' ∧ w'.heap[w.heap.size]? = some (.cells #[a, b, c] 25 (0, 0)) := by
  have huP := Try.underlying25
  refine calls_of_wp Try.func102 rfl ?_
  simp only [Try.ntmps102, List.size_toArray, List.length_cons, List.length_nil, Nat.reduceAdd, Nat.reduceSub, Array.replicate_succ, Array.replicate_zero, List.push_toArray, List.append_toArray, List.nil_append, List.cons_append]
  go_wp2
  go_ret
  exact ⟨rfl, (Below.refl _ _).alloc (Nat.le_refl _) _, heap_alloc_new _ _⟩
end Go.Proofs.Ytilebfkehmecaaa.Print
namespace Go.Proofs.Ytilebfkehmecaaa.Print
open Go.RowKit Go.Proofs.YtilebfkehmecaaaW.PrintWords Go.Proofs.YtilebfkehmecaaaW.PrintLast Go.Proofs.YtilebfkehmecaaaW.PrintMore
attribute [local go_sem] max2_int min2_int max_two min_two max_three min_three max_four min_four
set_option linter.unusedVariables false
set_option linter.unusedSimpArgs false
open Go.Shelf Go.RowKit
attribute [local go_sem] Oper.semAt_some
theorem size_cell (W : World) (p : Addr) (u : Value) : (W.setCell p u).heap.size = W.heap.size := by simp [World.setCell]
theorem below_cell {n B i : Nat} (W : World) (u : Value) (h : n ≤ B) : Below n W (W.setCell ⟨B, i, none⟩ u) := ⟨rfl, rfl, rfl, by rw [size_cell]; exact Nat.le_refl _, fun k hk => Below.heap_setCell _ _ _ _ (by intro e; simp at e; omega)⟩
theorem stop_none {α : Type} {p : α → Bool} : ∀ (its pre : List α), stopAt (fun _ x => !p x) pre its = none → its.find? p = none
  | [], _, _ => rfl
  | x :: r, pre, h => by
    rw [stopAt] at h
    cases hp : p x with
    | true => simp [hp] at h
    | false =>
      simp [hp] at h
      rw [List.find?_cons, hp]
      exact stop_none r _ h
def prog_Single.f (k : Nat) (a0_0 : Int) (l0_1 : List S66) (l0_2 : List S64) : Option (Bool × Int) :=
  (prog_Check.f k a0_0 l0_1 l0_2).bind fun t => if t = 0 then (if l0_1.any (fun v => decide (v.f1 > 15)) = true then some (false, 0) else (prog_walk.f k l0_2 0).bind fun its => some (!(its.1.any (fun x => decide (x.2.f0 = 3) && decide (x.2.f1 > 15))), 0)) else some (false, 30)
theorem three_boxes (w : World) (a b c : Obj) : Below w.heap.size w (((w.alloc a).alloc b).alloc c) ∧ (((w.alloc a).alloc b).alloc c).heap[w.heap.size]? = some a ∧ (((w.alloc a).alloc b).alloc c).heap[w.heap.size + 1]? = some b ∧ (((w.alloc a).alloc b).alloc c).heap[w.heap.size + 1 + 1]? = some c := by
  refine ⟨bal (bal (bal (Below.refl _ _) _) _) _, kal (kal (blk_new _ _) _) _, ?_, ?_⟩
  · have := blk_new (w.alloc a) b
    exact kal (by simpa using this) _
  · have := blk_new ((w.alloc a).alloc b) c
    simpa using this
theorem store_pair {W : World} {B C : Nat} {t s : TypeId} {x y : Value} (hne : B ≠ C) (hs : W.heap[B]? = some (.cells #[x] t (0, 0))) (he : W.heap[C]? = some (.cells #[y] s (0, 0))) (u v : Value) {W' : World} (hW : (W.setCell ⟨B, 0, none⟩ u).setCell ⟨C, 0, none⟩ v = W') :
    W'.heap[B]? = some (.cells #[u] t (0, 0)) ∧ W'.heap[C]? = some (.cells #[v] s (0, 0)) ∧ W'.heap.size = W.heap.size ∧ (∀ k, k ≠ B → k ≠ C → W'.heap[k]? = W.heap[k]?) ∧ (∀ n, n ≤ B → n ≤ C → Below n W W') := by
  subst hW
  have h0 := blk_put hs 0 u (cs' := #[u]) rfl
  have k0 := blk_far he (p := ⟨B, 0, none⟩) (Ne.symm hne) u
  exact ⟨blk_far h0 hne v, blk_put k0 0 v rfl, by simp only [size_cell], fun k h1 h2 => by rw [Below.heap_setCell _ _ _ _ h2, Below.heap_setCell _ _ _ _ h1], fun n h1 h2 => (below_cell W u h1).trans (below_cell _ v h2)⟩
theorem results_be {P : Program} {fn : Func} {p q : Tmp} {tB tE : TypeId} (h : fn.results = #[.cell p tB, .cell q tE]) (tmps : Array Value) (w : World) (g g2 : Nat) (b : Bool) (v : Int) (hp : tmps.getD p undef = .pointer (some ⟨g, 0, none⟩)) (hq : tmps.getD q undef = .pointer (some ⟨g2, 0, none⟩))
    (hg : w.heap[g]? = some (.cells #[.bool b] tB (0, 0))) (hg2 : w.heap[g2]? = some (.cells #[.int .i64 v] tE (0, 0))) (hu1 : P.underlying tB = some .bool) (hu2 : P.underlying tE = some (.int .i64)) :
    (results fn tmps).run P w = .ok (.tuple #[.bool b, .int .i64 v]) w := by
  have hp' : tmps[p]?.getD undef = .pointer (some ⟨g, 0, none⟩) := by simpa using hp
  have hq' : tmps[q]?.getD undef = .pointer (some ⟨g2, 0, none⟩) := by simpa using hq
  have hc : w.cell? ⟨g2, 0, none⟩ = some (.int .i64 v) := (blk_cell hg2 0).trans rfl
  have hd : w.cell? ⟨g, 0, none⟩ = some (.bool b) := (blk_cell hg 0).trans rfl
  have hagg : (isAgg tE).run P w = .ok false w := by
    unfold isAgg
    rw [Sem.run_bind, run_underlying hu2 w]
    simp
  have hagg1 : (isAgg tB).run P w = .ok false w := by
    unfold isAgg
    rw [Sem.run_bind, run_underlying hu1 w]
    simp
  have h2 : (loadVar tE ⟨g2, 0, none⟩).run P w = .ok (.int .i64 v) w := by simp [loadVar, Sem.run_bind, hagg, go_sem, hc, Result.andThen]
  have h1 : (loadVar tB ⟨g, 0, none⟩).run P w = .ok (.bool b) w := by simp [loadVar, Sem.run_bind, hagg1, go_sem, hd, Result.andThen]
  generalize hL1 : loadVar tB ⟨g, 0, none⟩ = L1 at h1
  generalize hL2 : loadVar tE ⟨g2, 0, none⟩ = L2 at h2
  simp [results, h, Sem.run_bind, hp', hq', asAddr, Result.andThen, hL1, hL2, h1, h2]
theorem stop_some {α : Type} {p : α → Bool} : ∀ (its pre q : List α), stopAt (fun _ x => !p x) pre its = some q → its.any p = true
  | [], _, _, h => by cases h
  | x :: r, pre, q, h => by
    rw [stopAt] at h
    cases hp : p x with
    | true => simp [hp]
    | false =>
      simp [hp] at h
      obtain ⟨q', hq, _⟩ := h
      simp only [List.any_cons, hp, Bool.false_or]
      exact stop_some r _ q' hq
theorem none_any {α : Type} {p : α → Bool} {its : List α} (h : its.find? p = none) : its.any p = false := by
  rw [List.find?_eq_none] at h
  rw [List.any_eq_false]
  exact h
def narrow (l : List S66) (i : Int) : Prop := ∀ j : Nat, (j : Int) < i → ∀ v, l[j]? = some v → ¬ v.f1 > 15
theorem narrow_all {l : List S66} {i : Int} (h : narrow l i) (hi : ¬ i < (l.length : Int)) : l.any (fun v => decide (v.f1 > 15)) = false := by
  rw [List.any_eq_false]
  intro v hv
  obtain ⟨j, hj, e⟩ := List.mem_iff_getElem.1 hv
  have := h j (by omega) v (by rw [List.getElem?_eq_getElem hj, e])
  simpa using this
theorem wide_any {l : List S66} {i : Int} (h0 : 0 ≤ i) (h1 : i < (l.length : Int)) (h : (rd_T66 l i).f1 > 15) : l.any (fun v => decide (v.f1 > 15)) = true := by
  rw [List.any_eq_true]
  have hj : i.toNat < l.length := by omega
  refine ⟨l[i.toNat], List.getElem_mem hj, ?_⟩
  have e : rd_T66 l i = l[i.toNat] := by simp [rd_T66, List.getD_eq_getElem?_getD, List.getElem?_eq_getElem hj]
  rw [e] at h
  simpa using h
theorem narrow_step {l : List S66} {i : Int} (hn : narrow l i) (h0 : 0 ≤ i) (h : ¬ (rd_T66 l i).f1 > 15) : narrow l (i + 1) := by
  intro j hj v hv
  by_cases he : (j : Int) = i
  · have e : rd_T66 l i = v := by
      have : i.toNat = j := by omega
      simp [rd_T66, List.getD_eq_getElem?_getD, this, hv]
    rw [e] at h
    exact h
  · exact hn j (by omega) v hv
theorem prog_Single.calls (k : Nat) (a0_0 : Int) (A0_1 : Option Addr) (c0_1 : Nat) (l0_1 : List S66) (A0_2 : Option Addr) (c0_2 : Nat) (l0_2 : List S64) (r1 : Bool) (r2 : Int) (w : World)
    (hr0_1 : Kd.C k66 w A0_1 l0_1.length l0_1) (hc0_1 : l0_1.length ≤ c0_1) (hr0_2 : Kd.C k64 w A0_2 l0_2.length l0_2) (hc0_2 : l0_2.length ≤ c0_2) (h : prog_Single.f k a0_0 l0_1 l0_2 = some (r1, r2)) :
    Calls Try.prog 79 #[.agg #[.int .i64 a0_0, .slice A0_1 l0_1.length c0_1, .slice A0_2 l0_2.length c0_2]] w fun e w' => e = .returned (.tuple #[.bool r1, .int .i64 r2]) ∧ Below w.heap.size w w' := by
  refine callsIn_wide.1 (?_ : CallsIn Fence.wide 9 _ _ _ _ _)
  have huP := Try.underlying25
  have huS := Try.underlying64
  have huV := Try.underlying66
  have huE := Try.underlying32
  have huB := Try.underlying4
  refine callsIn_of_wp_marks Try.func79 rfl trivial ?_ rfl
  simp only [Try.ntmps79, List.size_toArray, List.length_cons, List.length_nil, Nat.reduceAdd, Nat.reduceSub, Array.replicate_succ, Array.replicate_zero, List.push_toArray, List.append_toArray, List.nil_append, List.cons_append]
  unfold prog_Single.f at h
  obtain ⟨tc, AC0, H0⟩ := Option.bind_eq_some_iff.mp h
  clear h
  have HR1 := Aside0.mk hr0_1
  have HC1 := Aside0.mk hc0_1
  have HR2 := Aside0.mk hr0_2
  have HC2 := Aside0.mk hc0_2
  have AC := Aside0.mk AC0
  have H := Aside0.mk H0
  clear hr0_1 hc0_1 hr0_2 hc0_2 AC0 H0
  have FB := three_boxes w (.cells #[.int .i64 a0_0, .slice A0_1 l0_1.length c0_1, .slice A0_2 l0_2.length c0_2] 25) (.cells #[.bool false] 4) (.cells #[.int .i64 0] 32)
  gi_wp2
  generalize (((w.alloc (.cells #[.int .i64 a0_0, .slice A0_1 l0_1.length c0_1, .slice A0_2 l0_2.length c0_2] 25)).alloc (.cells #[.bool false] 4)).alloc (.cells #[.int .i64 0] 32)) = W1 at FB ⊢
  obtain ⟨b1, p1, s1, e1⟩ := FB
  refine ⟨trivial, ?_⟩
  refine (callsIn_wide.2 (prog_Check.calls k a0_0 _ _ l0_1 _ _ l0_2 tc W1 (Kd.C_below HR1.out b1) HC1.out (Kd.C_below HR2.out b1) HC2.out AC.out)).mono ?_
  rintro e W2 ⟨rfl, hb2⟩
  have b2 := b1.trans (hb2.mono b1.size)
  have p2 := (hb2.block _ (blk_lt p1)).trans p1
  have s2 := (hb2.block _ (blk_lt s1)).trans s1
  have e2 := (hb2.block _ (blk_lt e1)).trans e1
  clear p1 s1 e1 hb2 AC b1
  by_cases htc : tc = 0
  case neg =>
    have h := H.out
    rw [if_neg htc] at h
    obtain ⟨rfl, rfl⟩ : r1 = false ∧ r2 = 30 := by
      injection (Option.some.inj h) with e1 e2
      exact ⟨e1.symm, e2.symm⟩
    clear h H
    have g1 : (tc == 0) = false := beq_eq_false_iff_ne.mpr htc
    have g2 : (tc != 0) = true := bne_iff_ne.mpr htc
    have c0 : W2.cell? ⟨w.heap.size + 1, 0, none⟩ = some (.bool false) := (blk_cell s2 0).trans rfl
    have d0 : W2.cell? ⟨w.heap.size + 1 + 1, 0, none⟩ = some (.int .i64 0) := (blk_cell e2 0).trans rfl
    have f0 := blk_frozen s2 0
    have f5 := blk_frozen e2 0
    gi_wp2
    generalize hW : (W2.setCell ⟨w.heap.size + 1, 0, none⟩ (.bool false)).setCell ⟨w.heap.size + 1 + 1, 0, none⟩ (.int .i64 30) = W3
    obtain ⟨t1, t2, _, _, t5⟩ := store_pair (by omega) s2 e2 _ _ hW
    exact ⟨_, results_be rfl _ _ (w.heap.size + 1) (w.heap.size + 1 + 1) false 30 rfl rfl t1 t2 huB huE, rfl, b2.trans (t5 _ (by omega) (by omega))⟩
  case pos =>
    subst htc
    have h := H.out
    rw [if_pos rfl] at h
    have H1 := Aside0.mk h
    clear H h
    obtain ⟨c0, c1, c2⟩ := cells3 p2
    have S2 := Aside0.mk s2
    have E2 := Aside0.mk e2
    have P2 := Aside0.mk p2
    have B2 := Aside0.mk b2
    clear s2 e2 p2 b2
    gi_wp2
    gi_loopw [14] (fun v14 wr => ∃ i : Int, v14 = .int .i64 i ∧ Aside0 (0 ≤ i) ∧ Aside0 (narrow l0_1 i) ∧ Aside0 (Below W2.heap.size W2 wr)) (fun v14 _ => l0_1.length - (intOf v14).toNat)
    case atStart => exact ⟨0, rfl, ⟨Int.le_refl _⟩, ⟨fun j hj => by omega⟩, ⟨Below.refl _ _⟩⟩
    case round =>
      obtain ⟨i, rfl, HI0, HN, HW⟩ := hrel
      clear c0 c1 c2
      have hi0 := HI0.out
      have hl : l0_1.length ≤ 9223372036854775807 := HR1.out.2.1
      have b4 := B2.out.trans (HW.out.mono B2.out.size)
      have s4 := (HW.out.block _ (blk_lt S2.out)).trans S2.out
      have e4 := (HW.out.block _ (blk_lt E2.out)).trans E2.out
      have p4 := (HW.out.block _ (blk_lt P2.out)).trans P2.out
      by_cases hlt : i < (l0_1.length : Int)
      case pos =>
        have hld : decide (i < (l0_1.length : Int)) = true := decide_eq_true hlt
        have hz : decide (0 ≤ i) = true := decide_eq_true hi0
        obtain ⟨ad, eA, q0, q1, q2⟩ := at_T66 HR1.out i hi0 hlt
        cases eA
        replace q0 := (b4.cell (World.block_lt_of_cell? w _ q0)).trans q0
        replace q1 := (b4.cell (World.block_lt_of_cell? w _ q1)).trans q1
        replace q2 := (b4.cell (World.block_lt_of_cell? w _ q2)).trans q2
        by_cases hwd : (rd_T66 l0_1 i).f1 > 15
        case pos =>
          have hwt : decide ((rd_T66 l0_1 i).f1 > 15) = true := decide_eq_true hwd
          have hany := wide_any hi0 hlt hwd
          have h := H1.out
          rw [if_pos hany] at h
          obtain ⟨rfl, rfl⟩ : r1 = false ∧ r2 = 0 := by
            injection (Option.some.inj h) with e1 e2
            exact ⟨e1.symm, e2.symm⟩
          have l1 := blk_lt s4
          have l2 := blk_lt e4
          have c0 : wr.cell? ⟨w.heap.size + 1, 0, none⟩ = some (.bool false) := (blk_cell s4 0).trans rfl
          have d0 : wr.cell? ⟨w.heap.size + 1 + 1, 0, none⟩ = some (.int .i64 0) := (blk_cell e4 0).trans rfl
          have f0 := blk_frozen s4 0
          have f5 := blk_frozen e4 0
          gi_wp2
          generalize hW : (wr.setCell ⟨w.heap.size + 1, 0, none⟩ (.bool false)).setCell ⟨w.heap.size + 1 + 1, 0, none⟩ (.int .i64 0) = W4
          obtain ⟨t1, t2, _, _, t5⟩ := store_pair (by omega) s4 e4 _ _ hW
          exact ⟨_, results_be rfl _ _ (w.heap.size + 1) (w.heap.size + 1 + 1) false 0 rfl rfl (kal t1 _) (kal t2 _) huB huE, rfl, bal (b4.trans (t5 _ (by omega) (by omega))) _⟩
        case neg =>
          have hwt : decide ((rd_T66 l0_1 i).f1 > 15) = false := decide_eq_false hwd
          gi_wp2
          have e1 : intOf (Value.int IntKind.i64 (i + 1)) = i + 1 := rfl
          have e2 : intOf (Value.int IntKind.i64 i) = i := rfl
          refine ⟨⟨i + 1, rfl, ⟨by omega⟩, ⟨narrow_step HN.out hi0 hwd⟩, ⟨bal HW.out _⟩⟩, ?_⟩
          rw [e1, e2]
          omega
      case neg =>
        have hld : decide (i < (l0_1.length : Int)) = false := decide_eq_false hlt
        have hany := narrow_all HN.out hlt
        have h := H1.out
        rw [if_neg (by rw [hany]; simp)] at h
        obtain ⟨⟨its, n'⟩, WK0, h⟩ := Option.bind_eq_some_iff.mp h
        have WK := Aside0.mk WK0
        have PK := Aside0.mk (Option.some.inj h)
        clear h H1 WK0
        obtain ⟨c0, c1, c2⟩ := cells3 p4
        gi_wp2_with (first | (refine ⟨trivial, ?_⟩; refine (callsIn_wide.2 (prog_each.fn _ _ _ wr)).mono ?_; rintro e W3 ⟨rfl, hb3, q3⟩))
        have b3 := b4.trans (hb3.mono b4.size)
        have s3 := (hb3.block _ (blk_lt s4)).trans s4
        have e3 := (hb3.block _ (blk_lt e4)).trans e4
        clear c0 c1 c2 p4 s4 e4
        have hcell : W3.cell? ⟨wr.heap.size, 2, none⟩ = some (.slice A0_2 l0_2.length c0_2) := (blk_cell q3 2).trans rfl
        refine wpIn_rangeBy (gf := 120) (lb := #[.pointer (some ⟨wr.heap.size, 0, none⟩)]) rfl (enters_of Try.func120 (by kernel_rfl) rfl)
          (prog_each.seq W3 wr.heap.size A0_2 c0_2 l0_2 its n' k hcell (Kd.C_below HR2.out b3) HC2.out WK.out) (Below.refl _ _) (by rintro x av ⟨v, rfl, _⟩; rfl)
          (fun _ x => !(decide (x.2.f0 = 3) && decide (x.2.f1 > 15)))
          (fun _ W => Below W3.heap.size W3 W)
          (fun c _ W => c = .ret ∧ W.heap[w.heap.size + 1]? = some (.cells #[.bool false] 4 (0, 0)) ∧ W.heap[w.heap.size + 1 + 1]? = some (.cells #[.int .i64 0] 32 (0, 0)) ∧ Below w.heap.size w W)
          (fun pre A B h hb => h.trans hb) ?hIx (Below.refl _ _) ?round ?done ?stop
        case hIx =>
          rintro c pre A j o o' hj ⟨hc, h1, h2, hb⟩ hA ho
          have ne : ∀ {k : Nat} {cs : Array Value} {t : TypeId}, A.heap[k]? = some (.cells cs t (0, 0)) → k ≠ j := by
            intro k cs t hk e
            subst e
            rw [hA] at hk
            cases hk
            cases ho
          have hS3 := b3.size
          exact ⟨hc, (World.putObj_heap_other (ne h1)).trans h1, (World.putObj_heap_other (ne h2)).trans h2, hb.trans (below_put _ _ _ (by omega))⟩
        case stop =>
          rintro c q W hst ⟨rfl, t1, t2, hb⟩ hD
          have hB3 := blk_lt e3
          have hS3 := b3.size
          have ha := stop_some (p := fun x : Int × S64 => decide (x.2.f0 = 3) && decide (x.2.f1 > 15)) _ _ _ hst
          obtain ⟨rfl, rfl⟩ : r1 = false ∧ r2 = 0 := by
            injection PK.out with e1 e2
            exact ⟨by rw [← e1]; simp [ha], e2.symm⟩
          gi_wp2
          refine ⟨by simp, .inl ⟨_, _, rfl, run_takeDeferred hD, ?_⟩⟩
          exact ⟨_, results_be rfl _ _ (w.heap.size + 1) (w.heap.size + 1 + 1) false 0 rfl rfl ((World.putObj_heap_other (by omega)).trans t1) ((World.putObj_heap_other (by omega)).trans t2) huB huE, rfl, hb.trans (below_put _ _ _ hS3)⟩
        case done =>
          rintro W hst hbW _ hD
          have ha := none_any (stop_none (p := fun x : Int × S64 => decide (x.2.f0 = 3) && decide (x.2.f1 > 15)) _ _ hst)
          obtain ⟨rfl, rfl⟩ : r1 = true ∧ r2 = 0 := by
            injection PK.out with e1 e2
            exact ⟨by rw [← e1]; simp [ha], e2.symm⟩
          have hB3 := blk_lt e3
          have hS3 := b3.size
          have s4 := (hbW.block _ (blk_lt s3)).trans s3
          have e4 := (hbW.block _ (blk_lt e3)).trans e3
          have c0 : W.cell? ⟨w.heap.size + 1, 0, none⟩ = some (.bool false) := (blk_cell s4 0).trans rfl
          have d0 : W.cell? ⟨w.heap.size + 1 + 1, 0, none⟩ = some (.int .i64 0) := (blk_cell e4 0).trans rfl
          have f0 := blk_frozen s4 0
          have f5 := blk_frozen e4 0
          gi_wp2
          generalize hW : (W.setCell ⟨w.heap.size + 1, 0, none⟩ (.bool true)).setCell ⟨w.heap.size + 1 + 1, 0, none⟩ (.int .i64 0) = W6
          obtain ⟨t1, t2, _, t4, t5⟩ := store_pair (by omega) s4 e4 _ _ hW
          refine ⟨by simp, .inl ⟨_, _, rfl, run_takeDeferred ((t4 _ (by omega) (by omega)).trans hD), ?_⟩⟩
          exact ⟨_, results_be rfl _ _ (w.heap.size + 1) (w.heap.size + 1 + 1) true 0 rfl rfl ((World.putObj_heap_other (by omega)).trans t1) ((World.putObj_heap_other (by omega)).trans t2) huB huE, rfl, b3.trans ((hbW.mono hS3).trans ((t5 _ (by omega) (by omega)).trans (below_put _ _ _ hS3)))⟩
        case round =>
          rintro l pre x av W hbW ⟨v, rfl, hv⟩ hpre _ hsz
          obtain ⟨A2, z2, A3, z3, A4, z4, rfl, ql2, qr2, ql3, qr3, ql4, qr4⟩ := hv
          gi_wp2
          refine ⟨World.grownBy_alloc _ _ _, ?_⟩
          intro W4 hg4 hs4 hi4 hb4
          have x4 : W4.heap[W.heap.size]? = some (.cells #[.int .i64 x.2.f0, .int .i64 x.2.f1, .slice A2 x.2.f2.length z2, .slice A3 x.2.f3.length z3, .slice A4 x.2.f4.length z4] 64 (0, 0)) :=
            (hg4.block W.heap.size (by simp) (by intro e; injection e with e; omega)).trans (heap_alloc_new _ _)
          have hB3 := blk_lt e3
          have hS3 := b3.size
          have s4 := (hi4.block _ (blk_lt s3)).trans s3
          have e4 := (hi4.block _ (blk_lt e3)).trans e3
          obtain ⟨m0, m1, m2, m3, m4⟩ := cells5 x4
          have hsW : W4.heap.size = W.heap.size + 1 := by rw [hs4]; simp
          have c0 : W4.cell? ⟨w.heap.size + 1, 0, none⟩ = some (.bool false) := (blk_cell s4 0).trans rfl
          have d0 : W4.cell? ⟨w.heap.size + 1 + 1, 0, none⟩ = some (.int .i64 0) := (blk_cell e4 0).trans rfl
          have f0 := blk_frozen s4 0
          have f5 := blk_frozen e4 0
          by_cases h3 : x.2.f0 = 3
          case neg =>
            have h3d : decide (x.2.f0 = 3) = false := decide_eq_false h3
            have h3b : (x.2.f0 == 3) = false := beq_eq_false_iff_ne.mpr h3
            gi_wp2
            exact ⟨by simp [h3d], Nat.le_refl _, fun k _ _ => rfl, hb4, hi4⟩
          case pos =>
            have h3d : decide (x.2.f0 = 3) = true := decide_eq_true h3
            have h3b : (x.2.f0 == 3) = true := beq_iff_eq.mpr h3
            by_cases h5 : x.2.f1 > 15
            case neg =>
              have h5d : decide (x.2.f1 > 15) = false := decide_eq_false h5
              gi_wp2
              exact ⟨by simp [h3d, h5d], Nat.le_refl _, fun k _ _ => rfl, hb4, hi4⟩
            case pos =>
              have h5d : decide (x.2.f1 > 15) = true := decide_eq_true h5
              gi_wp2
              generalize hW : (W4.setCell ⟨w.heap.size + 1, 0, none⟩ (.bool false)).setCell ⟨w.heap.size + 1 + 1, 0, none⟩ (.int .i64 0) = W6
              obtain ⟨t1, t2, _, t4, t5⟩ := store_pair (by omega) s4 e4 _ _ hW
              exact ⟨by simp [h3d, h5d], fun k h1 h2 => t4 k (by omega) (by omega), rfl, t1, t2, b3.trans ((hi4.mono hS3).trans (t5 _ (by omega) (by omega)))⟩
end Go.Proofs.Ytilebfkehmecaaa.Print
namespace Go.Proofs.Ytilebfkehmecaaa.Print
open Go.RowKit Go.Proofs.YtilebfkehmecaaaW.PrintWords Go.Proofs.YtilebfkehmecaaaW.PrintLast Go.Proofs.YtilebfkehmecaaaW.PrintMore
attribute [local go_sem] max2_int min2_int max_two min_two max_three min_three max_four min_four
set_option linter.unusedVariables false
set_option linter.unusedSimpArgs false
def prod_single.f (k : Nat) (a0_0 : Int) (l0_1 : List (S66)) (l0_2 : List (S64)) : Option (Int) := (prog_Single.f k a0_0 l0_1 l0_2).bind fun bt145 => (if bt145.2 = 0 then (if bt145.1 = true then (some bt145.2) else (some 1)) else (some bt145.2))
theorem prod_single.calls (k : Nat) (a0_0 : Int) (A0_1 : Option Addr) (c0_1 : Nat) (l0_1 : List (S66)) (A0_2 : Option Addr) (c0_2 : Nat) (l0_2 : List (S64)) (r : Int) (w : World) (hr0_1 : Kd.C k66 w A0_1 l0_1.length l0_1) (hc0_1 : l0_1.length ≤ c0_1) (hr0_2 : Kd.C k64 w A0_2 l0_2.length l0_2) (hc0_2 : l0_2.length ≤ c0_2) (h : prod_single.f k a0_0 l0_1 l0_2 = some r) :
  Calls Try.prog 44 #[.agg #[.int .i64 a0_0, .slice A0_1 l0_1.length c0_1, .slice A0_2 l0_2.length c0_2]] w fun e w' => e = .returned (.int .i64 r) ∧ Below w.heap.size w w' := by
 have hu25 := Try.underlying25
 have HR0_1 := Aside0.mk hr0_1
 have HC0_1 := Aside0.mk hc0_1
 clear hr0_1 hc0_1
 have HR0_2 := Aside0.mk hr0_2
 have HC0_2 := Aside0.mk hc0_2
 clear hr0_2 hc0_2
 have HB := Aside0.mk (Below.refl w.heap.size w)
 have H : ((prog_Single.f k a0_0 l0_1 l0_2).bind fun bt145 => (if bt145.2 = 0 then (if bt145.1 = true then (some bt145.2) else (some 1)) else (some bt145.2))) = some r := h
 clear h
 replace H := Option.bind_eq_some_iff.mp H
 obtain ⟨⟨t145, t146⟩, A20, H⟩ := H
 replace H : (if t146 = 0 then (if t145 = true then (some t146) else (some 1)) else (some t146)) = some r := H
 have A2 := Aside0.mk A20
 clear A20
 by_cases c3 : t146 = 0
 rotate_left
 ·rw [if_neg c3] at H
  have c3b0 : (t146 == 0) = false := beq_eq_false_iff_ne.mpr c3
  have c3b1 : (t146 != 0) = true := bne_iff_ne.mpr c3
  obtain rfl := Option.some.inj H
  go_enter Try.func44, Try.ntmps44
  go_wp2_with (first | ((with_reducible refine gate_dst (N := 1) rfl ?_); refine bx 1 rfl rfl #[.int .i64 a0_0, .slice A0_1 l0_1.length c0_1, .slice A0_2 l0_2.length c0_2] 25 ?_; intro gb144 hg w11 hbox hb; have BK144 := Aside0.mk (hbox); have GE144 := ge HB hg; replace HB := sb HB hb; clear hb hbox hg; obtain ⟨hcz12_0, hcz12_1, hcz12_2, hfz12_0, hfz12_1, hfz12_2⟩ := cf3 BK144.out) | ((with_reducible refine gate_callee (f := 79) rfl ?_); refine gL (some 7) rfl rfl Try.func79 #[.agg #[.int .i64 a0_0, .slice A0_1 l0_1.length c0_1, .slice A0_2 l0_2.length c0_2]] rfl ?_; (with_reducible refine (prog_Single.calls k a0_0 _ _ l0_1 _ _ l0_2 t145 t146 _ ?side1 ?side2 ?side3 ?side4 A2.out).mono ?_); (case side1 => exact cb HR0_1 HB); (case side2 => exact HC0_1.out); (case side3 => exact cb HR0_2 HB); (case side4 => exact HC0_2.out); rintro e w13 ⟨rfl, hb⟩; refine ⟨_, rfl, ?_⟩; replace BK144 := kb BK144 hb; replace HB := sb HB hb; (try clear hb)))
  go_ret
  exact ⟨rr, bb HB⟩
 rw [if_pos c3] at H
 have c3b0 : (t146 == 0) = true := beq_iff_eq.mpr c3
 have c3b1 : (t146 != 0) = false := bne_eq_false_iff_eq.mpr c3
 clear c3
 by_cases c4 : t145 = true
 ·subst c4
  replace H := it H
  obtain rfl := Option.some.inj H
  go_enter Try.func44, Try.ntmps44
  go_wp2_with (first | ((with_reducible refine gate_dst (N := 1) rfl ?_); refine bx 1 rfl rfl #[.int .i64 a0_0, .slice A0_1 l0_1.length c0_1, .slice A0_2 l0_2.length c0_2] 25 ?_; intro gb144 hg w5 hbox hb; have BK144 := Aside0.mk (hbox); have GE144 := ge HB hg; replace HB := sb HB hb; clear hb hbox hg; obtain ⟨hcz6_0, hcz6_1, hcz6_2, hfz6_0, hfz6_1, hfz6_2⟩ := cf3 BK144.out) | ((with_reducible refine gate_callee (f := 79) rfl ?_); refine gL (some 7) rfl rfl Try.func79 #[.agg #[.int .i64 a0_0, .slice A0_1 l0_1.length c0_1, .slice A0_2 l0_2.length c0_2]] rfl ?_; (with_reducible refine (prog_Single.calls k a0_0 _ _ l0_1 _ _ l0_2 true t146 _ ?side1 ?side2 ?side3 ?side4 A2.out).mono ?_); (case side1 => exact cb HR0_1 HB); (case side2 => exact HC0_1.out); (case side3 => exact cb HR0_2 HB); (case side4 => exact HC0_2.out); rintro e w7 ⟨rfl, hb⟩; refine ⟨_, rfl, ?_⟩; replace BK144 := kb BK144 hb; replace HB := sb HB hb; (try clear hb)))
  go_ret
  exact ⟨rr, bb HB⟩
 replace c4 := Bool.eq_false_iff.mpr c4
 subst c4
 replace H := fi H
 obtain rfl := Option.some.inj H
 go_enter Try.func44, Try.ntmps44
 go_wp2_with (first | ((with_reducible refine gate_dst (N := 1) rfl ?_); refine bx 1 rfl rfl #[.int .i64 a0_0, .slice A0_1 l0_1.length c0_1, .slice A0_2 l0_2.length c0_2] 25 ?_; intro gb144 hg w8 hbox hb; have BK144 := Aside0.mk (hbox); have GE144 := ge HB hg; replace HB := sb HB hb; clear hb hbox hg; obtain ⟨hcz9_0, hcz9_1, hcz9_2, hfz9_0, hfz9_1, hfz9_2⟩ := cf3 BK144.out) | ((with_reducible refine gate_callee (f := 79) rfl ?_); refine gL (some 7) rfl rfl Try.func79 #[.agg #[.int .i64 a0_0, .slice A0_1 l0_1.length c0_1, .slice A0_2 l0_2.length c0_2]] rfl ?_; (with_reducible refine (prog_Single.calls k a0_0 _ _ l0_1 _ _ l0_2 false t146 _ ?side1 ?side2 ?side3 ?side4 A2.out).mono ?_); (case side1 => exact cb HR0_1 HB); (case side2 => exact HC0_1.out); (case side3 => exact cb HR0_2 HB); (case side4 => exact HC0_2.out); rintro e w10 ⟨rfl, hb⟩; refine ⟨_, rfl, ?_⟩; replace BK144 := kb BK144 hb; replace HB := sb HB hb; (try clear hb)))
 go_ret
 exact ⟨rr, bb HB⟩
mutual
def r3_low.l0 : Nat → List (S64) → Int → Option (Bool)
 | 0, _, _ => none
 | k + 1, x0, x3 => if x3 < (x0.length : Int) then (if 0 ≤ x3 then (if ((rd_T64 x0 x3).f0) = 3 then (if ((rd_T64 x0 x3).f1) > 15 then (some false) else ((r3_low.f k ((rd_T64 x0 x3).f3)).bind fun t306 => (if t306 = true then ((r3_low.f k ((rd_T64 x0 x3).f4)).bind fun t308 => (if t308 = true then (r3_low.l0 k x0 (wrap64 (x3 + 1))) else (some false))) else (some false)))) else ((r3_low.f k ((rd_T64 x0 x3).f3)).bind fun t310 => (if t310 = true then ((r3_low.f k ((rd_T64 x0 x3).f4)).bind fun t312 => (if t312 = true then (r3_low.l0 k x0 (wrap64 (x3 + 1))) else (some false))) else (some false)))) else (none)) else (some true)
def r3_low.f : Nat → List (S64) → Option (Bool)
 | 0, _ => none
 | k + 1, l0 => r3_low.l0 k l0 0
end
theorem r3_low.calls (k : Nat) : ∀ (A0 : Option Addr) (c0 : Nat) (l0 : List (S64)) (r : Bool) (w : World) (hr0 : Kd.C k64 w A0 l0.length l0) (hc0 : l0.length ≤ c0) (h : r3_low.f k l0 = some r),
  Calls Try.prog 110 #[.slice A0 l0.length c0] w fun e w' => e = .returned (.bool r) ∧ Drawn0 w w' := by
 induction k using Nat.strongRecOn with
 | _ k ih =>
 intro A0 c0 l0 r w hr0 hc0 h
 cases k with
 | zero => exact absurd h (by simp [r3_low.f])
 | succ k =>
 simp only [r3_low.f] at h
 have HR0 := Aside0.mk hr0
 have HC0 := Aside0.mk hc0
 clear hr0 hc0
 have H : (r3_low.l0 k l0 0) = some r := h
 clear h
 have H' := Aside0.mk H
 clear H
 go_enter Try.func110, Try.ntmps110
 go_wp2
 go_loopg [3] k (fun kq v3 w' => ∃ (x3_1 : Int), v3 = .int .i64 x3_1 ∧ Aside0 (r3_low.l0 kq l0 x3_1 = some r) ∧ Aside0 (kq ≤ k) ∧ Drawn0 w w')
 case atStart => exact ⟨(0), rs, H', ⟨Nat.le_refl _⟩, dr⟩
 case round =>
  clear H'
  try clear c1
  obtain ⟨x3_1, rfl, HA, HK1, ⟨m1, rfl⟩⟩ := hrel
  cases gk with
  | zero => exact absurd HA.out (by simp [r3_low.l0])
  | succ k1 =>
   have H := HA.out
   clear HA
   simp only [r3_low.l0] at H
   by_cases c2 : x3_1 < (l0.length : Int)
   rotate_left
   ·rw [if_neg c2] at H
    have c2b0 : decide (x3_1 < (l0.length : Int)) = false := decide_eq_false c2
    clear c2
    obtain rfl := Option.some.inj H
    go_wp2
    go_ret
    exact ⟨rs, dr⟩
   rw [if_pos c2] at H
   have c2b0 : decide (x3_1 < (l0.length : Int)) = true := decide_eq_true c2
   clear c2
   by_cases c3 : 0 ≤ x3_1
   rotate_left
   ·rw [if_neg c3] at H
    exact absurd H (by simp)
   rw [if_pos c3] at H
   have c3b0 : decide (0 ≤ x3_1) = true := decide_eq_true c3
   clear c3
   by_cases c4 : ((rd_T64 l0 x3_1).f0) = 3
   rotate_left
   ·rw [if_neg c4] at H
    have c4b0 : (((rd_T64 l0 x3_1).f0) == 3) = false := beq_eq_false_iff_ne.mpr c4
    have c4b1 : (((rd_T64 l0 x3_1).f0) != 3) = true := bne_iff_ne.mpr c4
    obtain ⟨t310, A10, H⟩ := be H
    by_cases c11 : t310 = true
    rotate_left
    ·replace c11 := Bool.eq_false_iff.mpr c11
     subst c11
     replace H := fi H
     obtain rfl := Option.some.inj H
     have p303 : 0 ≤ (x3_1 : Int) := od
     have q303 : x3_1 < (l0.length : Int) := od
     obtain ⟨ad303, A303_2, c303_2, A303_3, c303_3, A303_4, c303_4, e303, hx303_0, hx303_1, hx303_2, hx303_3, hx303_4, hl303_2, hi303_2, hl303_3, hi303_3, hl303_4, hi303_4⟩ := at_T64 HR0.out x3_1 p303 q303
     cases e303
     have HR303_2 := Aside0.mk hi303_2
     have HC303_2 := Aside0.mk hl303_2
     clear hi303_2 hl303_2
     have HR303_3 := Aside0.mk hi303_3
     have HC303_3 := Aside0.mk hl303_3
     clear hi303_3 hl303_3
     have HR303_4 := Aside0.mk hi303_4
     have HC303_4 := Aside0.mk hl303_4
     clear hi303_4 hl303_4
     replace p303 := eq_true p303
     replace q303 := eq_true q303
     have p309 : 0 ≤ (x3_1 : Int) := od
     have q309 : x3_1 < (l0.length : Int) := od
     obtain ⟨ad309, A309_2, c309_2, A309_3, c309_3, A309_4, c309_4, e309, hx309_0, hx309_1, hx309_2, hx309_3, hx309_4, hl309_2, hi309_2, hl309_3, hi309_3, hl309_4, hi309_4⟩ := at_T64 HR0.out x3_1 p309 q309
     obtain rfl : ad303 = ad309 := (by injection e309)
     have HR309_2 := Aside0.mk hi309_2
     have HC309_2 := Aside0.mk hl309_2
     clear hi309_2 hl309_2
     have HR309_3 := Aside0.mk hi309_3
     have HC309_3 := Aside0.mk hl309_3
     clear hi309_3 hl309_3
     have HR309_4 := Aside0.mk hi309_4
     have HC309_4 := Aside0.mk hl309_4
     clear hi309_4 hl309_4
     replace p309 := eq_true p309
     replace q309 := eq_true q309
     have ea_ := Option.some.inj (hx303_2.symm.trans hx309_2)
     injection ea_ with ea_ en_ ec_
     subst ea_
     subst ec_
     clear en_
     have ea_ := Option.some.inj (hx303_3.symm.trans hx309_3)
     injection ea_ with ea_ en_ ec_
     subst ea_
     subst ec_
     clear en_
     have ea_ := Option.some.inj (hx303_4.symm.trans hx309_4)
     injection ea_ with ea_ en_ ec_
     subst ea_
     subst ec_
     clear en_
     go_wp2_with (first | (go_at_call 110; (with_reducible refine (ih k1 (by have := HK1.out; omega) _ _ ((rd_T64 l0 x3_1).f3) false _ ?side1 ?side2 A10.out).mono ?_); (case side1 => exact ca HR309_3); (case side2 => exact HC309_3.out); rintro e w' ⟨rfl, ⟨nd, rfl⟩⟩))
     go_ret
     exact ⟨rs, dr⟩
    subst c11
    replace H := it H
    obtain ⟨t312, A12, H⟩ := be H
    by_cases c13 : t312 = true
    rotate_left
    ·replace c13 := Bool.eq_false_iff.mpr c13
     subst c13
     replace H := fi H
     obtain rfl := Option.some.inj H
     have p303 : 0 ≤ (x3_1 : Int) := od
     have q303 : x3_1 < (l0.length : Int) := od
     obtain ⟨ad303, A303_2, c303_2, A303_3, c303_3, A303_4, c303_4, e303, hx303_0, hx303_1, hx303_2, hx303_3, hx303_4, hl303_2, hi303_2, hl303_3, hi303_3, hl303_4, hi303_4⟩ := at_T64 HR0.out x3_1 p303 q303
     cases e303
     have HR303_2 := Aside0.mk hi303_2
     have HC303_2 := Aside0.mk hl303_2
     clear hi303_2 hl303_2
     have HR303_3 := Aside0.mk hi303_3
     have HC303_3 := Aside0.mk hl303_3
     clear hi303_3 hl303_3
     have HR303_4 := Aside0.mk hi303_4
     have HC303_4 := Aside0.mk hl303_4
     clear hi303_4 hl303_4
     replace p303 := eq_true p303
     replace q303 := eq_true q303
     have p309 : 0 ≤ (x3_1 : Int) := od
     have q309 : x3_1 < (l0.length : Int) := od
     obtain ⟨ad309, A309_2, c309_2, A309_3, c309_3, A309_4, c309_4, e309, hx309_0, hx309_1, hx309_2, hx309_3, hx309_4, hl309_2, hi309_2, hl309_3, hi309_3, hl309_4, hi309_4⟩ := at_T64 HR0.out x3_1 p309 q309
     obtain rfl : ad303 = ad309 := (by injection e309)
     have HR309_2 := Aside0.mk hi309_2
     have HC309_2 := Aside0.mk hl309_2
     clear hi309_2 hl309_2
     have HR309_3 := Aside0.mk hi309_3
     have HC309_3 := Aside0.mk hl309_3
     clear hi309_3 hl309_3
     have HR309_4 := Aside0.mk hi309_4
     have HC309_4 := Aside0.mk hl309_4
     clear hi309_4 hl309_4
     replace p309 := eq_true p309
     replace q309 := eq_true q309
     have ea_ := Option.some.inj (hx303_2.symm.trans hx309_2)
     injection ea_ with ea_ en_ ec_
     subst ea_
     subst ec_
     clear en_
     have ea_ := Option.some.inj (hx303_3.symm.trans hx309_3)
     injection ea_ with ea_ en_ ec_
     subst ea_
     subst ec_
     clear en_
     have ea_ := Option.some.inj (hx303_4.symm.trans hx309_4)
     injection ea_ with ea_ en_ ec_
     subst ea_
     subst ec_
     clear en_
     go_wp2_with (first | (go_at_call 110; (with_reducible refine (ih k1 (by have := HK1.out; omega) _ _ ((rd_T64 l0 x3_1).f3) true _ ?side1 ?side2 A10.out).mono ?_); (case side1 => exact ca HR309_3); (case side2 => exact HC309_3.out); rintro e w' ⟨rfl, ⟨nd, rfl⟩⟩; have p311 : 0 ≤ (x3_1 : Int) := od; have q311 : x3_1 < (l0.length : Int) := od; obtain ⟨ad311, A311_2, c311_2, A311_3, c311_3, A311_4, c311_4, e311, hx311_0, hx311_1, hx311_2, hx311_3, hx311_4, hl311_2, hi311_2, hl311_3, hi311_3, hl311_4, hi311_4⟩ := at_T64 HR0.out x3_1 p311 q311; obtain rfl : ad303 = ad311 := (by injection e311); have HR311_2 := Aside0.mk hi311_2; have HC311_2 := Aside0.mk hl311_2; clear hi311_2 hl311_2; have HR311_3 := Aside0.mk hi311_3; have HC311_3 := Aside0.mk hl311_3; clear hi311_3 hl311_3; have HR311_4 := Aside0.mk hi311_4; have HC311_4 := Aside0.mk hl311_4; clear hi311_4 hl311_4; replace p311 := eq_true p311; replace q311 := eq_true q311; have ea_ := Option.some.inj (hx303_2.symm.trans hx311_2); injection ea_ with ea_ en_ ec_; subst ea_; subst ec_; clear en_; have ea_ := Option.some.inj (hx303_3.symm.trans hx311_3); injection ea_ with ea_ en_ ec_; subst ea_; subst ec_; clear en_; have ea_ := Option.some.inj (hx303_4.symm.trans hx311_4); injection ea_ with ea_ en_ ec_; subst ea_; subst ec_; clear en_) | (go_at_call 110; (with_reducible refine (ih k1 (by have := HK1.out; omega) _ _ ((rd_T64 l0 x3_1).f4) false _ ?side1 ?side2 A12.out).mono ?_); (case side1 => exact ca HR311_4); (case side2 => exact HC311_4.out); rintro e w' ⟨rfl, ⟨nd, rfl⟩⟩))
     go_ret
     exact ⟨rs, dr⟩
    subst c13
    replace H := it H
    have H' := Aside0.mk H
    clear H
    have p303 : 0 ≤ (x3_1 : Int) := od
    have q303 : x3_1 < (l0.length : Int) := od
    obtain ⟨ad303, A303_2, c303_2, A303_3, c303_3, A303_4, c303_4, e303, hx303_0, hx303_1, hx303_2, hx303_3, hx303_4, hl303_2, hi303_2, hl303_3, hi303_3, hl303_4, hi303_4⟩ := at_T64 HR0.out x3_1 p303 q303
    cases e303
    have HR303_2 := Aside0.mk hi303_2
    have HC303_2 := Aside0.mk hl303_2
    clear hi303_2 hl303_2
    have HR303_3 := Aside0.mk hi303_3
    have HC303_3 := Aside0.mk hl303_3
    clear hi303_3 hl303_3
    have HR303_4 := Aside0.mk hi303_4
    have HC303_4 := Aside0.mk hl303_4
    clear hi303_4 hl303_4
    replace p303 := eq_true p303
    replace q303 := eq_true q303
    have p309 : 0 ≤ (x3_1 : Int) := od
    have q309 : x3_1 < (l0.length : Int) := od
    obtain ⟨ad309, A309_2, c309_2, A309_3, c309_3, A309_4, c309_4, e309, hx309_0, hx309_1, hx309_2, hx309_3, hx309_4, hl309_2, hi309_2, hl309_3, hi309_3, hl309_4, hi309_4⟩ := at_T64 HR0.out x3_1 p309 q309
    obtain rfl : ad303 = ad309 := (by injection e309)
    have HR309_2 := Aside0.mk hi309_2
    have HC309_2 := Aside0.mk hl309_2
    clear hi309_2 hl309_2
    have HR309_3 := Aside0.mk hi309_3
    have HC309_3 := Aside0.mk hl309_3
    clear hi309_3 hl309_3
    have HR309_4 := Aside0.mk hi309_4
    have HC309_4 := Aside0.mk hl309_4
    clear hi309_4 hl309_4
    replace p309 := eq_true p309
    replace q309 := eq_true q309
    have ea_ := Option.some.inj (hx303_2.symm.trans hx309_2)
    injection ea_ with ea_ en_ ec_
    subst ea_
    subst ec_
    clear en_
    have ea_ := Option.some.inj (hx303_3.symm.trans hx309_3)
    injection ea_ with ea_ en_ ec_
    subst ea_
    subst ec_
    clear en_
    have ea_ := Option.some.inj (hx303_4.symm.trans hx309_4)
    injection ea_ with ea_ en_ ec_
    subst ea_
    subst ec_
    clear en_
    go_wp2_with (first | (go_at_call 110; (with_reducible refine (ih k1 (by have := HK1.out; omega) _ _ ((rd_T64 l0 x3_1).f3) true _ ?side1 ?side2 A10.out).mono ?_); (case side1 => exact ca HR309_3); (case side2 => exact HC309_3.out); rintro e w' ⟨rfl, ⟨nd, rfl⟩⟩; have p311 : 0 ≤ (x3_1 : Int) := od; have q311 : x3_1 < (l0.length : Int) := od; obtain ⟨ad311, A311_2, c311_2, A311_3, c311_3, A311_4, c311_4, e311, hx311_0, hx311_1, hx311_2, hx311_3, hx311_4, hl311_2, hi311_2, hl311_3, hi311_3, hl311_4, hi311_4⟩ := at_T64 HR0.out x3_1 p311 q311; obtain rfl : ad303 = ad311 := (by injection e311); have HR311_2 := Aside0.mk hi311_2; have HC311_2 := Aside0.mk hl311_2; clear hi311_2 hl311_2; have HR311_3 := Aside0.mk hi311_3; have HC311_3 := Aside0.mk hl311_3; clear hi311_3 hl311_3; have HR311_4 := Aside0.mk hi311_4; have HC311_4 := Aside0.mk hl311_4; clear hi311_4 hl311_4; replace p311 := eq_true p311; replace q311 := eq_true q311; have ea_ := Option.some.inj (hx303_2.symm.trans hx311_2); injection ea_ with ea_ en_ ec_; subst ea_; subst ec_; clear en_; have ea_ := Option.some.inj (hx303_3.symm.trans hx311_3); injection ea_ with ea_ en_ ec_; subst ea_; subst ec_; clear en_; have ea_ := Option.some.inj (hx303_4.symm.trans hx311_4); injection ea_ with ea_ en_ ec_; subst ea_; subst ec_; clear en_) | (go_at_call 110; (with_reducible refine (ih k1 (by have := HK1.out; omega) _ _ ((rd_T64 l0 x3_1).f4) true _ ?side1 ?side2 A12.out).mono ?_); (case side1 => exact ca HR311_4); (case side2 => exact HC311_4.out); rintro e w' ⟨rfl, ⟨nd, rfl⟩⟩))
    go_roundg k1
    case measure => have := HK1.out; omega
    case rel => exact ⟨(wrap64 (x3_1 + 1)), rs, H', ⟨by have := HK1.out; omega⟩, dr⟩
   rw [if_pos c4] at H
   have c4b0 : (((rd_T64 l0 x3_1).f0) == 3) = true := beq_iff_eq.mpr c4
   have c4b1 : (((rd_T64 l0 x3_1).f0) != 3) = false := bne_eq_false_iff_eq.mpr c4
   clear c4
   by_cases c5 : ((rd_T64 l0 x3_1).f1) > 15
   ·rw [if_pos c5] at H
    have c5b0 : decide (15 < ((rd_T64 l0 x3_1).f1)) = true := decide_eq_true c5
    clear c5
    obtain rfl := Option.some.inj H
    have p303 : 0 ≤ (x3_1 : Int) := od
    have q303 : x3_1 < (l0.length : Int) := od
    obtain ⟨ad303, A303_2, c303_2, A303_3, c303_3, A303_4, c303_4, e303, hx303_0, hx303_1, hx303_2, hx303_3, hx303_4, hl303_2, hi303_2, hl303_3, hi303_3, hl303_4, hi303_4⟩ := at_T64 HR0.out x3_1 p303 q303
    cases e303
    have HR303_2 := Aside0.mk hi303_2
    have HC303_2 := Aside0.mk hl303_2
    clear hi303_2 hl303_2
    have HR303_3 := Aside0.mk hi303_3
    have HC303_3 := Aside0.mk hl303_3
    clear hi303_3 hl303_3
    have HR303_4 := Aside0.mk hi303_4
    have HC303_4 := Aside0.mk hl303_4
    clear hi303_4 hl303_4
    replace p303 := eq_true p303
    replace q303 := eq_true q303
    have p304 : 0 ≤ (x3_1 : Int) := od
    have q304 : x3_1 < (l0.length : Int) := od
    obtain ⟨ad304, A304_2, c304_2, A304_3, c304_3, A304_4, c304_4, e304, hx304_0, hx304_1, hx304_2, hx304_3, hx304_4, hl304_2, hi304_2, hl304_3, hi304_3, hl304_4, hi304_4⟩ := at_T64 HR0.out x3_1 p304 q304
    obtain rfl : ad303 = ad304 := (by injection e304)
    have HR304_2 := Aside0.mk hi304_2
    have HC304_2 := Aside0.mk hl304_2
    clear hi304_2 hl304_2
    have HR304_3 := Aside0.mk hi304_3
    have HC304_3 := Aside0.mk hl304_3
    clear hi304_3 hl304_3
    have HR304_4 := Aside0.mk hi304_4
    have HC304_4 := Aside0.mk hl304_4
    clear hi304_4 hl304_4
    replace p304 := eq_true p304
    replace q304 := eq_true q304
    have ea_ := Option.some.inj (hx303_2.symm.trans hx304_2)
    injection ea_ with ea_ en_ ec_
    subst ea_
    subst ec_
    clear en_
    have ea_ := Option.some.inj (hx303_3.symm.trans hx304_3)
    injection ea_ with ea_ en_ ec_
    subst ea_
    subst ec_
    clear en_
    have ea_ := Option.some.inj (hx303_4.symm.trans hx304_4)
    injection ea_ with ea_ en_ ec_
    subst ea_
    subst ec_
    clear en_
    go_wp2
    go_ret
    exact ⟨rs, dr⟩
   rw [if_neg c5] at H
   have c5b0 : decide (15 < ((rd_T64 l0 x3_1).f1)) = false := decide_eq_false c5
   clear c5
   obtain ⟨t306, A6, H⟩ := be H
   by_cases c7 : t306 = true
   rotate_left
   ·replace c7 := Bool.eq_false_iff.mpr c7
    subst c7
    replace H := fi H
    obtain rfl := Option.some.inj H
    have p303 : 0 ≤ (x3_1 : Int) := od
    have q303 : x3_1 < (l0.length : Int) := od
    obtain ⟨ad303, A303_2, c303_2, A303_3, c303_3, A303_4, c303_4, e303, hx303_0, hx303_1, hx303_2, hx303_3, hx303_4, hl303_2, hi303_2, hl303_3, hi303_3, hl303_4, hi303_4⟩ := at_T64 HR0.out x3_1 p303 q303
    cases e303
    have HR303_2 := Aside0.mk hi303_2
    have HC303_2 := Aside0.mk hl303_2
    clear hi303_2 hl303_2
    have HR303_3 := Aside0.mk hi303_3
    have HC303_3 := Aside0.mk hl303_3
    clear hi303_3 hl303_3
    have HR303_4 := Aside0.mk hi303_4
    have HC303_4 := Aside0.mk hl303_4
    clear hi303_4 hl303_4
    replace p303 := eq_true p303
    replace q303 := eq_true q303
    have p304 : 0 ≤ (x3_1 : Int) := od
    have q304 : x3_1 < (l0.length : Int) := od
    obtain ⟨ad304, A304_2, c304_2, A304_3, c304_3, A304_4, c304_4, e304, hx304_0, hx304_1, hx304_2, hx304_3, hx304_4, hl304_2, hi304_2, hl304_3, hi304_3, hl304_4, hi304_4⟩ := at_T64 HR0.out x3_1 p304 q304
    obtain rfl : ad303 = ad304 := (by injection e304)
    have HR304_2 := Aside0.mk hi304_2
    have HC304_2 := Aside0.mk hl304_2
    clear hi304_2 hl304_2
    have HR304_3 := Aside0.mk hi304_3
    have HC304_3 := Aside0.mk hl304_3
    clear hi304_3 hl304_3
    have HR304_4 := Aside0.mk hi304_4
    have HC304_4 := Aside0.mk hl304_4
    clear hi304_4 hl304_4
    replace p304 := eq_true p304
    replace q304 := eq_true q304
    have ea_ := Option.some.inj (hx303_2.symm.trans hx304_2)
    injection ea_ with ea_ en_ ec_
    subst ea_
    subst ec_
    clear en_
    have ea_ := Option.some.inj (hx303_3.symm.trans hx304_3)
    injection ea_ with ea_ en_ ec_
    subst ea_
    subst ec_
    clear en_
    have ea_ := Option.some.inj (hx303_4.symm.trans hx304_4)
    injection ea_ with ea_ en_ ec_
    subst ea_
    subst ec_
    clear en_
    have p305 : 0 ≤ (x3_1 : Int) := od
    have q305 : x3_1 < (l0.length : Int) := od
    obtain ⟨ad305, A305_2, c305_2, A305_3, c305_3, A305_4, c305_4, e305, hx305_0, hx305_1, hx305_2, hx305_3, hx305_4, hl305_2, hi305_2, hl305_3, hi305_3, hl305_4, hi305_4⟩ := at_T64 HR0.out x3_1 p305 q305
    obtain rfl : ad303 = ad305 := (by injection e305)
    have HR305_2 := Aside0.mk hi305_2
    have HC305_2 := Aside0.mk hl305_2
    clear hi305_2 hl305_2
    have HR305_3 := Aside0.mk hi305_3
    have HC305_3 := Aside0.mk hl305_3
    clear hi305_3 hl305_3
    have HR305_4 := Aside0.mk hi305_4
    have HC305_4 := Aside0.mk hl305_4
    clear hi305_4 hl305_4
    replace p305 := eq_true p305
    replace q305 := eq_true q305
    have ea_ := Option.some.inj (hx303_2.symm.trans hx305_2)
    injection ea_ with ea_ en_ ec_
    subst ea_
    subst ec_
    clear en_
    have ea_ := Option.some.inj (hx303_3.symm.trans hx305_3)
    injection ea_ with ea_ en_ ec_
    subst ea_
    subst ec_
    clear en_
    have ea_ := Option.some.inj (hx303_4.symm.trans hx305_4)
    injection ea_ with ea_ en_ ec_
    subst ea_
    subst ec_
    clear en_
    go_wp2_with (first | (go_at_call 110; (with_reducible refine (ih k1 (by have := HK1.out; omega) _ _ ((rd_T64 l0 x3_1).f3) false _ ?side1 ?side2 A6.out).mono ?_); (case side1 => exact ca HR305_3); (case side2 => exact HC305_3.out); rintro e w' ⟨rfl, ⟨nd, rfl⟩⟩))
    go_ret
    exact ⟨rs, dr⟩
   subst c7
   replace H := it H
   obtain ⟨t308, A8, H⟩ := be H
   by_cases c9 : t308 = true
   rotate_left
   ·replace c9 := Bool.eq_false_iff.mpr c9
    subst c9
    replace H := fi H
    obtain rfl := Option.some.inj H
    have p303 : 0 ≤ (x3_1 : Int) := od
    have q303 : x3_1 < (l0.length : Int) := od
    obtain ⟨ad303, A303_2, c303_2, A303_3, c303_3, A303_4, c303_4, e303, hx303_0, hx303_1, hx303_2, hx303_3, hx303_4, hl303_2, hi303_2, hl303_3, hi303_3, hl303_4, hi303_4⟩ := at_T64 HR0.out x3_1 p303 q303
    cases e303
    have HR303_2 := Aside0.mk hi303_2
    have HC303_2 := Aside0.mk hl303_2
    clear hi303_2 hl303_2
    have HR303_3 := Aside0.mk hi303_3
    have HC303_3 := Aside0.mk hl303_3
    clear hi303_3 hl303_3
    have HR303_4 := Aside0.mk hi303_4
    have HC303_4 := Aside0.mk hl303_4
    clear hi303_4 hl303_4
    replace p303 := eq_true p303
    replace q303 := eq_true q303
    have p304 : 0 ≤ (x3_1 : Int) := od
    have q304 : x3_1 < (l0.length : Int) := od
    obtain ⟨ad304, A304_2, c304_2, A304_3, c304_3, A304_4, c304_4, e304, hx304_0, hx304_1, hx304_2, hx304_3, hx304_4, hl304_2, hi304_2, hl304_3, hi304_3, hl304_4, hi304_4⟩ := at_T64 HR0.out x3_1 p304 q304
    obtain rfl : ad303 = ad304 := (by injection e304)
    have HR304_2 := Aside0.mk hi304_2
    have HC304_2 := Aside0.mk hl304_2
    clear hi304_2 hl304_2
    have HR304_3 := Aside0.mk hi304_3
    have HC304_3 := Aside0.mk hl304_3
    clear hi304_3 hl304_3
    have HR304_4 := Aside0.mk hi304_4
    have HC304_4 := Aside0.mk hl304_4
    clear hi304_4 hl304_4
    replace p304 := eq_true p304
    replace q304 := eq_true q304
    have ea_ := Option.some.inj (hx303_2.symm.trans hx304_2)
    injection ea_ with ea_ en_ ec_
    subst ea_
    subst ec_
    clear en_
    have ea_ := Option.some.inj (hx303_3.symm.trans hx304_3)
    injection ea_ with ea_ en_ ec_
    subst ea_
    subst ec_
    clear en_
    have ea_ := Option.some.inj (hx303_4.symm.trans hx304_4)
    injection ea_ with ea_ en_ ec_
    subst ea_
    subst ec_
    clear en_
    have p305 : 0 ≤ (x3_1 : Int) := od
    have q305 : x3_1 < (l0.length : Int) := od
    obtain ⟨ad305, A305_2, c305_2, A305_3, c305_3, A305_4, c305_4, e305, hx305_0, hx305_1, hx305_2, hx305_3, hx305_4, hl305_2, hi305_2, hl305_3, hi305_3, hl305_4, hi305_4⟩ := at_T64 HR0.out x3_1 p305 q305
    obtain rfl : ad303 = ad305 := (by injection e305)
    have HR305_2 := Aside0.mk hi305_2
    have HC305_2 := Aside0.mk hl305_2
    clear hi305_2 hl305_2
    have HR305_3 := Aside0.mk hi305_3
    have HC305_3 := Aside0.mk hl305_3
    clear hi305_3 hl305_3
    have HR305_4 := Aside0.mk hi305_4
    have HC305_4 := Aside0.mk hl305_4
    clear hi305_4 hl305_4
    replace p305 := eq_true p305
    replace q305 := eq_true q305
    have ea_ := Option.some.inj (hx303_2.symm.trans hx305_2)
    injection ea_ with ea_ en_ ec_
    subst ea_
    subst ec_
    clear en_
    have ea_ := Option.some.inj (hx303_3.symm.trans hx305_3)
    injection ea_ with ea_ en_ ec_
    subst ea_
    subst ec_
    clear en_
    have ea_ := Option.some.inj (hx303_4.symm.trans hx305_4)
    injection ea_ with ea_ en_ ec_
    subst ea_
    subst ec_
    clear en_
    go_wp2_with (first | (go_at_call 110; (with_reducible refine (ih k1 (by have := HK1.out; omega) _ _ ((rd_T64 l0 x3_1).f3) true _ ?side1 ?side2 A6.out).mono ?_); (case side1 => exact ca HR305_3); (case side2 => exact HC305_3.out); rintro e w' ⟨rfl, ⟨nd, rfl⟩⟩; have p307 : 0 ≤ (x3_1 : Int) := od; have q307 : x3_1 < (l0.length : Int) := od; obtain ⟨ad307, A307_2, c307_2, A307_3, c307_3, A307_4, c307_4, e307, hx307_0, hx307_1, hx307_2, hx307_3, hx307_4, hl307_2, hi307_2, hl307_3, hi307_3, hl307_4, hi307_4⟩ := at_T64 HR0.out x3_1 p307 q307; obtain rfl : ad303 = ad307 := (by injection e307); have HR307_2 := Aside0.mk hi307_2; have HC307_2 := Aside0.mk hl307_2; clear hi307_2 hl307_2; have HR307_3 := Aside0.mk hi307_3; have HC307_3 := Aside0.mk hl307_3; clear hi307_3 hl307_3; have HR307_4 := Aside0.mk hi307_4; have HC307_4 := Aside0.mk hl307_4; clear hi307_4 hl307_4; replace p307 := eq_true p307; replace q307 := eq_true q307; have ea_ := Option.some.inj (hx303_2.symm.trans hx307_2); injection ea_ with ea_ en_ ec_; subst ea_; subst ec_; clear en_; have ea_ := Option.some.inj (hx303_3.symm.trans hx307_3); injection ea_ with ea_ en_ ec_; subst ea_; subst ec_; clear en_; have ea_ := Option.some.inj (hx303_4.symm.trans hx307_4); injection ea_ with ea_ en_ ec_; subst ea_; subst ec_; clear en_) | (go_at_call 110; (with_reducible refine (ih k1 (by have := HK1.out; omega) _ _ ((rd_T64 l0 x3_1).f4) false _ ?side1 ?side2 A8.out).mono ?_); (case side1 => exact ca HR307_4); (case side2 => exact HC307_4.out); rintro e w' ⟨rfl, ⟨nd, rfl⟩⟩))
    go_ret
    exact ⟨rs, dr⟩
   subst c9
   replace H := it H
   have H' := Aside0.mk H
   clear H
   have p303 : 0 ≤ (x3_1 : Int) := od
   have q303 : x3_1 < (l0.length : Int) := od
   obtain ⟨ad303, A303_2, c303_2, A303_3, c303_3, A303_4, c303_4, e303, hx303_0, hx303_1, hx303_2, hx303_3, hx303_4, hl303_2, hi303_2, hl303_3, hi303_3, hl303_4, hi303_4⟩ := at_T64 HR0.out x3_1 p303 q303
   cases e303
   have HR303_2 := Aside0.mk hi303_2
   have HC303_2 := Aside0.mk hl303_2
   clear hi303_2 hl303_2
   have HR303_3 := Aside0.mk hi303_3
   have HC303_3 := Aside0.mk hl303_3
   clear hi303_3 hl303_3
   have HR303_4 := Aside0.mk hi303_4
   have HC303_4 := Aside0.mk hl303_4
   clear hi303_4 hl303_4
   replace p303 := eq_true p303
   replace q303 := eq_true q303
   have p304 : 0 ≤ (x3_1 : Int) := od
   have q304 : x3_1 < (l0.length : Int) := od
   obtain ⟨ad304, A304_2, c304_2, A304_3, c304_3, A304_4, c304_4, e304, hx304_0, hx304_1, hx304_2, hx304_3, hx304_4, hl304_2, hi304_2, hl304_3, hi304_3, hl304_4, hi304_4⟩ := at_T64 HR0.out x3_1 p304 q304
   obtain rfl : ad303 = ad304 := (by injection e304)
   have HR304_2 := Aside0.mk hi304_2
   have HC304_2 := Aside0.mk hl304_2
   clear hi304_2 hl304_2
   have HR304_3 := Aside0.mk hi304_3
   have HC304_3 := Aside0.mk hl304_3
   clear hi304_3 hl304_3
   have HR304_4 := Aside0.mk hi304_4
   have HC304_4 := Aside0.mk hl304_4
   clear hi304_4 hl304_4
   replace p304 := eq_true p304
   replace q304 := eq_true q304
   have ea_ := Option.some.inj (hx303_2.symm.trans hx304_2)
   injection ea_ with ea_ en_ ec_
   subst ea_
   subst ec_
   clear en_
   have ea_ := Option.some.inj (hx303_3.symm.trans hx304_3)
   injection ea_ with ea_ en_ ec_
   subst ea_
   subst ec_
   clear en_
   have ea_ := Option.some.inj (hx303_4.symm.trans hx304_4)
   injection ea_ with ea_ en_ ec_
   subst ea_
   subst ec_
   clear en_
   have p305 : 0 ≤ (x3_1 : Int) := od
   have q305 : x3_1 < (l0.length : Int) := od
   obtain ⟨ad305, A305_2, c305_2, A305_3, c305_3, A305_4, c305_4, e305, hx305_0, hx305_1, hx305_2, hx305_3, hx305_4, hl305_2, hi305_2, hl305_3, hi305_3, hl305_4, hi305_4⟩ := at_T64 HR0.out x3_1 p305 q305
   obtain rfl : ad303 = ad305 := (by injection e305)
   have HR305_2 := Aside0.mk hi305_2
   have HC305_2 := Aside0.mk hl305_2
   clear hi305_2 hl305_2
   have HR305_3 := Aside0.mk hi305_3
   have HC305_3 := Aside0.mk hl305_3
   clear hi305_3 hl305_3
   have HR305_4 := Aside0.mk hi305_4
   have HC305_4 := Aside0.mk hl305_4
   clear hi305_4 hl305_4
   replace p305 := eq_true p305
   replace q305 := eq_true q305
   have ea_ := Option.some.inj (hx303_2.symm.trans hx305_2)
   injection ea_ with ea_ en_ ec_
   subst ea_
   subst ec_
   clear en_
   have ea_ := Option.some.inj (hx303_3.symm.trans hx305_3)
   injection ea_ with ea_ en_ ec_
   subst ea_
   subst ec_
   clear en_
   have ea_ := Option.some.inj (hx303_4.symm.trans hx305_4)
   injection ea_ with ea_ en_ ec_
   subst ea_
   subst ec_
   clear en_
   go_wp2_with (first | (go_at_call 110; (with_reducible refine (ih k1 (by have := HK1.out; omega) _ _ ((rd_T64 l0 x3_1).f3) true _ ?side1 ?side2 A6.out).mono ?_); (case side1 => exact ca HR305_3); (case side2 => exact HC305_3.out); rintro e w' ⟨rfl, ⟨nd, rfl⟩⟩; have p307 : 0 ≤ (x3_1 : Int) := od; have q307 : x3_1 < (l0.length : Int) := od; obtain ⟨ad307, A307_2, c307_2, A307_3, c307_3, A307_4, c307_4, e307, hx307_0, hx307_1, hx307_2, hx307_3, hx307_4, hl307_2, hi307_2, hl307_3, hi307_3, hl307_4, hi307_4⟩ := at_T64 HR0.out x3_1 p307 q307; obtain rfl : ad303 = ad307 := (by injection e307); have HR307_2 := Aside0.mk hi307_2; have HC307_2 := Aside0.mk hl307_2; clear hi307_2 hl307_2; have HR307_3 := Aside0.mk hi307_3; have HC307_3 := Aside0.mk hl307_3; clear hi307_3 hl307_3; have HR307_4 := Aside0.mk hi307_4; have HC307_4 := Aside0.mk hl307_4; clear hi307_4 hl307_4; replace p307 := eq_true p307; replace q307 := eq_true q307; have ea_ := Option.some.inj (hx303_2.symm.trans hx307_2); injection ea_ with ea_ en_ ec_; subst ea_; subst ec_; clear en_; have ea_ := Option.some.inj (hx303_3.symm.trans hx307_3); injection ea_ with ea_ en_ ec_; subst ea_; subst ec_; clear en_; have ea_ := Option.some.inj (hx303_4.symm.trans hx307_4); injection ea_ with ea_ en_ ec_; subst ea_; subst ec_; clear en_) | (go_at_call 110; (with_reducible refine (ih k1 (by have := HK1.out; omega) _ _ ((rd_T64 l0 x3_1).f4) true _ ?side1 ?side2 A8.out).mono ?_); (case side1 => exact ca HR307_4); (case side2 => exact HC307_4.out); rintro e w' ⟨rfl, ⟨nd, rfl⟩⟩))
   go_roundg k1
   case measure => have := HK1.out; omega
   case rel => exact ⟨(wrap64 (x3_1 + 1)), rs, H', ⟨by have := HK1.out; omega⟩, dr⟩
def r3_Single.l0 : Nat → Int → Int → List (S66) → List (S64) → Option (Bool)
 | 0, _, _, _, _ => none
 | k + 1, x3, x314000, x314001, x314002 => if x3 < (x314001.length : Int) then (if 0 ≤ x3 then (if ((rd_T66 x314001 x3).f1) > 15 then (some false) else (r3_Single.l0 k (wrap64 (x3 + 1)) x314000 x314001 x314002)) else (none)) else ((r3_low.f k x314002).bind fun t315 => (some t315))
def r3_Single.f (k : Nat) (a0_0 : Int) (l0_1 : List (S66)) (l0_2 : List (S64)) : Option (Bool) := r3_Single.l0 k 0 a0_0 l0_1 l0_2
theorem r3_Single.calls (k : Nat) (a0_0 : Int) (A0_1 : Option Addr) (c0_1 : Nat) (l0_1 : List (S66)) (A0_2 : Option Addr) (c0_2 : Nat) (l0_2 : List (S64)) (r : Bool) (w : World) (hr0_1 : Kd.C k66 w A0_1 l0_1.length l0_1) (hc0_1 : l0_1.length ≤ c0_1) (hr0_2 : Kd.C k64 w A0_2 l0_2.length l0_2) (hc0_2 : l0_2.length ≤ c0_2) (h : r3_Single.f k a0_0 l0_1 l0_2 = some r) :
  Calls Try.prog 88 #[.agg #[.int .i64 a0_0, .slice A0_1 l0_1.length c0_1, .slice A0_2 l0_2.length c0_2]] w fun e w' => e = .returned (.bool r) ∧ Below w.heap.size w w' := by
 have hu25 := Try.underlying25
 have HR0_1 := Aside0.mk hr0_1
 have HC0_1 := Aside0.mk hc0_1
 clear hr0_1 hc0_1
 have HR0_2 := Aside0.mk hr0_2
 have HC0_2 := Aside0.mk hc0_2
 clear hr0_2 hc0_2
 have HB := Aside0.mk (Below.refl w.heap.size w)
 have H : (r3_Single.l0 k 0 a0_0 l0_1 l0_2) = some r := h
 clear h
 have H' := Aside0.mk H
 clear H
 go_enter Try.func88, Try.ntmps88
 go_wp2_with (first | ((with_reducible refine gate_dst (N := 1) rfl ?_); refine bx 1 rfl rfl #[.int .i64 a0_0, .slice A0_1 l0_1.length c0_1, .slice A0_2 l0_2.length c0_2] 25 ?_; intro gb313 hg w2 hbox hb; have BK313 := Aside0.mk (hbox); have GE313 := ge HB hg; replace HB := sb HB hb; clear hb hbox hg))
 go_loopg [3] k (fun kq v3 w' => ∃ (x3_1 : Int), v3 = .int .i64 x3_1 ∧ Aside0 (r3_Single.l0 kq x3_1 a0_0 l0_1 l0_2 = some r) ∧ Aside0 (kq ≤ k) ∧ Aside0 (w'.heap[gb313]? = some (.cells #[.int .i64 a0_0, (.slice A0_1 l0_1.length c0_1), (.slice A0_2 l0_2.length c0_2)] 25 (0, 0))) ∧ Aside0 (Below w.heap.size w w'))
 case atStart => exact ⟨(0), rs, H', ⟨Nat.le_refl _⟩, ⟨kk BK313⟩, ⟨bb HB⟩⟩
 case round =>
  clear H'
  try clear p2
  obtain ⟨x3_1, rfl, HA, HK1, BK313, HB⟩ := hrel
  cases gk with
  | zero => exact absurd HA.out (by simp [r3_Single.l0])
  | succ k1 =>
   have H := HA.out
   clear HA
   simp only [r3_Single.l0] at H
   by_cases c3 : x3_1 < (l0_1.length : Int)
   rotate_left
   ·rw [if_neg c3] at H
    have c3b0 : decide (x3_1 < (l0_1.length : Int)) = false := decide_eq_false c3
    clear c3
    obtain ⟨t315, A8, H⟩ := be H
    obtain rfl := Option.some.inj H
    obtain ⟨hcz9_0, hcz9_1, hcz9_2, hfz9_0, hfz9_1, hfz9_2⟩ := cf3 BK313.out
    go_wp2_with (first | ((with_reducible refine gate_callee (f := 110) rfl ?_); refine gL (some 20) rfl rfl Try.func110 #[.slice A0_2 l0_2.length c0_2] rfl ?_; (with_reducible refine (r3_low.calls k1 _ _ l0_2 t315 _ ?side1 ?side2 A8.out).mono ?_); (case side1 => exact cb HR0_2 HB); (case side2 => exact HC0_2.out); rintro e w' ⟨rfl, ⟨nd, rfl⟩⟩; refine ⟨_, rfl, ?_⟩))
    go_ret
    exact ⟨rr, bb HB⟩
   rw [if_pos c3] at H
   have c3b0 : decide (x3_1 < (l0_1.length : Int)) = true := decide_eq_true c3
   clear c3
   by_cases c4 : 0 ≤ x3_1
   rotate_left
   ·rw [if_neg c4] at H
    exact absurd H (by simp)
   rw [if_pos c4] at H
   have c4b0 : decide (0 ≤ x3_1) = true := decide_eq_true c4
   clear c4
   by_cases c5 : ((rd_T66 l0_1 x3_1).f1) > 15
   ·rw [if_pos c5] at H
    have c5b0 : decide (15 < ((rd_T66 l0_1 x3_1).f1)) = true := decide_eq_true c5
    clear c5
    obtain rfl := Option.some.inj H
    obtain ⟨hcz6_0, hcz6_1, hcz6_2, hfz6_0, hfz6_1, hfz6_2⟩ := cf3 BK313.out
    have p314 : 0 ≤ (x3_1 : Int) := od
    have q314 : x3_1 < (l0_1.length : Int) := od
    obtain ⟨ad314, e314, hx314_0, hx314_1, hx314_2⟩ := at_T66 HR0_1.out x3_1 p314 q314
    cases e314
    replace hx314_0 := bcell HB.out hx314_0
    replace hx314_1 := bcell HB.out hx314_1
    replace hx314_2 := bcell HB.out hx314_2
    replace p314 := eq_true p314
    replace q314 := eq_true q314
    go_wp2
    go_ret
    exact ⟨rr, bb HB⟩
   rw [if_neg c5] at H
   have c5b0 : decide (15 < ((rd_T66 l0_1 x3_1).f1)) = false := decide_eq_false c5
   clear c5
   have H' := Aside0.mk H
   clear H
   obtain ⟨hcz7_0, hcz7_1, hcz7_2, hfz7_0, hfz7_1, hfz7_2⟩ := cf3 BK313.out
   have p314 : 0 ≤ (x3_1 : Int) := od
   have q314 : x3_1 < (l0_1.length : Int) := od
   obtain ⟨ad314, e314, hx314_0, hx314_1, hx314_2⟩ := at_T66 HR0_1.out x3_1 p314 q314
   cases e314
   replace hx314_0 := bcell HB.out hx314_0
   replace hx314_1 := bcell HB.out hx314_1
   replace hx314_2 := bcell HB.out hx314_2
   replace p314 := eq_true p314
   replace q314 := eq_true q314
   go_wp2
   go_roundg k1
   case measure => have := HK1.out; omega
   case rel => exact ⟨(wrap64 (x3_1 + 1)), rs, H', ⟨by have := HK1.out; omega⟩, ⟨kk BK313⟩, ⟨bb HB⟩⟩
def r12_Single.f (k : Nat) (a0_0 : Int) (l0_1 : List (S66)) (l0_2 : List (S64)) : Option (Int) := (r3_Is.f k a0_0 l0_1 l0_2).bind fun t317 => (if t317 = true then ((r3_Single.f k a0_0 l0_1 l0_2).bind fun t318 => (if t318 = true then (some 0) else (some 1))) else (some 30))
theorem r12_Single.calls (k : Nat) (a0_0 : Int) (A0_1 : Option Addr) (c0_1 : Nat) (l0_1 : List (S66)) (A0_2 : Option Addr) (c0_2 : Nat) (l0_2 : List (S64)) (r : Int) (w : World) (hr0_1 : Kd.C k66 w A0_1 l0_1.length l0_1) (hc0_1 : l0_1.length ≤ c0_1) (hr0_2 : Kd.C k64 w A0_2 l0_2.length l0_2) (hc0_2 : l0_2.length ≤ c0_2) (h : r12_Single.f k a0_0 l0_1 l0_2 = some r) :
  Calls Try.prog 52 #[.agg #[.int .i64 a0_0, .slice A0_1 l0_1.length c0_1, .slice A0_2 l0_2.length c0_2]] w fun e w' => e = .returned (.int .i64 r) ∧ Below w.heap.size w w' := by
 have hu25 := Try.underlying25
 have HR0_1 := Aside0.mk hr0_1
 have HC0_1 := Aside0.mk hc0_1
 clear hr0_1 hc0_1
 have HR0_2 := Aside0.mk hr0_2
 have HC0_2 := Aside0.mk hc0_2
 clear hr0_2 hc0_2
 have HB := Aside0.mk (Below.refl w.heap.size w)
 have H : ((r3_Is.f k a0_0 l0_1 l0_2).bind fun t317 => (if t317 = true then ((r3_Single.f k a0_0 l0_1 l0_2).bind fun t318 => (if t318 = true then (some 0) else (some 1))) else (some 30))) = some r := h
 clear h
 obtain ⟨t317, A2, H⟩ := be H
 by_cases c3 : t317 = true
 rotate_left
 ·replace c3 := Bool.eq_false_iff.mpr c3
  subst c3
  replace H := fi H
  obtain rfl := Option.some.inj H
  go_enter Try.func52, Try.ntmps52
  go_wp2_with (first | ((with_reducible refine gate_dst (N := 1) rfl ?_); refine bx 1 rfl rfl #[.int .i64 a0_0, .slice A0_1 l0_1.length c0_1, .slice A0_2 l0_2.length c0_2] 25 ?_; intro gb316 hg w16 hbox hb; have BK316 := Aside0.mk (hbox); have GE316 := ge HB hg; replace HB := sb HB hb; clear hb hbox hg; obtain ⟨hcz17_0, hcz17_1, hcz17_2, hfz17_0, hfz17_1, hfz17_2⟩ := cf3 BK316.out) | ((with_reducible refine gate_callee (f := 87) rfl ?_); refine gL (some 4) rfl rfl Try.func87 #[.agg #[.int .i64 a0_0, .slice A0_1 l0_1.length c0_1, .slice A0_2 l0_2.length c0_2]] rfl ?_; (with_reducible refine (r3_Is.calls k a0_0 _ _ l0_1 _ _ l0_2 false _ ?side1 ?side2 ?side3 ?side4 A2.out).mono ?_); (case side1 => exact cb HR0_1 HB); (case side2 => exact HC0_1.out); (case side3 => exact cb HR0_2 HB); (case side4 => exact HC0_2.out); rintro e w18 ⟨rfl, hb⟩; refine ⟨_, rfl, ?_⟩; replace BK316 := kb BK316 hb; replace HB := sb HB hb; (try clear hb)))
  go_ret
  exact ⟨rr, bb HB⟩
 subst c3
 replace H := it H
 obtain ⟨t318, A4, H⟩ := be H
 by_cases c5 : t318 = true
 ·subst c5
  replace H := it H
  obtain rfl := Option.some.inj H
  go_enter Try.func52, Try.ntmps52
  go_wp2_with (first | ((with_reducible refine gate_dst (N := 1) rfl ?_); refine bx 1 rfl rfl #[.int .i64 a0_0, .slice A0_1 l0_1.length c0_1, .slice A0_2 l0_2.length c0_2] 25 ?_; intro gb316 hg w6 hbox hb; have BK316 := Aside0.mk (hbox); have GE316 := ge HB hg; replace HB := sb HB hb; clear hb hbox hg; obtain ⟨hcz7_0, hcz7_1, hcz7_2, hfz7_0, hfz7_1, hfz7_2⟩ := cf3 BK316.out) | ((with_reducible refine gate_callee (f := 87) rfl ?_); refine gL (some 4) rfl rfl Try.func87 #[.agg #[.int .i64 a0_0, .slice A0_1 l0_1.length c0_1, .slice A0_2 l0_2.length c0_2]] rfl ?_; (with_reducible refine (r3_Is.calls k a0_0 _ _ l0_1 _ _ l0_2 true _ ?side1 ?side2 ?side3 ?side4 A2.out).mono ?_); (case side1 => exact cb HR0_1 HB); (case side2 => exact HC0_1.out); (case side3 => exact cb HR0_2 HB); (case side4 => exact HC0_2.out); rintro e w8 ⟨rfl, hb⟩; refine ⟨_, rfl, ?_⟩; replace BK316 := kb BK316 hb; replace HB := sb HB hb; (try clear hb); obtain ⟨hcz9_0, hcz9_1, hcz9_2, hfz9_0, hfz9_1, hfz9_2⟩ := cf3 BK316.out) | ((with_reducible refine gate_callee (f := 88) rfl ?_); refine gL (some 7) rfl rfl Try.func88 #[.agg #[.int .i64 a0_0, .slice A0_1 l0_1.length c0_1, .slice A0_2 l0_2.length c0_2]] rfl ?_; (with_reducible refine (r3_Single.calls k a0_0 _ _ l0_1 _ _ l0_2 true _ ?side1 ?side2 ?side3 ?side4 A4.out).mono ?_); (case side1 => exact cb HR0_1 HB); (case side2 => exact HC0_1.out); (case side3 => exact cb HR0_2 HB); (case side4 => exact HC0_2.out); rintro e w10 ⟨rfl, hb⟩; refine ⟨_, rfl, ?_⟩; replace BK316 := kb BK316 hb; replace HB := sb HB hb; (try clear hb)))
  go_ret
  exact ⟨rr, bb HB⟩
 replace c5 := Bool.eq_false_iff.mpr c5
 subst c5
 replace H := fi H
 obtain rfl := Option.some.inj H
 go_enter Try.func52, Try.ntmps52
 go_wp2_with (first | ((with_reducible refine gate_dst (N := 1) rfl ?_); refine bx 1 rfl rfl #[.int .i64 a0_0, .slice A0_1 l0_1.length c0_1, .slice A0_2 l0_2.length c0_2] 25 ?_; intro gb316 hg w11 hbox hb; have BK316 := Aside0.mk (hbox); have GE316 := ge HB hg; replace HB := sb HB hb; clear hb hbox hg; obtain ⟨hcz12_0, hcz12_1, hcz12_2, hfz12_0, hfz12_1, hfz12_2⟩ := cf3 BK316.out) | ((with_reducible refine gate_callee (f := 87) rfl ?_); refine gL (some 4) rfl rfl Try.func87 #[.agg #[.int .i64 a0_0, .slice A0_1 l0_1.length c0_1, .slice A0_2 l0_2.length c0_2]] rfl ?_; (with_reducible refine (r3_Is.calls k a0_0 _ _ l0_1 _ _ l0_2 true _ ?side1 ?side2 ?side3 ?side4 A2.out).mono ?_); (case side1 => exact cb HR0_1 HB); (case side2 => exact HC0_1.out); (case side3 => exact cb HR0_2 HB); (case side4 => exact HC0_2.out); rintro e w13 ⟨rfl, hb⟩; refine ⟨_, rfl, ?_⟩; replace BK316 := kb BK316 hb; replace HB := sb HB hb; (try clear hb); obtain ⟨hcz14_0, hcz14_1, hcz14_2, hfz14_0, hfz14_1, hfz14_2⟩ := cf3 BK316.out) | ((with_reducible refine gate_callee (f := 88) rfl ?_); refine gL (some 7) rfl rfl Try.func88 #[.agg #[.int .i64 a0_0, .slice A0_1 l0_1.length c0_1, .slice A0_2 l0_2.length c0_2]] rfl ?_; (with_reducible refine (r3_Single.calls k a0_0 _ _ l0_1 _ _ l0_2 false _ ?side1 ?side2 ?side3 ?side4 A4.out).mono ?_); (case side1 => exact cb HR0_1 HB); (case side2 => exact HC0_1.out); (case side3 => exact cb HR0_2 HB); (case side4 => exact HC0_2.out); rintro e w15 ⟨rfl, hb⟩; refine ⟨_, rfl, ?_⟩; replace BK316 := kb BK316 hb; replace HB := sb HB hb; (try clear hb)))
 go_ret
 exact ⟨rr, bb HB⟩
def r12_Copies.f (k : Nat) (a0_0 : Int) (l0_1 : List (S66)) (l0_2 : List (S64)) (a1 : Int) : Option (Int) := (r12_Single.f k a0_0 l0_1 l0_2).bind fun t320 => (if t320 = 0 then (if a1 < 1 then (some 1) else (if a1 > 3 then (some 1) else (some 0))) else (some t320))
theorem r12_Copies.calls (k : Nat) (a0_0 : Int) (A0_1 : Option Addr) (c0_1 : Nat) (l0_1 : List (S66)) (A0_2 : Option Addr) (c0_2 : Nat) (l0_2 : List (S64)) (a1 : Int) (r : Int) (w : World) (hr0_1 : Kd.C k66 w A0_1 l0_1.length l0_1) (hc0_1 : l0_1.length ≤ c0_1) (hr0_2 : Kd.C k64 w A0_2 l0_2.length l0_2) (hc0_2 : l0_2.length ≤ c0_2) (h : r12_Copies.f k a0_0 l0_1 l0_2 a1 = some r) :
  Calls Try.prog 18 #[.agg #[.int .i64 a0_0, .slice A0_1 l0_1.length c0_1, .slice A0_2 l0_2.length c0_2], .int .i64 a1] w fun e w' => e = .returned (.int .i64 r) ∧ Below w.heap.size w w' := by
 have hu25 := Try.underlying25
 have HR0_1 := Aside0.mk hr0_1
 have HC0_1 := Aside0.mk hc0_1
 clear hr0_1 hc0_1
 have HR0_2 := Aside0.mk hr0_2
 have HC0_2 := Aside0.mk hc0_2
 clear hr0_2 hc0_2
 have HB := Aside0.mk (Below.refl w.heap.size w)
 have H : ((r12_Single.f k a0_0 l0_1 l0_2).bind fun t320 => (if t320 = 0 then (if a1 < 1 then (some 1) else (if a1 > 3 then (some 1) else (some 0))) else (some t320))) = some r := h
 clear h
 obtain ⟨t320, A3, H⟩ := be H
 by_cases c4 : t320 = 0
 rotate_left
 ·rw [if_neg c4] at H
  have c4b0 : (t320 == 0) = false := beq_eq_false_iff_ne.mpr c4
  have c4b1 : (t320 != 0) = true := bne_iff_ne.mpr c4
  obtain rfl := Option.some.inj H
  go_enter Try.func18, Try.ntmps18
  go_wp2_with (first | ((with_reducible refine gate_dst (N := 2) rfl ?_); refine bx 2 rfl rfl #[.int .i64 a0_0, .slice A0_1 l0_1.length c0_1, .slice A0_2 l0_2.length c0_2] 25 ?_; intro gb319 hg w16 hbox hb; have BK319 := Aside0.mk (hbox); have GE319 := ge HB hg; replace HB := sb HB hb; clear hb hbox hg; obtain ⟨hcz17_0, hcz17_1, hcz17_2, hfz17_0, hfz17_1, hfz17_2⟩ := cf3 BK319.out) | ((with_reducible refine gate_callee (f := 52) rfl ?_); refine gL (some 7) rfl rfl Try.func52 #[.agg #[.int .i64 a0_0, .slice A0_1 l0_1.length c0_1, .slice A0_2 l0_2.length c0_2]] rfl ?_; (with_reducible refine (r12_Single.calls k a0_0 _ _ l0_1 _ _ l0_2 t320 _ ?side1 ?side2 ?side3 ?side4 A3.out).mono ?_); (case side1 => exact cb HR0_1 HB); (case side2 => exact HC0_1.out); (case side3 => exact cb HR0_2 HB); (case side4 => exact HC0_2.out); rintro e w18 ⟨rfl, hb⟩; refine ⟨_, rfl, ?_⟩; replace BK319 := kb BK319 hb; replace HB := sb HB hb; (try clear hb)))
  go_ret
  exact ⟨rr, bb HB⟩
 rw [if_pos c4] at H
 have c4b0 : (t320 == 0) = true := beq_iff_eq.mpr c4
 have c4b1 : (t320 != 0) = false := bne_eq_false_iff_eq.mpr c4
 clear c4
 by_cases c5 : a1 < 1
 ·rw [if_pos c5] at H
  have c5b0 : decide (a1 < 1) = true := decide_eq_true c5
  clear c5
  obtain rfl := Option.some.inj H
  go_enter Try.func18, Try.ntmps18
  go_wp2_with (first | ((with_reducible refine gate_dst (N := 2) rfl ?_); refine bx 2 rfl rfl #[.int .i64 a0_0, .slice A0_1 l0_1.length c0_1, .slice A0_2 l0_2.length c0_2] 25 ?_; intro gb319 hg w6 hbox hb; have BK319 := Aside0.mk (hbox); have GE319 := ge HB hg; replace HB := sb HB hb; clear hb hbox hg; obtain ⟨hcz7_0, hcz7_1, hcz7_2, hfz7_0, hfz7_1, hfz7_2⟩ := cf3 BK319.out) | ((with_reducible refine gate_callee (f := 52) rfl ?_); refine gL (some 7) rfl rfl Try.func52 #[.agg #[.int .i64 a0_0, .slice A0_1 l0_1.length c0_1, .slice A0_2 l0_2.length c0_2]] rfl ?_; (with_reducible refine (r12_Single.calls k a0_0 _ _ l0_1 _ _ l0_2 t320 _ ?side1 ?side2 ?side3 ?side4 A3.out).mono ?_); (case side1 => exact cb HR0_1 HB); (case side2 => exact HC0_1.out); (case side3 => exact cb HR0_2 HB); (case side4 => exact HC0_2.out); rintro e w8 ⟨rfl, hb⟩; refine ⟨_, rfl, ?_⟩; replace BK319 := kb BK319 hb; replace HB := sb HB hb; (try clear hb)))
  go_ret
  exact ⟨rr, bb HB⟩
 rw [if_neg c5] at H
 have c5b0 : decide (a1 < 1) = false := decide_eq_false c5
 clear c5
 by_cases c9 : a1 > 3
 ·rw [if_pos c9] at H
  have c9b0 : decide (3 < a1) = true := decide_eq_true c9
  clear c9
  obtain rfl := Option.some.inj H
  go_enter Try.func18, Try.ntmps18
  go_wp2_with (first | ((with_reducible refine gate_dst (N := 2) rfl ?_); refine bx 2 rfl rfl #[.int .i64 a0_0, .slice A0_1 l0_1.length c0_1, .slice A0_2 l0_2.length c0_2] 25 ?_; intro gb319 hg w10 hbox hb; have BK319 := Aside0.mk (hbox); have GE319 := ge HB hg; replace HB := sb HB hb; clear hb hbox hg; obtain ⟨hcz11_0, hcz11_1, hcz11_2, hfz11_0, hfz11_1, hfz11_2⟩ := cf3 BK319.out) | ((with_reducible refine gate_callee (f := 52) rfl ?_); refine gL (some 7) rfl rfl Try.func52 #[.agg #[.int .i64 a0_0, .slice A0_1 l0_1.length c0_1, .slice A0_2 l0_2.length c0_2]] rfl ?_; (with_reducible refine (r12_Single.calls k a0_0 _ _ l0_1 _ _ l0_2 t320 _ ?side1 ?side2 ?side3 ?side4 A3.out).mono ?_); (case side1 => exact cb HR0_1 HB); (case side2 => exact HC0_1.out); (case side3 => exact cb HR0_2 HB); (case side4 => exact HC0_2.out); rintro e w12 ⟨rfl, hb⟩; refine ⟨_, rfl, ?_⟩; replace BK319 := kb BK319 hb; replace HB := sb HB hb; (try clear hb)))
  go_ret
  exact ⟨rr, bb HB⟩
 rw [if_neg c9] at H
 have c9b0 : decide (3 < a1) = false := decide_eq_false c9
 clear c9
 obtain rfl := Option.some.inj H
 go_enter Try.func18, Try.ntmps18
 go_wp2_with (first | ((with_reducible refine gate_dst (N := 2) rfl ?_); refine bx 2 rfl rfl #[.int .i64 a0_0, .slice A0_1 l0_1.length c0_1, .slice A0_2 l0_2.length c0_2] 25 ?_; intro gb319 hg w13 hbox hb; have BK319 := Aside0.mk (hbox); have GE319 := ge HB hg; replace HB := sb HB hb; clear hb hbox hg; obtain ⟨hcz14_0, hcz14_1, hcz14_2, hfz14_0, hfz14_1, hfz14_2⟩ := cf3 BK319.out) | ((with_reducible refine gate_callee (f := 52) rfl ?_); refine gL (some 7) rfl rfl Try.func52 #[.agg #[.int .i64 a0_0, .slice A0_1 l0_1.length c0_1, .slice A0_2 l0_2.length c0_2]] rfl ?_; (with_reducible refine (r12_Single.calls k a0_0 _ _ l0_1 _ _ l0_2 t320 _ ?side1 ?side2 ?side3 ?side4 A3.out).mono ?_); (case side1 => exact cb HR0_1 HB); (case side2 => exact HC0_1.out); (case side3 => exact cb HR0_2 HB); (case side4 => exact HC0_2.out); rintro e w15 ⟨rfl, hb⟩; refine ⟨_, rfl, ?_⟩; replace BK319 := kb BK319 hb; replace HB := sb HB hb; (try clear hb)))
 go_ret
 exact ⟨rr, bb HB⟩
mutual
def lowS : S64 → Bool
  | ⟨op, m, _, t, e⟩ => !(decide (op = 3) && decide (m > 15)) && (lowB t && lowB e)
def lowB : List S64 → Bool
  | [] => true
  | x :: r => lowS x && lowB r
end
theorem lowS_eq (x : S64) : lowS x = (!(decide (x.f0 = 3) && decide (x.f1 > 15)) && (lowB x.f3 && lowB x.f4)) := by cases x; simp only [lowS]
theorem lowB_nil : lowB [] = true := by simp only [lowB]
theorem lowB_cons (x : S64) (r : List S64) : lowB (x :: r) = (lowS x && lowB r) := by simp only [lowB]
theorem wks_low : (∀ x : S64, (∀ n, (wks n x.f3).any (fun x => decide (x.2.f0 = 3) && decide (x.2.f1 > 15)) = !lowB x.f3) ∧ (∀ n, (wks n x.f4).any (fun x => decide (x.2.f0 = 3) && decide (x.2.f1 > 15)) = !lowB x.f4)) ∧
    (∀ l, ∀ n, (wks n l).any (fun x => decide (x.2.f0 = 3) && decide (x.2.f1 > 15)) = !lowB l) := by
  refine S_ind (fun a b l t e h1 h2 => ⟨h1, h2⟩) ?_ (fun x r ih1 ih2 => ?_)
  · intro n
    rw [wks_nil, lowB_nil]
    rfl
  · intro n
    rw [wks_cons, wkS_eq, lowB_cons, lowS_eq, List.any_append, List.any_cons, List.any_append, ih1.1, ih1.2, ih2]
    cases decide (x.f0 = 3) && decide (x.f1 > 15) <;> cases lowB x.f3 <;> cases lowB x.f4 <;> cases lowB r <;> rfl
theorem low_tells : (∀ x, goodS x → Tells (fun k => r3_low.f k x.f3) (lowB x.f3) ∧ Tells (fun k => r3_low.f k x.f4) (lowB x.f4)) ∧
    (∀ suf, ∀ (pre : List S64), goodSs suf → (pre ++ suf).length ≤ 9223372036854775807 → Tells (fun k => r3_low.l0 k (pre ++ suf) (pre.length : Int)) (lowB suf)) := by
  refine S_ind (fun a b l t e h1 h2 => ?_) ?_ (fun x r ih1 ih2 => ?_)
  · intro hg
    rw [goodS_mk] at hg
    constructor
    · refine Tells.succ ?_
      simp only [r3_low.f]
      exact h1 [] hg.2.1.2 hg.2.1.1
    · refine Tells.succ ?_
      simp only [r3_low.f]
      exact h2 [] hg.2.2.2 hg.2.2.1
  · intro pre _ _
    refine Tells.succ ?_
    simp only [r3_low.l0, pre_nlt, if_false]
    rw [lowB_nil]
    exact Tells.pure _
  · intro pre hg hl
    rw [goodSs_cons] at hg
    obtain ⟨t1, t2⟩ := ih1 hg.1
    have t3 := ih2 (pre ++ [x]) hg.2 (by rw [← pre_app]; exact hl)
    rw [← pre_app] at t3
    refine Tells.succ ?_
    simp only [r3_low.l0, pre_lt, pre_pos, if_true, rdS_mid]
    rw [pre_next pre x r hl, lowB_cons, lowS_eq, Bool.and_assoc, Bool.and_assoc]
    by_cases h3 : x.f0 = 3
    · refine Tells.ifT h3 ?_
      rw [decide_eq_true h3, Bool.true_and]
      by_cases h15 : x.f1 > 15
      · rw [decide_eq_true h15, Bool.not_true, Bool.false_and]
        exact Tells.ifT h15 (Tells.pure _)
      · rw [decide_eq_false h15, Bool.not_false, Bool.true_and]
        exact Tells.ifF h15 (Tells.bind t1 (Tells.ifB (Tells.bind t2 (Tells.ifB t3))))
    · refine Tells.ifF h3 ?_
      rw [decide_eq_false h3, Bool.false_and, Bool.not_false, Bool.true_and]
      exact Tells.bind t1 (Tells.ifB (Tells.bind t2 (Tells.ifB t3)))
theorem single_loop (w : Int) (body : List S64) (hl : body.length ≤ 9223372036854775807) (hg : goodSs body) : ∀ (suf pre : List S66), (pre ++ suf).length ≤ 18 →
    Tells (fun k => r3_Single.l0 k (pre.length : Int) w (pre ++ suf) body) (!(suf.any (fun v => decide (v.f1 > 15))) && lowB body)
  | [], pre, _ => by
    refine Tells.succ ?_
    simp only [r3_Single.l0, pre_nlt, if_false, List.any_nil, Bool.not_false, Bool.true_and]
    refine Tells.id' (Tells.succ ?_)
    simp only [r3_low.f]
    exact low_tells.2 body [] hg hl
  | v :: r, pre, h => by
    refine Tells.succ ?_
    simp only [r3_Single.l0, pre_lt, pre_pos, if_true, rdV_mid, List.any_cons]
    by_cases h15 : v.f1 > 15
    · rw [decide_eq_true h15, Bool.true_or, Bool.not_true, Bool.false_and]
      exact Tells.ifT h15 (Tells.pure _)
    · rw [decide_eq_false h15, Bool.false_or]
      refine Tells.ifF h15 ?_
      rw [pre_next pre v r (by omega)]
      have := single_loop w body hl hg r (pre ++ [v]) (by rw [← pre_app]; exact h)
      rw [← pre_app] at this
      exact this
def sgB (vars : List S66) (body : List S64) : Bool := !(vars.any (fun v => decide (v.f1 > 15))) && lowB body
theorem single_tells (w : Int) (vars : List S66) (body : List S64) (hl : body.length ≤ 9223372036854775807) (hg : goodSs body) (hp : pIs w vars body = true) :
    Tells (fun k => prog_Single.f k w vars body) (sgB vars body, 0) ∧ Tells (fun k => r3_Single.f k w vars body) (sgB vars body) := by
  have tc := pCheck_tells w vars body hl hg
  rw [hp] at tc
  obtain ⟨hh, hn4⟩ := pIs_all hp
  obtain ⟨h1, h8, _, h18, hv0, _⟩ := hIs_all hh
  have hle := (s_le.2 body).1
  unfold sgB
  constructor
  · unfold prog_Single.f
    refine Tells.bind tc (Tells.ifT rfl ?_)
    cases vars.any (fun v => decide (v.f1 > 15))
    · refine Tells.ifF (by decide) ?_
      have tw : Tells (fun k => prog_walk.f k body 0) (wks 0 body, 0 + sCs body) := by
        refine Tells.succ ?_
        simp only [prog_walk.f]
        exact walk_tells.2 body [] hg hl 0 (by decide) (by omega)
      refine Tells.bind tw ?_
      have e := wks_low.2 body 0
      simp only [e, Bool.not_not, Bool.not_false, Bool.true_and]
      exact Tells.pure _
    · exact Tells.ifT rfl (Tells.pure _)
  · unfold r3_Single.f
    exact single_loop w body hl hg vars [] h18
def sgE (w : Int) (vars : List S66) (body : List S64) : Int := if pIs w vars body = true then (if sgB vars body = true then 0 else 1) else 30
theorem prodSingle_tells (w : Int) (vars : List S66) (body : List S64) (hl : body.length ≤ 9223372036854775807) (hg : goodSs body) : Tells (fun k => prod_single.f k w vars body) (sgE w vars body) := by
  unfold prod_single.f sgE
  cases hp : pIs w vars body
  · have tc := pCheck_tells w vars body hl hg
    rw [hp] at tc
    have t : Tells (fun k => prog_Single.f k w vars body) (false, 30) := by
      unfold prog_Single.f
      exact Tells.bind tc (Tells.ifF (by decide) (Tells.pure _))
    exact Tells.bind t (Tells.ifF (by decide) (Tells.pure _))
  · refine Tells.bind (single_tells w vars body hl hg hp).1 (Tells.ifT rfl ?_)
    cases sgB vars body
    · exact Tells.ifF (by decide) (Tells.pure _)
    · exact Tells.ifT rfl (Tells.pure _)
theorem refSingle_tells (w : Int) (vars : List S66) (body : List S64) (hl : body.length ≤ 9223372036854775807) (hg : goodSs body) : Tells (fun k => r12_Single.f k w vars body) (sgE w vars body) := by
  unfold r12_Single.f sgE
  have ti := pIs_tells w vars body hl hg
  cases hp : pIs w vars body
  · rw [hp] at ti
    exact Tells.bind ti (Tells.ifF (by decide) (Tells.pure _))
  · rw [hp] at ti
    refine Tells.bind ti (Tells.ifT rfl (Tells.bind (single_tells w vars body hl hg hp).2 ?_))
    cases sgB vars body
    · exact Tells.ifF (by decide) (Tells.pure _)
    · exact Tells.ifT rfl (Tells.pure _)
def cpE (w : Int) (vars : List S66) (body : List S64) (n : Int) : Int := if sgE w vars body = 0 then (if n < 1 then 1 else if n > 3 then 1 else 0) else sgE w vars body
theorem Copies_tells (w : Int) (vars : List S66) (body : List S64) (hl : body.length ≤ 9223372036854775807) (hg : goodSs body) (n : Int) : Tells (fun k => r12_Copies.f k w vars body n) (cpE w vars body n) := by
  unfold r12_Copies.f cpE
  refine Tells.bind (refSingle_tells w vars body hl hg) ?_
  by_cases h : sgE w vars body = 0
  · refine Tells.ifT h ?_
    rw [if_pos h]
    by_cases h1 : n < 1
    · refine Tells.ifT h1 ?_
      rw [if_pos h1]
      exact Tells.pure _
    · refine Tells.ifF h1 ?_
      rw [if_neg h1]
      by_cases h3 : n > 3
      · refine Tells.ifT h3 ?_
        rw [if_pos h3]
        exact Tells.pure _
      · refine Tells.ifF h3 ?_
        rw [if_neg h3]
        exact Tells.pure _
  · refine Tells.ifF h ?_
    rw [if_neg h]
    exact Tells.pure _
end Go.Proofs.Ytilebfkehmecaaa.Print
namespace Go.Proofs.Ytilebfkehmecaaa.Print
open Go.RowKit Go.Proofs.YtilebfkehmecaaaW.PrintWords Go.Proofs.YtilebfkehmecaaaW.PrintLast Go.Proofs.YtilebfkehmecaaaW.PrintMore
attribute [local go_sem] max2_int min2_int max_two min_two max_three min_three max_four min_four
set_option linter.unusedVariables false
set_option linter.unusedSimpArgs false
open Go.RowKit
def prod_tag.f (_ : Nat) (a0 : Int) : Option ByteArray := if a0 = 0 then some ⟨#[95, 48]⟩ else if a0 = 1 then some ⟨#[95, 49]⟩ else if a0 = 2 then some ⟨#[95, 50]⟩ else none
theorem prod_tag.calls (k : Nat) (a0 : Int) (r : ByteArray) (w : World) (h : prod_tag.f k a0 = some r) : Calls Try.prog 80 #[.int .i64 a0] w fun e w' => e = .returned (.string r) ∧ Below w.heap.size w w' := by
  unfold prod_tag.f at h
  have hc : (a0 = 0 ∧ r = ⟨#[95, 48]⟩) ∨ (a0 = 1 ∧ r = ⟨#[95, 49]⟩) ∨ (a0 = 2 ∧ r = ⟨#[95, 50]⟩) := by
    by_cases h0 : a0 = 0
    · rw [if_pos h0] at h; exact .inl ⟨h0, (Option.some.inj h).symm⟩
    · rw [if_neg h0] at h
      by_cases h1 : a0 = 1
      · rw [if_pos h1] at h; exact .inr (.inl ⟨h1, (Option.some.inj h).symm⟩)
      · rw [if_neg h1] at h
        by_cases h2 : a0 = 2
        · rw [if_pos h2] at h; exact .inr (.inr ⟨h2, (Option.some.inj h).symm⟩)
        · rw [if_neg h2] at h; cases h
  clear h
  rcases hc with ⟨rfl, rfl⟩ | ⟨rfl, rfl⟩ | ⟨rfl, rfl⟩
  all_goals
    go_enter Try.func80, Try.ntmps80
    go_wp2
    go_ret
    exact ⟨rfl, Below.refl _ _⟩
end Go.Proofs.Ytilebfkehmecaaa.Print
namespace Go.Proofs.Ytilebfkehmecaaa.Print
open Go.RowKit Go.Proofs.YtilebfkehmecaaaW.PrintWords Go.Proofs.YtilebfkehmecaaaW.PrintLast Go.Proofs.YtilebfkehmecaaaW.PrintMore
attribute [local go_sem] max2_int min2_int max_two min_two max_three min_three max_four min_four
set_option linter.unusedVariables false
set_option linter.unusedSimpArgs false
def prod_variables.l0 : Nat → Int → List (S66) → List (S66) → Int → Int → Option ((List (S66)))
 | 0, _, _, _, _, _ => none
 | k + 1, x1, x5, x8, x9, x10 => if x10 < x9 then (if 0 ≤ x10 then (if x10 < (x8.length : Int) then ((prod_tag.f k x1).bind fun t149 => (if ((rd_T66 x8 x10).f0).size + t149.size ≤ 9223372036854775807 then (if x5.length < 4398046511104 then (prod_variables.l0 k x1 (x5 ++ [(⟨((rd_T66 x8 x10).f0) ++ t149, wrap64 (((rd_T66 x8 x10).f1) + (wrap64 (16 * x1))), (rd_T66 x8 x10).f2⟩ : S66)]) x8 x9 (wrap64 (x10 + 1))) else (none)) else (none))) else (none)) else (none)) else (some x5)
def prod_variables.f (k : Nat) (l0 : List (S66)) (a1 : Int) : Option ((List (S66))) := prod_variables.l0 k a1 ([] : List (S66)) l0 (l0.length : Int) 0
def prod_variables.T5 : Bool × List (List Nat × List Nat) := (true, [([], []), ([], []), ([1], [1]), ([], []), ([3], [3]), ([2, 4], [2, 4]), ([], []), ([6], [6]), ([], []), ([8], [8]), ([7, 9], [7, 9]), ([], []), ([11], [11]), ([5, 10, 12], [5, 10, 12]), ([13], [13]), ([0, 14, 4], [0, 14]), ([15, 15, 0, 1, 2, 3, 4, 5, 6, 7, 8, 9, 10, 11, 12, 13, 14, 15], [0, 15])])
def prod_variables.B5 : List Nat := [0, 0, 2, 0, 8, 30, 0, 64, 0, 256, 960, 0, 2048, 8190, 16382, 32767, 65535]
theorem prod_variables.tab5 : rtab .any (opsOf Try.f45 5) = prod_variables.T5 := by kernel_rfl
theorem prod_variables.bits5 : waitsOk prod_variables.T5.2 prod_variables.B5 = true := by kernel_rfl
theorem prod_variables.calls (k : Nat) (A0 : Option Addr) (c0 : Nat) (l0 : List (S66)) (a1 : Int) (r : List (S66)) (w : World) (hr0 : Kd.C k66 w A0 l0.length l0) (hc0 : l0.length ≤ c0) (h : prod_variables.f k l0 a1 = some r) :
  Calls Try.prog 45 #[.slice A0 l0.length c0, .int .i64 a1] w fun e w' => ∃ v0_ : Value, e = .returned (v0_) ∧ Kd.R k66 66 w' w.heap.size (fun _ => True) v0_ r ∧ Below w.heap.size w w' := by
 have hu66 := Try.underlying66
 have HR0 := Aside0.mk hr0
 have HC0 := Aside0.mk hc0
 clear hr0 hc0
 have HB := Aside0.mk (Below.refl w.heap.size w)
 have H : (prod_variables.l0 k a1 ([] : List (S66)) l0 (l0.length : Int) 0) = some r := h
 clear h
 have H' := Aside0.mk H
 clear H
 go_enter Try.func45, Try.ntmps45
 go_wp2
 go_loopg [5, 10] k (fun kq v5 v10 w' => ∃ (x5_1 : List (S66)) (x10_1 : Int), v10 = .int .i64 x10_1 ∧ Aside0 (prod_variables.l0 kq a1 x5_1 l0 (l0.length : Int) x10_1 = some r) ∧ Aside0 (kq ≤ k) ∧ Aside0 (Kd.R k66 66 w' w.heap.size (fun _ => True) v5 x5_1) ∧ Aside0 (Below w.heap.size w w'))
 case atStart => exact ⟨(([] : List (S66))), (0), rs, H', ⟨Nat.le_refl _⟩, ⟨by first | exact Kd.R_nil _ _ _ _ _ | exact Kd.N_nil _ _ _ _ _ | exact Kd.V_nil _ _ _ _ _ | exact Kd.Q_nil _ _ _ _ _ | exact Kd.S_nil _ _ _ _ _⟩, ⟨bb HB⟩⟩
 case round =>
  clear H'
  try clear p2
  obtain ⟨x5_1, x10_1, rfl, HA, HK1, HO_5, HB⟩ := hrel
  cases gk with
  | zero => exact absurd HA.out (by simp [prod_variables.l0])
  | succ k1 =>
   have H := HA.out
   clear HA
   simp only [prod_variables.l0] at H
   by_cases c3 : x10_1 < (l0.length : Int)
   rotate_left
   ·rw [if_neg c3] at H
    have c3b0 : decide (x10_1 < (l0.length : Int)) = false := decide_eq_false c3
    clear c3
    obtain rfl := Option.some.inj H
    go_wp2
    go_ret
    exact ⟨_, rr, by (with_reducible repeat (first | apply Kd.R_alloc | apply Kd.R_drewN | apply Kd.R_drew)); exact HO_5.out, bb HB⟩
   rw [if_pos c3] at H
   have c3b0 : decide (x10_1 < (l0.length : Int)) = true := decide_eq_true c3
   clear c3
   by_cases c4 : 0 ≤ x10_1
   rotate_left
   ·rw [if_neg c4] at H
    exact absurd H (by simp)
   rw [if_pos c4] at H
   have c4b0 : decide (0 ≤ x10_1) = true := decide_eq_true c4
   clear c4
   by_cases c5 : x10_1 < (l0.length : Int)
   rotate_left
   ·rw [if_neg c5] at H
    exact absurd H (by simp)
   rw [if_pos c5] at H
   have c5b0 : decide (x10_1 < (l0.length : Int)) = true := decide_eq_true c5
   clear c5
   obtain ⟨t149, A6, H⟩ := be H
   by_cases c7 : ((rd_T66 l0 x10_1).f0).size + t149.size ≤ 9223372036854775807
   rotate_left
   ·rw [if_neg c7] at H
    exact absurd H (by simp)
   rw [if_pos c7] at H
   have c7b0 := eq_true c7
   have c7b1 : decide (((rd_T66 l0 x10_1).f0).size + t149.size ≤ 9223372036854775807) = true := decide_eq_true c7
   try have c7b2 : (9223372036854775807 < ((rd_T66 l0 x10_1).f0).size + t149.size) = False := eq_false (Nat.not_lt.2 c7)
   by_cases c8 : x5_1.length < 4398046511104
   rotate_left
   ·rw [if_neg c8] at H
    exact absurd H (by simp)
   rw [if_pos c8] at H
   have LMc8 := Aside0.mk c8
   clear c8
   obtain ⟨y150, hy150⟩ : ∃ y_ : List (S66), y_ = (x5_1 ++ [(⟨((rd_T66 l0 x10_1).f0) ++ t149, wrap64 (((rd_T66 l0 x10_1).f1) + (wrap64 (16 * a1))), (rd_T66 l0 x10_1).f2⟩ : S66)]) := ⟨_, rfl⟩
   replace H : (prod_variables.l0 k1 a1 y150 l0 (l0.length : Int) (wrap64 (x10_1 + 1))) = some r := by first | (rw [hy150]; with_reducible exact H) | (have H2_ := (Option.bind_some _ _).symm.trans H; rw [hy150]; with_reducible exact H2_) | (have H2_ := (Option.bind_some _ _).symm.trans H; with_reducible exact H2_) | with_reducible exact H | (rw [hy150]; exact H) | exact H
   have Ny150 := Aside0.mk hy150
   clear hy150
   have H' := Aside0.mk H
   clear H
   have p147 : 0 ≤ (x10_1 : Int) := od
   have q147 : x10_1 < (l0.length : Int) := od
   obtain ⟨ad147, e147, hx147_0, hx147_1, hx147_2⟩ := at_T66 HR0.out x10_1 p147 q147
   cases e147
   replace hx147_0 := bcell HB.out hx147_0
   replace hx147_1 := bcell HB.out hx147_1
   replace hx147_2 := bcell HB.out hx147_2
   replace p147 := eq_true p147
   replace q147 := eq_true q147
   try go_wp2_with (first | ((with_reducible refine gate_dst (N := 7) rfl ?_); refine bx 7 rfl rfl #[.string (⟨#[]⟩ : ByteArray), .int .i64 0, .int .i64 0] 66 ?_; intro gb148 hg w9 hbox hb; have BK148 := Aside0.mk (hbox); have GE148 := ge HB hg; replace HO_5 := Aside0.mk (Kd.R_below (Kd.R_elderB (iR HO_5) gb148 (Nat.le_of_eq hg.symm)) hb); replace HB := sb HB hb; clear hb hbox hg; obtain ⟨hcz10_0, hcz10_1, hcz10_2, hfz10_0, hfz10_1, hfz10_2⟩ := cf3 BK148.out))
   have n0_ : Aside0 (Kd.R k66 66 (((w9.setCell ⟨gb148, 0, none⟩ (.string ((rd_T66 l0 x10_1).f0))).setCell ⟨gb148, 1, none⟩ (.int .i64 ((rd_T66 l0 x10_1).f1))).setCell ⟨gb148, 2, none⟩ (.int .i64 ((rd_T66 l0 x10_1).f2))) w.heap.size (fun k_ => k_ ≠ gb148) u5 x5_1) := ⟨by (with_reducible repeat (first | apply Kd.R_alloc | apply Kd.R_drewN | apply Kd.R_drew)); exact Kd.R_mono (Kd.R_far (p := ⟨gb148, 2, none⟩) (Kd.R_far (p := ⟨gb148, 1, none⟩) (Kd.R_far (p := ⟨gb148, 0, none⟩) (Kd.R_mono HO_5.out (fun k_ hk => (⟨hk, hk.2⟩ : _ ∧ k_ ≠ gb148))) (fun _ hk => hk.2) (.string ((rd_T66 l0 x10_1).f0))) (fun _ hk => hk.2) (.int .i64 ((rd_T66 l0 x10_1).f1))) (fun _ hk => hk.2) (.int .i64 ((rd_T66 l0 x10_1).f2))) (fun _ hk => hk.1.2)⟩
   have n1_ : Aside0 ((((w9.setCell ⟨gb148, 0, none⟩ (.string ((rd_T66 l0 x10_1).f0))).setCell ⟨gb148, 1, none⟩ (.int .i64 ((rd_T66 l0 x10_1).f1))).setCell ⟨gb148, 2, none⟩ (.int .i64 ((rd_T66 l0 x10_1).f2))).heap[gb148]? = some (.cells #[.string ((rd_T66 l0 x10_1).f0), .int .i64 ((rd_T66 l0 x10_1).f1), .int .i64 ((rd_T66 l0 x10_1).f2)] 66 (0, 0))) := ⟨by (with_reducible repeat (first | refine kdN ?_ _ | refine kdr ?_ | refine kal ?_ _)); refine blk_put (cs := #[.string ((rd_T66 l0 x10_1).f0), .int .i64 ((rd_T66 l0 x10_1).f1), .int .i64 0]) ?_ 2 _ rfl; (with_reducible repeat (first | refine kdN ?_ _ | refine kdr ?_ | refine kal ?_ _)); refine blk_put (cs := #[.string ((rd_T66 l0 x10_1).f0), .int .i64 0, .int .i64 0]) ?_ 1 _ rfl; (with_reducible repeat (first | refine kdN ?_ _ | refine kdr ?_ | refine kal ?_ _)); refine blk_put (cs := #[.string (⟨#[]⟩ : ByteArray), .int .i64 0, .int .i64 0]) ?_ 0 _ rfl; (with_reducible repeat (first | refine kdN ?_ _ | refine kdr ?_ | refine kal ?_ _)); exact BK148.out⟩
   have n2_ : Aside0 (Below w.heap.size w (((w9.setCell ⟨gb148, 0, none⟩ (.string ((rd_T66 l0 x10_1).f0))).setCell ⟨gb148, 1, none⟩ (.int .i64 ((rd_T66 l0 x10_1).f1))).setCell ⟨gb148, 2, none⟩ (.int .i64 ((rd_T66 l0 x10_1).f2)))) := ⟨bb HB⟩
   (try clear HO_5)
   (try clear BK148)
   (try clear HB)
   generalize (((w9.setCell ⟨gb148, 0, none⟩ (.string ((rd_T66 l0 x10_1).f0))).setCell ⟨gb148, 1, none⟩ (.int .i64 ((rd_T66 l0 x10_1).f1))).setCell ⟨gb148, 2, none⟩ (.int .i64 ((rd_T66 l0 x10_1).f2))) = w11 at n0_ n1_ n2_ ⊢
   have HO_5 := n0_
   have BK148 := n1_
   have HB := n2_
   clear n0_ n1_ n2_
   replace HO_5 := Aside0.mk (Kd.R_drew HO_5.out)
   replace BK148 := Aside0.mk (kdr BK148.out)
   replace HB := Aside0.mk (bd1 HB.out)
   refine start_ (n := 17) (S := fun w' => w'.cell? ⟨gb148, 0, none⟩ = some (.string ((rd_T66 l0 x10_1).f0)) ∧ w'.cell? ⟨gb148, 1, none⟩ = some (.int .i64 ((rd_T66 l0 x10_1).f1)) ∧ w'.cell? ⟨gb148, 2, none⟩ = some (.int .i64 ((rd_T66 l0 x10_1).f2))) (ds := []) #[false, false, false, false, false, false, false, false, false, false, false, false, false, false, false, false, false] (by kernel_rfl) rfl rfl ⟨(blk_cell BK148.out 0).trans rfl, (blk_cell BK148.out 1).trans rfl, (blk_cell BK148.out 2).trans rfl⟩ (fun hHeld => ?_); refine with_tabW prod_variables.tab5 prod_variables.bits5 (fun HT_ HW_ => ?_)
   generalize w11.drew = w12 at HO_5 BK148 HB hHeld ⊢
   refine pT 0 14 (bl 17 1) HT_ rfl rfl ?_
   refine pT 1 15 (bl 17 3) HT_ rfl rfl ?_
   refine pT 3 17 (bl 17 11) HT_ rfl rfl ?_
   refine pT 6 20 (bl 17 75) HT_ rfl rfl ?_
   refine pT 8 22 (bl 17 331) HT_ rfl rfl ?_
   refine pT 9 23 (bl 17 843) HT_ rfl rfl ?_
   refine pT 11 25 (bl 17 2891) HT_ rfl rfl ?_
   refine tk (i := 2) (N := some 16) (bl 17 2895) rfl rfl (take_ofW HT_.out HW_.out (by kernel_rfl)) hHeld ?_
   refine tk (i := 7) (N := some 21) (bl 17 3023) rfl rfl (take_ofW HT_.out HW_.out (by kernel_rfl)) hHeld ?_
   refine pT 10 24 (bl 17 4047) HT_ rfl rfl ?_
   refine tk (i := 12) (N := some 26) (bl 17 8143) rfl rfl (take_ofW HT_.out HW_.out (by kernel_rfl)) hHeld ?_
   refine one_ (i := 4) (N := some 18) (bl 17 8159) rfl rfl (one_of HT_.out (by kernel_rfl)) (by decide) (fun K hK => ?_)
   refine gO Try.func80 #[.int .i64 a1] (by rfl) rfl rfl ?_
   with_reducible refine (prod_tag.calls k1 a1 t149 _ A6.out).mono ?_
   rintro e w13 ⟨rfl, hb⟩
   refine ⟨_, rfl, ?_⟩
   replace HO_5 := Aside0.mk (Kd.R_below (iR HO_5) hb)
   replace BK148 := kb BK148 hb
   replace HB := sb HB hb
   (try clear hb)
   (try clear hb2)
   (try clear hk)
   (try clear hi)
   refine hK.out _ _ ⟨(blk_cell BK148.out 0).trans rfl, (blk_cell BK148.out 1).trans rfl, (blk_cell BK148.out 2).trans rfl⟩ (fun hHeld => ?_)
   clear hK K
   refine nm 18 ?_
   refine pT 5 19 (bl 17 8191) HT_ rfl rfl ?_
   refine pT 13 27 (bl 17 16383) HT_ rfl rfl ?_
   refine one_ (i := 14) (N := some 28) (bl 17 32767) rfl rfl (one_of HT_.out (by kernel_rfl)) (by decide) (fun K hK => ?_)
   refine value_ (w1 := ?_) (v := ?_) (by rfl) rfl ?_ ?_
   rotate_left 2
   ·go_simp
    constructor
    ·rfl
    ·rfl
   refine hK.out _ _ ⟨(blk_cell (kal BK148.out _) 0).trans rfl, (blk_cell (kal BK148.out _) 1).trans rfl, (blk_cell (kal BK148.out _) 2).trans rfl⟩ (fun hHeld => ?_)
   clear hK K
   refine nm 28 ?_
   refine one_ (i := 15) (N := some 29) (bl 17 65535) rfl rfl (one_of HT_.out (by kernel_rfl)) (by decide) (fun K hK => ?_)
   refine Kd.R_append_step k66 (w0 := w) w.heap.size (by rfl) (.tmp 14) (.tmp 28) 22 66 (.agg #[(.string ⟨#[]⟩), (.int .i64 0), (.int .i64 0)]) 32 rfl Try.underlying22 info66 rfl (by decide) (by omega) u5 x5_1 (⟨((rd_T66 l0 x10_1).f0) ++ t149, wrap64 (((rd_T66 l0 x10_1).f1) + (wrap64 (16 * a1))), (rd_T66 l0 x10_1).f2⟩ : S66) [.string (((rd_T66 l0 x10_1).f0) ++ t149), .int .i64 (wrap64 (((rd_T66 l0 x10_1).f1) + (wrap64 (16 * a1)))), .int .i64 ((rd_T66 l0 x10_1).f2)] (fun k_ => k_ ≠ gb148) (fun _ => False) rfl rfl ?aP (fun _ hk => hk.elim) ?aF ?aO ?aB ?aS ?aL ?_
   (case aP => exact k66_mkM _ _ _ (⟨((rd_T66 l0 x10_1).f0) ++ t149, wrap64 (((rd_T66 l0 x10_1).f1) + (wrap64 (16 * a1))), (rd_T66 l0 x10_1).f2⟩ : S66))
   (case aB => exact (bb HB))
   (case aF => exact (fun k_ hk => Kd.freshB (kk BK148) k_ hk))
   (case aO => exact (iR HO_5))
   (case aS => exact (bsz (bb HB)))
   (case aL => have := LMc8.out; omega)
   intro v151 w14 ho hb hg hat
   rw [← Ny150.out] at ho
   have HO152 := Aside0.mk (ho)
   replace BK148 := Aside0.mk (blk_grown (kk BK148) hg (Kd.R_away HO_5.out (fun _ hk => hk)))
   replace HB := Aside0.mk (hb)
   clear HO_5
   clear ho hb hg hat
   refine hK.out _ _ ⟨(blk_cell BK148.out 0).trans rfl, (blk_cell BK148.out 1).trans rfl, (blk_cell BK148.out 2).trans rfl⟩ (fun hHeld => ?_)
   clear hK K
   refine nm 29 ?_
   refine pT 16 5 (bl 17 131071) HT_ rfl rfl ?_
   refine done_ (done_of HT_.out (by kernel_rfl)) ?_
   try go_wp2
   go_roundg k1
   case measure => have := HK1.out; omega
   case rel => exact ⟨(y150), (wrap64 (x10_1 + 1)), rs, H', ⟨by have := HK1.out; omega⟩, ⟨by (with_reducible repeat (first | apply Kd.R_alloc | apply Kd.R_drewN | apply Kd.R_drew)); exact Kd.R_mono HO152.out (fun _ hk => trivial)⟩, ⟨bb HB⟩⟩
end Go.Proofs.Ytilebfkehmecaaa.Print
namespace Go.Proofs.Ytilebfkehmecaaa.Print
open Go.RowKit Go.Proofs.YtilebfkehmecaaaW.PrintWords Go.Proofs.YtilebfkehmecaaaW.PrintLast Go.Proofs.YtilebfkehmecaaaW.PrintMore
attribute [local go_sem] max2_int min2_int max_two min_two max_three min_three max_four min_four
set_option linter.unusedVariables false
set_option linter.unusedSimpArgs false
open Go.RowKit
def r2_Digits.f (_ : Nat) (a0 : Int) : Option ByteArray := if a0 = 0 then some ⟨#[48]⟩ else if a0 = 1 then some ⟨#[49]⟩ else if a0 = 2 then some ⟨#[50]⟩ else none
theorem r2_Digits.calls (k : Nat) (a0 : Int) (r : ByteArray) (w : World) (h : r2_Digits.f k a0 = some r) : Calls Try.prog 90 #[.int .i64 a0] w fun e w' => e = .returned (.string r) ∧ Below w.heap.size w w' := by
  unfold r2_Digits.f at h
  have hc : (a0 = 0 ∧ r = ⟨#[48]⟩) ∨ (a0 = 1 ∧ r = ⟨#[49]⟩) ∨ (a0 = 2 ∧ r = ⟨#[50]⟩) := by
    by_cases h0 : a0 = 0
    · rw [if_pos h0] at h; exact .inl ⟨h0, (Option.some.inj h).symm⟩
    · rw [if_neg h0] at h
      by_cases h1 : a0 = 1
      · rw [if_pos h1] at h; exact .inr (.inl ⟨h1, (Option.some.inj h).symm⟩)
      · rw [if_neg h1] at h
        by_cases h2 : a0 = 2
        · rw [if_pos h2] at h; exact .inr (.inr ⟨h2, (Option.some.inj h).symm⟩)
        · rw [if_neg h2] at h; cases h
  clear h
  rcases hc with ⟨rfl, rfl⟩ | ⟨rfl, rfl⟩ | ⟨rfl, rfl⟩
  all_goals
    go_enter Try.func90, Try.ntmps90
    go_wp2
    go_ret
    exact ⟨rfl, Below.refl _ _⟩
end Go.Proofs.Ytilebfkehmecaaa.Print
namespace Go.Proofs.Ytilebfkehmecaaa.Print
open Go.RowKit Go.Proofs.YtilebfkehmecaaaW.PrintWords Go.Proofs.YtilebfkehmecaaaW.PrintLast Go.Proofs.YtilebfkehmecaaaW.PrintMore
attribute [local go_sem] max2_int min2_int max_two min_two max_three min_three max_four min_four
set_option linter.unusedVariables false
set_option linter.unusedSimpArgs false
def r12_Named.l0 : Nat → List (S66) → Int → List (S66) → Int → Option ((List (S66)))
 | 0, _, _, _, _ => none
 | k + 1, x0, x1, x5, x6 => if x6 < (x0.length : Int) then (if 0 ≤ x6 then (if ((rd_T66 x0 x6).f0).size + 1 ≤ 9223372036854775807 then ((r2_Digits.f k x1).bind fun t322 => (if (((rd_T66 x0 x6).f0) ++ (⟨#[95]⟩ : ByteArray)).size + t322.size ≤ 9223372036854775807 then (if x5.length < 4398046511104 then (r12_Named.l0 k x0 x1 (x5 ++ [(⟨(((rd_T66 x0 x6).f0) ++ (⟨#[95]⟩ : ByteArray)) ++ t322, wrap64 (((rd_T66 x0 x6).f1) + (wrap64 (16 * x1))), (rd_T66 x0 x6).f2⟩ : S66)]) (wrap64 (x6 + 1))) else (none)) else (none))) else (none)) else (none)) else (some x5)
def r12_Named.f (k : Nat) (l0 : List (S66)) (a1 : Int) : Option ((List (S66))) := r12_Named.l0 k l0 a1 ([] : List (S66)) 0
def r12_Named.T5 : Bool × List (List Nat × List Nat) := (true, [([], []), ([], []), ([], []), ([1, 2], [1, 2]), ([3], [3]), ([4], [4]), ([5], [5]), ([], []), ([7], [7]), ([6, 8], [6, 8]), ([], []), ([], []), ([10, 11], [10, 11]), ([12], [12]), ([13], [13]), ([], []), ([15], [15]), ([14, 16], [14, 16]), ([], []), ([], []), ([18, 19], [18, 19]), ([20], [20]), ([21], [21]), ([9, 17, 22], [9, 17, 22]), ([23], [23]), ([0, 24, 8], [0, 24]), ([25, 25, 0, 1, 2, 3, 4, 5, 6, 7, 8, 9, 10, 11, 12, 13, 14, 15, 16, 17, 18, 19, 20, 21, 22, 23, 24, 25], [0, 25])])
def r12_Named.B5 : List Nat := [0, 0, 0, 6, 14, 30, 62, 0, 128, 510, 0, 0, 3072, 7168, 15360, 0, 32768, 130048, 0, 0, 786432, 1835008, 3932160, 8388606, 16777214, 33554431, 67108863]
theorem r12_Named.tab5 : rtab .any (opsOf Try.f57 5) = r12_Named.T5 := by kernel_rfl
theorem r12_Named.bits5 : waitsOk r12_Named.T5.2 r12_Named.B5 = true := by kernel_rfl
theorem r12_Named.calls (k : Nat) (A0 : Option Addr) (c0 : Nat) (l0 : List (S66)) (a1 : Int) (r : List (S66)) (w : World) (hr0 : Kd.C k66 w A0 l0.length l0) (hc0 : l0.length ≤ c0) (h : r12_Named.f k l0 a1 = some r) :
  Calls Try.prog 57 #[.slice A0 l0.length c0, .int .i64 a1] w fun e w' => ∃ v0_ : Value, e = .returned (v0_) ∧ Kd.R k66 66 w' w.heap.size (fun _ => True) v0_ r ∧ Below w.heap.size w w' := by
 have hu66 := Try.underlying66
 have HR0 := Aside0.mk hr0
 have HC0 := Aside0.mk hc0
 clear hr0 hc0
 have HB := Aside0.mk (Below.refl w.heap.size w)
 have H : (r12_Named.l0 k l0 a1 ([] : List (S66)) 0) = some r := h
 clear h
 have H' := Aside0.mk H
 clear H
 go_enter Try.func57, Try.ntmps57
 go_wp2
 go_loopg [5, 6] k (fun kq v5 v6 w' => ∃ (x5_1 : List (S66)) (x6_1 : Int), v6 = .int .i64 x6_1 ∧ Aside0 (r12_Named.l0 kq l0 a1 x5_1 x6_1 = some r) ∧ Aside0 (kq ≤ k) ∧ Aside0 (Kd.R k66 66 w' w.heap.size (fun _ => True) v5 x5_1) ∧ Aside0 (Below w.heap.size w w'))
 case atStart => exact ⟨(([] : List (S66))), (0), rs, H', ⟨Nat.le_refl _⟩, ⟨by first | exact Kd.R_nil _ _ _ _ _ | exact Kd.N_nil _ _ _ _ _ | exact Kd.V_nil _ _ _ _ _ | exact Kd.Q_nil _ _ _ _ _ | exact Kd.S_nil _ _ _ _ _⟩, ⟨bb HB⟩⟩
 case round =>
  clear H'
  try clear p2
  obtain ⟨x5_1, x6_1, rfl, HA, HK1, HO_5, HB⟩ := hrel
  cases gk with
  | zero => exact absurd HA.out (by simp [r12_Named.l0])
  | succ k1 =>
   have H := HA.out
   clear HA
   simp only [r12_Named.l0] at H
   by_cases c3 : x6_1 < (l0.length : Int)
   rotate_left
   ·rw [if_neg c3] at H
    have c3b0 : decide (x6_1 < (l0.length : Int)) = false := decide_eq_false c3
    clear c3
    obtain rfl := Option.some.inj H
    go_wp2
    go_ret
    exact ⟨_, rr, by (with_reducible repeat (first | apply Kd.R_alloc | apply Kd.R_drewN | apply Kd.R_drew)); exact HO_5.out, bb HB⟩
   rw [if_pos c3] at H
   have c3b0 : decide (x6_1 < (l0.length : Int)) = true := decide_eq_true c3
   clear c3
   by_cases c4 : 0 ≤ x6_1
   rotate_left
   ·rw [if_neg c4] at H
    exact absurd H (by simp)
   rw [if_pos c4] at H
   have c4b0 : decide (0 ≤ x6_1) = true := decide_eq_true c4
   clear c4
   by_cases c5 : ((rd_T66 l0 x6_1).f0).size + 1 ≤ 9223372036854775807
   rotate_left
   ·rw [if_neg c5] at H
    exact absurd H (by simp)
   rw [if_pos c5] at H
   have c5b0 := eq_true c5
   have c5b1 : decide (((rd_T66 l0 x6_1).f0).size + 1 ≤ 9223372036854775807) = true := decide_eq_true c5
   try have c5b2 : (9223372036854775807 < ((rd_T66 l0 x6_1).f0).size + 1) = False := eq_false (Nat.not_lt.2 c5)
   obtain ⟨t322, A6, H⟩ := be H
   by_cases c7 : (((rd_T66 l0 x6_1).f0) ++ (⟨#[95]⟩ : ByteArray)).size + t322.size ≤ 9223372036854775807
   rotate_left
   ·rw [if_neg c7] at H
    exact absurd H (by simp)
   rw [if_pos c7] at H
   have c7b0 := eq_true c7
   have c7b1 : decide ((((rd_T66 l0 x6_1).f0) ++ (⟨#[95]⟩ : ByteArray)).size + t322.size ≤ 9223372036854775807) = true := decide_eq_true c7
   try have c7b2 : (9223372036854775807 < (((rd_T66 l0 x6_1).f0) ++ (⟨#[95]⟩ : ByteArray)).size + t322.size) = False := eq_false (Nat.not_lt.2 c7)
   try have c7b3 : (9223372036854775807 < ((rd_T66 l0 x6_1).f0).size + 1 + t322.size) = False := eq_false (by have h_ := c7; rw [ByteArray.size_append] at h_; exact Nat.not_lt.2 h_)
   by_cases c8 : x5_1.length < 4398046511104
   rotate_left
   ·rw [if_neg c8] at H
    exact absurd H (by simp)
   rw [if_pos c8] at H
   have LMc8 := Aside0.mk c8
   clear c8
   obtain ⟨y325, hy325⟩ : ∃ y_ : List (S66), y_ = (x5_1 ++ [(⟨(((rd_T66 l0 x6_1).f0) ++ (⟨#[95]⟩ : ByteArray)) ++ t322, wrap64 (((rd_T66 l0 x6_1).f1) + (wrap64 (16 * a1))), (rd_T66 l0 x6_1).f2⟩ : S66)]) := ⟨_, rfl⟩
   replace H : (r12_Named.l0 k1 l0 a1 y325 (wrap64 (x6_1 + 1))) = some r := by first | (rw [hy325]; with_reducible exact H) | (have H2_ := (Option.bind_some _ _).symm.trans H; rw [hy325]; with_reducible exact H2_) | (have H2_ := (Option.bind_some _ _).symm.trans H; with_reducible exact H2_) | with_reducible exact H | (rw [hy325]; exact H) | exact H
   have Ny325 := Aside0.mk hy325
   clear hy325
   have H' := Aside0.mk H
   clear H
   try go_wp2
   replace HO_5 := Aside0.mk (Kd.R_drew HO_5.out)
   replace HB := Aside0.mk (bd1 HB.out)
   have p321 : 0 ≤ (x6_1 : Int) := od
   have q321 : x6_1 < (l0.length : Int) := od
   obtain ⟨ad321, e321, hx321_0, hx321_1, hx321_2⟩ := at_T66 HR0.out x6_1 p321 q321
   have hw321_2 := hx321_2
   have hw321_1 := hx321_1
   have hw321_0 := hx321_0
   cases e321
   replace hx321_0 := bcell HB.out hx321_0
   replace hx321_1 := bcell HB.out hx321_1
   replace hx321_2 := bcell HB.out hx321_2
   replace p321 := eq_true p321
   replace q321 := eq_true q321
   have p323 : 0 ≤ (x6_1 : Int) := od
   have q323 : x6_1 < (l0.length : Int) := od
   obtain ⟨ad323, e323, hx323_0, hx323_1, hx323_2⟩ := at_T66 HR0.out x6_1 p323 q323
   have hw323_2 := hx323_2
   have hw323_1 := hx323_1
   have hw323_0 := hx323_0
   obtain rfl : ad321 = ad323 := (by injection e323)
   replace hx323_0 := bcell HB.out hx323_0
   replace hx323_1 := bcell HB.out hx323_1
   replace hx323_2 := bcell HB.out hx323_2
   replace p323 := eq_true p323
   replace q323 := eq_true q323
   have p324 : 0 ≤ (x6_1 : Int) := od
   have q324 : x6_1 < (l0.length : Int) := od
   obtain ⟨ad324, e324, hx324_0, hx324_1, hx324_2⟩ := at_T66 HR0.out x6_1 p324 q324
   have hw324_2 := hx324_2
   have hw324_1 := hx324_1
   have hw324_0 := hx324_0
   obtain rfl : ad321 = ad324 := (by injection e324)
   replace hx324_0 := bcell HB.out hx324_0
   replace hx324_1 := bcell HB.out hx324_1
   replace hx324_2 := bcell HB.out hx324_2
   replace p324 := eq_true p324
   replace q324 := eq_true q324
   refine start_ (n := 27) (S := fun w' => w'.cell? (ad321.add ((x6_1).toNat * 3)) = some (.string ((rd_T66 l0 x6_1).f0)) ∧ w'.cell? ⟨(ad321.add ((x6_1).toNat * 3)).block, (ad321.add ((x6_1).toNat * 3)).off + 1, none⟩ = some (.int .i64 ((rd_T66 l0 x6_1).f1)) ∧ w'.cell? ⟨(ad321.add ((x6_1).toNat * 3)).block, (ad321.add ((x6_1).toNat * 3)).off + 2, none⟩ = some (.int .i64 ((rd_T66 l0 x6_1).f2)) ∧ w'.cell? (ad321.add ((x6_1).toNat * 3)) = some (.string ((rd_T66 l0 x6_1).f0)) ∧ w'.cell? ⟨(ad321.add ((x6_1).toNat * 3)).block, (ad321.add ((x6_1).toNat * 3)).off + 1, none⟩ = some (.int .i64 ((rd_T66 l0 x6_1).f1)) ∧ w'.cell? ⟨(ad321.add ((x6_1).toNat * 3)).block, (ad321.add ((x6_1).toNat * 3)).off + 2, none⟩ = some (.int .i64 ((rd_T66 l0 x6_1).f2)) ∧ w'.cell? (ad321.add ((x6_1).toNat * 3)) = some (.string ((rd_T66 l0 x6_1).f0)) ∧ w'.cell? ⟨(ad321.add ((x6_1).toNat * 3)).block, (ad321.add ((x6_1).toNat * 3)).off + 1, none⟩ = some (.int .i64 ((rd_T66 l0 x6_1).f1)) ∧ w'.cell? ⟨(ad321.add ((x6_1).toNat * 3)).block, (ad321.add ((x6_1).toNat * 3)).off + 2, none⟩ = some (.int .i64 ((rd_T66 l0 x6_1).f2))) (ds := []) #[false, false, false, false, false, false, false, false, false, false, false, false, false, false, false, false, false, false, false, false, false, false, false, false, false, false, false] (by kernel_rfl) rfl rfl ⟨(bcell HB.out hw321_0), (bcell HB.out hw321_1), (bcell HB.out hw321_2), (bcell HB.out hw323_0), (bcell HB.out hw323_1), (bcell HB.out hw323_2), (bcell HB.out hw324_0), (bcell HB.out hw324_1), (bcell HB.out hw324_2)⟩ (fun hHeld => ?_); refine with_tabW r12_Named.tab5 r12_Named.bits5 (fun HT_ HW_ => ?_)
   generalize wr.drew = w9 at HO_5 HB hx321_0 hx321_1 hx321_2 hx323_0 hx323_1 hx323_2 hx324_0 hx324_1 hx324_2 hHeld ⊢
   refine pT 0 13 (bl 27 1) HT_ rfl rfl ?_
   refine pT 1 14 (bl 27 3) HT_ rfl rfl ?_
   refine pT 2 15 (bl 27 7) HT_ rfl rfl ?_
   refine pT 3 16 (bl 27 15) HT_ rfl rfl ?_
   refine pT 4 17 (bl 27 31) HT_ rfl rfl ?_
   refine pT 7 20 (bl 27 159) HT_ rfl rfl ?_
   refine pT 10 23 (bl 27 1183) HT_ rfl rfl ?_
   refine pT 11 24 (bl 27 3231) HT_ rfl rfl ?_
   refine pT 12 25 (bl 27 7327) HT_ rfl rfl ?_
   refine pT 13 26 (bl 27 15519) HT_ rfl rfl ?_
   refine pT 15 28 (bl 27 48287) HT_ rfl rfl ?_
   refine pT 16 29 (bl 27 113823) HT_ rfl rfl ?_
   refine pT 18 31 (bl 27 375967) HT_ rfl rfl ?_
   refine pT 19 32 (bl 27 900255) HT_ rfl rfl ?_
   refine pT 20 33 (bl 27 1948831) HT_ rfl rfl ?_
   refine pT 21 34 (bl 27 4045983) HT_ rfl rfl ?_
   refine tk (i := 5) (N := some 18) (bl 27 4046015) rfl rfl (take_ofW HT_.out HW_.out (by kernel_rfl)) hHeld ?_
   refine pT 6 19 (bl 27 4046079) HT_ rfl rfl ?_
   refine tk (i := 14) (N := some 27) (bl 27 4062463) rfl rfl (take_ofW HT_.out HW_.out (by kernel_rfl)) hHeld ?_
   refine pT 17 30 (bl 27 4193535) HT_ rfl rfl ?_
   refine tk (i := 22) (N := some 35) (bl 27 8387839) rfl rfl (take_ofW HT_.out HW_.out (by kernel_rfl)) hHeld ?_
   refine one_ (i := 8) (N := some 21) (bl 27 8388095) rfl rfl (one_of HT_.out (by kernel_rfl)) (by decide) (fun K hK => ?_)
   refine gO Try.func90 #[.int .i64 a1] (by rfl) rfl rfl ?_
   with_reducible refine (r2_Digits.calls k1 a1 t322 _ A6.out).mono ?_
   rintro e w10 ⟨rfl, hb⟩
   refine ⟨_, rfl, ?_⟩
   replace HO_5 := Aside0.mk (Kd.R_below (iR HO_5) hb)
   replace HB := sb HB hb
   (try clear hb)
   (try clear hb2)
   (try clear hk)
   (try clear hi)
   refine hK.out _ _ ⟨(bcell HB.out hw321_0), (bcell HB.out hw321_1), (bcell HB.out hw321_2), (bcell HB.out hw323_0), (bcell HB.out hw323_1), (bcell HB.out hw323_2), (bcell HB.out hw324_0), (bcell HB.out hw324_1), (bcell HB.out hw324_2)⟩ (fun hHeld => ?_)
   clear hK K
   refine nm 21 ?_
   refine pT 9 22 (bl 27 8388607) HT_ rfl rfl ?_
   refine pT 23 36 (bl 27 16777215) HT_ rfl rfl ?_
   refine one_ (i := 24) (N := some 37) (bl 27 33554431) rfl rfl (one_of HT_.out (by kernel_rfl)) (by decide) (fun K hK => ?_)
   refine value_ (w1 := ?_) (v := ?_) (by rfl) rfl ?_ ?_
   rotate_left 2
   ·go_simp
    constructor
    ·rfl
    ·rfl
   refine hK.out _ _ ⟨(World.cell?_alloc_lt _ _ _ (World.block_lt_of_cell? _ _ ((bcell HB.out hw321_0)))).trans ((bcell HB.out hw321_0)), (World.cell?_alloc_lt _ _ _ (World.block_lt_of_cell? _ _ ((bcell HB.out hw321_1)))).trans ((bcell HB.out hw321_1)), (World.cell?_alloc_lt _ _ _ (World.block_lt_of_cell? _ _ ((bcell HB.out hw321_2)))).trans ((bcell HB.out hw321_2)), (World.cell?_alloc_lt _ _ _ (World.block_lt_of_cell? _ _ ((bcell HB.out hw323_0)))).trans ((bcell HB.out hw323_0)), (World.cell?_alloc_lt _ _ _ (World.block_lt_of_cell? _ _ ((bcell HB.out hw323_1)))).trans ((bcell HB.out hw323_1)), (World.cell?_alloc_lt _ _ _ (World.block_lt_of_cell? _ _ ((bcell HB.out hw323_2)))).trans ((bcell HB.out hw323_2)), (World.cell?_alloc_lt _ _ _ (World.block_lt_of_cell? _ _ ((bcell HB.out hw324_0)))).trans ((bcell HB.out hw324_0)), (World.cell?_alloc_lt _ _ _ (World.block_lt_of_cell? _ _ ((bcell HB.out hw324_1)))).trans ((bcell HB.out hw324_1)), (World.cell?_alloc_lt _ _ _ (World.block_lt_of_cell? _ _ ((bcell HB.out hw324_2)))).trans ((bcell HB.out hw324_2))⟩ (fun hHeld => ?_)
   clear hK K
   refine nm 37 ?_
   refine one_ (i := 25) (N := some 38) (bl 27 67108863) rfl rfl (one_of HT_.out (by kernel_rfl)) (by decide) (fun K hK => ?_)
   refine Kd.R_append_step k66 (w0 := w) w.heap.size (by rfl) (.tmp 13) (.tmp 37) 22 66 (.agg #[(.string ⟨#[]⟩), (.int .i64 0), (.int .i64 0)]) 32 rfl Try.underlying22 info66 rfl (by decide) (by omega) u5 x5_1 (⟨(((rd_T66 l0 x6_1).f0) ++ (⟨#[95]⟩ : ByteArray)) ++ t322, wrap64 (((rd_T66 l0 x6_1).f1) + (wrap64 (16 * a1))), (rd_T66 l0 x6_1).f2⟩ : S66) [.string ((((rd_T66 l0 x6_1).f0) ++ (⟨#[95]⟩ : ByteArray)) ++ t322), .int .i64 (wrap64 (((rd_T66 l0 x6_1).f1) + (wrap64 (16 * a1)))), .int .i64 ((rd_T66 l0 x6_1).f2)] (fun _ => True) (fun _ => False) rfl rfl ?aP (fun _ hk => hk.elim) ?aF ?aO ?aB ?aS ?aL ?_
   (case aP => exact k66_mkM _ _ _ (⟨(((rd_T66 l0 x6_1).f0) ++ (⟨#[95]⟩ : ByteArray)) ++ t322, wrap64 (((rd_T66 l0 x6_1).f1) + (wrap64 (16 * a1))), (rd_T66 l0 x6_1).f2⟩ : S66))
   (case aB => exact (bb HB))
   (case aF => exact (fun _ _ => trivial))
   (case aO => exact (iR HO_5))
   (case aS => exact (bsz (bb HB)))
   (case aL => have := LMc8.out; omega)
   intro v326 w11 ho hb hg hat
   rw [← Ny325.out] at ho
   have HO327 := Aside0.mk (ho)
   replace HB := Aside0.mk (hb)
   clear HO_5
   clear ho hb hg hat
   refine hK.out _ _ ⟨(bcell HB.out hw321_0), (bcell HB.out hw321_1), (bcell HB.out hw321_2), (bcell HB.out hw323_0), (bcell HB.out hw323_1), (bcell HB.out hw323_2), (bcell HB.out hw324_0), (bcell HB.out hw324_1), (bcell HB.out hw324_2)⟩ (fun hHeld => ?_)
   clear hK K
   refine nm 38 ?_
   refine pT 26 5 (bl 27 134217727) HT_ rfl rfl ?_
   refine done_ (done_of HT_.out (by kernel_rfl)) ?_
   try go_wp2
   go_roundg k1
   case measure => have := HK1.out; omega
   case rel => exact ⟨(y325), (wrap64 (x6_1 + 1)), rs, H', ⟨by have := HK1.out; omega⟩, ⟨by (with_reducible repeat (first | apply Kd.R_alloc | apply Kd.R_drewN | apply Kd.R_drew)); exact HO327.out⟩, ⟨bb HB⟩⟩
def r12_Vars.l0 : Nat → List (S66) → Int → List (S66) → Int → Option ((List (S66)))
 | 0, _, _, _, _ => none
 | k + 1, x0, x1, x5, x6 => if x6 < x1 then ((r12_Named.f k x0 x6).bind fun t328 => (if x5.length + t328.length < 4398046511104 then (r12_Vars.l0 k x0 x1 (x5 ++ t328) (wrap64 (x6 + 1))) else (none))) else (some x5)
def r12_Vars.f (k : Nat) (l0 : List (S66)) (a1 : Int) : Option ((List (S66))) := r12_Vars.l0 k l0 a1 ([] : List (S66)) 0
theorem r12_Vars.calls (k : Nat) (A0 : Option Addr) (c0 : Nat) (l0 : List (S66)) (a1 : Int) (r : List (S66)) (w : World) (hr0 : Kd.C k66 w A0 l0.length l0) (hc0 : l0.length ≤ c0) (h : r12_Vars.f k l0 a1 = some r) :
  Calls Try.prog 22 #[.slice A0 l0.length c0, .int .i64 a1] w fun e w' => ∃ v0_ : Value, e = .returned (v0_) ∧ Kd.R k66 66 w' w.heap.size (fun _ => True) v0_ r ∧ Below w.heap.size w w' := by
 have HR0 := Aside0.mk hr0
 have HC0 := Aside0.mk hc0
 clear hr0 hc0
 have HB := Aside0.mk (Below.refl w.heap.size w)
 have H : (r12_Vars.l0 k l0 a1 ([] : List (S66)) 0) = some r := h
 clear h
 have H' := Aside0.mk H
 clear H
 go_enter Try.func22, Try.ntmps22
 go_wp2
 go_loopg [5, 6] k (fun kq v5 v6 w' => ∃ (x5_1 : List (S66)) (x6_1 : Int), v6 = .int .i64 x6_1 ∧ Aside0 (r12_Vars.l0 kq l0 a1 x5_1 x6_1 = some r) ∧ Aside0 (kq ≤ k) ∧ Aside0 (Kd.R k66 66 w' w.heap.size (fun _ => True) v5 x5_1) ∧ Aside0 (Below w.heap.size w w'))
 case atStart => exact ⟨(([] : List (S66))), (0), rs, H', ⟨Nat.le_refl _⟩, ⟨by first | exact Kd.R_nil _ _ _ _ _ | exact Kd.N_nil _ _ _ _ _ | exact Kd.V_nil _ _ _ _ _ | exact Kd.Q_nil _ _ _ _ _ | exact Kd.S_nil _ _ _ _ _⟩, ⟨bb HB⟩⟩
 case round =>
  clear H'
  try clear c2
  try clear p2
  obtain ⟨x5_1, x6_1, rfl, HA, HK1, HO_5, HB⟩ := hrel
  cases gk with
  | zero => exact absurd HA.out (by simp [r12_Vars.l0])
  | succ k1 =>
   have H := HA.out
   clear HA
   simp only [r12_Vars.l0] at H
   by_cases c3 : x6_1 < a1
   rotate_left
   ·rw [if_neg c3] at H
    have c3b0 : decide (x6_1 < a1) = false := decide_eq_false c3
    clear c3
    obtain rfl := Option.some.inj H
    go_wp2
    go_ret
    exact ⟨_, rr, by (with_reducible repeat (first | apply Kd.R_alloc | apply Kd.R_drewN | apply Kd.R_drew)); exact HO_5.out, bb HB⟩
   rw [if_pos c3] at H
   have c3b0 : decide (x6_1 < a1) = true := decide_eq_true c3
   clear c3
   obtain ⟨t328, A4, H⟩ := be H
   by_cases c5 : x5_1.length + t328.length < 4398046511104
   rotate_left
   ·rw [if_neg c5] at H
    exact absurd H (by simp)
   rw [if_pos c5] at H
   have LMc5 := Aside0.mk c5
   clear c5
   obtain ⟨y331, hy331⟩ : ∃ y_ : List (S66), y_ = (x5_1 ++ t328) := ⟨_, rfl⟩
   replace H : (r12_Vars.l0 k1 l0 a1 y331 (wrap64 (x6_1 + 1))) = some r := by first | (rw [hy331]; with_reducible exact H) | (have H2_ := (Option.bind_some _ _).symm.trans H; rw [hy331]; with_reducible exact H2_) | (have H2_ := (Option.bind_some _ _).symm.trans H; with_reducible exact H2_) | with_reducible exact H | (rw [hy331]; exact H) | exact H
   have Ny331 := Aside0.mk hy331
   clear hy331
   have H' := Aside0.mk H
   clear H
   go_wp2_with (first | ((with_reducible refine gate_callee (f := 57) rfl ?_); refine gL (some 15) rfl rfl Try.func57 #[.slice A0 l0.length c0, .int .i64 x6_1] rfl ?_; (with_reducible refine (r12_Named.calls k1 _ _ l0 x6_1 t328 _ ?side1 ?side2 A4.out).mono ?_); (case side1 => exact cb HR0 HB); (case side2 => exact HC0.out); rintro e w6 ⟨v329, rfl, ho0, hb⟩; refine ⟨_, rfl, ?_⟩; have HO330 := Aside0.mk (Kd.R_lower (Kd.R_new' ho0 (Kd.R_lt (iR HO_5))) (bsz (bb HB))); replace HO_5 := Aside0.mk (Kd.R_elder' (iR HO_5) (Kd.R_base ho0) hb); replace HB := sb HB hb; (try clear hb); (try clear ho0); obtain ⟨Ao8, co8, eo8⟩ := Kd.R_slice HO330.out; subst eo8) | ((with_reducible refine gate_builtin (b := .append) (xs := #[.tmp 12, .tmp 15]) rfl ?_); at_builtin; refine Kd.R_append_rows k66 (w0 := w) w.heap.size rfl (.tmp 12) (.tmp 15) 22 66 (.agg #[(.string ⟨#[]⟩), (.int .i64 0), (.int .i64 0)]) 32 rfl Try.underlying22 info66 rfl (by decide) (by omega) u5 x5_1 t328 _ _ _ (fun k_ => some k_ ≠ (.slice Ao8 t328.length co8 : Value).ownBlock) (fun _ => False) rfl rfl ?aO ?aR (fun _ _ h => h) (fun _ h => h.elim) ?aF ?aB ?aS ?aL ?_; (case aR => repeat (first | exact (Kd.R_reads' HO330.out).2.2 | with_reducible first | apply Kd.C_alloc | apply Kd.C_drewN | apply Kd.C_drew)); (case aB => exact (bb HB)); (case aF => exact (fun k_ hk => Kd.fresh' (Kd.R_lt (iR HO330)) k_ hk)); (case aO => exact (by (with_reducible repeat (first | apply Kd.R_alloc | apply Kd.R_drewN | apply Kd.R_drew)); exact Kd.R_mono HO_5.out (fun _ hk => hk.2))); (case aS => exact (bsz (bb HB))); (case aL => have := LMc5.out; omega); intro v332 w7 ho hb hg hat; rw [← Ny331.out] at ho; have HO333 := Aside0.mk (ho); replace HO330 := Aside0.mk (Kd.R_after (ok := (fun _ => True)) (iR HO330) hg hat); replace HB := Aside0.mk (hb); clear HO_5; clear ho hb hg hat))
   go_roundg k1
   case measure => have := HK1.out; omega
   case rel => exact ⟨(y331), (wrap64 (x6_1 + 1)), rs, H', ⟨by have := HK1.out; omega⟩, ⟨by (with_reducible repeat (first | apply Kd.R_alloc | apply Kd.R_drewN | apply Kd.R_drew)); exact Kd.R_mono HO333.out (fun _ hk => trivial)⟩, ⟨bb HB⟩⟩
def tg (i : Int) : ByteArray := if i = 0 then ⟨#[95, 48]⟩ else if i = 1 then ⟨#[95, 49]⟩ else ⟨#[95, 50]⟩
def dg (i : Int) : ByteArray := if i = 0 then ⟨#[48]⟩ else if i = 1 then ⟨#[49]⟩ else ⟨#[50]⟩
theorem tg_size (i : Int) : (tg i).size = 2 := by unfold tg; split; rfl; split <;> rfl
theorem dg_size (i : Int) : (dg i).size = 1 := by unfold dg; split; rfl; split <;> rfl
theorem tg_dg (i : Int) : (⟨#[95]⟩ : ByteArray) ++ dg i = tg i := by unfold tg dg; split; rfl; split <;> rfl
theorem tag_tells {i : Int} (h0 : 0 ≤ i) (h3 : i < 3) : Tells (fun k => prod_tag.f k i) (tg i) := by
  refine ⟨0, fun k _ => ?_⟩
  unfold prod_tag.f tg
  by_cases a : i = 0
  · rw [if_pos a, if_pos a]
  · rw [if_neg a, if_neg a]
    by_cases b : i = 1
    · rw [if_pos b, if_pos b]
    · rw [if_neg b, if_neg b, if_pos (by omega)]
theorem dig_tells {i : Int} (h0 : 0 ≤ i) (h3 : i < 3) : Tells (fun k => r2_Digits.f k i) (dg i) := by
  refine ⟨0, fun k _ => ?_⟩
  unfold r2_Digits.f dg
  by_cases a : i = 0
  · rw [if_pos a, if_pos a]
  · rw [if_neg a, if_neg a]
    by_cases b : i = 1
    · rw [if_pos b, if_pos b]
    · rw [if_neg b, if_neg b, if_pos (by omega)]
def nmd (i : Int) (v : S66) : S66 := ⟨v.f0 ++ tg i, wrap64 (v.f1 + wrap64 (16 * i)), v.f2⟩
theorem variables_loop (i : Int) (h0 : 0 ≤ i) (h3 : i < 3) : ∀ (suf pre acc : List S66), (pre ++ suf).length ≤ 1000 → (∀ v ∈ suf, v.f0.size ≤ 1000) → acc.length + suf.length ≤ 1000 →
    Tells (fun k => prod_variables.l0 k i acc (pre ++ suf) ((pre ++ suf).length : Int) (pre.length : Int)) (acc ++ suf.map (nmd i))
  | [], pre, acc, _, _, _ => by
    refine Tells.succ ?_
    simp only [prod_variables.l0, pre_nlt, if_false]
    rw [List.map_nil, List.append_nil]
    exact Tells.pure _
  | v :: r, pre, acc, hl, hv, ha => by
    refine Tells.succ ?_
    simp only [prod_variables.l0, pre_lt, pre_pos, if_true, rdV_mid]
    refine Tells.bind (tag_tells h0 h3) ?_
    have hs := hv v (by simp)
    refine Tells.ifT (by rw [tg_size]; omega) (Tells.ifT (by simp only [List.length_cons] at ha; omega) ?_)
    rw [pre_next pre v r (by omega)]
    have := variables_loop i h0 h3 r (pre ++ [v]) (acc ++ [nmd i v]) (by rw [← pre_app]; exact hl) (fun u hu => hv u (by simp [hu])) (by simp only [List.length_append, List.length_cons, List.length_nil] at ha ⊢; omega)
    rw [← pre_app, List.append_assoc, List.singleton_append] at this
    rw [List.map_cons]
    exact this
theorem variables_tells (i : Int) (h0 : 0 ≤ i) (h3 : i < 3) (vars : List S66) (hl : vars.length ≤ 1000) (hv : ∀ v ∈ vars, v.f0.size ≤ 1000) : Tells (fun k => prod_variables.f k vars i) (vars.map (nmd i)) := by
  unfold prod_variables.f
  exact variables_loop i h0 h3 vars [] [] hl hv (by simp only [List.length_nil]; omega)
theorem named_loop (i : Int) (h0 : 0 ≤ i) (h3 : i < 3) : ∀ (suf pre acc : List S66), (pre ++ suf).length ≤ 1000 → (∀ v ∈ suf, v.f0.size ≤ 1000) → acc.length + suf.length ≤ 1000 →
    Tells (fun k => r12_Named.l0 k (pre ++ suf) i acc (pre.length : Int)) (acc ++ suf.map (nmd i))
  | [], pre, acc, _, _, _ => by
    refine Tells.succ ?_
    simp only [r12_Named.l0, pre_nlt, if_false]
    rw [List.map_nil, List.append_nil]
    exact Tells.pure _
  | v :: r, pre, acc, hl, hv, ha => by
    refine Tells.succ ?_
    simp only [r12_Named.l0, pre_lt, pre_pos, if_true, rdV_mid]
    have hs := hv v (by simp)
    refine Tells.ifT (by omega) (Tells.bind (dig_tells h0 h3) ?_)
    have e1 : (v.f0 ++ (⟨#[95]⟩ : ByteArray)).size = v.f0.size + 1 := by rw [ByteArray.size_append]; rfl
    refine Tells.ifT (by rw [e1, dg_size]; omega) (Tells.ifT (by simp only [List.length_cons] at ha; omega) ?_)
    rw [pre_next pre v r (by omega), ByteArray.append_assoc, tg_dg]
    have := named_loop i h0 h3 r (pre ++ [v]) (acc ++ [nmd i v]) (by rw [← pre_app]; exact hl) (fun u hu => hv u (by simp [hu])) (by simp only [List.length_append, List.length_cons, List.length_nil] at ha ⊢; omega)
    rw [← pre_app, List.append_assoc, List.singleton_append] at this
    rw [List.map_cons]
    exact this
theorem named_tells (i : Int) (h0 : 0 ≤ i) (h3 : i < 3) (vars : List S66) (hl : vars.length ≤ 1000) (hv : ∀ v ∈ vars, v.f0.size ≤ 1000) : Tells (fun k => r12_Named.f k vars i) (vars.map (nmd i)) := by
  unfold r12_Named.f
  exact named_loop i h0 h3 vars [] [] hl hv (by simp only [List.length_nil]; omega)
def vsN (vars : List S66) : Nat → List S66
  | 0 => []
  | n + 1 => vsN vars n ++ vars.map (nmd (n : Int))
theorem vsN_length (vars : List S66) : ∀ n, (vsN vars n).length = n * vars.length
  | 0 => by simp [vsN]
  | n + 1 => by rw [vsN, List.length_append, List.length_map, vsN_length vars n, Nat.succ_mul]
theorem rvars_loop (vars : List S66) (hl : vars.length ≤ 1000) (hv : ∀ v ∈ vars, v.f0.size ≤ 1000) (n : Nat) (hn : n ≤ 3) : ∀ (j i : Nat), i + j = n →
    Tells (fun k => r12_Vars.l0 k vars (n : Int) (vsN vars i) (i : Int)) (vsN vars n)
  | 0, i, h => by
    obtain rfl : i = n := by omega
    refine Tells.succ ?_
    simp only [r12_Vars.l0, Int.lt_irrefl, if_false]
    exact Tells.pure _
  | j + 1, i, h => by
    refine Tells.succ ?_
    have hlt : (i : Int) < (n : Int) := by omega
    simp only [r12_Vars.l0, hlt, if_true]
    refine Tells.bind (named_tells (i : Int) (by omega) (by omega) vars hl hv) ?_
    have hx := vsN_length vars i
    have hb : i * vars.length ≤ 3 * 1000 := Nat.mul_le_mul (by omega) hl
    refine Tells.ifT (by rw [hx, List.length_map]; omega) ?_
    rw [w64 (by omega) (by omega)]
    have := rvars_loop vars hl hv n hn j (i + 1) (by omega)
    rw [vsN] at this
    exact this
theorem rvars_tells (vars : List S66) (hl : vars.length ≤ 1000) (hv : ∀ v ∈ vars, v.f0.size ≤ 1000) (n : Int) (h0 : 0 ≤ n) (hn : n ≤ 3) : Tells (fun k => r12_Vars.f k vars n) (vsN vars n.toNat) := by
  obtain ⟨m, rfl⟩ : ∃ m : Nat, n = m := ⟨n.toNat, by omega⟩
  rw [Int.toNat_natCast]
  unfold r12_Vars.f
  exact rvars_loop vars hl hv m (by omega) m 0 (by omega)
theorem pIs_names {w : Int} {vars : List S66} {body : List S64} (hp : pIs w vars body = true) : vars.length ≤ 1000 ∧ (∀ v ∈ vars, v.f0.size ≤ 1000) := by
  obtain ⟨hh, _⟩ := pIs_all hp
  obtain ⟨_, _, _, h18, _, _⟩ := hIs_all hh
  refine ⟨by omega, fun v hv => ?_⟩
  unfold hIs at hh
  rw [Bool.and_eq_true, Bool.and_eq_true] at hh
  have := (hOK_all vars [] 0 hh.2.2).1 v hv
  unfold varOK nameOK at this
  rw [Bool.and_eq_true, Bool.and_eq_true, decide_eq_true_eq] at this
  omega
end Go.Proofs.Ytilebfkehmecaaa.Print
