/- For any program, number of copies and stores, no call of the product's functions changes what came in, and what they give is newly laid (programs of at most 600 nodes; else the law answers with its fixed calls). -/
import Derived.Test.YtilebfkehmecaaaO2
import Derived.Below
import Derived.Carry
import Derived.Deep.RegionWith
import Derived.LoopIn
import Derived.LoopNIn
import Derived.OwnWalkIn
import Derived.RangeFuncBound
import Derived.RangeFuncCalls
import Derived.RangeFuncIn
import Derived.RangeFuncLeaves
import Derived.RangeFuncNested
import Derived.RangeFuncOwn
import Derived.Shelf.Abstract
import Derived.Shelf.RegionOpen
import Derived.TacticsInMore
import Derived.WalkKit
set_option maxRecDepth 100000
set_option maxHeartbeats 16000000
namespace Go.Proofs.Ytilebfkehmecaaa.Print
open Go.RowKit Go.Proofs.YtilebfkehmecaaaW.PrintWords Go.Proofs.YtilebfkehmecaaaW.PrintLast Go.Proofs.YtilebfkehmecaaaW.PrintMore
attribute [local go_sem] max2_int min2_int max_two min_two max_three min_three max_four min_four
set_option linter.unusedVariables false
set_option linter.unusedSimpArgs false
mutual
def prog_args.j0 : Nat → Int → Bool → Int → List (S66) → List (S64) → Int → Int → List (S28) → List (S64) → List (S64) → Option (Int)
 | 0, _, _, _, _, _, _, _, _, _, _ => none
 | k + 1, x5, x17, x129000, x129001, x129002, x130000, x130001, x130002, x130003, x130004 => if x17 = true then (if 0 ≤ x130001 then (if x130001 < (x129001.length : Int) then (prog_args.j1 k ((rd_T66 x129001 x130001).f2) x130000 x130001 x130002 x130003 x130004) else (none)) else (none)) else (prog_args.j1 k x5 x130000 x130001 x130002 x130003 x130004)
def prog_args.j1 : Nat → Int → Int → Int → List (S28) → List (S64) → List (S64) → Option (Int)
 | 0, _, _, _, _, _, _ => none
 | k + 1, x5, x130000, x130001, x130002, x130003, x130004 => if x130000 = 0 then (prog_args.j2 k x5 x130000 (x130000 == 0) x130000 x130001 x130002 x130003 x130004) else (prog_args.j2 k x5 x130000 (x130000 == 4) x130000 x130001 x130002 x130003 x130004)
def prog_args.j2 : Nat → Int → Int → Bool → Int → Int → List (S28) → List (S64) → List (S64) → Option (Int)
 | 0, _, _, _, _, _, _, _, _ => none
 | k + 1, x5, x26, x27, x130000, x130001, x130002, x130003, x130004 => if x27 = true then (if x130000 = 0 then (prog_args.j3 k x5 1) else (prog_args.j3 k x5 0)) else (if x26 = 3 then (if x130001 < 0 then (some (-1)) else (if x130001 > 47 then (some (-1)) else (some 1))) else (if x26 = 1 then (prog_args.j4 k (x26 == 1) x130000 x130001 x130002 x130003 x130004) else (if x26 = 2 then (prog_args.j4 k (x26 == 2) x130000 x130001 x130002 x130003 x130004) else (if x26 = 5 then (prog_args.j4 k (x26 == 5) x130000 x130001 x130002 x130003 x130004) else (prog_args.j4 k (x26 == 6) x130000 x130001 x130002 x130003 x130004)))))
def prog_args.j3 : Nat → Int → Int → Option (Int)
 | 0, _, _ => none
 | k + 1, x5, x6 => if x5 = 0 then (some (-1)) else (if x5 > 1 then (some (wrap64 (x6 + 1))) else (some x6))
def prog_args.j4 : Nat → Bool → Int → Int → List (S28) → List (S64) → List (S64) → Option (Int)
 | 0, _, _, _, _, _, _ => none
 | k + 1, x52, x130000, x130001, x130002, x130003, x130004 => if x52 = true then (if x130001 = 0 then (some 1) else (some (-1))) else (some (-1))
end
def prog_args.f (k : Nat) (a0_0 : Int) (l0_1 : List (S66)) (l0_2 : List (S64)) (a1_0 : Int) (a1_1 : Int) (l1_2 : List (S28)) (l1_3 : List (S64)) (l1_4 : List (S64)) : Option (Int) := if a1_1 ≥ 0 then (prog_args.j0 k 0 (decide (a1_1 < (l0_1.length : Int))) a0_0 l0_1 l0_2 a1_0 a1_1 l1_2 l1_3 l1_4) else (prog_args.j0 k 0 false a0_0 l0_1 l0_2 a1_0 a1_1 l1_2 l1_3 l1_4)
theorem prog_args.calls (k : Nat) (a0_0 : Int) (A0_1 : Option Addr) (c0_1 : Nat) (l0_1 : List (S66)) (A0_2 : Option Addr) (c0_2 : Nat) (l0_2 : List (S64)) (a1_0 : Int) (a1_1 : Int) (A1_2 : Option Addr) (c1_2 : Nat) (l1_2 : List (S28)) (A1_3 : Option Addr) (c1_3 : Nat) (l1_3 : List (S64)) (A1_4 : Option Addr) (c1_4 : Nat) (l1_4 : List (S64)) (r : Int) (w : World) (hr0_1 : Kd.C k66 w A0_1 l0_1.length l0_1) (hc0_1 : l0_1.length ≤ c0_1) (hr0_2 : Kd.C k64 w A0_2 l0_2.length l0_2) (hc0_2 : l0_2.length ≤ c0_2) (hr1_2 : Kd.C k28 w A1_2 l1_2.length l1_2) (hc1_2 : l1_2.length ≤ c1_2) (hr1_3 : Kd.C k64 w A1_3 l1_3.length l1_3) (hc1_3 : l1_3.length ≤ c1_3) (hr1_4 : Kd.C k64 w A1_4 l1_4.length l1_4) (hc1_4 : l1_4.length ≤ c1_4) (h : prog_args.f k a0_0 l0_1 l0_2 a1_0 a1_1 l1_2 l1_3 l1_4 = some r) :
  Calls Try.prog 118 #[.agg #[.int .i64 a0_0, .slice A0_1 l0_1.length c0_1, .slice A0_2 l0_2.length c0_2], .agg #[.int .i64 a1_0, .int .i64 a1_1, .slice A1_2 l1_2.length c1_2, .slice A1_3 l1_3.length c1_3, .slice A1_4 l1_4.length c1_4]] w fun e w' => e = .returned (.int .i64 r) ∧ Below w.heap.size w w' := by
 have hu25 := Try.underlying25
 have hu64 := Try.underlying64
 have HR0_1 := Aside0.mk hr0_1
 have HC0_1 := Aside0.mk hc0_1
 clear hr0_1 hc0_1
 have HR0_2 := Aside0.mk hr0_2
 have HC0_2 := Aside0.mk hc0_2
 clear hr0_2 hc0_2
 have HR1_2 := Aside0.mk hr1_2
 have HC1_2 := Aside0.mk hc1_2
 clear hr1_2 hc1_2
 have HR1_3 := Aside0.mk hr1_3
 have HC1_3 := Aside0.mk hc1_3
 clear hr1_3 hc1_3
 have HR1_4 := Aside0.mk hr1_4
 have HC1_4 := Aside0.mk hc1_4
 clear hr1_4 hc1_4
 have HB := Aside0.mk (Below.refl w.heap.size w)
 have H : (if a1_1 ≥ 0 then (prog_args.j0 k 0 (decide (a1_1 < (l0_1.length : Int))) a0_0 l0_1 l0_2 a1_0 a1_1 l1_2 l1_3 l1_4) else (prog_args.j0 k 0 false a0_0 l0_1 l0_2 a1_0 a1_1 l1_2 l1_3 l1_4)) = some r := h
 clear h
 have HC3 := Aside0.mk H
 clear H
 go_enter Try.func118, Try.ntmps118
 go_upto_region 2 with (first | ((with_reducible refine gate_dst (N := 2) rfl ?_); (try (refine gate_guard (by rfl) ?_; dsimp only)); refine bx 2 rfl rfl #[.int .i64 a0_0, .slice A0_1 l0_1.length c0_1, .slice A0_2 l0_2.length c0_2] 25 ?_; intro gb128 hg w4 hbox hb; have BK128 := Aside0.mk (hbox); have GE128 := ge HB hg; replace HB := sb HB hb; clear hb hbox hg) | ((with_reducible refine gate_dst (N := 3) rfl ?_); (try (refine gate_guard (by rfl) ?_; dsimp only)); refine bx 3 rfl rfl #[.int .i64 a1_0, .int .i64 a1_1, .slice A1_2 l1_2.length c1_2, .slice A1_3 l1_3.length c1_3, .slice A1_4 l1_4.length c1_4] 64 ?_; intro gb129 hg w5 hbox hb; have BK129 := Aside0.mk (hbox); have GE129 := ge HB hg; have NB128_129 := Aside0.mk ((by rw [hg]; exact Nat.ne_of_lt (blk_lt (kk BK128)) : gb128 ≠ gb129)); have NB129_128 := Aside0.mk ((by rw [hg]; exact Nat.ne_of_gt (blk_lt (kk BK128)) : gb129 ≠ gb128)); replace BK128 := kb BK128 hb; replace HB := sb HB hb; clear hb hbox hg))
 (try simp only [Act.put, List.setIfInBounds_toArray, List.set_cons_zero, List.set_cons_succ])
 go_cut [17] (fun v17 wc => ∃ (kq : Nat) (x17_2 : Bool), v17 = .bool x17_2 ∧ Aside0 (prog_args.j0 kq 0 x17_2 a0_0 l0_1 l0_2 a1_0 a1_1 l1_2 l1_3 l1_4 = some r) ∧ Aside0 (kq ≤ k) ∧ Aside0 (wc.heap[gb128]? = some (.cells #[.int .i64 a0_0, (.slice A0_1 l0_1.length c0_1), (.slice A0_2 l0_2.length c0_2)] 25 (0, 0))) ∧ Aside0 (wc.heap[gb129]? = some (.cells #[.int .i64 a1_0, .int .i64 a1_1, (.slice A1_2 l1_2.length c1_2), (.slice A1_3 l1_3.length c1_3), (.slice A1_4 l1_4.length c1_4)] 64 (0, 0))) ∧ Aside0 (Below w.heap.size w wc))
 case first =>
  have H := HC3.out
  clear HC3
  by_cases c6 : a1_1 ≥ 0
  rotate_left
  ·rw [if_neg c6] at H
   have c6b0 : decide (0 ≤ a1_1) = false := decide_eq_false c6
   clear c6
   (first | rw [c6b0] | (simp only [i64_w, i32_w]; rw [c6b0]) | skip)
   have H' := Aside0.mk H
   clear H
   have hnb10 := NB129_128.out
   have hnc10 := NB128_129.out
   obtain ⟨hcz11_0, hcz11_1, hcz11_2, hcz11_3, hcz11_4, hfz11_0, hfz11_1, hfz11_2, hfz11_3, hfz11_4⟩ := cf5 BK129.out
   go_wp2
   go_meet
   case rel => exact ⟨_, (false), rs, H', ⟨by first | omega | exact Nat.le_refl _⟩, ⟨kk BK128⟩, ⟨kk BK129⟩, ⟨bb HB⟩⟩
  rw [if_pos c6] at H
  have c6b0 : decide (0 ≤ a1_1) = true := decide_eq_true c6
  clear c6
  (first | rw [c6b0] | (simp only [i64_w, i32_w]; rw [c6b0]) | skip)
  have H' := Aside0.mk H
  clear H
  have hnb7 := NB129_128.out
  have hnc7 := NB128_129.out
  obtain ⟨hcz8_0, hcz8_1, hcz8_2, hcz8_3, hcz8_4, hfz8_0, hfz8_1, hfz8_2, hfz8_3, hfz8_4⟩ := cf5 BK129.out
  obtain ⟨hcz9_0, hcz9_1, hcz9_2, hfz9_0, hfz9_1, hfz9_2⟩ := cf3 BK128.out
  go_wp2
  go_meet
  case rel => exact ⟨_, (decide (a1_1 < (l0_1.length : Int))), rs, H', ⟨by first | omega | exact Nat.le_refl _⟩, ⟨kk BK128⟩, ⟨kk BK129⟩, ⟨bb HB⟩⟩
 case rest =>
  clear HC3
  try clear c1
  try clear p2
  try clear c6
  try clear c6b0
  try clear c7
  try clear c10
  try clear c11
  try clear hcz11_0 hcz11_1 hcz11_2 hcz11_3 hcz11_4
  try clear hcz8_0 hcz8_1 hcz8_2 hcz8_3 hcz8_4
  try clear hcz9_0 hcz9_1 hcz9_2
  try clear hfz11_0 hfz11_1 hfz11_2 hfz11_3 hfz11_4
  try clear hfz8_0 hfz8_1 hfz8_2 hfz8_3 hfz8_4
  try clear hfz9_0 hfz9_1 hfz9_2
  obtain ⟨kq, x17_2, rfl, HA, HJ2, BK128, BK129, HB⟩ := hcut
  cases kq with
  | zero => exact absurd HA.out (by simp [prog_args.j0])
  | succ kj2 =>
   have H := HA.out
   clear HA
   simp only [prog_args.j0] at H
   have HC12 := Aside0.mk H
   clear H
   go_upto_if 17 with (fail)
   go_cut [5] (fun v5 wc => ∃ (kq : Nat) (x5_11 : Int), v5 = .int .i64 x5_11 ∧ Aside0 (prog_args.j1 kq x5_11 a1_0 a1_1 l1_2 l1_3 l1_4 = some r) ∧ Aside0 (kq ≤ kj2) ∧ Aside0 (wc.heap[gb128]? = some (.cells #[.int .i64 a0_0, (.slice A0_1 l0_1.length c0_1), (.slice A0_2 l0_2.length c0_2)] 25 (0, 0))) ∧ Aside0 (wc.heap[gb129]? = some (.cells #[.int .i64 a1_0, .int .i64 a1_1, (.slice A1_2 l1_2.length c1_2), (.slice A1_3 l1_3.length c1_3), (.slice A1_4 l1_4.length c1_4)] 64 (0, 0))) ∧ Aside0 (Below w.heap.size w wc))
   case first =>
    have H := HC12.out
    clear HC12
    by_cases c13 : x17_2 = true
    rotate_left
    ·replace c13 := Bool.eq_false_iff.mpr c13
     subst c13
     replace H := fi H
     have H' := Aside0.mk H
     clear H
     go_wp2
     go_meet
     case rel => exact ⟨_, (0), rs, H', ⟨by have := HJ2.out; first | omega | exact Nat.le_refl _⟩, ⟨kk BK128⟩, ⟨kk BK129⟩, ⟨bb HB⟩⟩
    subst c13
    replace H := it H
    by_cases c14 : 0 ≤ a1_1
    rotate_left
    ·rw [if_neg c14] at H
     exact absurd H (by simp)
    rw [if_pos c14] at H
    have c14b0 : decide (0 ≤ a1_1) = true := decide_eq_true c14
    clear c14
    (first | rw [c14b0] | (simp only [i64_w, i32_w]; rw [c14b0]) | skip)
    by_cases c15 : a1_1 < (l0_1.length : Int)
    rotate_left
    ·rw [if_neg c15] at H
     exact absurd H (by simp)
    rw [if_pos c15] at H
    have c15b0 : decide (a1_1 < (l0_1.length : Int)) = true := decide_eq_true c15
    clear c15
    have H' := Aside0.mk H
    clear H
    have hnb16 := NB128_129.out
    have hnc16 := NB129_128.out
    obtain ⟨hcz17_0, hcz17_1, hcz17_2, hfz17_0, hfz17_1, hfz17_2⟩ := cf3 BK128.out
    obtain ⟨hcz18_0, hcz18_1, hcz18_2, hcz18_3, hcz18_4, hfz18_0, hfz18_1, hfz18_2, hfz18_3, hfz18_4⟩ := cf5 BK129.out
    have p130 : 0 ≤ (a1_1 : Int) := od
    have q130 : a1_1 < (l0_1.length : Int) := od
    obtain ⟨ad130, e130, hx130_0, hx130_1, hx130_2⟩ := at_T66 HR0_1.out a1_1 p130 q130
    cases e130
    replace hx130_0 := bcell HB.out hx130_0
    replace hx130_1 := bcell HB.out hx130_1
    replace hx130_2 := bcell HB.out hx130_2
    replace p130 := eq_true p130
    replace q130 := eq_true q130
    go_wp2
    go_meet
    case rel => exact ⟨_, ((rd_T66 l0_1 a1_1).f2), rs, H', ⟨by have := HJ2.out; first | omega | exact Nat.le_refl _⟩, ⟨kk BK128⟩, ⟨kk BK129⟩, ⟨bb HB⟩⟩
   case rest =>
    clear HC12
    try clear c1
    try clear p1
    try clear q1
    try clear hx1
    try clear p2
    try clear c6
    try clear c6b0
    try clear c7
    try clear c10
    try clear c11
    try clear c13
    try clear p13
    try clear q13
    try clear hx13
    try clear c14
    try clear c14b0
    try clear c15
    try clear c15b0
    try clear c16
    try clear hcz11_0 hcz11_1 hcz11_2 hcz11_3 hcz11_4
    try clear hcz17_0 hcz17_1 hcz17_2
    try clear hcz18_0 hcz18_1 hcz18_2 hcz18_3 hcz18_4
    try clear hcz8_0 hcz8_1 hcz8_2 hcz8_3 hcz8_4
    try clear hcz9_0 hcz9_1 hcz9_2
    try clear hfz11_0 hfz11_1 hfz11_2 hfz11_3 hfz11_4
    try clear hfz17_0 hfz17_1 hfz17_2
    try clear hfz18_0 hfz18_1 hfz18_2 hfz18_3 hfz18_4
    try clear hfz8_0 hfz8_1 hfz8_2 hfz8_3 hfz8_4
    try clear hfz9_0 hfz9_1 hfz9_2
    try clear hx130_0
    try clear hx130_1
    try clear hx130_2
    try clear p130
    try clear p2
    try clear q130
    obtain ⟨kq, x5_11, rfl, HA, HJ11, BK128, BK129, HB⟩ := hcut
    cases kq with
    | zero => exact absurd HA.out (by simp [prog_args.j1])
    | succ kj11 =>
     have H := HA.out
     clear HA
     simp only [prog_args.j1] at H
     have HC19 := Aside0.mk H
     clear H
     have hnb20 := NB129_128.out
     have hnc20 := NB128_129.out
     obtain ⟨hcz21_0, hcz21_1, hcz21_2, hcz21_3, hcz21_4, hfz21_0, hfz21_1, hfz21_2, hfz21_3, hfz21_4⟩ := cf5 BK129.out
     go_upto_if 27 with (fail)
     go_cut [27] (fun v27 wc => ∃ (kq : Nat) (x27_18 : Bool), v27 = .bool x27_18 ∧ Aside0 (prog_args.j2 kq x5_11 a1_0 x27_18 a1_0 a1_1 l1_2 l1_3 l1_4 = some r) ∧ Aside0 (kq ≤ kj11) ∧ Aside0 (wc.heap[gb128]? = some (.cells #[.int .i64 a0_0, (.slice A0_1 l0_1.length c0_1), (.slice A0_2 l0_2.length c0_2)] 25 (0, 0))) ∧ Aside0 (wc.heap[gb129]? = some (.cells #[.int .i64 a1_0, .int .i64 a1_1, (.slice A1_2 l1_2.length c1_2), (.slice A1_3 l1_3.length c1_3), (.slice A1_4 l1_4.length c1_4)] 64 (0, 0))) ∧ Aside0 (Below w.heap.size w wc))
     case first =>
      have H := HC19.out
      clear HC19
      by_cases c22 : a1_0 = 0
      rotate_left
      ·rw [if_neg c22] at H
       have c22b0 : (a1_0 == 0) = false := beq_eq_false_iff_ne.mpr c22
       have c22b1 : (a1_0 != 0) = true := bne_iff_ne.mpr c22
       (first | rw [c22b0] | (simp only [i64_w, i32_w]; rw [c22b0]) | skip)
       have H' := Aside0.mk H
       clear H
       go_wp2
       go_meet
       case rel => exact ⟨_, ((a1_0 == 4)), rs, H', ⟨by have := HJ2.out; have := HJ11.out; first | omega | exact Nat.le_refl _⟩, ⟨kk BK128⟩, ⟨kk BK129⟩, ⟨bb HB⟩⟩
      rw [if_pos c22] at H
      have c22b0 : (a1_0 == 0) = true := beq_iff_eq.mpr c22
      have c22b1 : (a1_0 != 0) = false := bne_eq_false_iff_eq.mpr c22
      clear c22
      (first | rw [c22b0] | (simp only [i64_w, i32_w]; rw [c22b0]) | skip)
      have H' := Aside0.mk H
      clear H
      go_wp2
      go_meet
      case rel => exact ⟨_, ((a1_0 == 0)), rs, H', ⟨by have := HJ2.out; have := HJ11.out; first | omega | exact Nat.le_refl _⟩, ⟨kk BK128⟩, ⟨kk BK129⟩, ⟨bb HB⟩⟩
     case rest =>
      clear HC19
      try clear c1
      try clear p1
      try clear q1
      try clear hx1
      try clear c2
      try clear p2
      try clear c6
      try clear c6b0
      try clear c7
      try clear c10
      try clear c11
      try clear c13
      try clear p13
      try clear q13
      try clear hx13
      try clear c14
      try clear c14b0
      try clear c15
      try clear c15b0
      try clear c16
      try clear c20
      try clear c22
      try clear c22b0
      try clear c22b1
      try clear hcz11_0 hcz11_1 hcz11_2 hcz11_3 hcz11_4
      try clear hcz17_0 hcz17_1 hcz17_2
      try clear hcz18_0 hcz18_1 hcz18_2 hcz18_3 hcz18_4
      try clear hcz21_0 hcz21_1 hcz21_2 hcz21_3 hcz21_4
      try clear hcz8_0 hcz8_1 hcz8_2 hcz8_3 hcz8_4
      try clear hcz9_0 hcz9_1 hcz9_2
      try clear hfz11_0 hfz11_1 hfz11_2 hfz11_3 hfz11_4
      try clear hfz17_0 hfz17_1 hfz17_2
      try clear hfz18_0 hfz18_1 hfz18_2 hfz18_3 hfz18_4
      try clear hfz21_0 hfz21_1 hfz21_2 hfz21_3 hfz21_4
      try clear hfz8_0 hfz8_1 hfz8_2 hfz8_3 hfz8_4
      try clear hfz9_0 hfz9_1 hfz9_2
      try clear hx130_0
      try clear hx130_1
      try clear hx130_2
      try clear p1
      try clear p13
      try clear p130
      try clear p2
      try clear q1
      try clear q13
      try clear q130
      obtain ⟨kq, x27_18, rfl, HA, HJ18, BK128, BK129, HB⟩ := hcut
      cases kq with
      | zero => exact absurd HA.out (by simp [prog_args.j2])
      | succ kj18 =>
       have H := HA.out
       clear HA
       simp only [prog_args.j2] at H
       by_cases c23 : x27_18 = true
       ·subst c23
        replace H := it H
        have HC24 := Aside0.mk H
        clear H
        have hnb25 := NB129_128.out
        have hnc25 := NB128_129.out
        obtain ⟨hcz26_0, hcz26_1, hcz26_2, hcz26_3, hcz26_4, hfz26_0, hfz26_1, hfz26_2, hfz26_3, hfz26_4⟩ := cf5 BK129.out
        go_upto_if 32 with (fail)
        go_cut [6] (fun v6 wc => ∃ (kq : Nat) (x6_23 : Int), v6 = .int .i64 x6_23 ∧ Aside0 (prog_args.j3 kq x5_11 x6_23 = some r) ∧ Aside0 (kq ≤ kj18) ∧ Aside0 (wc.heap[gb128]? = some (.cells #[.int .i64 a0_0, (.slice A0_1 l0_1.length c0_1), (.slice A0_2 l0_2.length c0_2)] 25 (0, 0))) ∧ Aside0 (wc.heap[gb129]? = some (.cells #[.int .i64 a1_0, .int .i64 a1_1, (.slice A1_2 l1_2.length c1_2), (.slice A1_3 l1_3.length c1_3), (.slice A1_4 l1_4.length c1_4)] 64 (0, 0))) ∧ Aside0 (Below w.heap.size w wc))
        case first =>
         have H := HC24.out
         clear HC24
         by_cases c27 : a1_0 = 0
         rotate_left
         ·rw [if_neg c27] at H
          have c27b0 : (a1_0 == 0) = false := beq_eq_false_iff_ne.mpr c27
          have c27b1 : (a1_0 != 0) = true := bne_iff_ne.mpr c27
          (first | rw [c27b0] | (simp only [i64_w, i32_w]; rw [c27b0]) | skip)
          have H' := Aside0.mk H
          clear H
          go_wp2
          go_meet
          case rel => exact ⟨_, (0), rs, H', ⟨by have := HJ2.out; have := HJ11.out; have := HJ18.out; first | omega | exact Nat.le_refl _⟩, ⟨kk BK128⟩, ⟨kk BK129⟩, ⟨bb HB⟩⟩
         rw [if_pos c27] at H
         have c27b0 : (a1_0 == 0) = true := beq_iff_eq.mpr c27
         have c27b1 : (a1_0 != 0) = false := bne_eq_false_iff_eq.mpr c27
         clear c27
         (first | rw [c27b0] | (simp only [i64_w, i32_w]; rw [c27b0]) | skip)
         have H' := Aside0.mk H
         clear H
         go_wp2
         go_meet
         case rel => exact ⟨_, (1), rs, H', ⟨by have := HJ2.out; have := HJ11.out; have := HJ18.out; first | omega | exact Nat.le_refl _⟩, ⟨kk BK128⟩, ⟨kk BK129⟩, ⟨bb HB⟩⟩
        case rest =>
         clear HC24
         try clear c1
         try clear p1
         try clear q1
         try clear hx1
         try clear c2
         try clear p2
         try clear c6
         try clear c6b0
         try clear c7
         try clear c10
         try clear c11
         try clear c13
         try clear p13
         try clear q13
         try clear hx13
         try clear c14
         try clear c14b0
         try clear c15
         try clear c15b0
         try clear c16
         try clear c20
         try clear c22
         try clear c22b0
         try clear c22b1
         try clear c23
         try clear c25
         try clear c27
         try clear c27b0
         try clear c27b1
         try clear hcz11_0 hcz11_1 hcz11_2 hcz11_3 hcz11_4
         try clear hcz17_0 hcz17_1 hcz17_2
         try clear hcz18_0 hcz18_1 hcz18_2 hcz18_3 hcz18_4
         try clear hcz21_0 hcz21_1 hcz21_2 hcz21_3 hcz21_4
         try clear hcz26_0 hcz26_1 hcz26_2 hcz26_3 hcz26_4
         try clear hcz8_0 hcz8_1 hcz8_2 hcz8_3 hcz8_4
         try clear hcz9_0 hcz9_1 hcz9_2
         try clear hfz11_0 hfz11_1 hfz11_2 hfz11_3 hfz11_4
         try clear hfz17_0 hfz17_1 hfz17_2
         try clear hfz18_0 hfz18_1 hfz18_2 hfz18_3 hfz18_4
         try clear hfz21_0 hfz21_1 hfz21_2 hfz21_3 hfz21_4
         try clear hfz26_0 hfz26_1 hfz26_2 hfz26_3 hfz26_4
         try clear hfz8_0 hfz8_1 hfz8_2 hfz8_3 hfz8_4
         try clear hfz9_0 hfz9_1 hfz9_2
         try clear hx130_0
         try clear hx130_1
         try clear hx130_2
         try clear p1
         try clear p13
         try clear p130
         try clear p2
         try clear q1
         try clear q13
         try clear q130
         obtain ⟨kq, x6_23, rfl, HA, HJ23, BK128, BK129, HB⟩ := hcut
         cases kq with
         | zero => exact absurd HA.out (by simp [prog_args.j3])
         | succ kj23 =>
          have H := HA.out
          clear HA
          simp only [prog_args.j3] at H
          by_cases c28 : x5_11 = 0
          ·rw [if_pos c28] at H
           have c28b0 : (x5_11 == 0) = true := beq_iff_eq.mpr c28
           have c28b1 : (x5_11 != 0) = false := bne_eq_false_iff_eq.mpr c28
           clear c28
           obtain rfl := Option.some.inj H
           go_wp2
           go_ret
           exact ⟨rr, bb HB⟩
          rw [if_neg c28] at H
          have c28b0 : (x5_11 == 0) = false := beq_eq_false_iff_ne.mpr c28
          have c28b1 : (x5_11 != 0) = true := bne_iff_ne.mpr c28
          by_cases c29 : x5_11 > 1
          ·rw [if_pos c29] at H
           have c29b0 : decide (1 < x5_11) = true := decide_eq_true c29
           clear c29
           obtain rfl := Option.some.inj H
           go_wp2
           go_ret
           exact ⟨rr, bb HB⟩
          rw [if_neg c29] at H
          have c29b0 : decide (1 < x5_11) = false := decide_eq_false c29
          clear c29
          obtain rfl := Option.some.inj H
          go_wp2
          go_ret
          exact ⟨rr, bb HB⟩
       replace c23 := Bool.eq_false_iff.mpr c23
       subst c23
       replace H := fi H
       by_cases c30 : a1_0 = 3
       ·rw [if_pos c30] at H
        have c30b0 : (a1_0 == 3) = true := beq_iff_eq.mpr c30
        have c30b1 : (a1_0 != 3) = false := bne_eq_false_iff_eq.mpr c30
        clear c30
        by_cases c31 : a1_1 < 0
        ·rw [if_pos c31] at H
         have c31b0 : decide (a1_1 < 0) = true := decide_eq_true c31
         clear c31
         obtain rfl := Option.some.inj H
         have hnb32 := NB129_128.out
         have hnc32 := NB128_129.out
         obtain ⟨hcz33_0, hcz33_1, hcz33_2, hcz33_3, hcz33_4, hfz33_0, hfz33_1, hfz33_2, hfz33_3, hfz33_4⟩ := cf5 BK129.out
         go_wp2
         go_ret
         exact ⟨rr, bb HB⟩
        rw [if_neg c31] at H
        have c31b0 : decide (a1_1 < 0) = false := decide_eq_false c31
        clear c31
        by_cases c34 : a1_1 > 47
        ·rw [if_pos c34] at H
         have c34b0 : decide (47 < a1_1) = true := decide_eq_true c34
         clear c34
         obtain rfl := Option.some.inj H
         have hnb35 := NB129_128.out
         have hnc35 := NB128_129.out
         obtain ⟨hcz36_0, hcz36_1, hcz36_2, hcz36_3, hcz36_4, hfz36_0, hfz36_1, hfz36_2, hfz36_3, hfz36_4⟩ := cf5 BK129.out
         go_wp2
         go_ret
         exact ⟨rr, bb HB⟩
        rw [if_neg c34] at H
        have c34b0 : decide (47 < a1_1) = false := decide_eq_false c34
        clear c34
        obtain rfl := Option.some.inj H
        have hnb37 := NB129_128.out
        have hnc37 := NB128_129.out
        obtain ⟨hcz38_0, hcz38_1, hcz38_2, hcz38_3, hcz38_4, hfz38_0, hfz38_1, hfz38_2, hfz38_3, hfz38_4⟩ := cf5 BK129.out
        go_wp2
        go_ret
        exact ⟨rr, bb HB⟩
       rw [if_neg c30] at H
       have c30b0 : (a1_0 == 3) = false := beq_eq_false_iff_ne.mpr c30
       have c30b1 : (a1_0 != 3) = true := bne_iff_ne.mpr c30
       have HC39 := Aside0.mk H
       clear H
       go_upto_if 52 with (fail)
       go_cut [52] (fun v52 wc => ∃ (kq : Nat) (x52_38 : Bool), v52 = .bool x52_38 ∧ Aside0 (prog_args.j4 kq x52_38 a1_0 a1_1 l1_2 l1_3 l1_4 = some r) ∧ Aside0 (kq ≤ kj18) ∧ Aside0 (wc.heap[gb128]? = some (.cells #[.int .i64 a0_0, (.slice A0_1 l0_1.length c0_1), (.slice A0_2 l0_2.length c0_2)] 25 (0, 0))) ∧ Aside0 (wc.heap[gb129]? = some (.cells #[.int .i64 a1_0, .int .i64 a1_1, (.slice A1_2 l1_2.length c1_2), (.slice A1_3 l1_3.length c1_3), (.slice A1_4 l1_4.length c1_4)] 64 (0, 0))) ∧ Aside0 (Below w.heap.size w wc))
       case first =>
        have H := HC39.out
        clear HC39
        by_cases c40 : a1_0 = 1
        ·rw [if_pos c40] at H
         have c40b0 : (a1_0 == 1) = true := beq_iff_eq.mpr c40
         have c40b1 : (a1_0 != 1) = false := bne_eq_false_iff_eq.mpr c40
         clear c40
         (first | rw [c40b0] | (simp only [i64_w, i32_w]; rw [c40b0]) | skip)
         have H' := Aside0.mk H
         clear H
         go_wp2
         go_meet
         case rel => exact ⟨_, ((a1_0 == 1)), rs, H', ⟨by have := HJ2.out; have := HJ11.out; have := HJ18.out; first | omega | exact Nat.le_refl _⟩, ⟨kk BK128⟩, ⟨kk BK129⟩, ⟨bb HB⟩⟩
        rw [if_neg c40] at H
        have c40b0 : (a1_0 == 1) = false := beq_eq_false_iff_ne.mpr c40
        have c40b1 : (a1_0 != 1) = true := bne_iff_ne.mpr c40
        (first | rw [c40b0] | (simp only [i64_w, i32_w]; rw [c40b0]) | skip)
        by_cases c41 : a1_0 = 2
        ·rw [if_pos c41] at H
         have c41b0 : (a1_0 == 2) = true := beq_iff_eq.mpr c41
         have c41b1 : (a1_0 != 2) = false := bne_eq_false_iff_eq.mpr c41
         clear c41
         have H' := Aside0.mk H
         clear H
         go_wp2
         go_meet
         case rel => exact ⟨_, ((a1_0 == 2)), rs, H', ⟨by have := HJ2.out; have := HJ11.out; have := HJ18.out; first | omega | exact Nat.le_refl _⟩, ⟨kk BK128⟩, ⟨kk BK129⟩, ⟨bb HB⟩⟩
        rw [if_neg c41] at H
        have c41b0 : (a1_0 == 2) = false := beq_eq_false_iff_ne.mpr c41
        have c41b1 : (a1_0 != 2) = true := bne_iff_ne.mpr c41
        by_cases c42 : a1_0 = 5
        rotate_left
        ·rw [if_neg c42] at H
         have c42b0 : (a1_0 == 5) = false := beq_eq_false_iff_ne.mpr c42
         have c42b1 : (a1_0 != 5) = true := bne_iff_ne.mpr c42
         have H' := Aside0.mk H
         clear H
         go_wp2
         go_meet
         case rel => exact ⟨_, ((a1_0 == 6)), rs, H', ⟨by have := HJ2.out; have := HJ11.out; have := HJ18.out; first | omega | exact Nat.le_refl _⟩, ⟨kk BK128⟩, ⟨kk BK129⟩, ⟨bb HB⟩⟩
        rw [if_pos c42] at H
        have c42b0 : (a1_0 == 5) = true := beq_iff_eq.mpr c42
        have c42b1 : (a1_0 != 5) = false := bne_eq_false_iff_eq.mpr c42
        clear c42
        have H' := Aside0.mk H
        clear H
        go_wp2
        go_meet
        case rel => exact ⟨_, ((a1_0 == 5)), rs, H', ⟨by have := HJ2.out; have := HJ11.out; have := HJ18.out; first | omega | exact Nat.le_refl _⟩, ⟨kk BK128⟩, ⟨kk BK129⟩, ⟨bb HB⟩⟩
       case rest =>
        clear HC39
        try clear c1
        try clear p1
        try clear q1
        try clear hx1
        try clear c2
        try clear p2
        try clear c3
        try clear c4
        try clear c6
        try clear c6b0
        try clear c7
        try clear c10
        try clear c11
        try clear c13
        try clear p13
        try clear q13
        try clear hx13
        try clear c14
        try clear c14b0
        try clear c15
        try clear c15b0
        try clear c16
        try clear c20
        try clear c22
        try clear c22b0
        try clear c22b1
        try clear c23
        try clear c25
        try clear c27
        try clear c27b0
        try clear c27b1
        try clear c28
        try clear c28b0
        try clear c28b1
        try clear c29
        try clear c29b0
        try clear c30
        try clear c30b0
        try clear c30b1
        try clear c31
        try clear c31b0
        try clear c32
        try clear c34
        try clear c34b0
        try clear c35
        try clear c37
        try clear c40
        try clear c40b0
        try clear c40b1
        try clear c41
        try clear c41b0
        try clear c41b1
        try clear c42
        try clear c42b0
        try clear c42b1
        try clear hcz11_0 hcz11_1 hcz11_2 hcz11_3 hcz11_4
        try clear hcz17_0 hcz17_1 hcz17_2
        try clear hcz18_0 hcz18_1 hcz18_2 hcz18_3 hcz18_4
        try clear hcz21_0 hcz21_1 hcz21_2 hcz21_3 hcz21_4
        try clear hcz26_0 hcz26_1 hcz26_2 hcz26_3 hcz26_4
        try clear hcz33_0 hcz33_1 hcz33_2 hcz33_3 hcz33_4
        try clear hcz36_0 hcz36_1 hcz36_2 hcz36_3 hcz36_4
        try clear hcz38_0 hcz38_1 hcz38_2 hcz38_3 hcz38_4
        try clear hcz8_0 hcz8_1 hcz8_2 hcz8_3 hcz8_4
        try clear hcz9_0 hcz9_1 hcz9_2
        try clear hfz11_0 hfz11_1 hfz11_2 hfz11_3 hfz11_4
        try clear hfz17_0 hfz17_1 hfz17_2
        try clear hfz18_0 hfz18_1 hfz18_2 hfz18_3 hfz18_4
        try clear hfz21_0 hfz21_1 hfz21_2 hfz21_3 hfz21_4
        try clear hfz26_0 hfz26_1 hfz26_2 hfz26_3 hfz26_4
        try clear hfz33_0 hfz33_1 hfz33_2 hfz33_3 hfz33_4
        try clear hfz36_0 hfz36_1 hfz36_2 hfz36_3 hfz36_4
        try clear hfz38_0 hfz38_1 hfz38_2 hfz38_3 hfz38_4
        try clear hfz8_0 hfz8_1 hfz8_2 hfz8_3 hfz8_4
        try clear hfz9_0 hfz9_1 hfz9_2
        try clear hx130_0
        try clear hx130_1
        try clear hx130_2
        try clear p1
        try clear p13
        try clear p130
        try clear p2
        try clear q1
        try clear q13
        try clear q130
        obtain ⟨kq, x52_38, rfl, HA, HJ38, BK128, BK129, HB⟩ := hcut
        cases kq with
        | zero => exact absurd HA.out (by simp [prog_args.j4])
        | succ kj38 =>
         have H := HA.out
         clear HA
         simp only [prog_args.j4] at H
         by_cases c43 : x52_38 = true
         rotate_left
         ·replace c43 := Bool.eq_false_iff.mpr c43
          subst c43
          replace H := fi H
          obtain rfl := Option.some.inj H
          go_wp2
          go_ret
          exact ⟨rr, bb HB⟩
         subst c43
         replace H := it H
         by_cases c44 : a1_1 = 0
         rotate_left
         ·rw [if_neg c44] at H
          have c44b0 : (a1_1 == 0) = false := beq_eq_false_iff_ne.mpr c44
          have c44b1 : (a1_1 != 0) = true := bne_iff_ne.mpr c44
          obtain rfl := Option.some.inj H
          have hnb47 := NB129_128.out
          have hnc47 := NB128_129.out
          obtain ⟨hcz48_0, hcz48_1, hcz48_2, hcz48_3, hcz48_4, hfz48_0, hfz48_1, hfz48_2, hfz48_3, hfz48_4⟩ := cf5 BK129.out
          go_wp2
          go_ret
          exact ⟨rr, bb HB⟩
         rw [if_pos c44] at H
         have c44b0 : (a1_1 == 0) = true := beq_iff_eq.mpr c44
         have c44b1 : (a1_1 != 0) = false := bne_eq_false_iff_eq.mpr c44
         clear c44
         obtain rfl := Option.some.inj H
         have hnb45 := NB129_128.out
         have hnc45 := NB128_129.out
         obtain ⟨hcz46_0, hcz46_1, hcz46_2, hcz46_3, hcz46_4, hfz46_0, hfz46_1, hfz46_2, hfz46_3, hfz46_4⟩ := cf5 BK129.out
         go_wp2
         go_ret
         exact ⟨rr, bb HB⟩
def nestOk (op : Int) (t e : Nat) : Bool := (t == 0 || op == 1 || op == 2) && (e == 0 || op == 1)
theorem nestOk_cases (op : Int) (t e : Nat) :
    (nestOk op t e = false ∧ (((decide (0 < t) = true ∧ decide ((0 : Int) < (t : Int)) = true) ∧ (op != 1) = true ∧ (op != 2) = true) ∨ ((decide (0 < t) = true ∧ decide ((0 : Int) < (t : Int)) = true) ∧ (op != 1) = true ∧ (op != 2) = false ∧ (decide (0 < e) = true ∧ decide ((0 : Int) < (e : Int)) = true)) ∨ ((decide (0 < t) = false ∧ decide ((0 : Int) < (t : Int)) = false) ∧ (decide (0 < e) = true ∧ decide ((0 : Int) < (e : Int)) = true) ∧ (op != 1) = true))) ∨
    (nestOk op t e = true ∧ (((decide (0 < t) = true ∧ decide ((0 : Int) < (t : Int)) = true) ∧ (op != 1) = false ∧ (decide (0 < e) = false ∧ decide ((0 : Int) < (e : Int)) = false)) ∨ ((decide (0 < t) = true ∧ decide ((0 : Int) < (t : Int)) = true) ∧ (op != 1) = false ∧ (decide (0 < e) = true ∧ decide ((0 : Int) < (e : Int)) = true)) ∨ ((decide (0 < t) = true ∧ decide ((0 : Int) < (t : Int)) = true) ∧ (op != 1) = true ∧ (op != 2) = false ∧ (decide (0 < e) = false ∧ decide ((0 : Int) < (e : Int)) = false)) ∨ ((decide (0 < t) = false ∧ decide ((0 : Int) < (t : Int)) = false) ∧ (decide (0 < e) = false ∧ decide ((0 : Int) < (e : Int)) = false)) ∨ ((decide (0 < t) = false ∧ decide ((0 : Int) < (t : Int)) = false) ∧ (decide (0 < e) = true ∧ decide ((0 : Int) < (e : Int)) = true) ∧ (op != 1) = false))) := by
  unfold nestOk
  by_cases ht : t = 0 <;> by_cases he : e = 0 <;> by_cases h1 : op = 1 <;> by_cases h2 : op = 2 <;> simp [ht, he, h1, h2, Nat.pos_iff_ne_zero, Int.natCast_pos] <;> omega
mutual
def prog_count_fine.l1 : Nat → Int → List S66 → List S64 → List S64 → Int → Int → Int → Int → Int → Option (Bool × Int × Int)
  | 0, _, _, _, _, _, _, _, _, _ => none
  | k + 1, a0, l1, l2, l, deep, i, j, st, nd => if j < ((rd_T64 l i).f2.length : Int) then (if 0 ≤ j then ((expr_Check.f k a0 l1 1 (rd_T28 (rd_T64 l i).f2 j).f0 (rd_T28 (rd_T64 l i).f2 j).f1 (rd_T28 (rd_T64 l i).f2 j).f2 (rd_T28 (rd_T64 l i).f2 j).f3).bind fun t => if t = 0 then
        ((expr_Nodes.f k (rd_T28 (rd_T64 l i).f2 j).f0 (rd_T28 (rd_T64 l i).f2 j).f1 (rd_T28 (rd_T64 l i).f2 j).f2 (rd_T28 (rd_T64 l i).f2 j).f3).bind fun m => prog_count_fine.l1 k a0 l1 l2 l deep i (wrap64 (j + 1)) st (wrap64 (nd + m))) else some (false, st, nd)) else none)
      else (prog_count_fine.f k a0 l1 l2 (rd_T64 l i).f3 (wrap64 (deep + 1)) st nd).bind fun q => if q.1 = true then ((prog_count_fine.f k a0 l1 l2 (rd_T64 l i).f4 (wrap64 (deep + 1)) q.2.1 q.2.2).bind fun q2 => if q2.1 = true then prog_count_fine.l0 k a0 l1 l2 l deep (wrap64 (i + 1)) q2.2.1 q2.2.2 else some (false, q2.2.1, q2.2.2)) else some (false, q.2.1, q.2.2)
def prog_count_fine.l0 : Nat → Int → List S66 → List S64 → List S64 → Int → Int → Int → Int → Option (Bool × Int × Int)
  | 0, _, _, _, _, _, _, _, _ => none
  | k + 1, a0, l1, l2, l, deep, i, st, nd => if i < (l.length : Int) then (if 0 ≤ i then (if 400 < wrap64 (nd + 1) then some (false, wrap64 (st + 1), wrap64 (nd + 1)) else
      (prog_args.f k a0 l1 l2 (rd_T64 l i).f0 (rd_T64 l i).f1 (rd_T64 l i).f2 (rd_T64 l i).f3 (rd_T64 l i).f4).bind fun ar => if ar = ((rd_T64 l i).f2.length : Int) then
        (if nestOk (rd_T64 l i).f0 (rd_T64 l i).f3.length (rd_T64 l i).f4.length = true then prog_count_fine.l1 k a0 l1 l2 l deep i 0 (wrap64 (st + 1)) (wrap64 (nd + 1)) else some (false, wrap64 (st + 1), wrap64 (nd + 1))) else some (false, wrap64 (st + 1), wrap64 (nd + 1))) else none)
      else some (decide (nd ≤ 400), st, nd)
def prog_count_fine.f : Nat → Int → List S66 → List S64 → List S64 → Int → Int → Int → Option (Bool × Int × Int)
  | 0, _, _, _, _, _, _, _ => none
  | k + 1, a0, l1, l2, l, deep, st, nd => if (0 : Int) < (l.length : Int) then (if 16 < deep then some (false, st, nd) else prog_count_fine.l0 k a0 l1 l2 l deep 0 st nd) else prog_count_fine.l0 k a0 l1 l2 l deep 0 st nd
end
theorem cells2 {w : World} {g : Nat} {a b : Value} {t : TypeId} {fr : Nat × Nat} (h : w.heap[g]? = some (.cells #[a, b] t (0, 0))) : w.cell? ⟨g, 0, none⟩ = some a ∧ w.cell? ⟨g, 1, none⟩ = some b := ⟨(blk_cell h 0).trans rfl, (blk_cell h 1).trans rfl⟩
theorem cells3 {w : World} {g : Nat} {a b c : Value} {t : TypeId} (h : w.heap[g]? = some (.cells #[a, b, c] t (0, 0))) : w.cell? ⟨g, 0, none⟩ = some a ∧ w.cell? ⟨g, 1, none⟩ = some b ∧ w.cell? ⟨g, 2, none⟩ = some c := ⟨(blk_cell h 0).trans rfl, (blk_cell h 1).trans rfl, (blk_cell h 2).trans rfl⟩
theorem cells5 {w : World} {g : Nat} {a b c d e : Value} {t : TypeId} (h : w.heap[g]? = some (.cells #[a, b, c, d, e] t (0, 0))) : w.cell? ⟨g, 0, none⟩ = some a ∧ w.cell? ⟨g, 1, none⟩ = some b ∧ w.cell? ⟨g, 2, none⟩ = some c ∧ w.cell? ⟨g, 3, none⟩ = some d ∧ w.cell? ⟨g, 4, none⟩ = some e :=
  ⟨(blk_cell h 0).trans rfl, (blk_cell h 1).trans rfl, (blk_cell h 2).trans rfl, (blk_cell h 3).trans rfl, (blk_cell h 4).trans rfl⟩
theorem count_world {wr : World} {G p : Nat} {a b u v : Value} {t : TypeId} {oP : Obj} (hG : wr.heap[G]? = some (.cells #[a, b] t (0, 0))) (hP : wr.heap[p]? = some oP) (hne : p ≠ G) (o : Obj) :
    (((wr.setCell ⟨G, 0, none⟩ u).setCell ⟨G, 1, none⟩ v).alloc o).heap[G]? = some (.cells #[u, v] t (0, 0)) ∧ (((wr.setCell ⟨G, 0, none⟩ u).setCell ⟨G, 1, none⟩ v).alloc o).heap[p]? = some oP ∧
      (((wr.setCell ⟨G, 0, none⟩ u).setCell ⟨G, 1, none⟩ v).alloc o).heap[wr.heap.size]? = some o ∧ wr.grownBy (((wr.setCell ⟨G, 0, none⟩ u).setCell ⟨G, 1, none⟩ v).alloc o) (some G) ∧ wr.heap.size < (((wr.setCell ⟨G, 0, none⟩ u).setCell ⟨G, 1, none⟩ v).alloc o).heap.size := by
  have h1 : (wr.setCell ⟨G, 0, none⟩ u).heap[G]? = some (.cells #[u, b] t (0, 0)) := by simpa using blk_set hG 0 u
  have h2 : ((wr.setCell ⟨G, 0, none⟩ u).setCell ⟨G, 1, none⟩ v).heap[G]? = some (.cells #[u, v] t (0, 0)) := by simpa using blk_set h1 1 v
  refine ⟨kal h2 _, kal ((Below.heap_setCell _ _ _ _ hne).trans ((Below.heap_setCell _ _ _ _ hne).trans hP)) _, ?_, ?_, by simp⟩
  · have := heap_alloc_new ((wr.setCell ⟨G, 0, none⟩ u).setCell ⟨G, 1, none⟩ v) o
    simpa using this
  · refine ⟨rfl, rfl, rfl, by simp, fun i hi hne2 => ?_⟩
    have hne' : i ≠ G := fun e => hne2 (by rw [e])
    rw [Below.heap_alloc _ _ _ (by simpa using hi), Below.heap_setCell _ _ _ _ hne', Below.heap_setCell _ _ _ _ hne']
theorem undrew {w w' : World} (h : Below w.drew.heap.size w.drew w') : Below w.heap.size w w' := ⟨h.os, h.tape, h.output, h.size, h.block⟩
theorem prog_count_fine.calls (k : Nat) : ∀ (a0 : Int) (A1 : Option Addr) (c1 : Nat) (l1 : List S66) (A2 : Option Addr) (c2 : Nat) (l2 : List S64) (A : Option Addr) (c : Nat) (l : List S64) (deep st nd : Int) (G : Nat) (r : Bool) (st' nd' : Int) (w0 w : World)
    (hr1 : Kd.C k66 w0 A1 l1.length l1) (hc1 : l1.length ≤ c1) (hr2 : Kd.C k64 w0 A2 l2.length l2) (hc2 : l2.length ≤ c2) (hr : Kd.C k64 w0 A l.length l) (hc : l.length ≤ c) (hB : Below w0.heap.size w0 w) (hG0 : w0.heap.size ≤ G)
    (hG : w.heap[G]? = some (.cells #[.int .i64 st, .int .i64 nd] 101 (0, 0))) (h : prog_count_fine.f k a0 l1 l2 l deep st nd = some (r, st', nd')),
    Calls Try.prog 101 #[.pointer (some ⟨G, 0, none⟩), .agg #[.int .i64 a0, .slice A1 l1.length c1, .slice A2 l2.length c2], .slice A l.length c, .int .i64 deep] w fun e w' =>
      e = .returned (.bool r) ∧ w'.heap[G]? = some (.cells #[.int .i64 st', .int .i64 nd'] 101 (0, 0)) ∧ w.grownBy w' (some G) := by
  induction k using Nat.strongRecOn with
  | _ k ih =>
  intro a0 A1 c1 l1 A2 c2 l2 A c l deep st nd G r st' nd' w0 w hr1 hc1 hr2 hc2 hr hc hB hG0 hG h
  cases k with
  | zero => exact absurd h (by simp [prog_count_fine.f])
  | succ k =>
  simp only [prog_count_fine.f] at h
  have huP := Try.underlying25
  have huS := Try.underlying64
  have huC := Try.underlying101
  have HR1 := Aside0.mk hr1
  have HC1 := Aside0.mk hc1
  have HR2 := Aside0.mk hr2
  have HC2 := Aside0.mk hc2
  have HR := Aside0.mk hr
  have HC := Aside0.mk hc
  have HB := Aside0.mk hB
  have HG0 := Aside0.mk hG0
  have BG0 := Aside0.mk hG
  have hGl := blk_lt hG
  have ih' := Aside0.mk ih
  clear hr1 hc1 hr2 hc2 hr hc hB hG0 hG ih
  have HH : (0 < l.length ∧ decide (16 < deep) = true ∧ r = false ∧ st = st' ∧ nd = nd') ∨ (((0 < l.length ∧ decide (16 < deep) = false) ∨ l.length = 0) ∧ Aside0 (prog_count_fine.l0 k a0 l1 l2 l deep 0 st nd = some (r, st', nd'))) := by
    by_cases h0 : (0 : Int) < (l.length : Int)
    · rw [if_pos h0] at h
      rcases ite_b h with ⟨d, h⟩ | ⟨d, h⟩
      · injection (Option.some.inj h) with e1 e2
        injection e2 with e2 e3
        exact .inl ⟨by omega, d, e1.symm, e2, e3⟩
      · exact .inr ⟨.inl ⟨by omega, d⟩, ⟨h⟩⟩
    · rw [if_neg h0] at h
      exact .inr ⟨.inr (by omega), ⟨h⟩⟩
  clear h
  rcases HH with ⟨d0, d1, rfl, rfl, rfl⟩ | ⟨hd, HL⟩
  · have d0' : decide (0 < l.length) = true := decide_eq_true d0
    have d0'' : decide ((0 : Int) < (l.length : Int)) = true := decide_eq_true (by omega)
    go_enter Try.func101, Try.ntmps101
    go_wp2
    go_ret
    exact ⟨rfl, kal BG0.out _, World.grownBy_alloc _ _ _⟩
  have hd' : (decide (0 < l.length) = true ∧ decide ((0 : Int) < (l.length : Int)) = true ∧ decide (16 < deep) = false) ∨ (decide (0 < l.length) = false ∧ decide ((0 : Int) < (l.length : Int)) = false) := by
    rcases hd with ⟨d, d1⟩ | d
    · exact .inl ⟨decide_eq_true d, decide_eq_true (by omega), d1⟩
    · exact .inr ⟨decide_eq_false (by omega), decide_eq_false (by omega)⟩
  clear hd
  go_enter Try.func101, Try.ntmps101
  go_upto_region 1 with (fail)
  go_cut [19] (fun v19 wc => v19 = .bool false ∧ Aside0 (wc.heap[G]? = some (.cells #[.int .i64 st, .int .i64 nd] 101 (0, 0))) ∧ Aside0 (wc.heap[w.heap.size]? = some (.cells #[.int .i64 a0, .slice A1 l1.length c1, .slice A2 l2.length c2] 25 (0, 0))) ∧ Aside0 (w.grownBy wc (some G)))
  case first =>
    rcases hd' with ⟨d0, d1, d2⟩ | ⟨d0, d1⟩
    all_goals
      go_wp2
      go_meet
      case rel => exact ⟨rfl, ⟨kal BG0.out _⟩, ⟨heap_alloc_new _ _⟩, ⟨World.grownBy_alloc _ _ _⟩⟩
  case rest =>
    clear hd' BG0
    obtain ⟨rfl, BG0, BP0, GW0⟩ := hcut
    go_wp2
    go_loopg [22] k (fun kq v22 wl => ∃ (i s1 n1 : Int), v22 = .int .i64 i ∧ Aside0 (prog_count_fine.l0 kq a0 l1 l2 l deep i s1 n1 = some (r, st', nd')) ∧ Aside0 (kq ≤ k) ∧ Aside0 (wl.heap[G]? = some (.cells #[.int .i64 s1, .int .i64 n1] 101 (0, 0))) ∧
      Aside0 (wl.heap[w.heap.size]? = some (.cells #[.int .i64 a0, .slice A1 l1.length c1, .slice A2 l2.length c2] 25 (0, 0))) ∧ Aside0 (w.grownBy wl (some G)))
    case atStart => exact ⟨0, st, nd, rfl, HL, ⟨Nat.le_refl _⟩, BG0, BP0, GW0⟩
    case round =>
      clear HL BG0 BP0 GW0
      obtain ⟨i, s1, n1, rfl, HA, HK, BG, BP, GW⟩ := hrel
      cases gk with
      | zero => exact absurd HA.out (by simp [prog_count_fine.l0])
      | succ k1 =>
        have H := HA.out
        clear HA
        simp only [prog_count_fine.l0] at H
        have H2 := ite_b H
        clear H
        obtain ⟨hg0, hg1⟩ := cells2 (fr := (0, 0)) BG.out
        have hf0 := blk_frozen BG.out 0
        have hf1 := blk_frozen BG.out 1
        have hGlt := blk_lt BG.out
        have hPlt := blk_lt BP.out
        rcases H2 with ⟨t1, H⟩ | ⟨t1, H⟩
        case inr =>
          injection (Option.some.inj H) with e1 e2
          injection e2 with e2 e3
          subst e1 e2 e3
          clear H
          go_wp2
          go_ret
          exact ⟨rfl, BG.out, GW.out⟩
        have H2 := ite_b H
        clear H
        rcases H2 with ⟨t2, H⟩ | ⟨t2, H⟩
        case inr => exact absurd H (by simp)
        have p0 : 0 ≤ i := of_decide_eq_true t2
        have p1 : i < (l.length : Int) := of_decide_eq_true t1
        have B0 := Aside0.mk (below_gr HB.out GW.out HG0.out)
        obtain ⟨ad, B2, b2, B3, b3, B4, b4, e1, q0, q1, q2, q3, q4, ql2, qr2, ql3, qr3, ql4, qr4⟩ := at_T64 HR.out i p0 p1
        cases e1
        replace q0 := (B0.out.cell (World.block_lt_of_cell? w0 _ q0)).trans q0
        replace q1 := (B0.out.cell (World.block_lt_of_cell? w0 _ q1)).trans q1
        replace q2 := (B0.out.cell (World.block_lt_of_cell? w0 _ q2)).trans q2
        replace q3 := (B0.out.cell (World.block_lt_of_cell? w0 _ q3)).trans q3
        replace q4 := (B0.out.cell (World.block_lt_of_cell? w0 _ q4)).trans q4
        have QL2 := Aside0.mk ql2
        have QR2 := Aside0.mk qr2
        have QL3 := Aside0.mk ql3
        have QR3 := Aside0.mk qr3
        have QL4 := Aside0.mk ql4
        have QR4 := Aside0.mk qr4
        have hne : w.heap.size ≠ G := by omega
        have cw := count_world BG.out BP.out hne (.cells #[.int .i64 (rd_T64 l i).f0, .int .i64 (rd_T64 l i).f1, .slice B2 (rd_T64 l i).f2.length b2, .slice B3 (rd_T64 l i).f3.length b3, .slice B4 (rd_T64 l i).f4.length b4] 64) (u := .int .i64 (wrap64 (s1 + 1))) (v := .int .i64 (wrap64 (n1 + 1)))
        have hH := Aside0.mk H
        clear ql2 qr2 ql3 qr3 ql4 qr4 H
        have CW := Aside0.mk cw
        clear cw
        go_wp2
        have cw := CW.out
        clear CW
        generalize (((wr.setCell ⟨G, 0, none⟩ (.int .i64 (wrap64 (s1 + 1)))).setCell ⟨G, 1, none⟩ (.int .i64 (wrap64 (n1 + 1)))).alloc (.cells #[.int .i64 (rd_T64 l i).f0, .int .i64 (rd_T64 l i).f1, .slice B2 (rd_T64 l i).f2.length b2, .slice B3 (rd_T64 l i).f3.length b3, .slice B4 (rd_T64 l i).f4.length b4] 64)) = W1 at cw ⊢
        have H := hH.out
        clear hH
        generalize wrap64 (s1 + 1) = s2 at H cw ⊢
        generalize wrap64 (n1 + 1) = n2 at H cw ⊢
        obtain ⟨bG, bP, bS, gW1, hlt⟩ := cw
        obtain ⟨cG0, cG1⟩ := cells2 (fr := (0, 0)) bG
        obtain ⟨cP0, cP1, cP2⟩ := cells3 bP
        obtain ⟨cS0, cS1, cS2, cS3, cS4⟩ := cells5 bS
        have BG := Aside0.mk bG
        have BP := Aside0.mk bP
        have BS := Aside0.mk bS
        have GW := Aside0.mk (gtrans GW.out gW1)
        have B1 := Aside0.mk (below_gr HB.out GW.out HG0.out)
        clear bG bP bS gW1 hg0 hg1 hf0 hf1 q0 q1 q2 q3 q4 B0
        have H2 := ite_b H
        clear H
        rcases H2 with ⟨d1, H⟩ | ⟨d1, H⟩
        case inl =>
          injection (Option.some.inj H) with e1 e2
          injection e2 with e2 e3
          subst e1 e2 e3
          clear H
          go_quiet (fail)
          go_wp2
          go_ret
          exact ⟨rfl, BG.out, ⟨GW.out.os, GW.out.tape, GW.out.output, GW.out.size, GW.out.block⟩⟩
        replace H := Option.bind_eq_some_iff.mp H
        obtain ⟨ar, AR0, H⟩ := H
        have AR := Aside0.mk AR0
        clear AR0
        have H2 := ite_b H
        clear H
        rcases H2 with ⟨d3, H⟩ | ⟨d3, H⟩
        case inr =>
          injection (Option.some.inj H) with e1 e2
          injection e2 with e2 e3
          subst e1 e2 e3
          clear H
          have d3a : (ar == ((rd_T64 l i).f2.length : Int)) = false := beq_eq_false_iff_ne.mpr (of_decide_eq_false d3)
          have d3b : (ar != ((rd_T64 l i).f2.length : Int)) = true := bne_iff_ne.mpr (of_decide_eq_false d3)
          clear d3
          go_region_held3 (fun w' => Below W1.heap.size W1 w' ∧ w'.cell? ⟨G, 0, none⟩ = some (.int .i64 s2) ∧ w'.cell? ⟨G, 1, none⟩ = some (.int .i64 n2) ∧ w'.cell? ⟨w.heap.size, 0, none⟩ = some (.int .i64 a0) ∧ w'.cell? ⟨w.heap.size, 1, none⟩ = some (.slice A1 l1.length c1) ∧ w'.cell? ⟨w.heap.size, 2, none⟩ = some (.slice A2 l2.length c2) ∧
              w'.cell? ⟨wr.heap.size, 0, none⟩ = some (.int .i64 (rd_T64 l i).f0) ∧ w'.cell? ⟨wr.heap.size, 1, none⟩ = some (.int .i64 (rd_T64 l i).f1) ∧ w'.cell? ⟨wr.heap.size, 2, none⟩ = some (.slice B2 (rd_T64 l i).f2.length b2) ∧ w'.cell? ⟨wr.heap.size, 3, none⟩ = some (.slice B3 (rd_T64 l i).f3.length b3) ∧ w'.cell? ⟨wr.heap.size, 4, none⟩ = some (.slice B4 (rd_T64 l i).f4.length b4))
            (first
              | exact ⟨below_drew (Below.refl _ _), cG0, cG1, cP0, cP1, cP2, cS0, cS1, cS2, cS3, cS4⟩
              | (go_split_ands; exact ⟨below_then (by assumption) (Below.size (by assumption)) hb, pw_cell_below hb (by assumption), pw_cell_below hb (by assumption), pw_cell_below hb (by assumption), pw_cell_below hb (by assumption), pw_cell_below hb (by assumption), pw_cell_below hb (by assumption), pw_cell_below hb (by assumption), pw_cell_below hb (by assumption), pw_cell_below hb (by assumption), pw_cell_below hb (by assumption)⟩))
            (first | (go_at_call 118; (with_reducible refine (prog_args.calls k1 a0 _ _ l1 _ _ l2 _ _ _ _ (rd_T64 l i).f2 _ _ (rd_T64 l i).f3 _ _ (rd_T64 l i).f4 ar _ ?s1 HC1.out ?s2 HC2.out ?s3 QL2.out ?s4 QL3.out ?s5 QL4.out AR.out).mono ?_); (case s1 => exact Kd.C_below HR1.out (by repeat (first | exact B1.out | apply below_drew))); (case s2 => exact Kd.C_below HR2.out (by repeat (first | exact B1.out | apply below_drew))); (case s3 => exact Kd.C_below QR2.out (by repeat (first | exact B1.out | apply below_drew))); (case s4 => exact Kd.C_below QR3.out (by repeat (first | exact B1.out | apply below_drew))); (case s5 => exact Kd.C_below QR4.out (by repeat (first | exact B1.out | apply below_drew))); rintro e w' ⟨rfl, hb⟩))
          obtain ⟨hBw, _⟩ := ‹Below W1.heap.size W1 _ ∧ _›
          go_wp2
          go_ret
          exact ⟨rfl, fine_end GW.out BG.out hBw⟩
        have d3a : (ar == ((rd_T64 l i).f2.length : Int)) = true := beq_iff_eq.mpr (of_decide_eq_true d3)
        have d3b : (ar != ((rd_T64 l i).f2.length : Int)) = false := bne_eq_false_iff_eq.mpr (of_decide_eq_true d3)
        clear d3
        go_region_held3 (fun w' => Below W1.heap.size W1 w' ∧ w'.cell? ⟨G, 0, none⟩ = some (.int .i64 s2) ∧ w'.cell? ⟨G, 1, none⟩ = some (.int .i64 n2) ∧ w'.cell? ⟨w.heap.size, 0, none⟩ = some (.int .i64 a0) ∧ w'.cell? ⟨w.heap.size, 1, none⟩ = some (.slice A1 l1.length c1) ∧ w'.cell? ⟨w.heap.size, 2, none⟩ = some (.slice A2 l2.length c2) ∧
            w'.cell? ⟨wr.heap.size, 0, none⟩ = some (.int .i64 (rd_T64 l i).f0) ∧ w'.cell? ⟨wr.heap.size, 1, none⟩ = some (.int .i64 (rd_T64 l i).f1) ∧ w'.cell? ⟨wr.heap.size, 2, none⟩ = some (.slice B2 (rd_T64 l i).f2.length b2) ∧ w'.cell? ⟨wr.heap.size, 3, none⟩ = some (.slice B3 (rd_T64 l i).f3.length b3) ∧ w'.cell? ⟨wr.heap.size, 4, none⟩ = some (.slice B4 (rd_T64 l i).f4.length b4))
          (first
            | exact ⟨below_drew (Below.refl _ _), cG0, cG1, cP0, cP1, cP2, cS0, cS1, cS2, cS3, cS4⟩
            | (go_split_ands; exact ⟨below_then (by assumption) (Below.size (by assumption)) hb, pw_cell_below hb (by assumption), pw_cell_below hb (by assumption), pw_cell_below hb (by assumption), pw_cell_below hb (by assumption), pw_cell_below hb (by assumption), pw_cell_below hb (by assumption), pw_cell_below hb (by assumption), pw_cell_below hb (by assumption), pw_cell_below hb (by assumption), pw_cell_below hb (by assumption)⟩))
          (first | (go_at_call 118; (with_reducible refine (prog_args.calls k1 a0 _ _ l1 _ _ l2 _ _ _ _ (rd_T64 l i).f2 _ _ (rd_T64 l i).f3 _ _ (rd_T64 l i).f4 ar _ ?s1 HC1.out ?s2 HC2.out ?s3 QL2.out ?s4 QL3.out ?s5 QL4.out AR.out).mono ?_); (case s1 => exact Kd.C_below HR1.out (by repeat (first | exact B1.out | apply below_drew))); (case s2 => exact Kd.C_below HR2.out (by repeat (first | exact B1.out | apply below_drew))); (case s3 => exact Kd.C_below QR2.out (by repeat (first | exact B1.out | apply below_drew))); (case s4 => exact Kd.C_below QR3.out (by repeat (first | exact B1.out | apply below_drew))); (case s5 => exact Kd.C_below QR4.out (by repeat (first | exact B1.out | apply below_drew))); rintro e w' ⟨rfl, hb⟩))
        obtain ⟨hBw, hcG0, hcG1, hcP0, hcP1, hcP2, hcS0, hcS1, hcS2, hcS3, hcS4⟩ := ‹Below W1.heap.size W1 _ ∧ _›
        have E2 := fine_end GW.out BG.out hBw
        have BG := Aside0.mk E2.1
        have GW := Aside0.mk E2.2
        have BP := Aside0.mk ((hBw.block _ (blk_lt BP.out)).trans BP.out)
        have BS := Aside0.mk ((hBw.block _ (blk_lt BS.out)).trans BS.out)
        have hH := Aside0.mk H
        clear hBw hb E2 cG0 cG1 cP0 cP1 cP2 cS0 cS1 cS2 cS3 cS4 B1 AR d1 d3a d3b H
        have H := hH.out
        clear hH
        rcases nestOk_cases (rd_T64 l i).f0 (rd_T64 l i).f3.length (rd_T64 l i).f4.length with ⟨hno, hcs⟩ | ⟨hno, hcs⟩
        · rw [hno] at H
          injection (Option.some.inj (show some (false, s2, n2) = some (r, st', nd') from H)) with e1 e2
          injection e2 with e2 e3
          subst e1 e2 e3
          clear H hno
          rcases hcs with ⟨⟨g1, g2⟩, g3, g4⟩ | ⟨⟨g1, g2⟩, g3, g4, g5, g6⟩ | ⟨⟨g1, g2⟩, ⟨g3, g4⟩, g5⟩
          all_goals go_wp2
          all_goals (go_ret; exact ⟨rfl, BG.out, GW.out⟩)
        rw [hno] at H
        have HL := Aside0.mk (show prog_count_fine.l1 k1 a0 l1 l2 l deep i 0 s2 n2 = some (r, st', nd') from H)
        clear H hno
        go_upto_region 10 with (fail)
        go_cut [78] (fun v78 wc => v78 = .bool false ∧ Aside0 (wc.heap[G]? = some (.cells #[.int .i64 s2, .int .i64 n2] 101 (0, 0))) ∧ Aside0 (wc.heap[w.heap.size]? = some (.cells #[.int .i64 a0, .slice A1 l1.length c1, .slice A2 l2.length c2] 25 (0, 0))) ∧ Aside0 (wc.heap[wr.heap.size]? = some (.cells #[.int .i64 (rd_T64 l i).f0, .int .i64 (rd_T64 l i).f1, .slice B2 (rd_T64 l i).f2.length b2, .slice B3 (rd_T64 l i).f3.length b3, .slice B4 (rd_T64 l i).f4.length b4] 64 (0, 0))) ∧ Aside0 (w.grownBy wc (some G)))
        case first =>
          rcases hcs with ⟨⟨g1, g2⟩, g3, g4, g5⟩ | ⟨⟨g1, g2⟩, g3, g4, g5⟩ | ⟨⟨g1, g2⟩, g3, g4, g5, g6⟩ | ⟨⟨g1, g2⟩, g3, g4⟩ | ⟨⟨g1, g2⟩, ⟨g3, g4⟩, g5⟩
          all_goals
            go_wp2
            go_meet
            case rel => exact ⟨rfl, BG, BP, BS, GW⟩
        case rest =>
          clear hcs BG BP BS GW hcG0 hcG1 hcP0 hcP1 hcP2 hcS0 hcS1 hcS2 hcS3 hcS4
          obtain ⟨rfl, BG, BP, BS, GW⟩ := hcut
          clear hlt hGlt
          generalize wr.heap.size = T at BS ⊢
          obtain ⟨cS0, cS1, cS2, cS3, cS4⟩ := cells5 BS.out
          go_wp2
          clear cS0 cS1 cS2 cS3 cS4
          go_loopg [82] k1 (fun kq v82 wl => ∃ (j s3 n3 : Int), v82 = .int .i64 j ∧ Aside0 (prog_count_fine.l1 kq a0 l1 l2 l deep i j s3 n3 = some (r, st', nd')) ∧ Aside0 (kq ≤ k1) ∧ Aside0 (wl.heap[G]? = some (.cells #[.int .i64 s3, .int .i64 n3] 101 (0, 0))) ∧
            Aside0 (wl.heap[w.heap.size]? = some (.cells #[.int .i64 a0, .slice A1 l1.length c1, .slice A2 l2.length c2] 25 (0, 0))) ∧ Aside0 (wl.heap[T]? = some (.cells #[.int .i64 (rd_T64 l i).f0, .int .i64 (rd_T64 l i).f1, .slice B2 (rd_T64 l i).f2.length b2, .slice B3 (rd_T64 l i).f3.length b3, .slice B4 (rd_T64 l i).f4.length b4] 64 (0, 0))) ∧ Aside0 (w.grownBy wl (some G)))
          case atStart => exact ⟨0, s2, n2, rfl, HL, ⟨Nat.le_refl _⟩, BG, BP, BS, GW⟩
          case round =>
            clear HL BG BP BS GW
            obtain ⟨j, s3, n3, rfl, HA, HK2, BG, BP, BS, GW⟩ := hrel
            cases gk with
            | zero => exact absurd HA.out (by simp [prog_count_fine.l1])
            | succ k2 =>
              have H := HA.out
              clear HA
              simp only [prog_count_fine.l1] at H
              have H2 := ite_b H
              clear H
              have hTG := blk_ne BS.out BG.out (by decide)
              obtain ⟨cG0, cG1⟩ := cells2 (fr := (0, 0)) BG.out
              obtain ⟨cP0, cP1, cP2⟩ := cells3 BP.out
              obtain ⟨cS0, cS1, cS2, cS3, cS4⟩ := cells5 BS.out
              have hGlt := blk_lt BG.out
              have hTlt := blk_lt BS.out
              have hPlt := blk_lt BP.out
              have B0 := Aside0.mk (below_gr HB.out GW.out HG0.out)
              have hk1 := HK.out
              have hk2 := HK2.out
              rcases H2 with ⟨t3, H⟩ | ⟨t3, H⟩
              case inr =>
                replace H := Option.bind_eq_some_iff.mp H
                obtain ⟨⟨r3, s4, n4⟩, A30, H⟩ := H
                have A3 := Aside0.mk A30
                clear A30
                have H2 := ite_t (t := r3) H
                clear H
                rcases H2 with ⟨rfl, H⟩ | ⟨rfl, H⟩
                case inr =>
                  injection (Option.some.inj H) with e1 e2
                  injection e2 with e2 e3
                  subst e1 e2 e3
                  clear H
                  go_wp2_with (first | (go_at_call 101; (with_reducible refine (ih'.out k2 (by omega) a0 _ _ l1 _ _ l2 _ _ (rd_T64 l i).f3 (wrap64 (deep + 1)) s3 n3 G false s4 n4 w0 _ HR1.out HC1.out HR2.out HC2.out QR3.out QL3.out B0.out HG0.out BG.out A3.out).mono ?_); rintro e w3 ⟨rfl, hG3, hgr3⟩))
                  go_ret
                  exact ⟨rfl, hG3, gtrans GW.out hgr3⟩
                replace H := Option.bind_eq_some_iff.mp H
                obtain ⟨⟨r4, s5, n5⟩, A40, H⟩ := H
                have A4 := Aside0.mk A40
                clear A40
                have H2 := ite_t (t := r4) H
                clear H
                rcases H2 with ⟨rfl, H⟩ | ⟨rfl, H⟩
                case inr =>
                  injection (Option.some.inj H) with e1 e2
                  injection e2 with e2 e3
                  subst e1 e2 e3
                  clear H
                  go_wp2_with (first
                    | (go_at_call 101; (with_reducible refine (ih'.out k2 (by omega) a0 _ _ l1 _ _ l2 _ _ (rd_T64 l i).f3 (wrap64 (deep + 1)) s3 n3 G true s4 n4 w0 _ HR1.out HC1.out HR2.out HC2.out QR3.out QL3.out B0.out HG0.out BG.out A3.out).mono ?_); rintro e w3 ⟨rfl, hG3, hgr3⟩; have BG3 := Aside0.mk hG3; have BP3 := Aside0.mk (grown_blk BP.out hgr3 hne); have BS3 := Aside0.mk (grown_blk BS.out hgr3 hTG); have GW3 := Aside0.mk (gtrans GW.out hgr3); have B3' := Aside0.mk (below_gr HB.out GW3.out HG0.out); obtain ⟨dP0, dP1, dP2⟩ := cells3 BP3.out; obtain ⟨dS0, dS1, dS2, dS3, dS4⟩ := cells5 BS3.out; clear hG3 hgr3)
                    | (go_at_call 101; (with_reducible refine (ih'.out k2 (by omega) a0 _ _ l1 _ _ l2 _ _ (rd_T64 l i).f4 (wrap64 (deep + 1)) s4 n4 G false s5 n5 w0 _ HR1.out HC1.out HR2.out HC2.out QR4.out QL4.out B3'.out HG0.out BG3.out A4.out).mono ?_); rintro e w4 ⟨rfl, hG4, hgr4⟩))
                  go_ret
                  exact ⟨rfl, hG4, gtrans GW3.out hgr4⟩
                have H' := Aside0.mk H
                clear H
                go_wp2_with (first
                  | (go_at_call 101; (with_reducible refine (ih'.out k2 (by omega) a0 _ _ l1 _ _ l2 _ _ (rd_T64 l i).f3 (wrap64 (deep + 1)) s3 n3 G true s4 n4 w0 _ HR1.out HC1.out HR2.out HC2.out QR3.out QL3.out B0.out HG0.out BG.out A3.out).mono ?_); rintro e w3 ⟨rfl, hG3, hgr3⟩; have BG3 := Aside0.mk hG3; have BP3 := Aside0.mk (grown_blk BP.out hgr3 hne); have BS3 := Aside0.mk (grown_blk BS.out hgr3 hTG); have GW3 := Aside0.mk (gtrans GW.out hgr3); have B3' := Aside0.mk (below_gr HB.out GW3.out HG0.out); obtain ⟨dP0, dP1, dP2⟩ := cells3 BP3.out; obtain ⟨dS0, dS1, dS2, dS3, dS4⟩ := cells5 BS3.out; clear hG3 hgr3)
                  | (go_at_call 101; (with_reducible refine (ih'.out k2 (by omega) a0 _ _ l1 _ _ l2 _ _ (rd_T64 l i).f4 (wrap64 (deep + 1)) s4 n4 G true s5 n5 w0 _ HR1.out HC1.out HR2.out HC2.out QR4.out QL4.out B3'.out HG0.out BG3.out A4.out).mono ?_); rintro e w4 ⟨rfl, hG4, hgr4⟩))
                go_roundg k2
                case measure => omega
                case rel => exact ⟨_, s5, n5, rfl, H', ⟨by omega⟩, ⟨hG4⟩, ⟨grown_blk BP3.out hgr4 hne⟩, ⟨gtrans GW3.out hgr4⟩⟩
              have H2 := ite_b H
              clear H
              rcases H2 with ⟨t4, H⟩ | ⟨t4, H⟩
              case inr => exact absurd H (by simp)
              have p2 : 0 ≤ j := of_decide_eq_true t4
              have p3 : j < ((rd_T64 l i).f2.length : Int) := of_decide_eq_true t3
              obtain ⟨ae, D3, d3, e2, u0, u1, u2, u3, ul, ur⟩ := at_T28 QR2.out j p2 p3
              cases e2
              replace u0 := (B0.out.cell (World.block_lt_of_cell? w0 _ u0)).trans u0
              replace u1 := (B0.out.cell (World.block_lt_of_cell? w0 _ u1)).trans u1
              replace u2 := (B0.out.cell (World.block_lt_of_cell? w0 _ u2)).trans u2
              replace u3 := (B0.out.cell (World.block_lt_of_cell? w0 _ u3)).trans u3
              have UL := Aside0.mk ul
              have UR := Aside0.mk ur
              clear ul ur
              replace H := Option.bind_eq_some_iff.mp H
              obtain ⟨tc, AC0, H⟩ := H
              have AC := Aside0.mk AC0
              clear AC0
              have hf0 := blk_frozen BG.out 0
              have hf1 := blk_frozen BG.out 1
              by_cases htc : tc = 0
              case neg =>
                rw [if_neg htc] at H
                injection (Option.some.inj H) with e1 e2
                injection e2 with e2 e3
                subst e1 e2 e3
                clear H
                have g1 : (tc == 0) = false := beq_eq_false_iff_ne.mpr htc
                have g2 : (tc != 0) = true := bne_iff_ne.mpr htc
                clear htc
                go_wp2_with (first | (go_at_call 47; (with_reducible refine (expr_Check.calls k2 a0 _ _ l1 1 _ _ _ _ _ (rd_T28 (rd_T64 l i).f2 j).f3 tc _ ?s1 HC1.out ?s2 UL.out AC.out).mono ?_); (case s1 => exact Kd.C_below HR1.out (by repeat (first | exact B0.out | apply bal | apply below_drew))); (case s2 => exact Kd.C_below UR.out (by repeat (first | exact B0.out | apply bal | apply below_drew))); rintro e w5 ⟨rfl, hb5⟩))
                go_ret
                exact ⟨rfl, fine_end (gtrans GW.out (World.grownBy_alloc _ _ _)) (kal BG.out _) hb5⟩
              subst htc
              rw [if_pos rfl] at H
              replace H := Option.bind_eq_some_iff.mp H
              obtain ⟨m, AM0, H⟩ := H
              have AM := Aside0.mk AM0
              have H' := Aside0.mk H
              clear AM0 H
              go_wp2_with (first | (go_at_call 47; (with_reducible refine (expr_Check.calls k2 a0 _ _ l1 1 _ _ _ _ _ (rd_T28 (rd_T64 l i).f2 j).f3 0 _ ?s1 HC1.out ?s2 UL.out AC.out).mono ?_); (case s1 => exact Kd.C_below HR1.out (by repeat (first | exact B0.out | apply bal | apply below_drew))); (case s2 => exact Kd.C_below UR.out (by repeat (first | exact B0.out | apply bal | apply below_drew))); rintro e w5 ⟨rfl, hb5⟩))
              have F5 := fine_end (gtrans GW.out (World.grownBy_alloc _ _ _)) (kal BG.out _) hb5
              have BG5 := Aside0.mk F5.1
              have GW5 := Aside0.mk F5.2
              have BP5 := Aside0.mk ((hb5.block _ (by simp; omega)).trans (kal BP.out _))
              have BS5 := Aside0.mk ((hb5.block _ (by simp; omega)).trans (kal BS.out _))
              have BE5 := (hb5.block wr.heap.size (by simp)).trans (heap_alloc_new _ _)
              have B5 := Aside0.mk (below_gr HB.out GW5.out HG0.out)
              have e0 : w5.cell? ⟨wr.heap.size, 0, none⟩ = some (.int .i64 (rd_T28 (rd_T64 l i).f2 j).f0) := (blk_cell BE5 0).trans rfl
              have e1 : w5.cell? ⟨wr.heap.size, 1, none⟩ = some (.int .i64 (rd_T28 (rd_T64 l i).f2 j).f1) := (blk_cell BE5 1).trans rfl
              have e2 : w5.cell? ⟨wr.heap.size, 2, none⟩ = some (.int .i64 (rd_T28 (rd_T64 l i).f2 j).f2) := (blk_cell BE5 2).trans rfl
              have e3 : w5.cell? ⟨wr.heap.size, 3, none⟩ = some (.slice D3 (rd_T28 (rd_T64 l i).f2 j).f3.length d3) := (blk_cell BE5 3).trans rfl
              obtain ⟨gG0, gG1⟩ := cells2 (fr := (0, 0)) BG5.out
              have gf1 := blk_frozen BG5.out 1
              have hEG : wr.heap.size ≠ G := by omega
              have hGl5 := blk_lt BG5.out
              clear F5 hb5 BE5 u0 u1 u2 u3 cG0 cG1 cP0 cP1 cP2 cS0 cS1 cS2 cS3 cS4 hf0 hf1 AC
              go_region_with
                (first | (go_at_call 119; (with_reducible refine (expr_Nodes.calls k2 _ _ _ _ _ (rd_T28 (rd_T64 l i).f2 j).f3 m _ ?s1 UL.out AM.out).mono ?_); (case s1 => exact Kd.C_below UR.out (by repeat (first | exact B5.out | apply below_drew))); rintro e w' ⟨rfl, hb⟩; have gG1' := pw_cell_below hb (show w5.drew.cell? _ = _ from gG1); have gf1' : w'.frozen? ⟨G, 1, none⟩ = false := (hb.frozen (p := ⟨G, 1, none⟩) hGl5).trans gf1; have hb' := Aside0.mk (undrew hb)))
              all_goals
                go_wp2
                go_roundg k2
                case measure => omega
                case rel =>
                  have E6 := fine_end GW5.out BG5.out hb'.out
                  have BP6 := (hb'.out.block _ (blk_lt BP5.out)).trans BP5.out
                  have BS6 := (hb'.out.block _ (blk_lt BS5.out)).trans BS5.out
                  have q1 := blk_set E6.1 1 (.int .i64 (wrap64 (n3 + m)))
                  refine ⟨_, s3, _, rfl, H', ⟨by omega⟩, ⟨?_⟩, ⟨(Below.heap_setCell _ _ _ _ hne).trans BP6⟩, ⟨(Below.heap_setCell _ _ _ _ hTG).trans BS6⟩, ⟨gtrans E6.2 ⟨rfl, rfl, rfl, by simp [World.setCell], fun i hi hn => Below.heap_setCell _ _ _ _ (fun e => hn (by rw [e]))⟩⟩⟩
                  first | simpa using q1 | simpa [i64_w] using q1
def prog_counted.f (k : Nat) (a0 : Int) (l1 : List S66) (l2 : List S64) : Option (Int × Int × Bool) :=
  (expr_Heading.f k a0 l1).bind fun t => if t = 0 then ((prog_count_fine.f k a0 l1 l2 l2 1 0 0).bind fun p => if p.1 = true then some (p.2.1, p.2.2, true) else some (0, 0, false)) else some (0, 0, false)
theorem two_blocks {w w1 : World} {o1 o2 : Obj} (hb : Below ((w.alloc o1).alloc o2).heap.size ((w.alloc o1).alloc o2) w1) :
    w1.heap[w.heap.size]? = some o1 ∧ w1.heap[w.heap.size + 1]? = some o2 ∧ Below w.heap.size w w1 := by
  have b1 : ((w.alloc o1).alloc o2).heap[w.heap.size]? = some o1 := kal (heap_alloc_new w _) _
  have b2 : ((w.alloc o1).alloc o2).heap[w.heap.size + 1]? = some o2 := by have := heap_alloc_new (w.alloc o1) o2; simpa using this
  exact ⟨(hb.block _ (blk_lt b1)).trans b1, (hb.block _ (blk_lt b2)).trans b2, below_then (bal (bal (Below.refl _ _) _) _) (by simp; omega) hb⟩
theorem prog_counted.calls (k : Nat) (a0 : Int) (A1 : Option Addr) (c1 : Nat) (l1 : List S66) (A2 : Option Addr) (c2 : Nat) (l2 : List S64) (r1 r2 : Int) (r3 : Bool) (w : World)
    (hr1 : Kd.C k66 w A1 l1.length l1) (hc1 : l1.length ≤ c1) (hr2 : Kd.C k64 w A2 l2.length l2) (hc2 : l2.length ≤ c2) (h : prog_counted.f k a0 l1 l2 = some (r1, r2, r3)) :
    Calls Try.prog 78 #[.agg #[.int .i64 a0, .slice A1 l1.length c1, .slice A2 l2.length c2]] w fun e w' => e = .returned (.tuple #[.agg #[.int .i64 r1, .int .i64 r2], .bool r3]) ∧ Below w.heap.size w w' := by
  have huP := Try.underlying25
  have huC := Try.underlying101
  have HR1 := Aside0.mk hr1
  have HC1 := Aside0.mk hc1
  have HR2 := Aside0.mk hr2
  have HC2 := Aside0.mk hc2
  clear hr1 hc1 hr2 hc2
  unfold prog_counted.f at h
  obtain ⟨t, T0, H⟩ := Option.bind_eq_some_iff.mp h
  have T := Aside0.mk T0
  have HB := Aside0.mk (Below.refl w.heap.size w)
  clear T0 h
  by_cases ht : t = 0
  case neg =>
    rw [if_neg ht] at H
    injection (Option.some.inj H) with e1 e2
    injection e2 with e2 e3
    subst e1 e2 e3
    have g1 : (t == 0) = false := beq_eq_false_iff_ne.mpr ht
    have g2 : (t != 0) = true := bne_iff_ne.mpr ht
    clear ht H
    go_enter Try.func78, Try.ntmps78
    go_wp2_with (first
      | (go_at_call 46; (with_reducible refine (expr_Heading.calls k a0 _ _ l1 _ _ ?side1 HC1.out T.out).mono ?_); (case side1 => exact Kd.C_below HR1.out (by repeat (first | exact HB.out | apply bal | apply bd1))); rintro e w1 ⟨rfl, hb⟩; obtain ⟨k1, k2, hb1⟩ := two_blocks hb; have B1 := Aside0.mk hb1; have BC := Aside0.mk k2; obtain ⟨x0, x1⟩ := cells2 (fr := (0, 0)) k2; have y0 := blk_frozen k2 0; have y1 := blk_frozen k2 1; have z1 := blk_lt k2; clear hb hb1 k1 k2))
    refine bodyPost_ret (v := .tuple #[.agg #[.int .i64 0, .int .i64 0], .bool false]) (by simp [results, Try.results78, go_sem, x0, x1]) rfl ⟨rfl, ?_⟩
    repeat (first | exact B1.out | refine bst ?_ (by omega))
  subst ht
  rw [if_pos rfl] at H
  obtain ⟨⟨q, s', n'⟩, F0, H⟩ := Option.bind_eq_some_iff.mp H
  have F := Aside0.mk F0
  clear F0
  have H2 := ite_t (t := q) H
  clear H
  rcases H2 with ⟨rfl, H⟩ | ⟨rfl, H⟩
  · injection (Option.some.inj H) with e1 e2
    injection e2 with e2 e3
    dsimp only at e1 e2
    subst e1 e2 e3
    clear H
    go_enter Try.func78, Try.ntmps78
    go_wp2_with (first | (go_at_call 46; (with_reducible refine (expr_Heading.calls k a0 _ _ l1 _ _ ?side1 HC1.out T.out).mono ?_); (case side1 => exact Kd.C_below HR1.out (by repeat (first | exact HB.out | apply bal | apply bd1))); rintro e w1 ⟨rfl, hb⟩; obtain ⟨k1, k2, hb1⟩ := two_blocks hb; have B1 := Aside0.mk hb1; have BC := Aside0.mk k2; have BP := Aside0.mk k1; obtain ⟨x0, x1⟩ := cells2 (fr := (0, 0)) k2; obtain ⟨u0, u1, u2⟩ := cells3 k1; have y0 := blk_frozen k2 0; have y1 := blk_frozen k2 1; have z1 := blk_lt k2; clear hb hb1 k1 k2) | (go_at_call 101; (with_reducible refine (prog_count_fine.calls k a0 _ _ l1 _ _ l2 _ _ l2 1 0 0 (w.heap.size + 1) true s' n' w _ HR1.out HC1.out HR2.out HC2.out HR2.out HC2.out B1.out (by omega) BC.out F.out).mono ?_); rintro e w2 ⟨rfl, hG2, hgr2⟩; have B2 := Aside0.mk (below_gr B1.out hgr2 (by omega)); have BC2 := Aside0.mk hG2; obtain ⟨v0, v1⟩ := cells2 (fr := (0, 0)) hG2; have f0 := blk_frozen hG2 0; have f1 := blk_frozen hG2 1; have z2 := blk_lt hG2; clear hG2 hgr2))
    refine bodyPost_ret (v := .tuple #[.agg #[.int .i64 s', .int .i64 n'], .bool true]) (by simp [results, Try.results78, go_sem, v0, v1]) rfl ⟨rfl, ?_⟩
    repeat (first | exact B2.out | refine bst ?_ (by omega))
  · injection (Option.some.inj H) with e1 e2
    injection e2 with e2 e3
    subst e1 e2 e3
    clear H
    go_enter Try.func78, Try.ntmps78
    go_wp2_with (first | (go_at_call 46; (with_reducible refine (expr_Heading.calls k a0 _ _ l1 _ _ ?side1 HC1.out T.out).mono ?_); (case side1 => exact Kd.C_below HR1.out (by repeat (first | exact HB.out | apply bal | apply bd1))); rintro e w1 ⟨rfl, hb⟩; obtain ⟨k1, k2, hb1⟩ := two_blocks hb; have B1 := Aside0.mk hb1; have BC := Aside0.mk k2; have BP := Aside0.mk k1; obtain ⟨x0, x1⟩ := cells2 (fr := (0, 0)) k2; obtain ⟨u0, u1, u2⟩ := cells3 k1; have y0 := blk_frozen k2 0; have y1 := blk_frozen k2 1; have z1 := blk_lt k2; clear hb hb1 k1 k2) | (go_at_call 101; (with_reducible refine (prog_count_fine.calls k a0 _ _ l1 _ _ l2 _ _ l2 1 0 0 (w.heap.size + 1) false s' n' w _ HR1.out HC1.out HR2.out HC2.out HR2.out HC2.out B1.out (by omega) BC.out F.out).mono ?_); rintro e w2 ⟨rfl, hG2, hgr2⟩; have B2 := Aside0.mk (below_gr B1.out hgr2 (by omega)); have BC2 := Aside0.mk hG2; obtain ⟨v0, v1⟩ := cells2 (fr := (0, 0)) hG2; have f0 := blk_frozen hG2 0; have f1 := blk_frozen hG2 1; have z2 := blk_lt hG2; clear hG2 hgr2))
    refine bodyPost_ret (v := .tuple #[.agg #[.int .i64 0, .int .i64 0], .bool false]) (by simp [results, Try.results78, go_sem, v0, v1]) rfl ⟨rfl, ?_⟩
    repeat (first | exact B2.out | refine bst ?_ (by omega))
def prog_Check.f (k : Nat) (a0_0 : Int) (l0_1 : List (S66)) (l0_2 : List (S64)) : Option (Int) := (prog_counted.f k a0_0 l0_1 l0_2).bind fun bt140 => (if bt140.2.2 = true then (some 0) else (some 30))
theorem prog_Check.calls (k : Nat) (a0_0 : Int) (A0_1 : Option Addr) (c0_1 : Nat) (l0_1 : List (S66)) (A0_2 : Option Addr) (c0_2 : Nat) (l0_2 : List (S64)) (r : Int) (w : World) (hr0_1 : Kd.C k66 w A0_1 l0_1.length l0_1) (hc0_1 : l0_1.length ≤ c0_1) (hr0_2 : Kd.C k64 w A0_2 l0_2.length l0_2) (hc0_2 : l0_2.length ≤ c0_2) (h : prog_Check.f k a0_0 l0_1 l0_2 = some r) :
  Calls Try.prog 43 #[.agg #[.int .i64 a0_0, .slice A0_1 l0_1.length c0_1, .slice A0_2 l0_2.length c0_2]] w fun e w' => e = .returned (.int .i64 r) ∧ Below w.heap.size w w' := by
 have hu25 := Try.underlying25
 have hu101 := Try.underlying101
 have HR0_1 := Aside0.mk hr0_1
 have HC0_1 := Aside0.mk hc0_1
 clear hr0_1 hc0_1
 have HR0_2 := Aside0.mk hr0_2
 have HC0_2 := Aside0.mk hc0_2
 clear hr0_2 hc0_2
 have HB := Aside0.mk (Below.refl w.heap.size w)
 have H : ((prog_counted.f k a0_0 l0_1 l0_2).bind fun bt140 => (if bt140.2.2 = true then (some 0) else (some 30))) = some r := h
 clear h
 replace H := Option.bind_eq_some_iff.mp H
 obtain ⟨⟨t140, t141, t142⟩, A20, H⟩ := H
 replace H : (if t142 = true then (some 0) else (some 30)) = some r := H
 have A2 := Aside0.mk A20
 clear A20
 by_cases c3 : t142 = true
 ·subst c3
  replace H := it H
  obtain rfl := Option.some.inj H
  go_enter Try.func43, Try.ntmps43
  go_wp2_with (first | ((with_reducible refine gate_dst (N := 1) rfl ?_); refine bx 1 rfl rfl #[.int .i64 a0_0, .slice A0_1 l0_1.length c0_1, .slice A0_2 l0_2.length c0_2] 25 ?_; intro gb139 hg w4 hbox hb; have BK139 := Aside0.mk (hbox); have GE139 := ge HB hg; replace HB := sb HB hb; clear hb hbox hg; obtain ⟨hcz5_0, hcz5_1, hcz5_2, hfz5_0, hfz5_1, hfz5_2⟩ := cf3 BK139.out) | ((with_reducible refine gate_callee (f := 78) rfl ?_); refine gL (some 7) rfl rfl Try.func78 #[.agg #[.int .i64 a0_0, .slice A0_1 l0_1.length c0_1, .slice A0_2 l0_2.length c0_2]] rfl ?_; (with_reducible refine (prog_counted.calls k a0_0 _ _ l0_1 _ _ l0_2 t140 t141 true _ ?side1 ?side2 ?side3 ?side4 A2.out).mono ?_); (case side1 => exact cb HR0_1 HB); (case side2 => exact HC0_1.out); (case side3 => exact cb HR0_2 HB); (case side4 => exact HC0_2.out); rintro e w6 ⟨rfl, hb⟩; refine ⟨_, rfl, ?_⟩; replace BK139 := kb BK139 hb; replace HB := sb HB hb; (try clear hb)) | ((with_reducible refine gate_dst (N := 3) rfl ?_); refine bx 3 rfl rfl #[.int .i64 0, .int .i64 0] 101 ?_; intro gb143 hg w7 hbox hb; have BK143 := Aside0.mk (hbox); have GE143 := ge HB hg; have NB139_143 := Aside0.mk ((by rw [hg]; exact Nat.ne_of_lt (blk_lt (kk BK139)) : gb139 ≠ gb143)); have NB143_139 := Aside0.mk ((by rw [hg]; exact Nat.ne_of_gt (blk_lt (kk BK139)) : gb143 ≠ gb139)); replace BK139 := kb BK139 hb; replace HB := sb HB hb; clear hb hbox hg; have hnb8 := NB143_139.out; have hnc8 := NB139_143.out; obtain ⟨hcz9_0, hcz9_1, hfz9_0, hfz9_1⟩ := cf2 BK143.out))
  go_ret
  exact ⟨rr, bb HB⟩
 replace c3 := Bool.eq_false_iff.mpr c3
 subst c3
 replace H := fi H
 obtain rfl := Option.some.inj H
 go_enter Try.func43, Try.ntmps43
 go_wp2_with (first | ((with_reducible refine gate_dst (N := 1) rfl ?_); refine bx 1 rfl rfl #[.int .i64 a0_0, .slice A0_1 l0_1.length c0_1, .slice A0_2 l0_2.length c0_2] 25 ?_; intro gb139 hg w10 hbox hb; have BK139 := Aside0.mk (hbox); have GE139 := ge HB hg; replace HB := sb HB hb; clear hb hbox hg; obtain ⟨hcz11_0, hcz11_1, hcz11_2, hfz11_0, hfz11_1, hfz11_2⟩ := cf3 BK139.out) | ((with_reducible refine gate_callee (f := 78) rfl ?_); refine gL (some 7) rfl rfl Try.func78 #[.agg #[.int .i64 a0_0, .slice A0_1 l0_1.length c0_1, .slice A0_2 l0_2.length c0_2]] rfl ?_; (with_reducible refine (prog_counted.calls k a0_0 _ _ l0_1 _ _ l0_2 t140 t141 false _ ?side1 ?side2 ?side3 ?side4 A2.out).mono ?_); (case side1 => exact cb HR0_1 HB); (case side2 => exact HC0_1.out); (case side3 => exact cb HR0_2 HB); (case side4 => exact HC0_2.out); rintro e w12 ⟨rfl, hb⟩; refine ⟨_, rfl, ?_⟩; replace BK139 := kb BK139 hb; replace HB := sb HB hb; (try clear hb)) | ((with_reducible refine gate_dst (N := 3) rfl ?_); refine bx 3 rfl rfl #[.int .i64 0, .int .i64 0] 101 ?_; intro gb143 hg w13 hbox hb; have BK143 := Aside0.mk (hbox); have GE143 := ge HB hg; have NB139_143 := Aside0.mk ((by rw [hg]; exact Nat.ne_of_lt (blk_lt (kk BK139)) : gb139 ≠ gb143)); have NB143_139 := Aside0.mk ((by rw [hg]; exact Nat.ne_of_gt (blk_lt (kk BK139)) : gb143 ≠ gb139)); replace BK139 := kb BK139 hb; replace HB := sb HB hb; clear hb hbox hg; have hnb14 := NB143_139.out; have hnc14 := NB139_143.out; obtain ⟨hcz15_0, hcz15_1, hfz15_0, hfz15_1⟩ := cf2 BK143.out))
 go_ret
 exact ⟨rr, bb HB⟩
mutual
def r3_Depth.l0 : Nat → List (S64) → Int → Int → Option (Int)
 | 0, _, _, _ => none
 | k + 1, x0, x3, x4 => if x4 < (x0.length : Int) then (if 0 ≤ x4 then ((r3_Depth.f k ((rd_T64 x0 x4).f3)).bind fun t260 => ((r3_Depth.f k ((rd_T64 x0 x4).f4)).bind fun t262 => (r3_Depth.l0 k x0 (mx (mx x3 (wrap64 (1 + t260))) (wrap64 (1 + t262))) (wrap64 (x4 + 1))))) else (none)) else (some x3)
def r3_Depth.f : Nat → List (S64) → Option (Int)
 | 0, _ => none
 | k + 1, l0 => r3_Depth.l0 k l0 0 0
end
def r3_Depth.T5 : Bool × List (List Nat × List Nat) := (true, [([], []), ([], []), ([], []), ([1, 2], [1, 2]), ([3], [3]), ([4], [4]), ([5], [5]), ([6], [6]), ([], []), ([], []), ([8, 9], [8, 9]), ([10], [10]), ([11], [11]), ([12, 6], [12]), ([13], [13]), ([0, 7, 14], [0, 7, 14]), ([15, 13, 0, 1, 2, 3, 4, 5, 6, 7, 8, 9, 10, 11, 12, 13, 14, 15], [0, 15])])
def r3_Depth.B5 : List Nat := [0, 0, 0, 6, 14, 30, 62, 126, 0, 0, 768, 1792, 3840, 8062, 16254, 32767, 65535]
theorem r3_Depth.tab5 : rtab .any (opsOf Try.f108 5) = r3_Depth.T5 := by kernel_rfl
theorem r3_Depth.bits5 : waitsOk r3_Depth.T5.2 r3_Depth.B5 = true := by kernel_rfl
theorem r3_Depth.calls (k : Nat) : ∀ (A0 : Option Addr) (c0 : Nat) (l0 : List (S64)) (r : Int) (w : World) (hr0 : Kd.C k64 w A0 l0.length l0) (hc0 : l0.length ≤ c0) (h : r3_Depth.f k l0 = some r),
  Calls Try.prog 108 #[.slice A0 l0.length c0] w fun e w' => e = .returned (.int .i64 r) ∧ Below w.heap.size w w' := by
 induction k using Nat.strongRecOn with
 | _ k ih =>
 intro A0 c0 l0 r w hr0 hc0 h
 cases k with
 | zero => exact absurd h (by simp [r3_Depth.f])
 | succ k =>
 simp only [r3_Depth.f] at h
 have HR0 := Aside0.mk hr0
 have HC0 := Aside0.mk hc0
 clear hr0 hc0
 have HB := Aside0.mk (Below.refl w.heap.size w)
 have H : (r3_Depth.l0 k l0 0 0) = some r := h
 clear h
 have H' := Aside0.mk H
 clear H
 go_enter Try.func108, Try.ntmps108
 go_wp2
 go_loopg [3, 4] k (fun kq v3 v4 w' => ∃ (x3_1 : Int) (x4_1 : Int), v3 = .int .i64 x3_1 ∧ v4 = .int .i64 x4_1 ∧ Aside0 (r3_Depth.l0 kq l0 x3_1 x4_1 = some r) ∧ Aside0 (kq ≤ k) ∧ Aside0 (Below w.heap.size w w'))
 case atStart => exact ⟨(0), (0), rs, rs, H', ⟨Nat.le_refl _⟩, ⟨bb HB⟩⟩
 case round =>
  clear H'
  try clear c1
  obtain ⟨x3_1, x4_1, rfl, rfl, HA, HK1, HB⟩ := hrel
  cases gk with
  | zero => exact absurd HA.out (by simp [r3_Depth.l0])
  | succ k1 =>
   have H := HA.out
   clear HA
   simp only [r3_Depth.l0] at H
   by_cases c2 : x4_1 < (l0.length : Int)
   rotate_left
   ·rw [if_neg c2] at H
    have c2b0 : decide (x4_1 < (l0.length : Int)) = false := decide_eq_false c2
    clear c2
    obtain rfl := Option.some.inj H
    go_wp2
    go_ret
    exact ⟨rr, bb HB⟩
   rw [if_pos c2] at H
   have c2b0 : decide (x4_1 < (l0.length : Int)) = true := decide_eq_true c2
   clear c2
   by_cases c3 : 0 ≤ x4_1
   rotate_left
   ·rw [if_neg c3] at H
    exact absurd H (by simp)
   rw [if_pos c3] at H
   have c3b0 : decide (0 ≤ x4_1) = true := decide_eq_true c3
   clear c3
   obtain ⟨t260, A4, H⟩ := be H
   obtain ⟨t262, A5, H⟩ := be H
   obtain ⟨ji6, hji6⟩ : ∃ j_ : Int, (mx x3_1 (wrap64 (1 + t260))) = j_ := ⟨_, rfl⟩
   replace H : (r3_Depth.l0 k1 l0 (mx (ji6) (wrap64 (1 + t262))) (wrap64 (x4_1 + 1))) = some r := by first | (rw [hji6] at H; exact H) | (simp only [hji6] at H ⊢; exact H)
   (try rw [hji6] at A4)
   (try rw [hji6] at A5)
   have hji6_ : (if x3_1 < (wrap64 (1 + t260)) then (wrap64 (1 + t260)) else x3_1) = ji6 := hji6
   obtain ⟨ji7, hji7⟩ : ∃ j_ : Int, (mx (ji6) (wrap64 (1 + t262))) = j_ := ⟨_, rfl⟩
   replace H : (r3_Depth.l0 k1 l0 ji7 (wrap64 (x4_1 + 1))) = some r := by first | (rw [hji7] at H; exact H) | (simp only [hji7] at H ⊢; exact H)
   (try rw [hji7] at A4)
   (try rw [hji7] at A5)
   have hji7_ : (if (ji6) < (wrap64 (1 + t262)) then (wrap64 (1 + t262)) else (ji6)) = ji7 := hji7
   have H' := Aside0.mk H
   clear H
   try go_wp2
   replace HB := Aside0.mk (bd1 HB.out)
   have p259 : 0 ≤ (x4_1 : Int) := od
   have q259 : x4_1 < (l0.length : Int) := od
   obtain ⟨ad259, A259_2, c259_2, A259_3, c259_3, A259_4, c259_4, e259, hx259_0, hx259_1, hx259_2, hx259_3, hx259_4, hl259_2, hi259_2, hl259_3, hi259_3, hl259_4, hi259_4⟩ := at_T64 HR0.out x4_1 p259 q259
   have hw259_4 := hx259_4
   have hw259_3 := hx259_3
   have hw259_2 := hx259_2
   have hw259_1 := hx259_1
   have hw259_0 := hx259_0
   cases e259
   replace hx259_0 := bcell HB.out hx259_0
   replace hx259_1 := bcell HB.out hx259_1
   replace hx259_2 := bcell HB.out hx259_2
   replace hx259_3 := bcell HB.out hx259_3
   replace hx259_4 := bcell HB.out hx259_4
   have HR259_2 := Aside0.mk hi259_2
   have HC259_2 := Aside0.mk hl259_2
   clear hi259_2 hl259_2
   have HR259_3 := Aside0.mk hi259_3
   have HC259_3 := Aside0.mk hl259_3
   clear hi259_3 hl259_3
   have HR259_4 := Aside0.mk hi259_4
   have HC259_4 := Aside0.mk hl259_4
   clear hi259_4 hl259_4
   replace p259 := eq_true p259
   replace q259 := eq_true q259
   refine start_ (n := 17) (S := fun w' => w'.cell? (ad259.add ((x4_1).toNat * 5)) = some (.int .i64 ((rd_T64 l0 x4_1).f0)) ∧ w'.cell? ⟨(ad259.add ((x4_1).toNat * 5)).block, (ad259.add ((x4_1).toNat * 5)).off + 1, none⟩ = some (.int .i64 ((rd_T64 l0 x4_1).f1)) ∧ w'.cell? ⟨(ad259.add ((x4_1).toNat * 5)).block, (ad259.add ((x4_1).toNat * 5)).off + 2, none⟩ = some (.slice A259_2 ((rd_T64 l0 x4_1).f2).length c259_2) ∧ w'.cell? ⟨(ad259.add ((x4_1).toNat * 5)).block, (ad259.add ((x4_1).toNat * 5)).off + 3, none⟩ = some (.slice A259_3 ((rd_T64 l0 x4_1).f3).length c259_3) ∧ w'.cell? ⟨(ad259.add ((x4_1).toNat * 5)).block, (ad259.add ((x4_1).toNat * 5)).off + 4, none⟩ = some (.slice A259_4 ((rd_T64 l0 x4_1).f4).length c259_4)) (ds := []) #[false, false, false, false, false, false, false, false, false, false, false, false, false, false, false, false, false] (by kernel_rfl) rfl rfl ⟨(bcell HB.out hw259_0), (bcell HB.out hw259_1), (bcell HB.out hw259_2), (bcell HB.out hw259_3), (bcell HB.out hw259_4)⟩ (fun hHeld => ?_); refine with_tabW r3_Depth.tab5 r3_Depth.bits5 (fun HT_ HW_ => ?_)
   generalize wr.drew = w8 at HB HR259_2 HR259_3 HR259_4 hx259_0 hx259_1 hx259_2 hx259_3 hx259_4 hHeld ⊢
   refine pT 0 11 (bl 17 1) HT_ rfl rfl ?_
   refine pT 1 12 (bl 17 3) HT_ rfl rfl ?_
   refine pT 2 13 (bl 17 7) HT_ rfl rfl ?_
   refine pT 3 14 (bl 17 15) HT_ rfl rfl ?_
   refine pT 4 15 (bl 17 31) HT_ rfl rfl ?_
   refine pT 8 19 (bl 17 287) HT_ rfl rfl ?_
   refine pT 9 20 (bl 17 799) HT_ rfl rfl ?_
   refine pT 10 21 (bl 17 1823) HT_ rfl rfl ?_
   refine pT 11 22 (bl 17 3871) HT_ rfl rfl ?_
   refine tk (i := 5) (N := some 16) (bl 17 3903) rfl rfl (take_ofW HT_.out HW_.out (by kernel_rfl)) hHeld ?_
   refine tk (i := 12) (N := some 23) (bl 17 7999) rfl rfl (take_ofW HT_.out HW_.out (by kernel_rfl)) hHeld ?_
   refine one_ (i := 6) (N := some 17) (bl 17 8063) rfl rfl (one_of HT_.out (by kernel_rfl)) (by decide) (fun K hK => ?_)
   refine gO Try.func108 #[.slice A259_3 ((rd_T64 l0 x4_1).f3).length c259_3] (by rfl) rfl rfl ?_
   with_reducible refine (ih k1 (by have := HK1.out; omega) _ _ ((rd_T64 l0 x4_1).f3) t260 _ ?side1 ?side2 A4.out).mono ?_
   (case side1 => exact cb HR259_3 HB)
   (case side2 => exact HC259_3.out)
   rintro e w9 ⟨rfl, hb⟩
   refine ⟨_, rfl, ?_⟩
   replace HB := sb HB hb
   (try clear hb)
   (try clear hb2)
   (try clear hk)
   (try clear hi)
   refine hK.out _ _ ⟨(bcell HB.out hw259_0), (bcell HB.out hw259_1), (bcell HB.out hw259_2), (bcell HB.out hw259_3), (bcell HB.out hw259_4)⟩ (fun hHeld => ?_)
   clear hK K
   refine nm 17 ?_
   refine pT 7 18 (bl 17 8191) HT_ rfl rfl ?_
   refine one_ (i := 13) (N := some 24) (bl 17 16383) rfl rfl (one_of HT_.out (by kernel_rfl)) (by decide) (fun K hK => ?_)
   refine gO Try.func108 #[.slice A259_4 ((rd_T64 l0 x4_1).f4).length c259_4] (by rfl) rfl rfl ?_
   with_reducible refine (ih k1 (by have := HK1.out; omega) _ _ ((rd_T64 l0 x4_1).f4) t262 _ ?side1 ?side2 A5.out).mono ?_
   (case side1 => exact cb HR259_4 HB)
   (case side2 => exact HC259_4.out)
   rintro e w10 ⟨rfl, hb⟩
   refine ⟨_, rfl, ?_⟩
   replace HB := sb HB hb
   (try clear hb)
   (try clear hb2)
   (try clear hk)
   (try clear hi)
   refine hK.out _ _ ⟨(bcell HB.out hw259_0), (bcell HB.out hw259_1), (bcell HB.out hw259_2), (bcell HB.out hw259_3), (bcell HB.out hw259_4)⟩ (fun hHeld => ?_)
   clear hK K
   refine nm 24 ?_
   refine pT 14 25 (bl 17 32767) HT_ rfl rfl ?_
   refine pT 15 26 (bl 17 65535) HT_ rfl rfl ?_
   refine pT 16 3 (bl 17 131071) HT_ rfl rfl ?_
   refine done_ (done_of HT_.out (by kernel_rfl)) ?_
   try go_wp2
   go_roundg k1
   case measure => have := HK1.out; omega
   case rel => exact ⟨(ji7), (wrap64 (x4_1 + 1)), (by first | rfl | (simp; done) | (simp only [← hji7] <;> (first | rfl | simp)) | (simp [*]; done)), rs, H', ⟨by have := HK1.out; omega⟩, ⟨bb HB⟩⟩
mutual
def r3_left.l0 : Nat → List (S64) → Int → Int → Option (Int)
 | 0, _, _, _ => none
 | k + 1, x0, x1, x5 => if x5 < (x0.length : Int) then (r3_left.j1 k x0 x1 x5 (decide (x1 > 0))) else (r3_left.j1 k x0 x1 x5 false)
def r3_left.j1 : Nat → List (S64) → Int → Int → Bool → Option (Int)
 | 0, _, _, _, _ => none
 | k + 1, x0, x1, x5, x14 => if x14 = true then (r3_left.l1 k x0 (wrap64 (x1 - 1)) x5 0) else (some x1)
def r3_left.l1 : Nat → List (S64) → Int → Int → Int → Option (Int)
 | 0, _, _, _, _ => none
 | k + 1, x0, x1, x5, x6 => if 0 ≤ x5 then (if x5 < (x0.length : Int) then (if x6 < (((rd_T64 x0 x5).f2).length : Int) then (if 0 ≤ x6 then ((r2_Left.f k ((rd_T28 ((rd_T64 x0 x5).f2) x6).f0) ((rd_T28 ((rd_T64 x0 x5).f2) x6).f1) ((rd_T28 ((rd_T64 x0 x5).f2) x6).f2) ((rd_T28 ((rd_T64 x0 x5).f2) x6).f3) x1).bind fun t107 => (r3_left.l1 k x0 t107 x5 (wrap64 (x6 + 1)))) else (none)) else ((r3_left.f k ((rd_T64 x0 x5).f3) x1).bind fun t109 => ((r3_left.f k ((rd_T64 x0 x5).f4) t109).bind fun t111 => (r3_left.l0 k x0 t111 (wrap64 (x5 + 1)))))) else (none)) else (none)
def r3_left.f : Nat → List (S64) → Int → Option (Int)
 | 0, _, _ => none
 | k + 1, l0, a1 => r3_left.l0 k l0 a1 0
end
theorem r3_left.calls (k : Nat) : ∀ (A0 : Option Addr) (c0 : Nat) (l0 : List (S64)) (a1 : Int) (r : Int) (w : World) (hr0 : Kd.C k64 w A0 l0.length l0) (hc0 : l0.length ≤ c0) (h : r3_left.f k l0 a1 = some r),
  Calls Try.prog 39 #[.slice A0 l0.length c0, .int .i64 a1] w fun e w' => e = .returned (.int .i64 r) ∧ Below w.heap.size w w' := by
 induction k using Nat.strongRecOn with
 | _ k ih =>
 intro A0 c0 l0 a1 r w hr0 hc0 h
 cases k with
 | zero => exact absurd h (by simp [r3_left.f])
 | succ k =>
 simp only [r3_left.f] at h
 have hu28 := Try.underlying28
 have HR0 := Aside0.mk hr0
 have HC0 := Aside0.mk hc0
 clear hr0 hc0
 have HB := Aside0.mk (Below.refl w.heap.size w)
 have H : (r3_left.l0 k l0 a1 0) = some r := h
 clear h
 have H' := Aside0.mk H
 clear H
 go_enter Try.func39, Try.ntmps39
 go_wp2
 go_loopg [1, 5] k (fun kq v1 v5 w' => ∃ (x1_1 : Int) (x5_1 : Int), v1 = .int .i64 x1_1 ∧ v5 = .int .i64 x5_1 ∧ Aside0 (r3_left.l0 kq l0 x1_1 x5_1 = some r) ∧ Aside0 (kq ≤ k) ∧ Aside0 (Below w.heap.size w w'))
 case atStart => exact ⟨(a1), (0), rs, rs, H', ⟨Nat.le_refl _⟩, ⟨bb HB⟩⟩
 case round =>
  clear H'
  try clear p2
  obtain ⟨x1_1, x5_1, rfl, rfl, HA, HK1, HB⟩ := hrel
  cases gk with
  | zero => exact absurd HA.out (by simp [r3_left.l0])
  | succ k1 =>
   have H := HA.out
   clear HA
   simp only [r3_left.l0] at H
   have HC3 := Aside0.mk H
   clear H
   go_upto_region 2 with (fail)
   go_cut [14] (fun v14 wc => ∃ (kq : Nat) (x14_2 : Bool), v14 = .bool x14_2 ∧ Aside0 (r3_left.j1 kq l0 x1_1 x5_1 x14_2 = some r) ∧ Aside0 (kq ≤ k1) ∧ Aside0 (Below w.heap.size w wc))
   case first =>
    have H := HC3.out
    clear HC3
    by_cases c4 : x5_1 < (l0.length : Int)
    rotate_left
    ·rw [if_neg c4] at H
     have c4b0 : decide (x5_1 < (l0.length : Int)) = false := decide_eq_false c4
     clear c4
     (first | rw [c4b0] | (simp only [i64_w, i32_w]; rw [c4b0]) | skip)
     have H' := Aside0.mk H
     clear H
     go_wp2
     go_meet
     case rel => exact ⟨_, (false), rs, H', ⟨by have := HK1.out; first | omega | exact Nat.le_refl _⟩, ⟨bb HB⟩⟩
    rw [if_pos c4] at H
    have c4b0 : decide (x5_1 < (l0.length : Int)) = true := decide_eq_true c4
    clear c4
    (first | rw [c4b0] | (simp only [i64_w, i32_w]; rw [c4b0]) | skip)
    have H' := Aside0.mk H
    clear H
    go_wp2
    go_meet
    case rel => exact ⟨_, (decide (x1_1 > 0)), rs, H', ⟨by have := HK1.out; first | omega | exact Nat.le_refl _⟩, ⟨bb HB⟩⟩
   case rest =>
    clear HC3
    try clear p2
    try clear c3
    try clear c4
    try clear c4b0
    try clear p2
    obtain ⟨kq, x14_2, rfl, HA, HJ2, HB⟩ := hcut
    cases kq with
    | zero => exact absurd HA.out (by simp [r3_left.j1])
    | succ kj2 =>
     have H := HA.out
     clear HA
     simp only [r3_left.j1] at H
     by_cases c5 : x14_2 = true
     rotate_left
     ·replace c5 := Bool.eq_false_iff.mpr c5
      subst c5
      replace H := fi H
      obtain rfl := Option.some.inj H
      go_wp2
      go_ret
      exact ⟨rr, bb HB⟩
     subst c5
     replace H := it H
     have H' := Aside0.mk H
     clear H
     go_wp2
     go_loopg [1, 6] kj2 (fun kq v1 v6 w' => ∃ (x1_3 : Int) (x6_3 : Int), v1 = .int .i64 x1_3 ∧ v6 = .int .i64 x6_3 ∧ Aside0 (r3_left.l1 kq l0 x1_3 x5_1 x6_3 = some r) ∧ Aside0 (kq ≤ kj2) ∧ Aside0 (Below w.heap.size w w'))
     case atStart => exact ⟨(wrap64 (x1_1 - 1)), (0), rs, rs, H', ⟨Nat.le_refl _⟩, ⟨bb HB⟩⟩
     case round =>
      clear H'
      try clear p2
      try clear c3
      try clear c4
      try clear c4b0
      try clear c5
      try clear p2
      obtain ⟨x1_3, x6_3, rfl, rfl, HA, HK3, HB⟩ := hrel
      cases gk with
      | zero => exact absurd HA.out (by simp [r3_left.l1])
      | succ k3 =>
       have H := HA.out
       clear HA
       simp only [r3_left.l1] at H
       by_cases c6 : 0 ≤ x5_1
       rotate_left
       ·rw [if_neg c6] at H
        exact absurd H (by simp)
       rw [if_pos c6] at H
       have c6b0 : decide (0 ≤ x5_1) = true := decide_eq_true c6
       clear c6
       by_cases c7 : x5_1 < (l0.length : Int)
       rotate_left
       ·rw [if_neg c7] at H
        exact absurd H (by simp)
       rw [if_pos c7] at H
       have c7b0 : decide (x5_1 < (l0.length : Int)) = true := decide_eq_true c7
       clear c7
       by_cases c8 : x6_3 < (((rd_T64 l0 x5_1).f2).length : Int)
       ·rw [if_pos c8] at H
        have c8b0 : decide (x6_3 < (((rd_T64 l0 x5_1).f2).length : Int)) = true := decide_eq_true c8
        clear c8
        by_cases c9 : 0 ≤ x6_3
        rotate_left
        ·rw [if_neg c9] at H
         exact absurd H (by simp)
        rw [if_pos c9] at H
        have c9b0 : decide (0 ≤ x6_3) = true := decide_eq_true c9
        clear c9
        obtain ⟨t107, A10, H⟩ := be H
        have H' := Aside0.mk H
        clear H
        have p104 : 0 ≤ (x5_1 : Int) := od
        have q104 : x5_1 < (l0.length : Int) := od
        obtain ⟨ad104, A104_2, c104_2, A104_3, c104_3, A104_4, c104_4, e104, hx104_0, hx104_1, hx104_2, hx104_3, hx104_4, hl104_2, hi104_2, hl104_3, hi104_3, hl104_4, hi104_4⟩ := at_T64 HR0.out x5_1 p104 q104
        cases e104
        replace hx104_0 := bcell HB.out hx104_0
        replace hx104_1 := bcell HB.out hx104_1
        replace hx104_2 := bcell HB.out hx104_2
        replace hx104_3 := bcell HB.out hx104_3
        replace hx104_4 := bcell HB.out hx104_4
        have HR104_2 := Aside0.mk hi104_2
        have HC104_2 := Aside0.mk hl104_2
        clear hi104_2 hl104_2
        have HR104_3 := Aside0.mk hi104_3
        have HC104_3 := Aside0.mk hl104_3
        clear hi104_3 hl104_3
        have HR104_4 := Aside0.mk hi104_4
        have HC104_4 := Aside0.mk hl104_4
        clear hi104_4 hl104_4
        replace p104 := eq_true p104
        replace q104 := eq_true q104
        have p106 : 0 ≤ (x6_3 : Int) := od
        have q106 : x6_3 < (((rd_T64 l0 x5_1).f2).length : Int) := od
        obtain ⟨ad106, A106_3, c106_3, e106, hx106_0, hx106_1, hx106_2, hx106_3, hl106_3, hi106_3⟩ := at_T28 HR104_2.out x6_3 p106 q106
        cases e106
        replace hx106_0 := bcell HB.out hx106_0
        replace hx106_1 := bcell HB.out hx106_1
        replace hx106_2 := bcell HB.out hx106_2
        replace hx106_3 := bcell HB.out hx106_3
        have HR106_3 := Aside0.mk hi106_3
        have HC106_3 := Aside0.mk hl106_3
        clear hi106_3 hl106_3
        replace p106 := eq_true p106
        replace q106 := eq_true q106
        go_wp2_with (first | ((with_reducible refine gate_callee (f := 40) rfl ?_); refine gL (some 38) rfl rfl Try.func40 #[.agg #[.int .i64 ((rd_T28 ((rd_T64 l0 x5_1).f2) x6_3).f0), .int .i64 ((rd_T28 ((rd_T64 l0 x5_1).f2) x6_3).f1), .int .i64 ((rd_T28 ((rd_T64 l0 x5_1).f2) x6_3).f2), .slice A106_3 ((rd_T28 ((rd_T64 l0 x5_1).f2) x6_3).f3).length c106_3], .int .i64 x1_3] rfl ?_; (with_reducible refine (r2_Left.calls k3 ((rd_T28 ((rd_T64 l0 x5_1).f2) x6_3).f0) ((rd_T28 ((rd_T64 l0 x5_1).f2) x6_3).f1) ((rd_T28 ((rd_T64 l0 x5_1).f2) x6_3).f2) _ _ ((rd_T28 ((rd_T64 l0 x5_1).f2) x6_3).f3) x1_3 t107 _ ?side1 ?side2 A10.out).mono ?_); (case side1 => exact cb HR106_3 HB); (case side2 => exact HC106_3.out); rintro e w11 ⟨rfl, hb⟩; refine ⟨_, rfl, ?_⟩; replace HB := sb HB hb; (try clear hb)))
        go_roundg k3
        case measure => have := HK1.out; have := HJ2.out; have := HK3.out; omega
        case rel => exact ⟨(t107), (wrap64 (x6_3 + 1)), rs, rs, H', ⟨by have := HK1.out; have := HJ2.out; have := HK3.out; omega⟩, ⟨bb HB⟩⟩
       rw [if_neg c8] at H
       have c8b0 : decide (x6_3 < (((rd_T64 l0 x5_1).f2).length : Int)) = false := decide_eq_false c8
       clear c8
       obtain ⟨t109, A12, H⟩ := be H
       obtain ⟨t111, A13, H⟩ := be H
       have H' := Aside0.mk H
       clear H
       have p104 : 0 ≤ (x5_1 : Int) := od
       have q104 : x5_1 < (l0.length : Int) := od
       obtain ⟨ad104, A104_2, c104_2, A104_3, c104_3, A104_4, c104_4, e104, hx104_0, hx104_1, hx104_2, hx104_3, hx104_4, hl104_2, hi104_2, hl104_3, hi104_3, hl104_4, hi104_4⟩ := at_T64 HR0.out x5_1 p104 q104
       cases e104
       replace hx104_0 := bcell HB.out hx104_0
       replace hx104_1 := bcell HB.out hx104_1
       replace hx104_2 := bcell HB.out hx104_2
       replace hx104_3 := bcell HB.out hx104_3
       replace hx104_4 := bcell HB.out hx104_4
       have HR104_2 := Aside0.mk hi104_2
       have HC104_2 := Aside0.mk hl104_2
       clear hi104_2 hl104_2
       have HR104_3 := Aside0.mk hi104_3
       have HC104_3 := Aside0.mk hl104_3
       clear hi104_3 hl104_3
       have HR104_4 := Aside0.mk hi104_4
       have HC104_4 := Aside0.mk hl104_4
       clear hi104_4 hl104_4
       replace p104 := eq_true p104
       replace q104 := eq_true q104
       go_wp2_with (first | ((with_reducible refine gate_callee (f := 39) rfl ?_); refine gL (some 45) rfl rfl Try.func39 #[.slice A104_3 ((rd_T64 l0 x5_1).f3).length c104_3, .int .i64 x1_3] rfl ?_; (with_reducible refine (ih k3 (by have := HK1.out; have := HJ2.out; have := HK3.out; omega) _ _ ((rd_T64 l0 x5_1).f3) x1_3 t109 _ ?side1 ?side2 A12.out).mono ?_); (case side1 => exact cb HR104_3 HB); (case side2 => exact HC104_3.out); rintro e w14 ⟨rfl, hb⟩; refine ⟨_, rfl, ?_⟩; replace HB := sb HB hb; (try clear hb); have p110 : 0 ≤ (x5_1 : Int) := od; have q110 : x5_1 < (l0.length : Int) := od; obtain ⟨ad110, A110_2, c110_2, A110_3, c110_3, A110_4, c110_4, e110, hx110_0, hx110_1, hx110_2, hx110_3, hx110_4, hl110_2, hi110_2, hl110_3, hi110_3, hl110_4, hi110_4⟩ := at_T64 HR0.out x5_1 p110 q110; obtain rfl : ad104 = ad110 := (by injection e110); replace hx110_0 := bcell HB.out hx110_0; replace hx110_1 := bcell HB.out hx110_1; replace hx110_2 := bcell HB.out hx110_2; replace hx110_3 := bcell HB.out hx110_3; replace hx110_4 := bcell HB.out hx110_4; have HR110_2 := Aside0.mk hi110_2; have HC110_2 := Aside0.mk hl110_2; clear hi110_2 hl110_2; have HR110_3 := Aside0.mk hi110_3; have HC110_3 := Aside0.mk hl110_3; clear hi110_3 hl110_3; have HR110_4 := Aside0.mk hi110_4; have HC110_4 := Aside0.mk hl110_4; clear hi110_4 hl110_4; replace p110 := eq_true p110; replace q110 := eq_true q110) | ((with_reducible refine gate_callee (f := 39) rfl ?_); refine gL (some 52) rfl rfl Try.func39 #[.slice A110_4 ((rd_T64 l0 x5_1).f4).length c110_4, .int .i64 t109] rfl ?_; (with_reducible refine (ih k3 (by have := HK1.out; have := HJ2.out; have := HK3.out; omega) _ _ ((rd_T64 l0 x5_1).f4) t109 t111 _ ?side1 ?side2 A13.out).mono ?_); (case side1 => exact cb HR110_4 HB); (case side2 => exact HC110_4.out); rintro e w15 ⟨rfl, hb⟩; refine ⟨_, rfl, ?_⟩; replace HB := sb HB hb; (try clear hb)))
       go_roundg k3
       case measure => have := HK1.out; have := HJ2.out; have := HK3.out; omega
       case rel => exact ⟨(t111), (wrap64 (x5_1 + 1)), rs, rs, H', ⟨by have := HK1.out; have := HJ2.out; have := HK3.out; omega⟩, ⟨bb HB⟩⟩
def r3_Fits.f (k : Nat) (l0 : List (S64)) (a1 : Int) : Option (Bool) := (r3_left.f k l0 (wrap64 (a1 + 1))).bind fun t112 => (some (decide (t112 > 0)))
theorem r3_Fits.calls (k : Nat) (A0 : Option Addr) (c0 : Nat) (l0 : List (S64)) (a1 : Int) (r : Bool) (w : World) (hr0 : Kd.C k64 w A0 l0.length l0) (hc0 : l0.length ≤ c0) (h : r3_Fits.f k l0 a1 = some r) :
  Calls Try.prog 9 #[.slice A0 l0.length c0, .int .i64 a1] w fun e w' => e = .returned (.bool r) ∧ Below w.heap.size w w' := by
 have HR0 := Aside0.mk hr0
 have HC0 := Aside0.mk hc0
 clear hr0 hc0
 have HB := Aside0.mk (Below.refl w.heap.size w)
 have H : ((r3_left.f k l0 (wrap64 (a1 + 1))).bind fun t112 => (some (decide (t112 > 0)))) = some r := h
 clear h
 obtain ⟨t112, A3, H⟩ := be H
 obtain rfl := Option.some.inj H
 go_enter Try.func9, Try.ntmps9
 go_wp2_with (first | ((with_reducible refine gate_callee (f := 39) rfl ?_); refine gL (some 8) rfl rfl Try.func39 #[.slice A0 l0.length c0, .int .i64 (wrap64 (a1 + 1))] rfl ?_; (with_reducible refine (r3_left.calls k _ _ l0 (wrap64 (a1 + 1)) t112 _ ?side1 ?side2 A3.out).mono ?_); (case side1 => exact ca HR0); (case side2 => exact HC0.out); rintro e w4 ⟨rfl, hb⟩; refine ⟨_, rfl, ?_⟩; replace HB := sb HB hb; (try clear hb)))
 go_ret
 exact ⟨rr, bb HB⟩
def r3_variable.f (l0 : List (S66)) (a1_0 : Int) (a1_1 : Int) (l1_2 : List (S28)) (l1_3 : List (S64)) (l1_4 : List (S64)) (a2 : Int) : Option (Bool) := if a1_1 ≥ 0 then (if a1_1 < (l0.length : Int) then (if 0 ≤ a1_1 then ((r1_One.f (decide (((rd_T66 l0 a1_1).f2) > 1))).bind fun t284 => (some ((l1_2.length : Int) == (wrap64 (a2 + t284))))) else (none)) else (some false)) else (some false)
theorem r3_variable.calls (A0 : Option Addr) (c0 : Nat) (l0 : List (S66)) (a1_0 : Int) (a1_1 : Int) (A1_2 : Option Addr) (c1_2 : Nat) (l1_2 : List (S28)) (A1_3 : Option Addr) (c1_3 : Nat) (l1_3 : List (S64)) (A1_4 : Option Addr) (c1_4 : Nat) (l1_4 : List (S64)) (a2 : Int) (r : Bool) (w : World) (hr0 : Kd.C k66 w A0 l0.length l0) (hc0 : l0.length ≤ c0) (hr1_2 : Kd.C k28 w A1_2 l1_2.length l1_2) (hc1_2 : l1_2.length ≤ c1_2) (hr1_3 : Kd.C k64 w A1_3 l1_3.length l1_3) (hc1_3 : l1_3.length ≤ c1_3) (hr1_4 : Kd.C k64 w A1_4 l1_4.length l1_4) (hc1_4 : l1_4.length ≤ c1_4) (h : r3_variable.f l0 a1_0 a1_1 l1_2 l1_3 l1_4 a2 = some r) :
  Calls Try.prog 125 #[.slice A0 l0.length c0, .agg #[.int .i64 a1_0, .int .i64 a1_1, .slice A1_2 l1_2.length c1_2, .slice A1_3 l1_3.length c1_3, .slice A1_4 l1_4.length c1_4], .int .i64 a2] w fun e w' => e = .returned (.bool r) ∧ Below w.heap.size w w' := by
 have hu64 := Try.underlying64
 have HR0 := Aside0.mk hr0
 have HC0 := Aside0.mk hc0
 clear hr0 hc0
 have HR1_2 := Aside0.mk hr1_2
 have HC1_2 := Aside0.mk hc1_2
 clear hr1_2 hc1_2
 have HR1_3 := Aside0.mk hr1_3
 have HC1_3 := Aside0.mk hc1_3
 clear hr1_3 hc1_3
 have HR1_4 := Aside0.mk hr1_4
 have HC1_4 := Aside0.mk hc1_4
 clear hr1_4 hc1_4
 have HB := Aside0.mk (Below.refl w.heap.size w)
 have H : (if a1_1 ≥ 0 then (if a1_1 < (l0.length : Int) then (if 0 ≤ a1_1 then ((r1_One.f (decide (((rd_T66 l0 a1_1).f2) > 1))).bind fun t284 => (some ((l1_2.length : Int) == (wrap64 (a2 + t284))))) else (none)) else (some false)) else (some false)) = some r := h
 clear h
 by_cases c4 : a1_1 ≥ 0
 rotate_left
 ·rw [if_neg c4] at H
  have c4b0 : decide (0 ≤ a1_1) = false := decide_eq_false c4
  clear c4
  obtain rfl := Option.some.inj H
  go_enter Try.func125, Try.ntmps125
  go_wp2_with (first | ((with_reducible refine gate_dst (N := 4) rfl ?_); (try (refine gate_guard (by rfl) ?_; dsimp only)); refine bx 4 rfl rfl #[.int .i64 a1_0, .int .i64 a1_1, .slice A1_2 l1_2.length c1_2, .slice A1_3 l1_3.length c1_3, .slice A1_4 l1_4.length c1_4] 64 ?_; intro gb282 hg w12 hbox hb; have BK282 := Aside0.mk (hbox); have GE282 := ge HB hg; replace HB := sb HB hb; clear hb hbox hg; obtain ⟨hcz13_0, hcz13_1, hcz13_2, hcz13_3, hcz13_4, hfz13_0, hfz13_1, hfz13_2, hfz13_3, hfz13_4⟩ := cf5 BK282.out))
  repeat (go_quiet (first | ((with_reducible refine gate_dst (N := 4) rfl ?_); (try (refine gate_guard (by rfl) ?_; dsimp only)); refine bx 4 rfl rfl #[.int .i64 a1_0, .int .i64 a1_1, .slice A1_2 l1_2.length c1_2, .slice A1_3 l1_3.length c1_3, .slice A1_4 l1_4.length c1_4] 64 ?_; intro gb282 hg w12 hbox hb; have BK282 := Aside0.mk (hbox); have GE282 := ge HB hg; replace HB := sb HB hb; clear hb hbox hg; obtain ⟨hcz13_0, hcz13_1, hcz13_2, hcz13_3, hcz13_4, hfz13_0, hfz13_1, hfz13_2, hfz13_3, hfz13_4⟩ := cf5 BK282.out)); try go_wp2_with (first | ((with_reducible refine gate_dst (N := 4) rfl ?_); (try (refine gate_guard (by rfl) ?_; dsimp only)); refine bx 4 rfl rfl #[.int .i64 a1_0, .int .i64 a1_1, .slice A1_2 l1_2.length c1_2, .slice A1_3 l1_3.length c1_3, .slice A1_4 l1_4.length c1_4] 64 ?_; intro gb282 hg w12 hbox hb; have BK282 := Aside0.mk (hbox); have GE282 := ge HB hg; replace HB := sb HB hb; clear hb hbox hg; obtain ⟨hcz13_0, hcz13_1, hcz13_2, hcz13_3, hcz13_4, hfz13_0, hfz13_1, hfz13_2, hfz13_3, hfz13_4⟩ := cf5 BK282.out)))
  go_ret
  exact ⟨rr, bb HB⟩
 rw [if_pos c4] at H
 have c4b0 : decide (0 ≤ a1_1) = true := decide_eq_true c4
 clear c4
 by_cases c5 : a1_1 < (l0.length : Int)
 rotate_left
 ·rw [if_neg c5] at H
  have c5b0 : decide (a1_1 < (l0.length : Int)) = false := decide_eq_false c5
  clear c5
  obtain rfl := Option.some.inj H
  go_enter Try.func125, Try.ntmps125
  go_wp2_with (first | ((with_reducible refine gate_dst (N := 4) rfl ?_); (try (refine gate_guard (by rfl) ?_; dsimp only)); refine bx 4 rfl rfl #[.int .i64 a1_0, .int .i64 a1_1, .slice A1_2 l1_2.length c1_2, .slice A1_3 l1_3.length c1_3, .slice A1_4 l1_4.length c1_4] 64 ?_; intro gb282 hg w10 hbox hb; have BK282 := Aside0.mk (hbox); have GE282 := ge HB hg; replace HB := sb HB hb; clear hb hbox hg; obtain ⟨hcz11_0, hcz11_1, hcz11_2, hcz11_3, hcz11_4, hfz11_0, hfz11_1, hfz11_2, hfz11_3, hfz11_4⟩ := cf5 BK282.out))
  repeat (go_quiet (first | ((with_reducible refine gate_dst (N := 4) rfl ?_); (try (refine gate_guard (by rfl) ?_; dsimp only)); refine bx 4 rfl rfl #[.int .i64 a1_0, .int .i64 a1_1, .slice A1_2 l1_2.length c1_2, .slice A1_3 l1_3.length c1_3, .slice A1_4 l1_4.length c1_4] 64 ?_; intro gb282 hg w10 hbox hb; have BK282 := Aside0.mk (hbox); have GE282 := ge HB hg; replace HB := sb HB hb; clear hb hbox hg; obtain ⟨hcz11_0, hcz11_1, hcz11_2, hcz11_3, hcz11_4, hfz11_0, hfz11_1, hfz11_2, hfz11_3, hfz11_4⟩ := cf5 BK282.out)); try go_wp2_with (first | ((with_reducible refine gate_dst (N := 4) rfl ?_); (try (refine gate_guard (by rfl) ?_; dsimp only)); refine bx 4 rfl rfl #[.int .i64 a1_0, .int .i64 a1_1, .slice A1_2 l1_2.length c1_2, .slice A1_3 l1_3.length c1_3, .slice A1_4 l1_4.length c1_4] 64 ?_; intro gb282 hg w10 hbox hb; have BK282 := Aside0.mk (hbox); have GE282 := ge HB hg; replace HB := sb HB hb; clear hb hbox hg; obtain ⟨hcz11_0, hcz11_1, hcz11_2, hcz11_3, hcz11_4, hfz11_0, hfz11_1, hfz11_2, hfz11_3, hfz11_4⟩ := cf5 BK282.out)))
  go_ret
  exact ⟨rr, bb HB⟩
 rw [if_pos c5] at H
 have c5b0 : decide (a1_1 < (l0.length : Int)) = true := decide_eq_true c5
 clear c5
 by_cases c6 : 0 ≤ a1_1
 rotate_left
 ·rw [if_neg c6] at H
  exact absurd H (by simp)
 rw [if_pos c6] at H
 have c6b0 : decide (0 ≤ a1_1) = true := decide_eq_true c6
 clear c6
 obtain ⟨t284, A7, H⟩ := be H
 obtain rfl := Option.some.inj H
 go_enter Try.func125, Try.ntmps125
 go_wp2_with (first | ((with_reducible refine gate_dst (N := 4) rfl ?_); (try (refine gate_guard (by rfl) ?_; dsimp only)); refine bx 4 rfl rfl #[.int .i64 a1_0, .int .i64 a1_1, .slice A1_2 l1_2.length c1_2, .slice A1_3 l1_3.length c1_3, .slice A1_4 l1_4.length c1_4] 64 ?_; intro gb282 hg w8 hbox hb; have BK282 := Aside0.mk (hbox); have GE282 := ge HB hg; replace HB := sb HB hb; clear hb hbox hg; obtain ⟨hcz9_0, hcz9_1, hcz9_2, hcz9_3, hcz9_4, hfz9_0, hfz9_1, hfz9_2, hfz9_3, hfz9_4⟩ := cf5 BK282.out; have p283 : 0 ≤ (a1_1 : Int) := od; have q283 : a1_1 < (l0.length : Int) := od; obtain ⟨ad283, e283, hx283_0, hx283_1, hx283_2⟩ := at_T66 HR0.out a1_1 p283 q283; cases e283; replace hx283_0 := bcell HB.out hx283_0; replace hx283_1 := bcell HB.out hx283_1; replace hx283_2 := bcell HB.out hx283_2; replace p283 := eq_true p283; replace q283 := eq_true q283) | (go_at_call 95; (with_reducible refine (r1_One.calls (decide (((rd_T66 l0 a1_1).f2) > 1)) t284 _ A7.out).mono ?_); rintro e w' ⟨rfl, ⟨nd, rfl⟩⟩; (try first | exact ⟨rfl, _, World.drewN_drewN _ _ _⟩ | exact ⟨rfl, _, Eq.trans (World.drewN_drewN _ _ _) (congrArg (World.drewN _) (Nat.add_assoc _ _ _))⟩)))
 repeat (go_quiet (first | ((with_reducible refine gate_dst (N := 4) rfl ?_); (try (refine gate_guard (by rfl) ?_; dsimp only)); refine bx 4 rfl rfl #[.int .i64 a1_0, .int .i64 a1_1, .slice A1_2 l1_2.length c1_2, .slice A1_3 l1_3.length c1_3, .slice A1_4 l1_4.length c1_4] 64 ?_; intro gb282 hg w8 hbox hb; have BK282 := Aside0.mk (hbox); have GE282 := ge HB hg; replace HB := sb HB hb; clear hb hbox hg; obtain ⟨hcz9_0, hcz9_1, hcz9_2, hcz9_3, hcz9_4, hfz9_0, hfz9_1, hfz9_2, hfz9_3, hfz9_4⟩ := cf5 BK282.out; have p283 : 0 ≤ (a1_1 : Int) := od; have q283 : a1_1 < (l0.length : Int) := od; obtain ⟨ad283, e283, hx283_0, hx283_1, hx283_2⟩ := at_T66 HR0.out a1_1 p283 q283; cases e283; replace hx283_0 := bcell HB.out hx283_0; replace hx283_1 := bcell HB.out hx283_1; replace hx283_2 := bcell HB.out hx283_2; replace p283 := eq_true p283; replace q283 := eq_true q283) | (go_at_call 95; (with_reducible refine (r1_One.calls (decide (((rd_T66 l0 a1_1).f2) > 1)) t284 _ A7.out).mono ?_); rintro e w' ⟨rfl, ⟨nd, rfl⟩⟩; (try first | exact ⟨rfl, _, World.drewN_drewN _ _ _⟩ | exact ⟨rfl, _, Eq.trans (World.drewN_drewN _ _ _) (congrArg (World.drewN _) (Nat.add_assoc _ _ _))⟩))); try go_wp2_with (first | ((with_reducible refine gate_dst (N := 4) rfl ?_); (try (refine gate_guard (by rfl) ?_; dsimp only)); refine bx 4 rfl rfl #[.int .i64 a1_0, .int .i64 a1_1, .slice A1_2 l1_2.length c1_2, .slice A1_3 l1_3.length c1_3, .slice A1_4 l1_4.length c1_4] 64 ?_; intro gb282 hg w8 hbox hb; have BK282 := Aside0.mk (hbox); have GE282 := ge HB hg; replace HB := sb HB hb; clear hb hbox hg; obtain ⟨hcz9_0, hcz9_1, hcz9_2, hcz9_3, hcz9_4, hfz9_0, hfz9_1, hfz9_2, hfz9_3, hfz9_4⟩ := cf5 BK282.out; have p283 : 0 ≤ (a1_1 : Int) := od; have q283 : a1_1 < (l0.length : Int) := od; obtain ⟨ad283, e283, hx283_0, hx283_1, hx283_2⟩ := at_T66 HR0.out a1_1 p283 q283; cases e283; replace hx283_0 := bcell HB.out hx283_0; replace hx283_1 := bcell HB.out hx283_1; replace hx283_2 := bcell HB.out hx283_2; replace p283 := eq_true p283; replace q283 := eq_true q283) | (go_at_call 95; (with_reducible refine (r1_One.calls (decide (((rd_T66 l0 a1_1).f2) > 1)) t284 _ A7.out).mono ?_); rintro e w' ⟨rfl, ⟨nd, rfl⟩⟩; (try first | exact ⟨rfl, _, World.drewN_drewN _ _ _⟩ | exact ⟨rfl, _, Eq.trans (World.drewN_drewN _ _ _) (congrArg (World.drewN _) (Nat.add_assoc _ _ _))⟩))))
 go_ret
 exact ⟨rr, bb HB⟩
def r3_head.j0 : Nat → List (S66) → Bool → Int → Int → List (S28) → List (S64) → List (S64) → Option (Bool)
 | 0, _, _, _, _, _, _, _ => none
 | k + 1, x0, x5, x286000, x286001, x286002, x286003, x286004 => if x286000 = 0 then (if x5 = true then ((r3_variable.f x0 x286000 x286001 x286002 x286003 x286004 1).bind fun t286 => (some t286)) else (some false)) else (if x286000 = 1 then (if x286001 = 0 then (some ((x286002.length : Int) == 1)) else (some false)) else (if x286000 = 2 then (if x286001 = 0 then (if (x286002.length : Int) = 1 then (some ((x286004.length : Int) == 0)) else (some false)) else (some false)) else (if x286000 = 3 then (if x5 = true then (if x286001 ≥ 0 then (if x286001 ≤ 47 then (some ((x286002.length : Int) == 1)) else (some false)) else (some false)) else (some false)) else (if x286000 = 4 then (if x5 = true then ((r3_variable.f x0 x286000 x286001 x286002 x286003 x286004 0).bind fun t287 => (some t287)) else (some false)) else (if x286000 = 5 then (if x5 = true then (if x286001 = 0 then (some ((x286002.length : Int) == 1)) else (some false)) else (some false)) else (if x286000 = 6 then (if x5 = true then (if x286001 = 0 then (some ((x286002.length : Int) == 1)) else (some false)) else (some false)) else (some false)))))))
def r3_head.f (k : Nat) (l0 : List (S66)) (a1_0 : Int) (a1_1 : Int) (l1_2 : List (S28)) (l1_3 : List (S64)) (l1_4 : List (S64)) : Option (Bool) := if (l1_3.length : Int) = 0 then (r3_head.j0 k l0 ((l1_4.length : Int) == 0) a1_0 a1_1 l1_2 l1_3 l1_4) else (r3_head.j0 k l0 false a1_0 a1_1 l1_2 l1_3 l1_4)
theorem r3_head.calls (k : Nat) (A0 : Option Addr) (c0 : Nat) (l0 : List (S66)) (a1_0 : Int) (a1_1 : Int) (A1_2 : Option Addr) (c1_2 : Nat) (l1_2 : List (S28)) (A1_3 : Option Addr) (c1_3 : Nat) (l1_3 : List (S64)) (A1_4 : Option Addr) (c1_4 : Nat) (l1_4 : List (S64)) (r : Bool) (w : World) (hr0 : Kd.C k66 w A0 l0.length l0) (hc0 : l0.length ≤ c0) (hr1_2 : Kd.C k28 w A1_2 l1_2.length l1_2) (hc1_2 : l1_2.length ≤ c1_2) (hr1_3 : Kd.C k64 w A1_3 l1_3.length l1_3) (hc1_3 : l1_3.length ≤ c1_3) (hr1_4 : Kd.C k64 w A1_4 l1_4.length l1_4) (hc1_4 : l1_4.length ≤ c1_4) (h : r3_head.f k l0 a1_0 a1_1 l1_2 l1_3 l1_4 = some r) :
  Calls Try.prog 123 #[.slice A0 l0.length c0, .agg #[.int .i64 a1_0, .int .i64 a1_1, .slice A1_2 l1_2.length c1_2, .slice A1_3 l1_3.length c1_3, .slice A1_4 l1_4.length c1_4]] w fun e w' => e = .returned (.bool r) ∧ Below w.heap.size w w' := by
 have hu64 := Try.underlying64
 have HR0 := Aside0.mk hr0
 have HC0 := Aside0.mk hc0
 clear hr0 hc0
 have HR1_2 := Aside0.mk hr1_2
 have HC1_2 := Aside0.mk hc1_2
 clear hr1_2 hc1_2
 have HR1_3 := Aside0.mk hr1_3
 have HC1_3 := Aside0.mk hc1_3
 clear hr1_3 hc1_3
 have HR1_4 := Aside0.mk hr1_4
 have HC1_4 := Aside0.mk hc1_4
 clear hr1_4 hc1_4
 have HB := Aside0.mk (Below.refl w.heap.size w)
 have H : (if (l1_3.length : Int) = 0 then (r3_head.j0 k l0 ((l1_4.length : Int) == 0) a1_0 a1_1 l1_2 l1_3 l1_4) else (r3_head.j0 k l0 false a1_0 a1_1 l1_2 l1_3 l1_4)) = some r := h
 clear h
 have HC3 := Aside0.mk H
 clear H
 go_enter Try.func123, Try.ntmps123
 go_upto_region 1 with (first | ((with_reducible refine gate_dst (N := 3) rfl ?_); (try (refine gate_guard (by rfl) ?_; dsimp only)); refine bx 3 rfl rfl #[.int .i64 a1_0, .int .i64 a1_1, .slice A1_2 l1_2.length c1_2, .slice A1_3 l1_3.length c1_3, .slice A1_4 l1_4.length c1_4] 64 ?_; intro gb285 hg w4 hbox hb; have BK285 := Aside0.mk (hbox); have GE285 := ge HB hg; replace HB := sb HB hb; clear hb hbox hg))
 (try simp only [Act.put, List.setIfInBounds_toArray, List.set_cons_zero, List.set_cons_succ])
 go_cut [5] (fun v5 wc => ∃ (kq : Nat) (x5_2 : Bool), v5 = .bool x5_2 ∧ Aside0 (r3_head.j0 kq l0 x5_2 a1_0 a1_1 l1_2 l1_3 l1_4 = some r) ∧ Aside0 (kq ≤ k) ∧ Aside0 (wc.heap[gb285]? = some (.cells #[.int .i64 a1_0, .int .i64 a1_1, (.slice A1_2 l1_2.length c1_2), (.slice A1_3 l1_3.length c1_3), (.slice A1_4 l1_4.length c1_4)] 64 (0, 0))) ∧ Aside0 (Below w.heap.size w wc))
 case first =>
  have H := HC3.out
  clear HC3
  by_cases c5 : (l1_3.length : Int) = 0
  ·rw [if_pos c5] at H
   have c5b0 : ((l1_3.length : Int) == 0) = true := beq_iff_eq.mpr c5
   have c5b1 : ((l1_3.length : Int) != 0) = false := bne_eq_false_iff_eq.mpr c5
   clear c5
   (first | rw [c5b0] | (simp only [i64_w, i32_w]; rw [c5b0]) | skip)
   have H' := Aside0.mk H
   clear H
   obtain ⟨hcz6_0, hcz6_1, hcz6_2, hcz6_3, hcz6_4, hfz6_0, hfz6_1, hfz6_2, hfz6_3, hfz6_4⟩ := cf5 BK285.out
   go_wp2
   go_meet
   case rel => exact ⟨_, (((l1_4.length : Int) == 0)), rs, H', ⟨by first | omega | exact Nat.le_refl _⟩, ⟨kk BK285⟩, ⟨bb HB⟩⟩
  rw [if_neg c5] at H
  have c5b0 : ((l1_3.length : Int) == 0) = false := beq_eq_false_iff_ne.mpr c5
  have c5b1 : ((l1_3.length : Int) != 0) = true := bne_iff_ne.mpr c5
  have c5b2 : ¬ (l1_3 = []) := fun h_ => c5 (by rw [h_]; rfl)
  (first | rw [c5b0] | (simp only [i64_w, i32_w]; rw [c5b0]) | skip)
  have H' := Aside0.mk H
  clear H
  obtain ⟨hcz7_0, hcz7_1, hcz7_2, hcz7_3, hcz7_4, hfz7_0, hfz7_1, hfz7_2, hfz7_3, hfz7_4⟩ := cf5 BK285.out
  go_wp2
  go_meet
  case rel => exact ⟨_, (false), rs, H', ⟨by first | omega | exact Nat.le_refl _⟩, ⟨kk BK285⟩, ⟨bb HB⟩⟩
 case rest =>
  clear HC3
  try clear c1
  try clear p2
  try clear c5
  try clear c5b0
  try clear c5b1
  try clear c5b2
  try clear hcz6_0 hcz6_1 hcz6_2 hcz6_3 hcz6_4
  try clear hcz7_0 hcz7_1 hcz7_2 hcz7_3 hcz7_4
  try clear hfz6_0 hfz6_1 hfz6_2 hfz6_3 hfz6_4
  try clear hfz7_0 hfz7_1 hfz7_2 hfz7_3 hfz7_4
  obtain ⟨kq, x5_2, rfl, HA, HJ2, BK285, HB⟩ := hcut
  cases kq with
  | zero => exact absurd HA.out (by simp [r3_head.j0])
  | succ kj2 =>
   have H := HA.out
   clear HA
   simp only [r3_head.j0] at H
   by_cases c8 : a1_0 = 0
   ·rw [if_pos c8] at H
    have c8b0 : (a1_0 == 0) = true := beq_iff_eq.mpr c8
    have c8b1 : (a1_0 != 0) = false := bne_eq_false_iff_eq.mpr c8
    clear c8
    by_cases c9 : x5_2 = true
    rotate_left
    ·replace c9 := Bool.eq_false_iff.mpr c9
     subst c9
     replace H := fi H
     obtain rfl := Option.some.inj H
     obtain ⟨hcz13_0, hcz13_1, hcz13_2, hcz13_3, hcz13_4, hfz13_0, hfz13_1, hfz13_2, hfz13_3, hfz13_4⟩ := cf5 BK285.out
     go_wp2
     go_ret
     exact ⟨rr, bb HB⟩
    subst c9
    replace H := it H
    obtain ⟨t286, A10, H⟩ := be H
    obtain rfl := Option.some.inj H
    obtain ⟨hcz11_0, hcz11_1, hcz11_2, hcz11_3, hcz11_4, hfz11_0, hfz11_1, hfz11_2, hfz11_3, hfz11_4⟩ := cf5 BK285.out
    go_wp2_with (first | (go_at_call 125; (with_reducible refine (r3_variable.calls _ _ l0 a1_0 a1_1 _ _ l1_2 _ _ l1_3 _ _ l1_4 1 t286 _ ?side1 ?side2 ?side3 ?side4 ?side5 ?side6 ?side7 ?side8 A10.out).mono ?_); (case side1 => exact cb HR0 HB); (case side2 => exact HC0.out); (case side3 => exact cb HR1_2 HB); (case side4 => exact HC1_2.out); (case side5 => exact cb HR1_3 HB); (case side6 => exact HC1_3.out); (case side7 => exact cb HR1_4 HB); (case side8 => exact HC1_4.out); rintro e w12 ⟨rfl, hb⟩; replace BK285 := kb BK285 hb; replace HB := sb HB hb; (try clear hb)))
    go_ret
    exact ⟨rr, bb HB⟩
   rw [if_neg c8] at H
   have c8b0 : (a1_0 == 0) = false := beq_eq_false_iff_ne.mpr c8
   have c8b1 : (a1_0 != 0) = true := bne_iff_ne.mpr c8
   by_cases c14 : a1_0 = 1
   ·rw [if_pos c14] at H
    have c14b0 : (a1_0 == 1) = true := beq_iff_eq.mpr c14
    have c14b1 : (a1_0 != 1) = false := bne_eq_false_iff_eq.mpr c14
    clear c14
    by_cases c15 : a1_1 = 0
    rotate_left
    ·rw [if_neg c15] at H
     have c15b0 : (a1_1 == 0) = false := beq_eq_false_iff_ne.mpr c15
     have c15b1 : (a1_1 != 0) = true := bne_iff_ne.mpr c15
     obtain rfl := Option.some.inj H
     obtain ⟨hcz17_0, hcz17_1, hcz17_2, hcz17_3, hcz17_4, hfz17_0, hfz17_1, hfz17_2, hfz17_3, hfz17_4⟩ := cf5 BK285.out
     go_wp2
     go_ret
     exact ⟨rr, bb HB⟩
    rw [if_pos c15] at H
    have c15b0 : (a1_1 == 0) = true := beq_iff_eq.mpr c15
    have c15b1 : (a1_1 != 0) = false := bne_eq_false_iff_eq.mpr c15
    clear c15
    obtain rfl := Option.some.inj H
    obtain ⟨hcz16_0, hcz16_1, hcz16_2, hcz16_3, hcz16_4, hfz16_0, hfz16_1, hfz16_2, hfz16_3, hfz16_4⟩ := cf5 BK285.out
    go_wp2
    go_ret
    exact ⟨rr, bb HB⟩
   rw [if_neg c14] at H
   have c14b0 : (a1_0 == 1) = false := beq_eq_false_iff_ne.mpr c14
   have c14b1 : (a1_0 != 1) = true := bne_iff_ne.mpr c14
   by_cases c18 : a1_0 = 2
   ·rw [if_pos c18] at H
    have c18b0 : (a1_0 == 2) = true := beq_iff_eq.mpr c18
    have c18b1 : (a1_0 != 2) = false := bne_eq_false_iff_eq.mpr c18
    clear c18
    by_cases c19 : a1_1 = 0
    rotate_left
    ·rw [if_neg c19] at H
     have c19b0 : (a1_1 == 0) = false := beq_eq_false_iff_ne.mpr c19
     have c19b1 : (a1_1 != 0) = true := bne_iff_ne.mpr c19
     obtain rfl := Option.some.inj H
     obtain ⟨hcz23_0, hcz23_1, hcz23_2, hcz23_3, hcz23_4, hfz23_0, hfz23_1, hfz23_2, hfz23_3, hfz23_4⟩ := cf5 BK285.out
     go_wp2
     go_ret
     exact ⟨rr, bb HB⟩
    rw [if_pos c19] at H
    have c19b0 : (a1_1 == 0) = true := beq_iff_eq.mpr c19
    have c19b1 : (a1_1 != 0) = false := bne_eq_false_iff_eq.mpr c19
    clear c19
    by_cases c20 : (l1_2.length : Int) = 1
    rotate_left
    ·rw [if_neg c20] at H
     have c20b0 : ((l1_2.length : Int) == 1) = false := beq_eq_false_iff_ne.mpr c20
     have c20b1 : ((l1_2.length : Int) != 1) = true := bne_iff_ne.mpr c20
     obtain rfl := Option.some.inj H
     obtain ⟨hcz22_0, hcz22_1, hcz22_2, hcz22_3, hcz22_4, hfz22_0, hfz22_1, hfz22_2, hfz22_3, hfz22_4⟩ := cf5 BK285.out
     go_wp2
     go_ret
     exact ⟨rr, bb HB⟩
    rw [if_pos c20] at H
    have c20b0 : ((l1_2.length : Int) == 1) = true := beq_iff_eq.mpr c20
    have c20b1 : ((l1_2.length : Int) != 1) = false := bne_eq_false_iff_eq.mpr c20
    clear c20
    obtain rfl := Option.some.inj H
    obtain ⟨hcz21_0, hcz21_1, hcz21_2, hcz21_3, hcz21_4, hfz21_0, hfz21_1, hfz21_2, hfz21_3, hfz21_4⟩ := cf5 BK285.out
    go_wp2
    go_ret
    exact ⟨rr, bb HB⟩
   rw [if_neg c18] at H
   have c18b0 : (a1_0 == 2) = false := beq_eq_false_iff_ne.mpr c18
   have c18b1 : (a1_0 != 2) = true := bne_iff_ne.mpr c18
   by_cases c24 : a1_0 = 3
   ·rw [if_pos c24] at H
    have c24b0 : (a1_0 == 3) = true := beq_iff_eq.mpr c24
    have c24b1 : (a1_0 != 3) = false := bne_eq_false_iff_eq.mpr c24
    clear c24
    by_cases c25 : x5_2 = true
    rotate_left
    ·replace c25 := Bool.eq_false_iff.mpr c25
     subst c25
     replace H := fi H
     obtain rfl := Option.some.inj H
     obtain ⟨hcz31_0, hcz31_1, hcz31_2, hcz31_3, hcz31_4, hfz31_0, hfz31_1, hfz31_2, hfz31_3, hfz31_4⟩ := cf5 BK285.out
     go_wp2
     go_ret
     exact ⟨rr, bb HB⟩
    subst c25
    replace H := it H
    by_cases c26 : a1_1 ≥ 0
    rotate_left
    ·rw [if_neg c26] at H
     have c26b0 : decide (0 ≤ a1_1) = false := decide_eq_false c26
     clear c26
     obtain rfl := Option.some.inj H
     obtain ⟨hcz30_0, hcz30_1, hcz30_2, hcz30_3, hcz30_4, hfz30_0, hfz30_1, hfz30_2, hfz30_3, hfz30_4⟩ := cf5 BK285.out
     go_wp2
     go_ret
     exact ⟨rr, bb HB⟩
    rw [if_pos c26] at H
    have c26b0 : decide (0 ≤ a1_1) = true := decide_eq_true c26
    clear c26
    by_cases c27 : a1_1 ≤ 47
    ·rw [if_pos c27] at H
     have c27b0 : decide (a1_1 ≤ 47) = true := decide_eq_true c27
     clear c27
     obtain rfl := Option.some.inj H
     obtain ⟨hcz28_0, hcz28_1, hcz28_2, hcz28_3, hcz28_4, hfz28_0, hfz28_1, hfz28_2, hfz28_3, hfz28_4⟩ := cf5 BK285.out
     go_wp2
     go_ret
     exact ⟨rr, bb HB⟩
    rw [if_neg c27] at H
    have c27b0 : decide (a1_1 ≤ 47) = false := decide_eq_false c27
    clear c27
    obtain rfl := Option.some.inj H
    obtain ⟨hcz29_0, hcz29_1, hcz29_2, hcz29_3, hcz29_4, hfz29_0, hfz29_1, hfz29_2, hfz29_3, hfz29_4⟩ := cf5 BK285.out
    go_wp2
    go_ret
    exact ⟨rr, bb HB⟩
   rw [if_neg c24] at H
   have c24b0 : (a1_0 == 3) = false := beq_eq_false_iff_ne.mpr c24
   have c24b1 : (a1_0 != 3) = true := bne_iff_ne.mpr c24
   by_cases c32 : a1_0 = 4
   ·rw [if_pos c32] at H
    have c32b0 : (a1_0 == 4) = true := beq_iff_eq.mpr c32
    have c32b1 : (a1_0 != 4) = false := bne_eq_false_iff_eq.mpr c32
    clear c32
    by_cases c33 : x5_2 = true
    rotate_left
    ·replace c33 := Bool.eq_false_iff.mpr c33
     subst c33
     replace H := fi H
     obtain rfl := Option.some.inj H
     obtain ⟨hcz37_0, hcz37_1, hcz37_2, hcz37_3, hcz37_4, hfz37_0, hfz37_1, hfz37_2, hfz37_3, hfz37_4⟩ := cf5 BK285.out
     go_wp2
     go_ret
     exact ⟨rr, bb HB⟩
    subst c33
    replace H := it H
    obtain ⟨t287, A34, H⟩ := be H
    obtain rfl := Option.some.inj H
    obtain ⟨hcz35_0, hcz35_1, hcz35_2, hcz35_3, hcz35_4, hfz35_0, hfz35_1, hfz35_2, hfz35_3, hfz35_4⟩ := cf5 BK285.out
    go_wp2_with (first | (go_at_call 125; (with_reducible refine (r3_variable.calls _ _ l0 a1_0 a1_1 _ _ l1_2 _ _ l1_3 _ _ l1_4 0 t287 _ ?side1 ?side2 ?side3 ?side4 ?side5 ?side6 ?side7 ?side8 A34.out).mono ?_); (case side1 => exact cb HR0 HB); (case side2 => exact HC0.out); (case side3 => exact cb HR1_2 HB); (case side4 => exact HC1_2.out); (case side5 => exact cb HR1_3 HB); (case side6 => exact HC1_3.out); (case side7 => exact cb HR1_4 HB); (case side8 => exact HC1_4.out); rintro e w36 ⟨rfl, hb⟩; replace BK285 := kb BK285 hb; replace HB := sb HB hb; (try clear hb)))
    go_ret
    exact ⟨rr, bb HB⟩
   rw [if_neg c32] at H
   have c32b0 : (a1_0 == 4) = false := beq_eq_false_iff_ne.mpr c32
   have c32b1 : (a1_0 != 4) = true := bne_iff_ne.mpr c32
   by_cases c38 : a1_0 = 5
   ·rw [if_pos c38] at H
    have c38b0 : (a1_0 == 5) = true := beq_iff_eq.mpr c38
    have c38b1 : (a1_0 != 5) = false := bne_eq_false_iff_eq.mpr c38
    clear c38
    by_cases c39 : x5_2 = true
    rotate_left
    ·replace c39 := Bool.eq_false_iff.mpr c39
     subst c39
     replace H := fi H
     obtain rfl := Option.some.inj H
     obtain ⟨hcz43_0, hcz43_1, hcz43_2, hcz43_3, hcz43_4, hfz43_0, hfz43_1, hfz43_2, hfz43_3, hfz43_4⟩ := cf5 BK285.out
     go_wp2
     go_ret
     exact ⟨rr, bb HB⟩
    subst c39
    replace H := it H
    by_cases c40 : a1_1 = 0
    rotate_left
    ·rw [if_neg c40] at H
     have c40b0 : (a1_1 == 0) = false := beq_eq_false_iff_ne.mpr c40
     have c40b1 : (a1_1 != 0) = true := bne_iff_ne.mpr c40
     obtain rfl := Option.some.inj H
     obtain ⟨hcz42_0, hcz42_1, hcz42_2, hcz42_3, hcz42_4, hfz42_0, hfz42_1, hfz42_2, hfz42_3, hfz42_4⟩ := cf5 BK285.out
     go_wp2
     go_ret
     exact ⟨rr, bb HB⟩
    rw [if_pos c40] at H
    have c40b0 : (a1_1 == 0) = true := beq_iff_eq.mpr c40
    have c40b1 : (a1_1 != 0) = false := bne_eq_false_iff_eq.mpr c40
    clear c40
    obtain rfl := Option.some.inj H
    obtain ⟨hcz41_0, hcz41_1, hcz41_2, hcz41_3, hcz41_4, hfz41_0, hfz41_1, hfz41_2, hfz41_3, hfz41_4⟩ := cf5 BK285.out
    go_wp2
    go_ret
    exact ⟨rr, bb HB⟩
   rw [if_neg c38] at H
   have c38b0 : (a1_0 == 5) = false := beq_eq_false_iff_ne.mpr c38
   have c38b1 : (a1_0 != 5) = true := bne_iff_ne.mpr c38
   by_cases c44 : a1_0 = 6
   rotate_left
   ·rw [if_neg c44] at H
    have c44b0 : (a1_0 == 6) = false := beq_eq_false_iff_ne.mpr c44
    have c44b1 : (a1_0 != 6) = true := bne_iff_ne.mpr c44
    obtain rfl := Option.some.inj H
    obtain ⟨hcz50_0, hcz50_1, hcz50_2, hcz50_3, hcz50_4, hfz50_0, hfz50_1, hfz50_2, hfz50_3, hfz50_4⟩ := cf5 BK285.out
    go_wp2
    go_ret
    exact ⟨rr, bb HB⟩
   rw [if_pos c44] at H
   have c44b0 : (a1_0 == 6) = true := beq_iff_eq.mpr c44
   have c44b1 : (a1_0 != 6) = false := bne_eq_false_iff_eq.mpr c44
   clear c44
   by_cases c45 : x5_2 = true
   rotate_left
   ·replace c45 := Bool.eq_false_iff.mpr c45
    subst c45
    replace H := fi H
    obtain rfl := Option.some.inj H
    obtain ⟨hcz49_0, hcz49_1, hcz49_2, hcz49_3, hcz49_4, hfz49_0, hfz49_1, hfz49_2, hfz49_3, hfz49_4⟩ := cf5 BK285.out
    go_wp2
    go_ret
    exact ⟨rr, bb HB⟩
   subst c45
   replace H := it H
   by_cases c46 : a1_1 = 0
   rotate_left
   ·rw [if_neg c46] at H
    have c46b0 : (a1_1 == 0) = false := beq_eq_false_iff_ne.mpr c46
    have c46b1 : (a1_1 != 0) = true := bne_iff_ne.mpr c46
    obtain rfl := Option.some.inj H
    obtain ⟨hcz48_0, hcz48_1, hcz48_2, hcz48_3, hcz48_4, hfz48_0, hfz48_1, hfz48_2, hfz48_3, hfz48_4⟩ := cf5 BK285.out
    go_wp2
    go_ret
    exact ⟨rr, bb HB⟩
   rw [if_pos c46] at H
   have c46b0 : (a1_1 == 0) = true := beq_iff_eq.mpr c46
   have c46b1 : (a1_1 != 0) = false := bne_eq_false_iff_eq.mpr c46
   clear c46
   obtain rfl := Option.some.inj H
   obtain ⟨hcz47_0, hcz47_1, hcz47_2, hcz47_3, hcz47_4, hfz47_0, hfz47_1, hfz47_2, hfz47_3, hfz47_4⟩ := cf5 BK285.out
   go_wp2
   go_ret
   exact ⟨rr, bb HB⟩
mutual
def r3_rows.l0 : Nat → Int → List (S66) → List (S64) → Int → Option (Bool)
 | 0, _, _, _, _ => none
 | k + 1, x0, x1, x2, x7 => if x7 < (x2.length : Int) then (if 0 ≤ x7 then ((r3_head.f k x1 ((rd_T64 x2 x7).f0) ((rd_T64 x2 x7).f1) ((rd_T64 x2 x7).f2) ((rd_T64 x2 x7).f3) ((rd_T64 x2 x7).f4)).bind fun t289 => (if t289 = true then ((r3_rows.f k x0 x1 ((rd_T64 x2 x7).f3)).bind fun t291 => (if t291 = true then ((r3_rows.f k x0 x1 ((rd_T64 x2 x7).f4)).bind fun t293 => (r3_rows.j1 k x0 x1 x2 x7 (!t293))) else (r3_rows.j1 k x0 x1 x2 x7 true))) else (r3_rows.j1 k x0 x1 x2 x7 true))) else (none)) else (some true)
def r3_rows.j1 : Nat → Int → List (S66) → List (S64) → Int → Bool → Option (Bool)
 | 0, _, _, _, _, _ => none
 | k + 1, x0, x1, x2, x7, x43 => if x43 = true then (some false) else (r3_rows.l1 k x0 x1 x2 x7 0)
def r3_rows.l1 : Nat → Int → List (S66) → List (S64) → Int → Int → Option (Bool)
 | 0, _, _, _, _, _ => none
 | k + 1, x0, x1, x2, x7, x8 => if 0 ≤ x7 then (if x7 < (x2.length : Int) then (if x8 < (((rd_T64 x2 x7).f2).length : Int) then (if 0 ≤ x8 then ((r2_Is.f k x0 x1 1 ((rd_T28 ((rd_T64 x2 x7).f2) x8).f0) ((rd_T28 ((rd_T64 x2 x7).f2) x8).f1) ((rd_T28 ((rd_T64 x2 x7).f2) x8).f2) ((rd_T28 ((rd_T64 x2 x7).f2) x8).f3)).bind fun t297 => (if t297 = true then (r3_rows.l1 k x0 x1 x2 x7 (wrap64 (x8 + 1))) else (some false))) else (none)) else (r3_rows.l0 k x0 x1 x2 (wrap64 (x7 + 1)))) else (none)) else (none)
def r3_rows.f : Nat → Int → List (S66) → List (S64) → Option (Bool)
 | 0, _, _, _ => none
 | k + 1, a0, l1, l2 => r3_rows.l0 k a0 l1 l2 0
end
theorem r3_rows.calls (k : Nat) : ∀ (a0 : Int) (A1 : Option Addr) (c1 : Nat) (l1 : List (S66)) (A2 : Option Addr) (c2 : Nat) (l2 : List (S64)) (r : Bool) (w : World) (hr1 : Kd.C k66 w A1 l1.length l1) (hc1 : l1.length ≤ c1) (hr2 : Kd.C k64 w A2 l2.length l2) (hc2 : l2.length ≤ c2) (h : r3_rows.f k a0 l1 l2 = some r),
  Calls Try.prog 109 #[.int .i64 a0, .slice A1 l1.length c1, .slice A2 l2.length c2] w fun e w' => e = .returned (.bool r) ∧ Below w.heap.size w w' := by
 induction k using Nat.strongRecOn with
 | _ k ih =>
 intro a0 A1 c1 l1 A2 c2 l2 r w hr1 hc1 hr2 hc2 h
 cases k with
 | zero => exact absurd h (by simp [r3_rows.f])
 | succ k =>
 simp only [r3_rows.f] at h
 have hu64 := Try.underlying64
 have hu28 := Try.underlying28
 have HR1 := Aside0.mk hr1
 have HC1 := Aside0.mk hc1
 clear hr1 hc1
 have HR2 := Aside0.mk hr2
 have HC2 := Aside0.mk hc2
 clear hr2 hc2
 have HB := Aside0.mk (Below.refl w.heap.size w)
 have H : (r3_rows.l0 k a0 l1 l2 0) = some r := h
 clear h
 have H' := Aside0.mk H
 clear H
 go_enter Try.func109, Try.ntmps109
 go_wp2
 go_loopg [7] k (fun kq v7 w' => ∃ (x7_1 : Int), v7 = .int .i64 x7_1 ∧ Aside0 (r3_rows.l0 kq a0 l1 l2 x7_1 = some r) ∧ Aside0 (kq ≤ k) ∧ Aside0 (Below w.heap.size w w'))
 case atStart => exact ⟨(0), rs, H', ⟨Nat.le_refl _⟩, ⟨bb HB⟩⟩
 case round =>
  clear H'
  try clear c1
  try clear c2
  try clear p2
  obtain ⟨x7_1, rfl, HA, HK1, HB⟩ := hrel
  cases gk with
  | zero => exact absurd HA.out (by simp [r3_rows.l0])
  | succ k1 =>
   have H := HA.out
   clear HA
   simp only [r3_rows.l0] at H
   by_cases c4 : x7_1 < (l2.length : Int)
   rotate_left
   ·rw [if_neg c4] at H
    have c4b0 : decide (x7_1 < (l2.length : Int)) = false := decide_eq_false c4
    clear c4
    obtain rfl := Option.some.inj H
    go_wp2
    go_ret
    exact ⟨rr, bb HB⟩
   rw [if_pos c4] at H
   have c4b0 : decide (x7_1 < (l2.length : Int)) = true := decide_eq_true c4
   clear c4
   have HC5 := Aside0.mk H
   clear H
   go_upto_region 4 with (fail)
   go_cut [43] (fun v43 wc => ∃ (kq : Nat) (x43_4 : Bool), v43 = .bool x43_4 ∧ Aside0 (r3_rows.j1 kq a0 l1 l2 x7_1 x43_4 = some r) ∧ Aside0 (kq ≤ k1) ∧ Aside0 (Below w.heap.size w wc))
   case first =>
    have H := HC5.out
    clear HC5
    by_cases c6 : 0 ≤ x7_1
    rotate_left
    ·rw [if_neg c6] at H
     exact absurd H (by simp)
    rw [if_pos c6] at H
    have c6b0 : decide (0 ≤ x7_1) = true := decide_eq_true c6
    clear c6
    (first | rw [c6b0] | (simp only [i64_w, i32_w]; rw [c6b0]) | skip)
    obtain ⟨t289, A7, H⟩ := be H
    by_cases c8 : t289 = true
    rotate_left
    ·replace c8 := Bool.eq_false_iff.mpr c8
     subst c8
     replace H := fi H
     have H' := Aside0.mk H
     clear H
     have p288 : 0 ≤ (x7_1 : Int) := od
     have q288 : x7_1 < (l2.length : Int) := od
     obtain ⟨ad288, A288_2, c288_2, A288_3, c288_3, A288_4, c288_4, e288, hx288_0, hx288_1, hx288_2, hx288_3, hx288_4, hl288_2, hi288_2, hl288_3, hi288_3, hl288_4, hi288_4⟩ := at_T64 HR2.out x7_1 p288 q288
     cases e288
     replace hx288_0 := bcell HB.out hx288_0
     replace hx288_1 := bcell HB.out hx288_1
     replace hx288_2 := bcell HB.out hx288_2
     replace hx288_3 := bcell HB.out hx288_3
     replace hx288_4 := bcell HB.out hx288_4
     have HR288_2 := Aside0.mk hi288_2
     have HC288_2 := Aside0.mk hl288_2
     clear hi288_2 hl288_2
     have HR288_3 := Aside0.mk hi288_3
     have HC288_3 := Aside0.mk hl288_3
     clear hi288_3 hl288_3
     have HR288_4 := Aside0.mk hi288_4
     have HC288_4 := Aside0.mk hl288_4
     clear hi288_4 hl288_4
     replace p288 := eq_true p288
     replace q288 := eq_true q288
     go_wp2_with (first | ((with_reducible refine gate_callee (f := 123) rfl ?_); refine gL (some 20) rfl rfl Try.func123 #[.slice A1 l1.length c1, .agg #[.int .i64 ((rd_T64 l2 x7_1).f0), .int .i64 ((rd_T64 l2 x7_1).f1), .slice A288_2 ((rd_T64 l2 x7_1).f2).length c288_2, .slice A288_3 ((rd_T64 l2 x7_1).f3).length c288_3, .slice A288_4 ((rd_T64 l2 x7_1).f4).length c288_4]] rfl ?_; (with_reducible refine (r3_head.calls k1 _ _ l1 ((rd_T64 l2 x7_1).f0) ((rd_T64 l2 x7_1).f1) _ _ ((rd_T64 l2 x7_1).f2) _ _ ((rd_T64 l2 x7_1).f3) _ _ ((rd_T64 l2 x7_1).f4) false _ ?side1 ?side2 ?side3 ?side4 ?side5 ?side6 ?side7 ?side8 A7.out).mono ?_); (case side1 => exact cb HR1 HB); (case side2 => exact HC1.out); (case side3 => exact cb HR288_2 HB); (case side4 => exact HC288_2.out); (case side5 => exact cb HR288_3 HB); (case side6 => exact HC288_3.out); (case side7 => exact cb HR288_4 HB); (case side8 => exact HC288_4.out); rintro e w17 ⟨rfl, hb⟩; refine ⟨_, rfl, ?_⟩; replace HB := sb HB hb; (try clear hb)))
     go_meet
     case rel => exact ⟨_, (true), rs, H', ⟨by have := HK1.out; first | omega | exact Nat.le_refl _⟩, ⟨bb HB⟩⟩
    subst c8
    replace H := it H
    obtain ⟨t291, A9, H⟩ := be H
    by_cases c10 : t291 = true
    rotate_left
    ·replace c10 := Bool.eq_false_iff.mpr c10
     subst c10
     replace H := fi H
     have H' := Aside0.mk H
     clear H
     have p288 : 0 ≤ (x7_1 : Int) := od
     have q288 : x7_1 < (l2.length : Int) := od
     obtain ⟨ad288, A288_2, c288_2, A288_3, c288_3, A288_4, c288_4, e288, hx288_0, hx288_1, hx288_2, hx288_3, hx288_4, hl288_2, hi288_2, hl288_3, hi288_3, hl288_4, hi288_4⟩ := at_T64 HR2.out x7_1 p288 q288
     cases e288
     replace hx288_0 := bcell HB.out hx288_0
     replace hx288_1 := bcell HB.out hx288_1
     replace hx288_2 := bcell HB.out hx288_2
     replace hx288_3 := bcell HB.out hx288_3
     replace hx288_4 := bcell HB.out hx288_4
     have HR288_2 := Aside0.mk hi288_2
     have HC288_2 := Aside0.mk hl288_2
     clear hi288_2 hl288_2
     have HR288_3 := Aside0.mk hi288_3
     have HC288_3 := Aside0.mk hl288_3
     clear hi288_3 hl288_3
     have HR288_4 := Aside0.mk hi288_4
     have HC288_4 := Aside0.mk hl288_4
     clear hi288_4 hl288_4
     replace p288 := eq_true p288
     replace q288 := eq_true q288
     go_wp2_with (first | ((with_reducible refine gate_callee (f := 123) rfl ?_); refine gL (some 20) rfl rfl Try.func123 #[.slice A1 l1.length c1, .agg #[.int .i64 ((rd_T64 l2 x7_1).f0), .int .i64 ((rd_T64 l2 x7_1).f1), .slice A288_2 ((rd_T64 l2 x7_1).f2).length c288_2, .slice A288_3 ((rd_T64 l2 x7_1).f3).length c288_3, .slice A288_4 ((rd_T64 l2 x7_1).f4).length c288_4]] rfl ?_; (with_reducible refine (r3_head.calls k1 _ _ l1 ((rd_T64 l2 x7_1).f0) ((rd_T64 l2 x7_1).f1) _ _ ((rd_T64 l2 x7_1).f2) _ _ ((rd_T64 l2 x7_1).f3) _ _ ((rd_T64 l2 x7_1).f4) true _ ?side1 ?side2 ?side3 ?side4 ?side5 ?side6 ?side7 ?side8 A7.out).mono ?_); (case side1 => exact cb HR1 HB); (case side2 => exact HC1.out); (case side3 => exact cb HR288_2 HB); (case side4 => exact HC288_2.out); (case side5 => exact cb HR288_3 HB); (case side6 => exact HC288_3.out); (case side7 => exact cb HR288_4 HB); (case side8 => exact HC288_4.out); rintro e w15 ⟨rfl, hb⟩; refine ⟨_, rfl, ?_⟩; replace HB := sb HB hb; (try clear hb); have p290 : 0 ≤ (x7_1 : Int) := od; have q290 : x7_1 < (l2.length : Int) := od; obtain ⟨ad290, A290_2, c290_2, A290_3, c290_3, A290_4, c290_4, e290, hx290_0, hx290_1, hx290_2, hx290_3, hx290_4, hl290_2, hi290_2, hl290_3, hi290_3, hl290_4, hi290_4⟩ := at_T64 HR2.out x7_1 p290 q290; obtain rfl : ad288 = ad290 := (by injection e290); replace hx290_0 := bcell HB.out hx290_0; replace hx290_1 := bcell HB.out hx290_1; replace hx290_2 := bcell HB.out hx290_2; replace hx290_3 := bcell HB.out hx290_3; replace hx290_4 := bcell HB.out hx290_4; have HR290_2 := Aside0.mk hi290_2; have HC290_2 := Aside0.mk hl290_2; clear hi290_2 hl290_2; have HR290_3 := Aside0.mk hi290_3; have HC290_3 := Aside0.mk hl290_3; clear hi290_3 hl290_3; have HR290_4 := Aside0.mk hi290_4; have HC290_4 := Aside0.mk hl290_4; clear hi290_4 hl290_4; replace p290 := eq_true p290; replace q290 := eq_true q290) | (go_at_call 109; (with_reducible refine (ih k1 (by have := HK1.out; omega) a0 _ _ l1 _ _ ((rd_T64 l2 x7_1).f3) false _ ?side1 ?side2 ?side3 ?side4 A9.out).mono ?_); (case side1 => exact cb HR1 HB); (case side2 => exact HC1.out); (case side3 => exact cb HR290_3 HB); (case side4 => exact HC290_3.out); rintro e w16 ⟨rfl, hb⟩; replace HB := sb HB hb; (try clear hb)))
     go_meet
     case rel => exact ⟨_, (true), rs, H', ⟨by have := HK1.out; first | omega | exact Nat.le_refl _⟩, ⟨bb HB⟩⟩
    subst c10
    replace H := it H
    obtain ⟨t293, A11, H⟩ := be H
    have H' := Aside0.mk H
    clear H
    have p288 : 0 ≤ (x7_1 : Int) := od
    have q288 : x7_1 < (l2.length : Int) := od
    obtain ⟨ad288, A288_2, c288_2, A288_3, c288_3, A288_4, c288_4, e288, hx288_0, hx288_1, hx288_2, hx288_3, hx288_4, hl288_2, hi288_2, hl288_3, hi288_3, hl288_4, hi288_4⟩ := at_T64 HR2.out x7_1 p288 q288
    cases e288
    replace hx288_0 := bcell HB.out hx288_0
    replace hx288_1 := bcell HB.out hx288_1
    replace hx288_2 := bcell HB.out hx288_2
    replace hx288_3 := bcell HB.out hx288_3
    replace hx288_4 := bcell HB.out hx288_4
    have HR288_2 := Aside0.mk hi288_2
    have HC288_2 := Aside0.mk hl288_2
    clear hi288_2 hl288_2
    have HR288_3 := Aside0.mk hi288_3
    have HC288_3 := Aside0.mk hl288_3
    clear hi288_3 hl288_3
    have HR288_4 := Aside0.mk hi288_4
    have HC288_4 := Aside0.mk hl288_4
    clear hi288_4 hl288_4
    replace p288 := eq_true p288
    replace q288 := eq_true q288
    go_wp2_with (first | ((with_reducible refine gate_callee (f := 123) rfl ?_); refine gL (some 20) rfl rfl Try.func123 #[.slice A1 l1.length c1, .agg #[.int .i64 ((rd_T64 l2 x7_1).f0), .int .i64 ((rd_T64 l2 x7_1).f1), .slice A288_2 ((rd_T64 l2 x7_1).f2).length c288_2, .slice A288_3 ((rd_T64 l2 x7_1).f3).length c288_3, .slice A288_4 ((rd_T64 l2 x7_1).f4).length c288_4]] rfl ?_; (with_reducible refine (r3_head.calls k1 _ _ l1 ((rd_T64 l2 x7_1).f0) ((rd_T64 l2 x7_1).f1) _ _ ((rd_T64 l2 x7_1).f2) _ _ ((rd_T64 l2 x7_1).f3) _ _ ((rd_T64 l2 x7_1).f4) true _ ?side1 ?side2 ?side3 ?side4 ?side5 ?side6 ?side7 ?side8 A7.out).mono ?_); (case side1 => exact cb HR1 HB); (case side2 => exact HC1.out); (case side3 => exact cb HR288_2 HB); (case side4 => exact HC288_2.out); (case side5 => exact cb HR288_3 HB); (case side6 => exact HC288_3.out); (case side7 => exact cb HR288_4 HB); (case side8 => exact HC288_4.out); rintro e w12 ⟨rfl, hb⟩; refine ⟨_, rfl, ?_⟩; replace HB := sb HB hb; (try clear hb); have p290 : 0 ≤ (x7_1 : Int) := od; have q290 : x7_1 < (l2.length : Int) := od; obtain ⟨ad290, A290_2, c290_2, A290_3, c290_3, A290_4, c290_4, e290, hx290_0, hx290_1, hx290_2, hx290_3, hx290_4, hl290_2, hi290_2, hl290_3, hi290_3, hl290_4, hi290_4⟩ := at_T64 HR2.out x7_1 p290 q290; obtain rfl : ad288 = ad290 := (by injection e290); replace hx290_0 := bcell HB.out hx290_0; replace hx290_1 := bcell HB.out hx290_1; replace hx290_2 := bcell HB.out hx290_2; replace hx290_3 := bcell HB.out hx290_3; replace hx290_4 := bcell HB.out hx290_4; have HR290_2 := Aside0.mk hi290_2; have HC290_2 := Aside0.mk hl290_2; clear hi290_2 hl290_2; have HR290_3 := Aside0.mk hi290_3; have HC290_3 := Aside0.mk hl290_3; clear hi290_3 hl290_3; have HR290_4 := Aside0.mk hi290_4; have HC290_4 := Aside0.mk hl290_4; clear hi290_4 hl290_4; replace p290 := eq_true p290; replace q290 := eq_true q290) | (go_at_call 109; (with_reducible refine (ih k1 (by have := HK1.out; omega) a0 _ _ l1 _ _ ((rd_T64 l2 x7_1).f3) true _ ?side1 ?side2 ?side3 ?side4 A9.out).mono ?_); (case side1 => exact cb HR1 HB); (case side2 => exact HC1.out); (case side3 => exact cb HR290_3 HB); (case side4 => exact HC290_3.out); rintro e w13 ⟨rfl, hb⟩; replace HB := sb HB hb; (try clear hb); have p292 : 0 ≤ (x7_1 : Int) := od; have q292 : x7_1 < (l2.length : Int) := od; obtain ⟨ad292, A292_2, c292_2, A292_3, c292_3, A292_4, c292_4, e292, hx292_0, hx292_1, hx292_2, hx292_3, hx292_4, hl292_2, hi292_2, hl292_3, hi292_3, hl292_4, hi292_4⟩ := at_T64 HR2.out x7_1 p292 q292; obtain rfl : ad288 = ad292 := (by injection e292); replace hx292_0 := bcell HB.out hx292_0; replace hx292_1 := bcell HB.out hx292_1; replace hx292_2 := bcell HB.out hx292_2; replace hx292_3 := bcell HB.out hx292_3; replace hx292_4 := bcell HB.out hx292_4; have HR292_2 := Aside0.mk hi292_2; have HC292_2 := Aside0.mk hl292_2; clear hi292_2 hl292_2; have HR292_3 := Aside0.mk hi292_3; have HC292_3 := Aside0.mk hl292_3; clear hi292_3 hl292_3; have HR292_4 := Aside0.mk hi292_4; have HC292_4 := Aside0.mk hl292_4; clear hi292_4 hl292_4; replace p292 := eq_true p292; replace q292 := eq_true q292) | (go_at_call 109; (with_reducible refine (ih k1 (by have := HK1.out; omega) a0 _ _ l1 _ _ ((rd_T64 l2 x7_1).f4) t293 _ ?side1 ?side2 ?side3 ?side4 A11.out).mono ?_); (case side1 => exact cb HR1 HB); (case side2 => exact HC1.out); (case side3 => exact cb HR292_4 HB); (case side4 => exact HC292_4.out); rintro e w14 ⟨rfl, hb⟩; replace HB := sb HB hb; (try clear hb)))
    go_meet
    case rel => exact ⟨_, (!t293), rs, H', ⟨by have := HK1.out; first | omega | exact Nat.le_refl _⟩, ⟨bb HB⟩⟩
   case rest =>
    clear HC5
    try clear c1
    try clear c2
    try clear p2
    try clear q2
    try clear hx2
    try clear c4
    try clear c4b0
    try clear c6
    try clear c6b0
    try clear c8
    try clear c10
    try clear c12
    try clear hx288_0
    try clear hx288_1
    try clear hx288_2
    try clear hx288_3
    try clear hx288_4
    try clear hx290_0
    try clear hx290_1
    try clear hx290_2
    try clear hx290_3
    try clear hx290_4
    try clear hx292_0
    try clear hx292_1
    try clear hx292_2
    try clear hx292_3
    try clear hx292_4
    try clear p2
    try clear p288
    try clear p290
    try clear p292
    try clear q288
    try clear q290
    try clear q292
    obtain ⟨kq, x43_4, rfl, HA, HJ4, HB⟩ := hcut
    cases kq with
    | zero => exact absurd HA.out (by simp [r3_rows.j1])
    | succ kj4 =>
     have H := HA.out
     clear HA
     simp only [r3_rows.j1] at H
     by_cases c18 : x43_4 = true
     ·subst c18
      replace H := it H
      obtain rfl := Option.some.inj H
      go_wp2
      go_ret
      exact ⟨rr, bb HB⟩
     replace c18 := Bool.eq_false_iff.mpr c18
     subst c18
     replace H := fi H
     have H' := Aside0.mk H
     clear H
     go_wp2
     go_loopg [8] kj4 (fun kq v8 w' => ∃ (x8_3 : Int), v8 = .int .i64 x8_3 ∧ Aside0 (r3_rows.l1 kq a0 l1 l2 x7_1 x8_3 = some r) ∧ Aside0 (kq ≤ kj4) ∧ Aside0 (Below w.heap.size w w'))
     case atStart => exact ⟨(0), rs, H', ⟨Nat.le_refl _⟩, ⟨bb HB⟩⟩
     case round =>
      clear H'
      try clear c1
      try clear c2
      try clear p2
      try clear q2
      try clear hx2
      try clear c4
      try clear c4b0
      try clear c6
      try clear c6b0
      try clear c8
      try clear c10
      try clear c12
      try clear c18
      try clear hx288_0
      try clear hx288_1
      try clear hx288_2
      try clear hx288_3
      try clear hx288_4
      try clear hx290_0
      try clear hx290_1
      try clear hx290_2
      try clear hx290_3
      try clear hx290_4
      try clear hx292_0
      try clear hx292_1
      try clear hx292_2
      try clear hx292_3
      try clear hx292_4
      try clear p2
      try clear p288
      try clear p290
      try clear p292
      try clear q2
      try clear q288
      try clear q290
      try clear q292
      obtain ⟨x8_3, rfl, HA, HK3, HB⟩ := hrel
      cases gk with
      | zero => exact absurd HA.out (by simp [r3_rows.l1])
      | succ k3 =>
       have H := HA.out
       clear HA
       simp only [r3_rows.l1] at H
       by_cases c19 : 0 ≤ x7_1
       rotate_left
       ·rw [if_neg c19] at H
        exact absurd H (by simp)
       rw [if_pos c19] at H
       have c19b0 : decide (0 ≤ x7_1) = true := decide_eq_true c19
       clear c19
       by_cases c20 : x7_1 < (l2.length : Int)
       rotate_left
       ·rw [if_neg c20] at H
        exact absurd H (by simp)
       rw [if_pos c20] at H
       have c20b0 : decide (x7_1 < (l2.length : Int)) = true := decide_eq_true c20
       clear c20
       by_cases c21 : x8_3 < (((rd_T64 l2 x7_1).f2).length : Int)
       rotate_left
       ·rw [if_neg c21] at H
        have c21b0 : decide (x8_3 < (((rd_T64 l2 x7_1).f2).length : Int)) = false := decide_eq_false c21
        clear c21
        have H' := Aside0.mk H
        clear H
        have p294 : 0 ≤ (x7_1 : Int) := od
        have q294 : x7_1 < (l2.length : Int) := od
        obtain ⟨ad294, A294_2, c294_2, A294_3, c294_3, A294_4, c294_4, e294, hx294_0, hx294_1, hx294_2, hx294_3, hx294_4, hl294_2, hi294_2, hl294_3, hi294_3, hl294_4, hi294_4⟩ := at_T64 HR2.out x7_1 p294 q294
        cases e294
        replace hx294_0 := bcell HB.out hx294_0
        replace hx294_1 := bcell HB.out hx294_1
        replace hx294_2 := bcell HB.out hx294_2
        replace hx294_3 := bcell HB.out hx294_3
        replace hx294_4 := bcell HB.out hx294_4
        have HR294_2 := Aside0.mk hi294_2
        have HC294_2 := Aside0.mk hl294_2
        clear hi294_2 hl294_2
        have HR294_3 := Aside0.mk hi294_3
        have HC294_3 := Aside0.mk hl294_3
        clear hi294_3 hl294_3
        have HR294_4 := Aside0.mk hi294_4
        have HC294_4 := Aside0.mk hl294_4
        clear hi294_4 hl294_4
        replace p294 := eq_true p294
        replace q294 := eq_true q294
        go_wp2
        go_roundg k3
        case measure => have := HK1.out; have := HJ4.out; have := HK3.out; omega
        case rel => exact ⟨(wrap64 (x7_1 + 1)), rs, H', ⟨by have := HK1.out; have := HJ4.out; have := HK3.out; omega⟩, ⟨bb HB⟩⟩
       rw [if_pos c21] at H
       have c21b0 : decide (x8_3 < (((rd_T64 l2 x7_1).f2).length : Int)) = true := decide_eq_true c21
       clear c21
       by_cases c22 : 0 ≤ x8_3
       rotate_left
       ·rw [if_neg c22] at H
        exact absurd H (by simp)
       rw [if_pos c22] at H
       have c22b0 : decide (0 ≤ x8_3) = true := decide_eq_true c22
       clear c22
       obtain ⟨t297, A23, H⟩ := be H
       by_cases c24 : t297 = true
       rotate_left
       ·replace c24 := Bool.eq_false_iff.mpr c24
        subst c24
        replace H := fi H
        obtain rfl := Option.some.inj H
        have p294 : 0 ≤ (x7_1 : Int) := od
        have q294 : x7_1 < (l2.length : Int) := od
        obtain ⟨ad294, A294_2, c294_2, A294_3, c294_3, A294_4, c294_4, e294, hx294_0, hx294_1, hx294_2, hx294_3, hx294_4, hl294_2, hi294_2, hl294_3, hi294_3, hl294_4, hi294_4⟩ := at_T64 HR2.out x7_1 p294 q294
        cases e294
        replace hx294_0 := bcell HB.out hx294_0
        replace hx294_1 := bcell HB.out hx294_1
        replace hx294_2 := bcell HB.out hx294_2
        replace hx294_3 := bcell HB.out hx294_3
        replace hx294_4 := bcell HB.out hx294_4
        have HR294_2 := Aside0.mk hi294_2
        have HC294_2 := Aside0.mk hl294_2
        clear hi294_2 hl294_2
        have HR294_3 := Aside0.mk hi294_3
        have HC294_3 := Aside0.mk hl294_3
        clear hi294_3 hl294_3
        have HR294_4 := Aside0.mk hi294_4
        have HC294_4 := Aside0.mk hl294_4
        clear hi294_4 hl294_4
        replace p294 := eq_true p294
        replace q294 := eq_true q294
        have p296 : 0 ≤ (x8_3 : Int) := od
        have q296 : x8_3 < (((rd_T64 l2 x7_1).f2).length : Int) := od
        obtain ⟨ad296, A296_3, c296_3, e296, hx296_0, hx296_1, hx296_2, hx296_3, hl296_3, hi296_3⟩ := at_T28 HR294_2.out x8_3 p296 q296
        cases e296
        replace hx296_0 := bcell HB.out hx296_0
        replace hx296_1 := bcell HB.out hx296_1
        replace hx296_2 := bcell HB.out hx296_2
        replace hx296_3 := bcell HB.out hx296_3
        have HR296_3 := Aside0.mk hi296_3
        have HC296_3 := Aside0.mk hl296_3
        clear hi296_3 hl296_3
        replace p296 := eq_true p296
        replace q296 := eq_true q296
        go_wp2_with (first | ((with_reducible refine gate_callee (f := 20) rfl ?_); refine gL (some 64) rfl rfl Try.func20 #[.int .i64 a0, .slice A1 l1.length c1, .int .i64 1, .agg #[.int .i64 ((rd_T28 ((rd_T64 l2 x7_1).f2) x8_3).f0), .int .i64 ((rd_T28 ((rd_T64 l2 x7_1).f2) x8_3).f1), .int .i64 ((rd_T28 ((rd_T64 l2 x7_1).f2) x8_3).f2), .slice A296_3 ((rd_T28 ((rd_T64 l2 x7_1).f2) x8_3).f3).length c296_3]] rfl ?_; (with_reducible refine (r2_Is.calls k3 a0 _ _ l1 1 ((rd_T28 ((rd_T64 l2 x7_1).f2) x8_3).f0) ((rd_T28 ((rd_T64 l2 x7_1).f2) x8_3).f1) ((rd_T28 ((rd_T64 l2 x7_1).f2) x8_3).f2) _ _ ((rd_T28 ((rd_T64 l2 x7_1).f2) x8_3).f3) false _ ?side1 ?side2 ?side3 ?side4 A23.out).mono ?_); (case side1 => exact cb HR1 HB); (case side2 => exact HC1.out); (case side3 => exact cb HR296_3 HB); (case side4 => exact HC296_3.out); rintro e w26 ⟨rfl, hb⟩; refine ⟨_, rfl, ?_⟩; replace HB := sb HB hb; (try clear hb)))
        go_ret
        exact ⟨rr, bb HB⟩
       subst c24
       replace H := it H
       have H' := Aside0.mk H
       clear H
       have p294 : 0 ≤ (x7_1 : Int) := od
       have q294 : x7_1 < (l2.length : Int) := od
       obtain ⟨ad294, A294_2, c294_2, A294_3, c294_3, A294_4, c294_4, e294, hx294_0, hx294_1, hx294_2, hx294_3, hx294_4, hl294_2, hi294_2, hl294_3, hi294_3, hl294_4, hi294_4⟩ := at_T64 HR2.out x7_1 p294 q294
       cases e294
       replace hx294_0 := bcell HB.out hx294_0
       replace hx294_1 := bcell HB.out hx294_1
       replace hx294_2 := bcell HB.out hx294_2
       replace hx294_3 := bcell HB.out hx294_3
       replace hx294_4 := bcell HB.out hx294_4
       have HR294_2 := Aside0.mk hi294_2
       have HC294_2 := Aside0.mk hl294_2
       clear hi294_2 hl294_2
       have HR294_3 := Aside0.mk hi294_3
       have HC294_3 := Aside0.mk hl294_3
       clear hi294_3 hl294_3
       have HR294_4 := Aside0.mk hi294_4
       have HC294_4 := Aside0.mk hl294_4
       clear hi294_4 hl294_4
       replace p294 := eq_true p294
       replace q294 := eq_true q294
       have p296 : 0 ≤ (x8_3 : Int) := od
       have q296 : x8_3 < (((rd_T64 l2 x7_1).f2).length : Int) := od
       obtain ⟨ad296, A296_3, c296_3, e296, hx296_0, hx296_1, hx296_2, hx296_3, hl296_3, hi296_3⟩ := at_T28 HR294_2.out x8_3 p296 q296
       cases e296
       replace hx296_0 := bcell HB.out hx296_0
       replace hx296_1 := bcell HB.out hx296_1
       replace hx296_2 := bcell HB.out hx296_2
       replace hx296_3 := bcell HB.out hx296_3
       have HR296_3 := Aside0.mk hi296_3
       have HC296_3 := Aside0.mk hl296_3
       clear hi296_3 hl296_3
       replace p296 := eq_true p296
       replace q296 := eq_true q296
       go_wp2_with (first | ((with_reducible refine gate_callee (f := 20) rfl ?_); refine gL (some 64) rfl rfl Try.func20 #[.int .i64 a0, .slice A1 l1.length c1, .int .i64 1, .agg #[.int .i64 ((rd_T28 ((rd_T64 l2 x7_1).f2) x8_3).f0), .int .i64 ((rd_T28 ((rd_T64 l2 x7_1).f2) x8_3).f1), .int .i64 ((rd_T28 ((rd_T64 l2 x7_1).f2) x8_3).f2), .slice A296_3 ((rd_T28 ((rd_T64 l2 x7_1).f2) x8_3).f3).length c296_3]] rfl ?_; (with_reducible refine (r2_Is.calls k3 a0 _ _ l1 1 ((rd_T28 ((rd_T64 l2 x7_1).f2) x8_3).f0) ((rd_T28 ((rd_T64 l2 x7_1).f2) x8_3).f1) ((rd_T28 ((rd_T64 l2 x7_1).f2) x8_3).f2) _ _ ((rd_T28 ((rd_T64 l2 x7_1).f2) x8_3).f3) true _ ?side1 ?side2 ?side3 ?side4 A23.out).mono ?_); (case side1 => exact cb HR1 HB); (case side2 => exact HC1.out); (case side3 => exact cb HR296_3 HB); (case side4 => exact HC296_3.out); rintro e w25 ⟨rfl, hb⟩; refine ⟨_, rfl, ?_⟩; replace HB := sb HB hb; (try clear hb)))
       go_roundg k3
       case measure => have := HK1.out; have := HJ4.out; have := HK3.out; omega
       case rel => exact ⟨(wrap64 (x8_3 + 1)), rs, H', ⟨by have := HK1.out; have := HJ4.out; have := HK3.out; omega⟩, ⟨bb HB⟩⟩
def r3_Is.f (k : Nat) (a0_0 : Int) (l0_1 : List (S66)) (l0_2 : List (S64)) : Option (Bool) := (r2_Heading.f k a0_0 l0_1).bind fun t299 => (if t299 = true then ((r3_Fits.f k l0_2 400).bind fun t300 => (if t300 = true then ((r3_Depth.f k l0_2).bind fun t301 => (if t301 ≤ 16 then ((r3_rows.f k a0_0 l0_1 l0_2).bind fun t302 => (some t302)) else (some false))) else (some false))) else (some false))
theorem r3_Is.calls (k : Nat) (a0_0 : Int) (A0_1 : Option Addr) (c0_1 : Nat) (l0_1 : List (S66)) (A0_2 : Option Addr) (c0_2 : Nat) (l0_2 : List (S64)) (r : Bool) (w : World) (hr0_1 : Kd.C k66 w A0_1 l0_1.length l0_1) (hc0_1 : l0_1.length ≤ c0_1) (hr0_2 : Kd.C k64 w A0_2 l0_2.length l0_2) (hc0_2 : l0_2.length ≤ c0_2) (h : r3_Is.f k a0_0 l0_1 l0_2 = some r) :
  Calls Try.prog 87 #[.agg #[.int .i64 a0_0, .slice A0_1 l0_1.length c0_1, .slice A0_2 l0_2.length c0_2]] w fun e w' => e = .returned (.bool r) ∧ Below w.heap.size w w' := by
 have hu25 := Try.underlying25
 have HR0_1 := Aside0.mk hr0_1
 have HC0_1 := Aside0.mk hc0_1
 clear hr0_1 hc0_1
 have HR0_2 := Aside0.mk hr0_2
 have HC0_2 := Aside0.mk hc0_2
 clear hr0_2 hc0_2
 have HB := Aside0.mk (Below.refl w.heap.size w)
 have H : ((r2_Heading.f k a0_0 l0_1).bind fun t299 => (if t299 = true then ((r3_Fits.f k l0_2 400).bind fun t300 => (if t300 = true then ((r3_Depth.f k l0_2).bind fun t301 => (if t301 ≤ 16 then ((r3_rows.f k a0_0 l0_1 l0_2).bind fun t302 => (some t302)) else (some false))) else (some false))) else (some false))) = some r := h
 clear h
 obtain ⟨t299, A2, H⟩ := be H
 by_cases c3 : t299 = true
 rotate_left
 ·replace c3 := Bool.eq_false_iff.mpr c3
  subst c3
  replace H := fi H
  obtain rfl := Option.some.inj H
  go_enter Try.func87, Try.ntmps87
  go_wp2_with (first | ((with_reducible refine gate_dst (N := 1) rfl ?_); refine bx 1 rfl rfl #[.int .i64 a0_0, .slice A0_1 l0_1.length c0_1, .slice A0_2 l0_2.length c0_2] 25 ?_; intro gb298 hg w30 hbox hb; have BK298 := Aside0.mk (hbox); have GE298 := ge HB hg; replace HB := sb HB hb; clear hb hbox hg; obtain ⟨hcz31_0, hcz31_1, hcz31_2, hfz31_0, hfz31_1, hfz31_2⟩ := cf3 BK298.out) | ((with_reducible refine gate_callee (f := 50) rfl ?_); refine gL (some 7) rfl rfl Try.func50 #[.int .i64 a0_0, .slice A0_1 l0_1.length c0_1] rfl ?_; (with_reducible refine (r2_Heading.calls k a0_0 _ _ l0_1 false _ ?side1 ?side2 A2.out).mono ?_); (case side1 => exact cb HR0_1 HB); (case side2 => exact HC0_1.out); rintro e w32 ⟨rfl, hb⟩; refine ⟨_, rfl, ?_⟩; replace BK298 := kb BK298 hb; replace HB := sb HB hb; (try clear hb)))
  go_ret
  exact ⟨rr, bb HB⟩
 subst c3
 replace H := it H
 obtain ⟨t300, A4, H⟩ := be H
 by_cases c5 : t300 = true
 rotate_left
 ·replace c5 := Bool.eq_false_iff.mpr c5
  subst c5
  replace H := fi H
  obtain rfl := Option.some.inj H
  go_enter Try.func87, Try.ntmps87
  go_wp2_with (first | ((with_reducible refine gate_dst (N := 1) rfl ?_); refine bx 1 rfl rfl #[.int .i64 a0_0, .slice A0_1 l0_1.length c0_1, .slice A0_2 l0_2.length c0_2] 25 ?_; intro gb298 hg w25 hbox hb; have BK298 := Aside0.mk (hbox); have GE298 := ge HB hg; replace HB := sb HB hb; clear hb hbox hg; obtain ⟨hcz26_0, hcz26_1, hcz26_2, hfz26_0, hfz26_1, hfz26_2⟩ := cf3 BK298.out) | ((with_reducible refine gate_callee (f := 50) rfl ?_); refine gL (some 7) rfl rfl Try.func50 #[.int .i64 a0_0, .slice A0_1 l0_1.length c0_1] rfl ?_; (with_reducible refine (r2_Heading.calls k a0_0 _ _ l0_1 true _ ?side1 ?side2 A2.out).mono ?_); (case side1 => exact cb HR0_1 HB); (case side2 => exact HC0_1.out); rintro e w27 ⟨rfl, hb⟩; refine ⟨_, rfl, ?_⟩; replace BK298 := kb BK298 hb; replace HB := sb HB hb; (try clear hb); obtain ⟨hcz28_0, hcz28_1, hcz28_2, hfz28_0, hfz28_1, hfz28_2⟩ := cf3 BK298.out) | (go_at_call 9; (with_reducible refine (r3_Fits.calls k _ _ l0_2 400 false _ ?side1 ?side2 A4.out).mono ?_); (case side1 => exact cb HR0_2 HB); (case side2 => exact HC0_2.out); rintro e w29 ⟨rfl, hb⟩; replace BK298 := kb BK298 hb; replace HB := sb HB hb; (try clear hb)))
  go_ret
  exact ⟨rr, bb HB⟩
 subst c5
 replace H := it H
 obtain ⟨t301, A6, H⟩ := be H
 by_cases c7 : t301 ≤ 16
 rotate_left
 ·rw [if_neg c7] at H
  have c7b0 : decide (t301 ≤ 16) = false := decide_eq_false c7
  clear c7
  obtain rfl := Option.some.inj H
  go_enter Try.func87, Try.ntmps87
  go_wp2_with (first | ((with_reducible refine gate_dst (N := 1) rfl ?_); refine bx 1 rfl rfl #[.int .i64 a0_0, .slice A0_1 l0_1.length c0_1, .slice A0_2 l0_2.length c0_2] 25 ?_; intro gb298 hg w18 hbox hb; have BK298 := Aside0.mk (hbox); have GE298 := ge HB hg; replace HB := sb HB hb; clear hb hbox hg; obtain ⟨hcz19_0, hcz19_1, hcz19_2, hfz19_0, hfz19_1, hfz19_2⟩ := cf3 BK298.out) | ((with_reducible refine gate_callee (f := 50) rfl ?_); refine gL (some 7) rfl rfl Try.func50 #[.int .i64 a0_0, .slice A0_1 l0_1.length c0_1] rfl ?_; (with_reducible refine (r2_Heading.calls k a0_0 _ _ l0_1 true _ ?side1 ?side2 A2.out).mono ?_); (case side1 => exact cb HR0_1 HB); (case side2 => exact HC0_1.out); rintro e w20 ⟨rfl, hb⟩; refine ⟨_, rfl, ?_⟩; replace BK298 := kb BK298 hb; replace HB := sb HB hb; (try clear hb); obtain ⟨hcz21_0, hcz21_1, hcz21_2, hfz21_0, hfz21_1, hfz21_2⟩ := cf3 BK298.out) | (go_at_call 9; (with_reducible refine (r3_Fits.calls k _ _ l0_2 400 true _ ?side1 ?side2 A4.out).mono ?_); (case side1 => exact cb HR0_2 HB); (case side2 => exact HC0_2.out); rintro e w22 ⟨rfl, hb⟩; replace BK298 := kb BK298 hb; replace HB := sb HB hb; (try clear hb); obtain ⟨hcz23_0, hcz23_1, hcz23_2, hfz23_0, hfz23_1, hfz23_2⟩ := cf3 BK298.out) | (go_at_call 108; (with_reducible refine (r3_Depth.calls k _ _ l0_2 t301 _ ?side1 ?side2 A6.out).mono ?_); (case side1 => exact cb HR0_2 HB); (case side2 => exact HC0_2.out); rintro e w24 ⟨rfl, hb⟩; replace BK298 := kb BK298 hb; replace HB := sb HB hb; (try clear hb)))
  go_ret
  exact ⟨rr, bb HB⟩
 rw [if_pos c7] at H
 have c7b0 : decide (t301 ≤ 16) = true := decide_eq_true c7
 clear c7
 obtain ⟨t302, A8, H⟩ := be H
 obtain rfl := Option.some.inj H
 go_enter Try.func87, Try.ntmps87
 go_wp2_with (first | ((with_reducible refine gate_dst (N := 1) rfl ?_); refine bx 1 rfl rfl #[.int .i64 a0_0, .slice A0_1 l0_1.length c0_1, .slice A0_2 l0_2.length c0_2] 25 ?_; intro gb298 hg w9 hbox hb; have BK298 := Aside0.mk (hbox); have GE298 := ge HB hg; replace HB := sb HB hb; clear hb hbox hg; obtain ⟨hcz10_0, hcz10_1, hcz10_2, hfz10_0, hfz10_1, hfz10_2⟩ := cf3 BK298.out) | ((with_reducible refine gate_callee (f := 50) rfl ?_); refine gL (some 7) rfl rfl Try.func50 #[.int .i64 a0_0, .slice A0_1 l0_1.length c0_1] rfl ?_; (with_reducible refine (r2_Heading.calls k a0_0 _ _ l0_1 true _ ?side1 ?side2 A2.out).mono ?_); (case side1 => exact cb HR0_1 HB); (case side2 => exact HC0_1.out); rintro e w11 ⟨rfl, hb⟩; refine ⟨_, rfl, ?_⟩; replace BK298 := kb BK298 hb; replace HB := sb HB hb; (try clear hb); obtain ⟨hcz12_0, hcz12_1, hcz12_2, hfz12_0, hfz12_1, hfz12_2⟩ := cf3 BK298.out) | (go_at_call 9; (with_reducible refine (r3_Fits.calls k _ _ l0_2 400 true _ ?side1 ?side2 A4.out).mono ?_); (case side1 => exact cb HR0_2 HB); (case side2 => exact HC0_2.out); rintro e w13 ⟨rfl, hb⟩; replace BK298 := kb BK298 hb; replace HB := sb HB hb; (try clear hb); obtain ⟨hcz14_0, hcz14_1, hcz14_2, hfz14_0, hfz14_1, hfz14_2⟩ := cf3 BK298.out) | (go_at_call 108; (with_reducible refine (r3_Depth.calls k _ _ l0_2 t301 _ ?side1 ?side2 A6.out).mono ?_); (case side1 => exact cb HR0_2 HB); (case side2 => exact HC0_2.out); rintro e w15 ⟨rfl, hb⟩; replace BK298 := kb BK298 hb; replace HB := sb HB hb; (try clear hb); obtain ⟨hcz16_0, hcz16_1, hcz16_2, hfz16_0, hfz16_1, hfz16_2⟩ := cf3 BK298.out) | (go_at_call 109; (with_reducible refine (r3_rows.calls k a0_0 _ _ l0_1 _ _ l0_2 t302 _ ?side1 ?side2 ?side3 ?side4 A8.out).mono ?_); (case side1 => exact cb HR0_1 HB); (case side2 => exact HC0_1.out); (case side3 => exact cb HR0_2 HB); (case side4 => exact HC0_2.out); rintro e w17 ⟨rfl, hb⟩; replace BK298 := kb BK298 hb; replace HB := sb HB hb; (try clear hb)))
 go_ret
 exact ⟨rr, bb HB⟩
theorem S_ind {P : S64 → Prop} {Q : List S64 → Prop} (node : ∀ a b l t e, Q t → Q e → P ⟨a, b, l, t, e⟩) (nil : Q []) (cons : ∀ x r, P x → Q r → Q (x :: r)) : (∀ x, P x) ∧ (∀ l, Q l) :=
  ⟨fun x => S64.rec (motive_1 := P) (motive_2 := Q) node nil cons x, fun l => S64.rec_1 (motive_1 := P) (motive_2 := Q) node nil cons l⟩
mutual
def sN : S64 → Nat
  | ⟨_, _, a, t, e⟩ => 1 + eNs a + sNs t + sNs e
def sNs : List S64 → Nat
  | [] => 0
  | x :: r => sN x + sNs r
end
mutual
def sC : S64 → Nat
  | ⟨_, _, _, t, e⟩ => 1 + sCs t + sCs e
def sCs : List S64 → Nat
  | [] => 0
  | x :: r => sC x + sCs r
end
mutual
def sD : S64 → Nat
  | ⟨_, _, _, t, e⟩ => 1 + max (sDs t) (sDs e)
def sDs : List S64 → Nat
  | [] => 0
  | x :: r => max (sD x) (sDs r)
end
theorem sN_eq (x : S64) : sN x = 1 + eNs x.f2 + sNs x.f3 + sNs x.f4 := by cases x; simp only [sN]
theorem sC_eq (x : S64) : sC x = 1 + sCs x.f3 + sCs x.f4 := by cases x; simp only [sC]
theorem sD_eq (x : S64) : sD x = 1 + max (sDs x.f3) (sDs x.f4) := by cases x; simp only [sD]
theorem sNs_nil : sNs [] = 0 := by simp only [sNs]
theorem sCs_nil : sCs [] = 0 := by simp only [sCs]
theorem sDs_nil : sDs [] = 0 := by simp only [sDs]
theorem sNs_cons (x : S64) (r : List S64) : sNs (x :: r) = sN x + sNs r := by simp only [sNs]
theorem sCs_cons (x : S64) (r : List S64) : sCs (x :: r) = sC x + sCs r := by simp only [sCs]
theorem sDs_cons (x : S64) (r : List S64) : sDs (x :: r) = max (sD x) (sDs r) := by simp only [sDs]
theorem eNs_nil : eNs [] = 0 := by simp only [eNs]
theorem eNs_cons (x : S28) (r : List S28) : eNs (x :: r) = eN x + eNs r := by simp only [eNs]
theorem s_le : (∀ x, sC x ≤ sN x ∧ sD x ≤ sN x) ∧ (∀ l, sCs l ≤ sNs l ∧ sDs l ≤ sNs l) := by
  refine S_ind (fun a b l t e h1 h2 => ?_) ⟨by rw [sCs_nil]; omega, by rw [sDs_nil]; omega⟩ (fun x r h1 h2 => ?_)
  · rw [sC_eq, sD_eq, sN_eq]
    simp only
    omega
  · rw [sCs_cons, sDs_cons, sNs_cons]
    omega
def goodS : S64 → Prop := S64.rec (motive_1 := fun _ => Prop) (motive_2 := fun _ => Prop) (fun _ _ a t e p q => (a.length ≤ 9223372036854775807 ∧ goodEs a) ∧ (t.length ≤ 9223372036854775807 ∧ p) ∧ (e.length ≤ 9223372036854775807 ∧ q)) True (fun _ _ p q => p ∧ q)
def goodSs : List S64 → Prop := S64.rec_1 (motive_1 := fun _ => Prop) (motive_2 := fun _ => Prop) (fun _ _ a t e p q => (a.length ≤ 9223372036854775807 ∧ goodEs a) ∧ (t.length ≤ 9223372036854775807 ∧ p) ∧ (e.length ≤ 9223372036854775807 ∧ q)) True (fun _ _ p q => p ∧ q)
theorem goodS_mk (a b : Int) (l : List S28) (t e : List S64) : goodS ⟨a, b, l, t, e⟩ = ((l.length ≤ 9223372036854775807 ∧ goodEs l) ∧ (t.length ≤ 9223372036854775807 ∧ goodSs t) ∧ (e.length ≤ 9223372036854775807 ∧ goodSs e)) := rfl
theorem goodSs_cons (x : S64) (r : List S64) : goodSs (x :: r) = (goodS x ∧ goodSs r) := rfl
theorem goodS_eq (x : S64) : goodS x = ((x.f2.length ≤ 9223372036854775807 ∧ goodEs x.f2) ∧ (x.f3.length ≤ 9223372036854775807 ∧ goodSs x.f3) ∧ (x.f4.length ≤ 9223372036854775807 ∧ goodSs x.f4)) := by cases x; rfl
theorem goodSs_all : ∀ {l : List S64}, (∀ x ∈ l, goodS x) → goodSs l
  | [], _ => trivial
  | x :: r, h => ⟨h x (by simp), goodSs_all fun y hy => h y (by simp [hy])⟩
theorem rdS_mid (pre : List S64) (x : S64) (r : List S64) : rd_T64 (pre ++ x :: r) (pre.length : Int) = x := getD_mid pre x _ r
theorem leftOf_z {n : Nat} : leftOf 0 n = 0 := by unfold leftOf; split <;> omega
theorem sleft_tells : (∀ x, ∀ m : Int, goodS x → 0 ≤ m → m ≤ 1000000 → Tells (fun k => r3_left.f k x.f3 m) (leftOf m (sNs x.f3)) ∧ Tells (fun k => r3_left.f k x.f4 m) (leftOf m (sNs x.f4))) ∧
    (∀ suf, ∀ (pre : List S64) (m : Int), goodSs suf → (pre ++ suf).length ≤ 9223372036854775807 → 0 ≤ m → m ≤ 1000000 → Tells (fun k => r3_left.l0 k (pre ++ suf) m (pre.length : Int)) (leftOf m (sNs suf))) := by
  refine S_ind (fun a b l t e h1 h2 => ?_) ?_ (fun x r ih1 ih2 => ?_)
  · intro m hg h0 hm
    rw [goodS_mk] at hg
    constructor
    · refine Tells.succ ?_
      simp only [r3_left.f]
      exact h1 [] m hg.2.1.2 hg.2.1.1 h0 hm
    · refine Tells.succ ?_
      simp only [r3_left.f]
      exact h2 [] m hg.2.2.2 hg.2.2.1 h0 hm
  · intro pre m _ _ h0 _
    refine Tells.succ (Tells.succ ?_)
    simp only [r3_left.l0, r3_left.j1, pre_nlt, if_false, Bool.false_eq_true]
    rw [sNs_nil, leftOf_nil h0]
    exact Tells.pure _
  · intro pre m hg hl h0 hm
    rw [goodSs_cons] at hg
    obtain ⟨hg1, hg2⟩ := hg
    have hx := hg1
    rw [goodS_eq] at hx
    have args : ∀ (asuf apre : List S28) (m : Int), x.f2 = apre ++ asuf → goodEs asuf → 0 ≤ m → m ≤ 1000000 → Tells (fun k => r3_left.l1 k (pre ++ x :: r) m (pre.length : Int) (apre.length : Int)) (leftOf m (eNs asuf + (sNs x.f3 + (sNs x.f4 + sNs r)))) := by
      intro asuf
      induction asuf with
      | nil =>
        intro apre m hx2 _ h0 hm
        refine Tells.succ ?_
        have hn : ¬ ((apre.length : Int) < (x.f2.length : Int)) := by rw [hx2, List.append_nil]; omega
        simp only [r3_left.l1, pre_pos, pre_lt, if_true, rdS_mid, hn, if_false]
        obtain ⟨t1, _⟩ := ih1 m hg1 h0 hm
        have b1 := leftOf_nonneg m (sNs x.f3)
        have b2 := leftOf_le h0 (sNs x.f3)
        obtain ⟨_, t2⟩ := ih1 (leftOf m (sNs x.f3)) hg1 b1 (by omega)
        have b3 := leftOf_nonneg (leftOf m (sNs x.f3)) (sNs x.f4)
        have b4 := leftOf_le b1 (sNs x.f4)
        have t3 := ih2 (pre ++ [x]) (leftOf (leftOf m (sNs x.f3)) (sNs x.f4)) hg2 (by rw [← pre_app]; exact hl) b3 (by omega)
        rw [← pre_app] at t3
        rw [eNs_nil, Nat.zero_add, ← leftOf_add h0, ← leftOf_add b1, pre_next pre x r hl]
        exact Tells.bind t1 (Tells.bind t2 t3)
      | cons a az iha =>
        intro apre m hx2 hga h0 hm
        refine Tells.succ ?_
        have hn : ((apre.length : Int) < (x.f2.length : Int)) := by rw [hx2]; exact pre_lt _ _ _
        have ha : rd_T28 x.f2 (apre.length : Int) = a := by rw [hx2]; exact rdE_mid _ _ _
        simp only [r3_left.l1, pre_pos, pre_lt, if_true, rdS_mid, hn, ha]
        have b1 := leftOf_nonneg m (eN a)
        have b2 := leftOf_le h0 (eN a)
        rw [pre_next apre a az (by rw [← hx2]; exact hx.1.1), eNs_cons, Nat.add_assoc, ← leftOf_add h0]
        exact Tells.bind (left_tells.1 a m hga.1 h0 hm) (iha (apre ++ [a]) _ (by rw [hx2, pre_app]) hga.2 b1 (by omega))
    refine Tells.succ (Tells.succ ?_)
    simp only [r3_left.l0, r3_left.j1, pre_lt, if_true]
    by_cases hz : m > 0
    · refine Tells.ifT (decide_eq_true hz) ?_
      rw [w64 (by omega) (by omega)]
      have := args x.f2 [] (m - 1) rfl hx.1.2 (by omega) (by omega)
      rw [sNs_cons, sN_eq]
      have e : leftOf m (1 + eNs x.f2 + sNs x.f3 + sNs x.f4 + sNs r) = leftOf (m - 1) (eNs x.f2 + (sNs x.f3 + (sNs x.f4 + sNs r))) := by
        rw [← leftOf_succ (by omega)]
        congr 1
        omega
      rw [e]
      exact this
    · have : m = 0 := by omega
      subst this
      rw [leftOf_z]
      exact Tells.ifF (by decide) (Tells.pure _)
theorem fitsS (l : List S64) (m : Int) (hl : l.length ≤ 9223372036854775807) (hg : goodSs l) (h0 : 0 ≤ m) (h1 : m ≤ 1000) : Tells (fun k => r3_Fits.f k l m) (decide ((sNs l : Int) ≤ m)) := by
  unfold r3_Fits.f
  rw [w64 (by omega) (by omega)]
  have t : Tells (fun k => r3_left.f k l (m + 1)) (leftOf (m + 1) (sNs l)) := by
    refine Tells.succ ?_
    simp only [r3_left.f]
    exact sleft_tells.2 l [] (m + 1) hg hl (by omega) (by omega)
  refine Tells.bind t ?_
  have : decide (leftOf (m + 1) (sNs l) > 0) = decide ((sNs l : Int) ≤ m) := by
    apply decide_eq_decide.2
    unfold leftOf
    split <;> omega
  rw [this]
  exact Tells.pure _
theorem sdepth_tells : (∀ x, goodS x → sN x ≤ 1000000 → Tells (fun k => r3_Depth.f k x.f3) (sDs x.f3 : Int) ∧ Tells (fun k => r3_Depth.f k x.f4) (sDs x.f4 : Int)) ∧
    (∀ suf, ∀ (pre : List S64) (n : Nat), goodSs suf → (pre ++ suf).length ≤ 9223372036854775807 → sNs suf ≤ 1000000 → Tells (fun k => r3_Depth.l0 k (pre ++ suf) (n : Int) (pre.length : Int)) ((max n (sDs suf) : Nat) : Int)) := by
  refine S_ind (fun a b l t e h1 h2 => ?_) ?_ (fun x r ih1 ih2 => ?_)
  · intro hg hn
    rw [goodS_mk] at hg
    rw [sN_eq] at hn
    simp only at hn
    constructor
    · refine Tells.succ ?_
      simp only [r3_Depth.f]
      have := h1 [] 0 hg.2.1.2 hg.2.1.1 (by omega)
      rw [Nat.zero_max] at this
      exact this
    · refine Tells.succ ?_
      simp only [r3_Depth.f]
      have := h2 [] 0 hg.2.2.2 hg.2.2.1 (by omega)
      rw [Nat.zero_max] at this
      exact this
  · intro pre n _ _ _
    refine Tells.succ ?_
    simp only [r3_Depth.l0, pre_nlt, if_false]
    rw [sDs_nil, Nat.max_zero]
    exact Tells.pure _
  · intro pre n hg hl hn
    rw [goodSs_cons] at hg
    rw [sNs_cons] at hn
    have hle := (s_le.1 x).2
    rw [sD_eq] at hle
    refine Tells.succ ?_
    simp only [r3_Depth.l0, pre_lt, pre_pos, if_true, rdS_mid]
    obtain ⟨t1, t2⟩ := ih1 hg.1 (by omega)
    refine Tells.bind t1 (Tells.bind t2 ?_)
    have t3 := ih2 (pre ++ [x]) (max (max n (1 + sDs x.f3)) (1 + sDs x.f4)) hg.2 (by rw [← pre_app]; exact hl) (by omega)
    rw [← pre_app] at t3
    rw [pre_next pre x r hl, w64 (n := 1 + (sDs x.f3 : Int)) (by omega) (by omega), w64 (n := 1 + (sDs x.f4 : Int)) (by omega) (by omega),
      show (1 + (sDs x.f3 : Int)) = ((1 + sDs x.f3 : Nat) : Int) by omega, show (1 + (sDs x.f4 : Int)) = ((1 + sDs x.f4 : Nat) : Int) by omega, mx_nat, mx_nat]
    rw [sDs_cons, sD_eq, show max n (max (1 + max (sDs x.f3) (sDs x.f4)) (sDs r)) = max (max (max n (1 + sDs x.f3)) (1 + sDs x.f4)) (sDs r) by omega]
    exact t3
def argVal (vars : List S66) (op n : Int) : Int :=
  if op = 0 then (if 0 ≤ n ∧ n < (vars.length : Int) then (if (rd_T66 vars n).f2 > 1 then 2 else 1) else -1)
  else if op = 4 then (if 0 ≤ n ∧ n < (vars.length : Int) then (if (rd_T66 vars n).f2 > 1 then 1 else 0) else -1)
  else if op = 3 then (if 0 ≤ n ∧ n ≤ 47 then 1 else -1)
  else if op = 1 ∨ op = 2 ∨ op = 5 ∨ op = 6 then (if n = 0 then 1 else -1) else -1
theorem argVal_le (vars : List S66) (op n : Int) : argVal vars op n ≤ 2 := by
  unfold argVal
  repeat' split
  all_goals omega
def cellsAt (vars : List S66) (n : Int) : Int := if 0 ≤ n ∧ n < (vars.length : Int) then (rd_T66 vars n).f2 else 0
theorem cellsAt_pos {vars : List S66} (hv : ∀ v ∈ vars, 1 ≤ v.f2 ∧ v.f2 ≤ 8) {n : Int} (h : 0 ≤ n ∧ n < (vars.length : Int)) : 1 ≤ (rd_T66 vars n).f2 ∧ (rd_T66 vars n).f2 ≤ 8 := by
  apply hv
  unfold rd_T66
  have : n.toNat < vars.length := by omega
  rw [List.getD_eq_getElem?_getD, List.getElem?_eq_getElem this]
  exact List.getElem_mem this
theorem args_tells (w : Int) (vars : List S66) (hv : ∀ v ∈ vars, 1 ≤ v.f2 ∧ v.f2 ≤ 8) (l2 : List S64) (op n : Int) (a : List S28) (t e : List S64) : Tells (fun k => prog_args.f k w vars l2 op n a t e) (argVal vars op n) := by
  have j3 : ∀ m : Int, 0 ≤ m → m ≤ 1 → Tells (fun k => prog_args.j3 k (cellsAt vars n) m) (if 0 ≤ n ∧ n < (vars.length : Int) then (if (rd_T66 vars n).f2 > 1 then m + 1 else m) else -1) := by
    intro m m0 m1
    refine Tells.succ ?_
    simp only [prog_args.j3]
    unfold cellsAt
    by_cases h : 0 ≤ n ∧ n < (vars.length : Int)
    · have hp := cellsAt_pos hv h
      simp only [h, and_self, if_true]
      refine Tells.ifF (by omega) ?_
      by_cases h1 : (rd_T66 vars n).f2 > 1
      · simp only [h1, if_true]
        rw [w64 (by omega) (by omega)]
        exact Tells.pure _
      · simp only [h1, if_false]
        exact Tells.pure _
    · simp only [h, if_false]
      exact Tells.ifT trivial (Tells.pure _)
  have j4 : ∀ b : Bool, Tells (fun k => prog_args.j4 k b op n a t e) (if b = true then (if n = 0 then 1 else -1) else -1) := by
    intro b
    refine Tells.succ ?_
    simp only [prog_args.j4]
    cases b
    · exact Tells.pure _
    · simp only [if_true]
      by_cases h : n = 0
      · simp only [h, if_true]; exact Tells.pure _
      · simp only [h, if_false]; exact Tells.pure _
  have j1 : Tells (fun k => prog_args.j1 k (cellsAt vars n) op n a t e) (argVal vars op n) := by
    refine Tells.succ ?_
    simp only [prog_args.j1]
    unfold argVal
    by_cases o0 : op = 0
    · subst o0
      simp only [if_true]
      refine Tells.succ ?_
      simp only [prog_args.j2, beq_self_eq_true, if_true]
      exact j3 1 (by decide) (by decide)
    · simp only [o0, if_false]
      refine Tells.succ ?_
      simp only [prog_args.j2]
      by_cases o4 : op = 4
      · subst o4
        simp only [beq_self_eq_true, if_true, show ¬ ((4 : Int) = 0) by decide, if_false]
        exact j3 0 (by decide) (by decide)
      · have hb : (op == 4) = false := by simpa using o4
        simp only [hb, Bool.false_eq_true, if_false, o4]
        by_cases o3 : op = 3
        · subst o3
          simp only [if_true]
          by_cases h1 : n < 0
          · have : ¬ (0 ≤ n ∧ n ≤ 47) := by omega
            simp only [h1, this, if_true, if_false]
            exact Tells.pure _
          · by_cases h2 : n > 47
            · have : ¬ (0 ≤ n ∧ n ≤ 47) := by omega
              simp only [h1, h2, this, if_true, if_false]
              exact Tells.pure _
            · have : (0 ≤ n ∧ n ≤ 47) := by omega
              simp only [h1, h2, this, and_self, if_true, if_false]
              exact Tells.pure _
        · simp only [o3, if_false]
          by_cases o1 : op = 1
          · subst o1
            simpa using j4 true
          · by_cases o2 : op = 2
            · subst o2
              simpa using j4 true
            · by_cases o5 : op = 5
              · subst o5
                simpa using j4 true
              · by_cases o6 : op = 6
                · subst o6
                  simpa using j4 true
                · have hb6 : (op == 6) = false := by simpa using o6
                  simp only [o1, o2, o5, if_false, hb6]
                  simpa [o6] using j4 false
  unfold prog_args.f
  by_cases h0 : n ≥ 0
  · refine Tells.ifT h0 (Tells.succ ?_)
    simp only [prog_args.j0]
    by_cases h1 : n < (vars.length : Int)
    · refine Tells.ifT (decide_eq_true h1) (Tells.ifT h0 (Tells.ifT h1 ?_))
      have : (rd_T66 vars n).f2 = cellsAt vars n := by unfold cellsAt; rw [if_pos ⟨h0, h1⟩]
      rw [this]
      exact j1
    · refine Tells.ifF (by rw [decide_eq_true_eq]; exact h1) ?_
      have : (0 : Int) = cellsAt vars n := by unfold cellsAt; rw [if_neg (fun h => h1 h.2)]
      rw [this]
      exact j1
  · refine Tells.ifF h0 (Tells.succ ?_)
    simp only [prog_args.j0, Bool.false_eq_true, if_false]
    have : (0 : Int) = cellsAt vars n := by unfold cellsAt; rw [if_neg (fun h => h0 h.1)]
    rw [this]
    exact j1
def headB (vars : List S66) (op n : Int) (a t e : Nat) : Bool := decide (argVal vars op n = (a : Int)) && nestOk op t e
theorem variable_eq (vars : List S66) (op n : Int) (a : List S28) (t e : List S64) (m : Int) (m0 : 0 ≤ m) (m1 : m ≤ 1) :
    r3_variable.f vars op n a t e m = some (decide ((if 0 ≤ n ∧ n < (vars.length : Int) then (if (rd_T66 vars n).f2 > 1 then m + 1 else m) else -1) = (a.length : Int))) := by
  unfold r3_variable.f r1_One.f
  have eqd : ∀ x y : Int, (x == y) = decide (y = x) := fun x y => by rw [Bool.eq_iff_iff, beq_iff_eq, decide_eq_true_iff]; exact eq_comm
  by_cases h0 : n ≥ 0
  · have h0' : 0 ≤ n := h0
    rw [if_pos h0]
    by_cases h1 : n < (vars.length : Int)
    · rw [if_pos h1, if_pos h0', if_pos (⟨h0', h1⟩ : 0 ≤ n ∧ n < (vars.length : Int))]
      by_cases h2 : (rd_T66 vars n).f2 > 1
      · rw [decide_eq_true h2, if_pos rfl, Option.bind_some, if_pos h2, w64 (by omega) (by omega), eqd]
      · rw [decide_eq_false h2, if_neg (by decide), Option.bind_some, if_neg h2, w64 (by omega) (by omega), eqd, Int.add_zero]
    · rw [if_neg h1, if_neg (fun h : 0 ≤ n ∧ n < (vars.length : Int) => h1 h.2), decide_eq_false (by omega)]
  · rw [if_neg h0, if_neg (fun h : 0 ≤ n ∧ n < (vars.length : Int) => h0 h.1), decide_eq_false (by omega)]
theorem head_tells (vars : List S66) (op n : Int) (a : List S28) (t e : List S64) : Tells (fun k => r3_head.f k vars op n a t e) (headB vars op n a.length t.length e.length) := by
  have eqd : ∀ x y : Int, (x == y) = decide (y = x) := fun x y => by rw [Bool.eq_iff_iff, beq_iff_eq, decide_eq_true_iff]; exact eq_comm
  have j0 : ∀ b : Bool, b = (decide (t.length = 0) && decide (e.length = 0)) → Tells (fun k => r3_head.j0 k vars b op n a t e) (headB vars op n a.length t.length e.length) := by
    intro b hb
    refine Tells.succ ?_
    simp only [r3_head.j0]
    unfold headB argVal nestOk
    have et : (t.length == 0) = decide (t.length = 0) := by rw [Bool.eq_iff_iff, beq_iff_eq, decide_eq_true_iff]
    have ee : (e.length == 0) = decide (e.length = 0) := by rw [Bool.eq_iff_iff, beq_iff_eq, decide_eq_true_iff]
    have ez : ((e.length : Int) == 0) = decide (e.length = 0) := by rw [Bool.eq_iff_iff, beq_iff_eq, decide_eq_true_iff]; omega
    rw [et, ee]
    by_cases o0 : op = 0
    · subst o0
      simp only [if_true, variable_eq vars 0 n a t e 1 (by decide) (by decide), Option.bind_some, show ((0 : Int) == 1) = false from rfl, show ((0 : Int) == 2) = false from rfl, Bool.or_false]
      rw [← hb, Bool.and_comm]
      exact Tells.ifB (Tells.pure _)
    simp only [o0, if_false]
    by_cases o1 : op = 1
    · subst o1
      simp only [if_true, show ((1 : Int) == 1) = true from rfl, Bool.or_true, Bool.true_or, Bool.and_true, show ¬ ((1 : Int) = 4) by decide, show ¬ ((1 : Int) = 3) by decide, if_false, true_or]
      by_cases h : n = 0
      · simp only [h, if_true]
        rw [eqd]
        exact Tells.pure _
      · simp only [h, if_false]
        rw [decide_eq_false (p := (-1 : Int) = (a.length : Int)) (by omega)]
        exact Tells.pure _
    have b1 : (op == 1) = false := by simpa using o1
    simp only [o1, if_false, b1, Bool.or_false]
    by_cases o2 : op = 2
    · subst o2
      simp only [if_true, show ((2 : Int) == 2) = true from rfl, Bool.or_true, Bool.true_and, show ¬ ((2 : Int) = 4) by decide, show ¬ ((2 : Int) = 3) by decide, if_false, true_or, or_true]
      by_cases h : n = 0
      · simp only [h, if_true, ez]
        by_cases h1 : (a.length : Int) = 1
        · simp only [h1, if_true, decide_true, Bool.true_and]
          exact Tells.pure _
        · simp only [h1, if_false]
          rw [decide_eq_false (fun h' => h1 h'.symm), Bool.false_and]
          exact Tells.pure _
      · simp only [h, if_false]
        rw [decide_eq_false (p := (-1 : Int) = (a.length : Int)) (by omega), Bool.false_and]
        exact Tells.pure _
    have b2 : (op == 2) = false := by simpa using o2
    simp only [o2, if_false, b2, Bool.or_false]
    rw [← hb, Bool.and_comm]
    by_cases o3 : op = 3
    · subst o3
      simp only [if_true, show ¬ ((3 : Int) = 4) by decide, if_false]
      refine Tells.ifB ?_
      by_cases h : n ≥ 0
      · by_cases h1 : n ≤ 47
        · simp only [h, h1, if_true, show (0 ≤ n ∧ n ≤ 47) from ⟨h, h1⟩, and_self, eqd]
          exact Tells.pure _
        · simp only [h, h1, if_true, if_false, and_false]
          rw [decide_eq_false (p := (-1 : Int) = (a.length : Int)) (by omega)]
          exact Tells.pure _
      · simp only [h, if_false, false_and]
        rw [decide_eq_false (p := (-1 : Int) = (a.length : Int)) (by omega)]
        exact Tells.pure _
    simp only [o3, if_false]
    by_cases o4 : op = 4
    · subst o4
      simp only [if_true, variable_eq vars 4 n a t e 0 (by decide) (by decide), Option.bind_some]
      exact Tells.ifB (Tells.pure _)
    simp only [o4, if_false]
    have last : Tells (fun k => if b = true then (if n = 0 then some ((a.length : Int) == 1) else some false) else some false) (b && decide ((if n = 0 then (1 : Int) else -1) = (a.length : Int))) := by
      refine Tells.ifB ?_
      by_cases h : n = 0
      · simp only [h, if_true, eqd]
        exact Tells.pure _
      · simp only [h, if_false]
        rw [decide_eq_false (p := (-1 : Int) = (a.length : Int)) (by omega)]
        exact Tells.pure _
    by_cases o5 : op = 5
    · subst o5
      simpa using last
    by_cases o6 : op = 6
    · subst o6
      simpa using last
    simp only [o5, o6, or_self, if_false]
    rw [decide_eq_false (p := (-1 : Int) = (a.length : Int)) (by omega), Bool.and_false]
    exact Tells.pure _
  unfold r3_head.f
  by_cases h : (t.length : Int) = 0
  · refine Tells.ifT h (j0 _ ?_)
    rw [decide_eq_true (by omega : t.length = 0), Bool.true_and, Bool.eq_iff_iff, beq_iff_eq, decide_eq_true_iff]
    omega
  · refine Tells.ifF h (j0 _ ?_)
    rw [decide_eq_false (by omega : ¬ t.length = 0), Bool.false_and]
end Go.Proofs.Ytilebfkehmecaaa.Print
namespace Go.Proofs.Ytilebfkehmecaaa.Print
open Go.RowKit Go.Proofs.YtilebfkehmecaaaW.PrintWords Go.Proofs.YtilebfkehmecaaaW.PrintLast Go.Proofs.YtilebfkehmecaaaW.PrintMore
attribute [local go_sem] max2_int min2_int max_two min_two max_three min_three max_four min_four
set_option linter.unusedVariables false
set_option linter.unusedSimpArgs false
open Go.ChangeShapes Go.WideShapes
theorem opens_V (n : Nat) : Opens Try.prog n 66 k66 (fun _ => True) := by
  cases n with
  | zero => exact opens_zero
  | succ n =>
    refine opens_imp (φ := fun _ => True) ?_ (fun _ _ => trivial)
    unfold k66
    have h : OpensFs Try.prog n (Try.prog.underlying 66 |>.elim [] fun | .struct fs => fs.toList | _ => []) 0 (Kd.pair Kd.string (Kd.pair (Kd.int .i64) (Kd.int .i64))) (fun _ => True) := by
      rw [Try.underlying66]
      have h2 := opensFs_one (P := Try.prog) (n := n) (f := { name := "Cells", type := 3, offset := 2, embedded := false, tag := "", pkgPath := "", byteOffset := 24 }) (o := 2) rfl (by kernel_rfl) (opens_int Try.underlying3)
      have h1 := opensFs_cons (f := { name := "Level", type := 3, offset := 1, embedded := false, tag := "", pkgPath := "", byteOffset := 16 }) (o := 1) rfl (by kernel_rfl) (opens_int Try.underlying3) h2
      have h0 := opensFs_cons (f := { name := "Name", type := 9, offset := 0, embedded := false, tag := "", pkgPath := "", byteOffset := 0 }) (o := 0) rfl (by kernel_rfl) (opens_string Try.underlying9) h1
      intro H enc W sp hd cs y hl hy
      obtain ⟨x, hx, _⟩ := h0 H enc W sp hd cs y hl hy
      exact ⟨x, hx, trivial⟩
    rw [Try.underlying66] at h
    exact opens_imp (opens_iso (fun x => ⟨⟨x.1, x.2.1, x.2.2⟩, rfl⟩) (opens_struct Try.underlying66 (by kernel_rfl) h)) (fun _ _ => trivial)
theorem opens_E : ∀ n, Opens Try.prog n 28 (Kd.upto F28 4 [28] n) goodE ∧ Opens Try.prog n 26 (Kd.slice 28 (Kd.upto F28 4 [28] n)) (fun xs => xs.length ≤ maxLen ∧ ∀ x ∈ xs, goodE x)
  | 0 => ⟨opens_zero, opens_zero⟩
  | n + 1 => by
    obtain ⟨ih1, ih2⟩ := opens_E n
    constructor
    · have h3 := opensFs_one (f := { name := "Args", type := 26, offset := 3, embedded := false, tag := "", pkgPath := "", byteOffset := 24 }) (o := 3) rfl (by kernel_rfl) ih2
      have h2 := opensFs_cons (f := { name := "Copy", type := 3, offset := 2, embedded := false, tag := "", pkgPath := "", byteOffset := 16 }) (o := 2) rfl (by kernel_rfl) (opens_int Try.underlying3) h3
      have h1 := opensFs_cons (f := { name := "N", type := 3, offset := 1, embedded := false, tag := "", pkgPath := "", byteOffset := 8 }) (o := 1) rfl (by kernel_rfl) (opens_int Try.underlying3) h2
      have h0 := opensFs_cons (f := { name := "Op", type := 3, offset := 0, embedded := false, tag := "", pkgPath := "", byteOffset := 0 }) (o := 0) rfl (by kernel_rfl) (opens_int Try.underlying3) h1
      refine opens_imp (opens_iso (f := fun x : S28 => (x.f0, x.f1, x.f2, x.f3)) (fun x => ⟨⟨x.1, x.2.1, x.2.2.1, x.2.2.2⟩, rfl⟩) (opens_struct Try.underlying28 (by kernel_rfl) h0)) ?_
      rintro ⟨a, b, c, l⟩ ⟨_, _, _, hl, hx⟩
      exact ⟨by unfold maxLen at hl; simp only at hl; omega, goodEs_all hx⟩
    · refine opens_slice Try.underlying26 ?_ ?_
      · rw [sz28]; kernel_rfl
      · intro H enc W sp hd cs y hy
        obtain ⟨x, hx, hp⟩ := ih1 H enc W sp hd cs y hy
        exact ⟨x, Kd.upto_K_le mono28 sz28 (Nat.le_succ n) hx, hp⟩
theorem opens_kE (n : Nat) : Opens Try.prog n 28 k28 goodE := opens_fix (fun n => (opens_E n).1) n
theorem opens_Es (n : Nat) : Opens Try.prog n 26 (Kd.slice 28 k28) (fun xs => xs.length ≤ maxLen ∧ ∀ x ∈ xs, goodE x) := by
  cases n with
  | zero => exact opens_zero
  | succ n => exact opens_slice Try.underlying26 (by kernel_rfl) (opens_kE n)
theorem opens_S : ∀ n, Opens Try.prog n 64 (Kd.upto F64 5 [28, 64] n) goodS ∧ Opens Try.prog n 23 (Kd.slice 64 (Kd.upto F64 5 [28, 64] n)) (fun xs => xs.length ≤ maxLen ∧ ∀ x ∈ xs, goodS x)
  | 0 => ⟨opens_zero, opens_zero⟩
  | n + 1 => by
    obtain ⟨ih1, ih2⟩ := opens_S n
    constructor
    · have h4 := opensFs_one (f := { name := "Else", type := 23, offset := 4, embedded := false, tag := "", pkgPath := "", byteOffset := 64 }) (o := 4) rfl (by kernel_rfl) ih2
      have h3 := opensFs_cons (f := { name := "Then", type := 23, offset := 3, embedded := false, tag := "", pkgPath := "", byteOffset := 40 }) (o := 3) rfl (by kernel_rfl) ih2 h4
      have h2 := opensFs_cons (f := { name := "Args", type := 26, offset := 2, embedded := false, tag := "", pkgPath := "", byteOffset := 16 }) (o := 2) rfl (by kernel_rfl) (opens_Es n) h3
      have h1 := opensFs_cons (f := { name := "N", type := 3, offset := 1, embedded := false, tag := "", pkgPath := "", byteOffset := 8 }) (o := 1) rfl (by kernel_rfl) (opens_int Try.underlying3) h2
      have h0 := opensFs_cons (f := { name := "Op", type := 3, offset := 0, embedded := false, tag := "", pkgPath := "", byteOffset := 0 }) (o := 0) rfl (by kernel_rfl) (opens_int Try.underlying3) h1
      refine opens_imp (opens_iso (f := fun x : S64 => (x.f0, x.f1, x.f2, x.f3, x.f4)) (fun x => ⟨⟨x.1, x.2.1, x.2.2.1, x.2.2.2.1, x.2.2.2.2⟩, rfl⟩) (opens_struct Try.underlying64 (by kernel_rfl) h0)) ?_
      rintro ⟨a, b, l, t, e⟩ ⟨_, _, ⟨hl, hx⟩, ⟨htl, ht⟩, ⟨hel, he⟩⟩
      unfold maxLen at hl htl hel
      simp only at hl htl hel
      exact ⟨⟨by omega, goodEs_all hx⟩, ⟨by omega, goodSs_all ht⟩, ⟨by omega, goodSs_all he⟩⟩
    · refine opens_slice Try.underlying23 ?_ ?_
      · rw [sz64]; kernel_rfl
      · intro H enc W sp hd cs y hy
        obtain ⟨x, hx, hp⟩ := ih1 H enc W sp hd cs y hy
        exact ⟨x, Kd.upto_K_le mono64 sz64 (Nat.le_succ n) hx, hp⟩
theorem opens_kS (n : Nat) : Opens Try.prog n 64 k64 goodS := opens_fix (fun n => (opens_S n).1) n
theorem opens_Ss (n : Nat) : Opens Try.prog n 23 (Kd.slice 64 k64) (fun xs => xs.length ≤ maxLen ∧ ∀ x ∈ xs, goodS x) := by
  cases n with
  | zero => exact opens_zero
  | succ n => exact opens_slice Try.underlying23 (by kernel_rfl) (opens_kS n)
theorem opens_Vs (n : Nat) : Opens Try.prog n 22 (Kd.slice 66 k66) (fun xs => xs.length ≤ maxLen ∧ ∀ x ∈ xs, True) := by
  cases n with
  | zero => exact opens_zero
  | succ n => exact opens_slice Try.underlying22 (by kernel_rfl) (opens_V n)
theorem opens_Is (n : Nat) : Opens Try.prog n 45 (Kd.slice 3 (Kd.int .i64)) (fun xs => xs.length ≤ maxLen ∧ ∀ x ∈ xs, (Lit.int .i64 x).wf = true) := by
  cases n with
  | zero => exact opens_zero
  | succ n => exact opens_slice Try.underlying45 (by kernel_rfl) (opens_int Try.underlying3)
theorem open_prog {H : Type} {enc : TypeId × Value → H} {W : World} {sp : Nat → Bool} {hd : Bool} {v : Value} {d : DataW H} {ps : List MemPlace} {r : Reach} {b0 : Nat} (hval : Value.okWide Try.prog W r b0 25 v) (h : DataW.Trod enc Try.prog W 0 sp hd 25 v d ps) :
    ∃ (w : Int) (A1 : Option Addr) (c1 : Nat) (l1 : List S66) (A2 : Option Addr) (c2 : Nat) (l2 : List S64), v = .agg #[.int .i64 w, .slice A1 l1.length c1, .slice A2 l2.length c2] ∧
      Kd.C k66 W A1 l1.length l1 ∧ l1.length ≤ c1 ∧ Kd.C k64 W A2 l2.length l2 ∧ l2.length ≤ c2 ∧ l2.length ≤ 9223372036854775807 ∧ goodSs l2 := by
  obtain ⟨fuel, hf⟩ := h
  obtain ⟨cs, rfl, hcs⟩ := okWide_struct Try.underlying25 hval
  cases fuel with
  | zero => exact absurd hf (by simp [DataW.trod])
  | succ n =>
    have h2 := opensFs_one (P := Try.prog) (f := { name := "Body", type := 23, offset := 2, embedded := false, tag := "", pkgPath := "", byteOffset := 32 }) (o := 2) rfl (by kernel_rfl) (opens_Ss n)
    have h1 := opensFs_cons (f := { name := "Vars", type := 22, offset := 1, embedded := false, tag := "", pkgPath := "", byteOffset := 8 }) (o := 1) rfl (by kernel_rfl) (opens_Vs n) h2
    have h0 := opensFs_cons (f := { name := "Width", type := 3, offset := 0, embedded := false, tag := "", pkgPath := "", byteOffset := 0 }) (o := 0) rfl (by kernel_rfl) (opens_int Try.underlying3) h1
    obtain ⟨⟨w, l1, l2⟩, hK, _, _, hl, hx⟩ := opens_struct Try.underlying25 (by kernel_rfl) h0 H enc W sp hd _ _ hf
    obtain ⟨c0, c1, e0, e1, ⟨c2, c3, e2, ⟨A1, k1, e3, g1, g2⟩, ⟨A2, k2, e4, g3, g4⟩⟩⟩ := hK
    simp only at e1 e3 e4 g1 g2 g3 g4
    subst e1 e3 e4 e2
    have : cs = #[.int .i64 w, .slice A1 l1.length k1, .slice A2 l2.length k2] := by
      apply Array.toList_inj.1
      exact e0
    subst this
    unfold maxLen at hl
    simp only at hl hx
    exact ⟨w, A1, k1, l1, A2, k2, l2, rfl, g2, g1, g4, g3, by omega, goodSs_all hx⟩
theorem opens_Iss (n : Nat) : Opens Try.prog n 41 (Kd.slice 45 (Kd.slice 3 (Kd.int .i64))) (fun xs => xs.length ≤ maxLen ∧ ∀ x ∈ xs, x.length ≤ maxLen ∧ ∀ y ∈ x, (Lit.int .i64 y).wf = true) := by
  cases n with
  | zero => exact opens_zero
  | succ n => exact opens_slice Try.underlying41 (by kernel_rfl) (opens_Is n)
theorem open_intss {H : Type} {enc : TypeId × Value → H} {W : World} {sp : Nat → Bool} {hd : Bool} {v : Value} {d : DataW H} {ps : List MemPlace} {r : Reach} {b0 : Nat} (hval : Value.okWide Try.prog W r b0 41 v) (h : DataW.Trod enc Try.prog W 0 sp hd 41 v d ps) :
    ∃ (A1 : Option Addr) (c1 : Nat) (l1 : List (List Int)), v = .slice A1 l1.length c1 ∧ Kd.C (Kd.slice 3 (Kd.int .i64)) W A1 l1.length l1 ∧ l1.length ≤ c1 ∧ l1.length ≤ 9223372036854775807 ∧ ∀ x ∈ l1, x.length ≤ 9223372036854775807 := by
  obtain ⟨fuel, hf⟩ := h
  obtain ⟨a, len, cap, rfl⟩ := okWide_slice Try.underlying41 hval
  obtain ⟨l1, ⟨A1, c1, e, g1, g2⟩, hl, hx⟩ := opens_Iss fuel H enc W sp hd _ _ hf
  have e' : [Value.slice a len cap] = [Value.slice A1 l1.length c1] := e
  injection e' with e'
  unfold maxLen at hl hx
  exact ⟨A1, c1, l1, e', g2, g1, by omega, fun x h => by have := (hx x h).1; omega⟩
end Go.Proofs.Ytilebfkehmecaaa.Print
namespace Go.Proofs.Ytilebfkehmecaaa.Print
open Go.RowKit Go.Proofs.YtilebfkehmecaaaW.PrintWords Go.Proofs.YtilebfkehmecaaaW.PrintLast Go.Proofs.YtilebfkehmecaaaW.PrintMore
attribute [local go_sem] max2_int min2_int max_two min_two max_three min_three max_four min_four
set_option linter.unusedVariables false
set_option linter.unusedSimpArgs false
mutual
def sOK (w : Int) (vars : List S66) : S64 → Bool
  | ⟨op, n, a, t, e⟩ => headB vars op n a.length t.length e.length && (sOKs w vars t && (sOKs w vars e && a.all (eIs w vars 1)))
def sOKs (w : Int) (vars : List S66) : List S64 → Bool
  | [] => true
  | x :: r => sOK w vars x && sOKs w vars r
end
theorem sOK_eq (w : Int) (vars : List S66) (x : S64) : sOK w vars x = (headB vars x.f0 x.f1 x.f2.length x.f3.length x.f4.length && (sOKs w vars x.f3 && (sOKs w vars x.f4 && x.f2.all (eIs w vars 1)))) := by cases x; simp only [sOK]
theorem sOKs_nil (w : Int) (vars : List S66) : sOKs w vars [] = true := by simp only [sOKs]
theorem sOKs_cons (w : Int) (vars : List S66) (x : S64) (r : List S64) : sOKs w vars (x :: r) = (sOK w vars x && sOKs w vars r) := by simp only [sOKs]
theorem rows_tells (w : Int) (vars : List S66) (h1 : 1 ≤ w) (h8 : w ≤ 8) : (∀ x, goodS x → Tells (fun k => r3_rows.f k w vars x.f3) (sOKs w vars x.f3) ∧ Tells (fun k => r3_rows.f k w vars x.f4) (sOKs w vars x.f4)) ∧
    (∀ suf, ∀ (pre : List S64), goodSs suf → (pre ++ suf).length ≤ 9223372036854775807 → Tells (fun k => r3_rows.l0 k w vars (pre ++ suf) (pre.length : Int)) (sOKs w vars suf)) := by
  refine S_ind (fun a b l t e h1 h2 => ?_) ?_ (fun x r ih1 ih2 => ?_)
  · intro hg
    rw [goodS_mk] at hg
    constructor
    · refine Tells.succ ?_
      simp only [r3_rows.f]
      exact h1 [] hg.2.1.2 hg.2.1.1
    · refine Tells.succ ?_
      simp only [r3_rows.f]
      exact h2 [] hg.2.2.2 hg.2.2.1
  · intro pre _ _
    refine Tells.succ ?_
    simp only [r3_rows.l0, pre_nlt, if_false]
    rw [sOKs_nil]
    exact Tells.pure _
  · intro pre hg hl
    rw [goodSs_cons] at hg
    obtain ⟨hg1, hg2⟩ := hg
    have hx := hg1
    rw [goodS_eq] at hx
    obtain ⟨t1, t2⟩ := ih1 hg1
    have args : ∀ (asuf apre : List S28), x.f2 = apre ++ asuf → goodEs asuf → Tells (fun k => r3_rows.l1 k w vars (pre ++ x :: r) (pre.length : Int) (apre.length : Int)) (asuf.all (eIs w vars 1) && sOKs w vars r) := by
      intro asuf
      induction asuf with
      | nil =>
        intro apre hx2 _
        refine Tells.succ ?_
        have hn : ¬ ((apre.length : Int) < (x.f2.length : Int)) := by rw [hx2, List.append_nil]; omega
        simp only [r3_rows.l1, pre_pos, pre_lt, if_true, rdS_mid, hn, if_false]
        have t3 := ih2 (pre ++ [x]) hg2 (by rw [← pre_app]; exact hl)
        rw [← pre_app] at t3
        rw [pre_next pre x r hl, List.all_nil, Bool.true_and]
        exact t3
      | cons a az iha =>
        intro apre hx2 hga
        refine Tells.succ ?_
        have hn : ((apre.length : Int) < (x.f2.length : Int)) := by rw [hx2]; exact pre_lt _ _ _
        have ha : rd_T28 x.f2 (apre.length : Int) = a := by rw [hx2]; exact rdE_mid _ _ _
        simp only [r3_rows.l1, pre_pos, pre_lt, if_true, rdS_mid, hn, ha]
        rw [pre_next apre a az (by rw [← hx2]; exact hx.1.1), List.all_cons, Bool.and_assoc]
        exact Tells.bind (Is_tells w vars 1 h1 h8 a hga.1) (Tells.ifB (iha (apre ++ [a]) (by rw [hx2, pre_app]) hga.2))
    have jt : Tells (fun k => r3_rows.j1 k w vars (pre ++ x :: r) (pre.length : Int) true) false := by
      refine Tells.succ ?_
      simp only [r3_rows.j1, if_true]
      exact Tells.pure _
    have jf : Tells (fun k => r3_rows.j1 k w vars (pre ++ x :: r) (pre.length : Int) false) (x.f2.all (eIs w vars 1) && sOKs w vars r) := by
      refine Tells.succ ?_
      simp only [r3_rows.j1, Bool.false_eq_true, if_false]
      exact args x.f2 [] rfl hx.1.2
    refine Tells.succ ?_
    simp only [r3_rows.l0, pre_lt, pre_pos, if_true, rdS_mid]
    rw [sOKs_cons, sOK_eq]
    refine Tells.bind (head_tells vars x.f0 x.f1 x.f2 x.f3 x.f4) ?_
    cases headB vars x.f0 x.f1 x.f2.length x.f3.length x.f4.length
    · exact jt
    · simp only [if_true, Bool.true_and]
      refine Tells.bind t1 ?_
      cases sOKs w vars x.f3
      · exact jt
      · simp only [if_true, Bool.true_and]
        refine Tells.bind t2 ?_
        cases sOKs w vars x.f4
        · exact jt
        · exact jf
def pIs (w : Int) (vars : List S66) (body : List S64) : Bool := hIs w vars && (decide (sNs body ≤ 400) && (decide (sDs body ≤ 16) && sOKs w vars body))
theorem pIs_tells (w : Int) (vars : List S66) (body : List S64) (hl : body.length ≤ 9223372036854775807) (hg : goodSs body) : Tells (fun k => r3_Is.f k w vars body) (pIs w vars body) := by
  unfold r3_Is.f pIs
  refine Tells.bind (RHeading_tells w vars) ?_
  cases hh : hIs w vars
  · exact Tells.pure _
  · obtain ⟨h1, h8, _⟩ := hIs_all hh
    simp only [if_true, Bool.true_and]
    have hf := fitsS body 400 hl hg (by decide) (by decide)
    rw [decide_eq_decide.2 (show ((sNs body : Int) ≤ 400) ↔ (sNs body ≤ 400) by omega)] at hf
    refine Tells.bind hf ?_
    by_cases hn : sNs body ≤ 400
    · rw [decide_eq_true hn]
      simp only [if_true, Bool.true_and]
      have td : Tells (fun k => r3_Depth.f k body) (sDs body : Int) := by
        refine Tells.succ ?_
        simp only [r3_Depth.f]
        have := sdepth_tells.2 body [] 0 hg hl (by omega)
        rw [Nat.zero_max] at this
        exact this
      refine Tells.bind td ?_
      by_cases hd : sDs body ≤ 16
      · rw [decide_eq_true hd, Bool.true_and]
        refine Tells.ifT (by omega) ?_
        refine Tells.id' (Tells.succ ?_)
        simp only [r3_rows.f]
        exact (rows_tells w vars h1 h8).2 body [] hg hl
      · rw [decide_eq_false hd, Bool.false_and]
        exact Tells.ifF (by omega) (Tells.pure _)
    · rw [decide_eq_false hn, Bool.false_and]
      exact Tells.pure _
def CF (w : Int) (vars : List S66) (l : List S64) (deep nd : Int) : Prop := nd + sNs l ≤ 400 ∧ deep + sDs l ≤ 17 ∧ sOKs w vars l = true
def CFr (w : Int) (vars : List S66) (l : List S64) (deep st nd : Int) (g : Nat → Option (Bool × Int × Int)) : Prop :=
  ∃ b st' nd', Tells g (b, st', nd') ∧ (b = true ↔ CF w vars l deep nd) ∧ (b = true → st' = st + sCs l ∧ nd' = nd + sNs l)
theorem cf_no {w : Int} {vars : List S66} {l : List S64} {deep st nd : Int} {g : Nat → Option (Bool × Int × Int)} (st' nd' : Int) (h : Tells g (false, st', nd')) (hn : ¬ CF w vars l deep nd) : CFr w vars l deep st nd g :=
  ⟨false, st', nd', h, ⟨fun e => absurd e (by decide), fun e => absurd e hn⟩, fun e => absurd e (by decide)⟩
theorem cfine_tells (w : Int) (vars : List S66) (l2 : List S64) (h1 : 1 ≤ w) (h8 : w ≤ 8) (hv : ∀ v ∈ vars, 1 ≤ v.f2 ∧ v.f2 ≤ 8) (hh : Tells (fun k => expr_Heading.f k w vars) 0) :
    (∀ x, ∀ deep : Int, goodS x → 1 ≤ deep → deep ≤ 17 → ∀ st nd : Int, 0 ≤ st → st ≤ nd → nd ≤ 1201 → CFr w vars x.f3 deep st nd (fun k => prog_count_fine.f k w vars l2 x.f3 deep st nd) ∧ CFr w vars x.f4 deep st nd (fun k => prog_count_fine.f k w vars l2 x.f4 deep st nd)) ∧
    (∀ suf, ∀ (pre : List S64) (deep : Int), goodSs suf → (pre ++ suf).length ≤ 9223372036854775807 → 1 ≤ deep → deep ≤ 17 → (suf ≠ [] → deep ≤ 16) → ∀ st nd : Int, 0 ≤ st → st ≤ nd → nd ≤ 1201 →
      CFr w vars suf deep st nd (fun k => prog_count_fine.l0 k w vars l2 (pre ++ suf) deep (pre.length : Int) st nd)) := by
  refine S_ind (fun a b l t e q1 q2 => ?_) ?_ (fun x r ih1 ih2 => ?_)
  · intro deep hg d1 d17 st nd s0 sn n0
    rw [goodS_mk] at hg
    have one : ∀ (t : List S64), (∀ (pre : List S64) (deep : Int), goodSs t → (pre ++ t).length ≤ 9223372036854775807 → 1 ≤ deep → deep ≤ 17 → (t ≠ [] → deep ≤ 16) → ∀ st nd : Int, 0 ≤ st → st ≤ nd → nd ≤ 1201 →
      CFr w vars t deep st nd (fun k => prog_count_fine.l0 k w vars l2 (pre ++ t) deep (pre.length : Int) st nd)) → goodSs t → t.length ≤ 9223372036854775807 → CFr w vars t deep st nd (fun k => prog_count_fine.f k w vars l2 t deep st nd) := by
      intro t q hgt hlt
      by_cases ht : t = []
      · obtain ⟨b, s', n', tt, p1, p2⟩ := q [] deep hgt hlt d1 d17 (fun h => absurd ht h) st nd s0 sn n0
        refine ⟨b, s', n', Tells.succ ?_, p1, p2⟩
        simp only [prog_count_fine.f]
        exact Tells.ifF (by rw [ht]; decide) tt
      · have hpos : (0 : Int) < (t.length : Int) := by
          have := List.length_pos_iff.2 ht
          omega
        by_cases hd : 16 < deep
        · refine cf_no st nd (Tells.succ ?_) (fun h => ?_)
          · simp only [prog_count_fine.f]
            exact Tells.ifT hpos (Tells.ifT hd (Tells.pure _))
          · obtain ⟨x, r, rfl⟩ : ∃ x r, t = x :: r := by cases t with
              | nil => exact absurd rfl ht
              | cons x r => exact ⟨x, r, rfl⟩
            have := h.2.1
            rw [sDs_cons, sD_eq] at this
            omega
        · obtain ⟨b, s', n', tt, p1, p2⟩ := q [] deep hgt hlt d1 d17 (fun _ => by omega) st nd s0 sn n0
          refine ⟨b, s', n', Tells.succ ?_, p1, p2⟩
          simp only [prog_count_fine.f]
          exact Tells.ifT hpos (Tells.ifF hd tt)
    exact ⟨one t q1 hg.2.1.2 hg.2.1.1, one e q2 hg.2.2.2 hg.2.2.1⟩
  · intro pre deep _ _ d1 d17 _ st nd s0 sn n0
    refine ⟨decide (nd ≤ 400), st, nd, Tells.succ ?_, ?_, fun _ => by rw [sCs_nil, sNs_nil]; omega⟩
    · simp only [prog_count_fine.l0, pre_nlt, if_false]
      exact Tells.pure _
    · rw [decide_eq_true_eq]
      unfold CF
      rw [sNs_nil, sDs_nil, sOKs_nil]
      exact ⟨fun h => ⟨by omega, by omega, rfl⟩, fun h => by have := h.1; omega⟩
  · intro pre deep hg hl d1 d17 d16 st nd s0 sn n0
    have d16' := d16 (by simp)
    rw [goodSs_cons] at hg
    obtain ⟨hg1, hg2⟩ := hg
    have hx := hg1
    rw [goodS_eq] at hx
    have w1 : wrap64 (nd + 1) = nd + 1 := w64 (by omega) (by omega)
    have w2 : wrap64 (st + 1) = st + 1 := w64 (by omega) (by omega)
    have w3 : wrap64 (deep + 1) = deep + 1 := w64 (by omega) (by omega)
    by_cases hbig : 400 < nd + 1
    · refine cf_no (st + 1) (nd + 1) (Tells.succ ?_) (fun h => ?_)
      · simp only [prog_count_fine.l0, pre_lt, pre_pos, if_true, rdS_mid, w1, w2]
        exact Tells.ifT hbig (Tells.pure _)
      · have := h.1
        rw [sNs_cons, sN_eq] at this
        omega
    have ta := args_tells w vars hv l2 x.f0 x.f1 x.f2 x.f3 x.f4
    by_cases har : argVal vars x.f0 x.f1 = (x.f2.length : Int)
    case neg =>
      refine cf_no (st + 1) (nd + 1) (Tells.succ ?_) (fun h => ?_)
      · simp only [prog_count_fine.l0, pre_lt, pre_pos, if_true, rdS_mid, w1, w2]
        exact Tells.ifF hbig (Tells.bind ta (Tells.ifF har (Tells.pure _)))
      · have := h.2.2
        rw [sOKs_cons, sOK_eq] at this
        unfold headB at this
        rw [decide_eq_false har] at this
        simp at this
    by_cases hne : nestOk x.f0 x.f3.length x.f4.length = true
    case neg =>
      refine cf_no (st + 1) (nd + 1) (Tells.succ ?_) (fun h => ?_)
      · simp only [prog_count_fine.l0, pre_lt, pre_pos, if_true, rdS_mid, w1, w2]
        exact Tells.ifF hbig (Tells.bind ta (Tells.ifT har (Tells.ifF hne (Tells.pure _))))
      · have := h.2.2
        rw [sOKs_cons, sOK_eq] at this
        unfold headB at this
        rw [Bool.eq_false_iff.2 hne] at this
        simp at this
    have hhead : headB vars x.f0 x.f1 x.f2.length x.f3.length x.f4.length = true := by unfold headB; rw [decide_eq_true har, hne]; rfl
    have hlen : x.f2.length ≤ 2 := by have := argVal_le vars x.f0 x.f1; omega
    have args : ∀ (asuf apre : List S28) (nd' : Int), x.f2 = apre ++ asuf → goodEs asuf → 0 ≤ nd' → nd' ≤ 401 + 400 * apre.length → st + 1 ≤ nd' →
        ∃ b s' n', Tells (fun k => prog_count_fine.l1 k w vars l2 (pre ++ x :: r) deep (pre.length : Int) (apre.length : Int) (st + 1) nd') (b, s', n') ∧
          (b = true ↔ (nd' + eNs asuf + sNs x.f3 + sNs x.f4 + sNs r ≤ 400 ∧ deep + 1 + sDs x.f3 ≤ 17 ∧ deep + 1 + sDs x.f4 ≤ 17 ∧ deep + sDs r ≤ 17 ∧ asuf.all (eIs w vars 1) = true ∧ sOKs w vars x.f3 = true ∧ sOKs w vars x.f4 = true ∧ sOKs w vars r = true)) ∧
          (b = true → s' = st + 1 + sCs x.f3 + sCs x.f4 + sCs r ∧ n' = nd' + eNs asuf + sNs x.f3 + sNs x.f4 + sNs r) := by
      intro asuf
      induction asuf with
      | nil =>
        intro apre nd' hx2 _ z0 zb zs
        have hal : apre.length ≤ 2 := by
          have := congrArg List.length hx2
          rw [List.length_append, List.length_nil] at this
          omega
        have hn : ¬ ((apre.length : Int) < (x.f2.length : Int)) := by rw [hx2, List.append_nil]; omega
        obtain ⟨b1, s1, n1, t1, p1, q1⟩ := (ih1 (deep + 1) hg1 (by omega) (by omega) (st + 1) nd' (by omega) zs (by omega)).1
        rw [List.all_nil, eNs_nil]
        cases b1
        · have hno : ¬ CF w vars x.f3 (deep + 1) nd' := fun h => by have := p1.2 h; cases this
          refine ⟨false, s1, n1, Tells.succ ?_, ⟨fun h => (by cases h), fun h => ?_⟩, fun h => by cases h⟩
          · simp only [prog_count_fine.l1, rdS_mid, hn, if_false, w3]
            exact Tells.bind t1 (Tells.pure _)
          · exact absurd ⟨by omega, by omega, h.2.2.2.2.2.1⟩ hno
        · obtain ⟨e1, e2⟩ := q1 rfl
          have c1 := p1.1 rfl
          have hle1 := (s_le.2 x.f3).1
          have c11 := c1.1
          have c12 := c1.2.1
          obtain ⟨b2, s2, n2, t2, p2, q2⟩ := (ih1 (deep + 1) hg1 (by omega) (by omega) s1 n1 (by omega) (by omega) (by omega)).2
          cases b2
          · have hno : ¬ CF w vars x.f4 (deep + 1) n1 := fun h => by have := p2.2 h; cases this
            refine ⟨false, s2, n2, Tells.succ ?_, ⟨fun h => (by cases h), fun h => ?_⟩, fun h => by cases h⟩
            · simp only [prog_count_fine.l1, rdS_mid, hn, if_false, w3]
              refine Tells.bind t1 ?_
              simp only [if_true]
              exact Tells.bind t2 (Tells.pure _)
            · exact absurd ⟨by omega, by omega, h.2.2.2.2.2.2.1⟩ hno
          · obtain ⟨e3, e4⟩ := q2 rfl
            have c2 := p2.1 rfl
            have hle2 := (s_le.2 x.f4).1
            have c21 := c2.1
            have c22 := c2.2.1
            obtain ⟨b3, s3, n3, t3, p3, q3⟩ := ih2 (pre ++ [x]) deep hg2 (by rw [← pre_app]; exact hl) d1 d17 (fun _ => d16') s2 n2 (by omega) (by omega) (by omega)
            rw [← pre_app] at t3
            refine ⟨b3, s3, n3, Tells.succ ?_, ⟨fun h => ?_, fun h => ?_⟩, fun h => ?_⟩
            · simp only [prog_count_fine.l1, rdS_mid, hn, if_false, w3]
              refine Tells.bind t1 ?_
              simp only [if_true]
              refine Tells.bind t2 ?_
              simp only [if_true]
              rw [pre_next pre x r hl]
              exact t3
            · have c3 := p3.1 h
              have c31 := c3.1
              have c32 := c3.2.1
              exact ⟨by omega, by omega, by omega, by omega, rfl, c1.2.2, c2.2.2, c3.2.2⟩
            · exact p3.2 ⟨by omega, by omega, h.2.2.2.2.2.2.2⟩
            · have := q3 h
              omega
      | cons a az iha =>
        intro apre nd' hx2 hga z0 zb zs
        have hal : apre.length + 1 ≤ 2 := by
          have := congrArg List.length hx2
          rw [List.length_append, List.length_cons] at this
          omega
        have hn : ((apre.length : Int) < (x.f2.length : Int)) := by rw [hx2]; exact pre_lt _ _ _
        have ha : rd_T28 x.f2 (apre.length : Int) = a := by rw [hx2]; exact rdE_mid _ _ _
        have tc := Check_tells w vars 1 h1 h8 (by decide) (by decide) hh a hga.1
        rw [List.all_cons, eNs_cons]
        cases hi : eIs w vars 1 a
        · rw [hi] at tc
          refine ⟨false, st + 1, nd', Tells.succ ?_, ⟨fun h => (by cases h), fun h => (by have := h.2.2.2.2.1; cases this)⟩, fun h => by cases h⟩
          simp only [prog_count_fine.l1, pre_pos, if_true, rdS_mid, hn, ha]
          exact Tells.bind tc (Tells.ifF (by decide) (Tells.pure _))
        · rw [hi] at tc
          have hn400 : eN a ≤ 400 := by
            unfold eIs at hi
            simp only [Bool.and_eq_true, decide_eq_true_eq] at hi
            exact hi.1
          have tn := nodesE'.1 a hga.1 (by omega)
          obtain ⟨b, s', n', tt, p, q⟩ := iha (apre ++ [a]) (nd' + eN a) (by rw [hx2, pre_app]) hga.2 (by omega) (by rw [List.length_append, List.length_singleton]; omega) (by omega)
          refine ⟨b, s', n', Tells.succ ?_, ?_, fun h => by have := q h; omega⟩
          · simp only [prog_count_fine.l1, pre_pos, if_true, rdS_mid, hn, ha]
            refine Tells.bind tc (Tells.ifT rfl (Tells.bind tn ?_))
            rw [pre_next apre a az (by rw [← hx2]; exact hx.1.1), w64 (n := nd' + (eN a : Int)) (by omega) (by omega)]
            exact tt
          · rw [p, Bool.true_and, show (nd' + ((eN a + eNs az : Nat) : Int)) = nd' + eN a + eNs az by omega]
    obtain ⟨b, s', n', tt, p, q⟩ := args x.f2 [] (nd + 1) rfl hx.1.2 (by omega) (by rw [List.length_nil]; omega) (by omega)
    refine ⟨b, s', n', Tells.succ ?_, ⟨fun h => ?_, fun h => p.2 ?_⟩, fun h => ?_⟩
    · simp only [prog_count_fine.l0, pre_lt, pre_pos, if_true, rdS_mid, w1, w2]
      exact Tells.ifF hbig (Tells.bind ta (Tells.ifT har (Tells.ifT hne tt)))
    · obtain ⟨c1, c2, c3, c4, c5, c6, c7, c8⟩ := p.1 h
      unfold CF
      rw [sNs_cons, sN_eq, sDs_cons, sD_eq, sOKs_cons, sOK_eq, hhead, c5, c6, c7, c8]
      exact ⟨by omega, by omega, rfl⟩
    · unfold CF at h
      rw [sNs_cons, sN_eq, sDs_cons, sD_eq, sOKs_cons, sOK_eq] at h
      obtain ⟨c1, c2, c3⟩ := h
      simp only [Bool.and_eq_true] at c3
      exact ⟨by omega, by omega, by omega, by omega, c3.1.2.2.2, c3.1.2.1, c3.1.2.2.1, c3.2⟩
    · have := q h
      rw [sCs_cons, sC_eq, sNs_cons, sN_eq]
      omega
def cntOf (w : Int) (vars : List S66) (body : List S64) : Int × Int × Bool := if pIs w vars body = true then ((sCs body : Int), (sNs body : Int), true) else (0, 0, false)
theorem counted_tells (w : Int) (vars : List S66) (body : List S64) (hl : body.length ≤ 9223372036854775807) (hg : goodSs body) : Tells (fun k => prog_counted.f k w vars body) (cntOf w vars body) := by
  unfold prog_counted.f cntOf
  have th := Heading_tells w vars
  cases hh : hIs w vars
  · rw [hh] at th
    have : pIs w vars body = false := by unfold pIs; rw [hh]; rfl
    rw [this]
    exact Tells.bind th (Tells.ifF (by decide) (Tells.pure _))
  · rw [hh] at th
    obtain ⟨h1, h8, _, _, hv, _⟩ := hIs_all hh
    obtain ⟨b, s', n', tt, p, q⟩ : CFr w vars body 1 0 0 (fun k => prog_count_fine.f k w vars body body 1 0 0) := by
      by_cases hb : body = []
      · obtain ⟨b, s', n', tt, p, q⟩ := (cfine_tells w vars body h1 h8 (fun v hv' => (hv v hv').2.2) th).2 body [] 1 hg hl (by decide) (by decide) (fun _ => by decide) 0 0 (by decide) (by decide) (by decide)
        refine ⟨b, s', n', Tells.succ ?_, p, q⟩
        simp only [prog_count_fine.f]
        exact Tells.ifF (by rw [hb]; decide) tt
      · obtain ⟨b, s', n', tt, p, q⟩ := (cfine_tells w vars body h1 h8 (fun v hv' => (hv v hv').2.2) th).2 body [] 1 hg hl (by decide) (by decide) (fun _ => by decide) 0 0 (by decide) (by decide) (by decide)
        refine ⟨b, s', n', Tells.succ ?_, p, q⟩
        simp only [prog_count_fine.f]
        exact Tells.ifT (by have := List.length_pos_iff.2 hb; omega) (Tells.ifF (by decide) tt)
    have hp : pIs w vars body = b := by
      rw [Bool.eq_iff_iff, p]
      unfold pIs CF
      rw [hh]
      simp only [Bool.true_and, Bool.and_eq_true, decide_eq_true_eq]
      constructor
      · intro h; exact ⟨by omega, by omega, h.2.2⟩
      · intro h; exact ⟨by omega, by omega, h.2.2⟩
    refine Tells.bind th (Tells.ifT rfl (Tells.bind tt ?_))
    rw [hp]
    cases b
    · exact Tells.pure _
    · obtain ⟨e1, e2⟩ := q rfl
      have e1' : s' = (sCs body : Int) := by omega
      have e2' : n' = (sNs body : Int) := by omega
      rw [e1', e2']
      exact Tells.pure _
theorem pCheck_tells (w : Int) (vars : List S66) (body : List S64) (hl : body.length ≤ 9223372036854775807) (hg : goodSs body) : Tells (fun k => prog_Check.f k w vars body) (okInt (pIs w vars body) 30) := by
  unfold prog_Check.f
  refine Tells.bind (counted_tells w vars body hl hg) ?_
  unfold cntOf
  cases pIs w vars body
  · exact Tells.pure _
  · exact Tells.pure _
theorem pIs_all {w : Int} {vars : List S66} {body : List S64} (h : pIs w vars body = true) : hIs w vars = true ∧ sNs body ≤ 400 := by
  unfold pIs at h
  simp only [Bool.and_eq_true, decide_eq_true_eq] at h
  exact ⟨h.1, h.2.1⟩
end Go.Proofs.Ytilebfkehmecaaa.Print
namespace Go.Proofs.Ytilebfkehmecaaa.Print
open Go.RowKit Go.Proofs.YtilebfkehmecaaaW.PrintWords Go.Proofs.YtilebfkehmecaaaW.PrintLast Go.Proofs.YtilebfkehmecaaaW.PrintMore
attribute [local go_sem] max2_int min2_int max_two min_two max_three min_three max_four min_four
set_option linter.unusedVariables false
set_option linter.unusedSimpArgs false
open Go.Shelf
attribute [local go_sem] Oper.semAt_some
mutual
def prog_walk.l0 : Nat → List S64 → Int → Int → Option (List (Int × S64) × Int)
  | 0, _, _, _ => none
  | k + 1, l, i, n => if i < (l.length : Int) then (if 0 ≤ i then (prog_walk.f k (rd_T64 l i).f3 (wrap64 (n + 1))).bind fun t => (prog_walk.f k (rd_T64 l i).f4 t.2).bind fun e => (prog_walk.l0 k l (wrap64 (i + 1)) e.2).bind fun r => some ((wrap64 (wrap64 (n + 1) - 1), rd_T64 l i) :: (t.1 ++ (e.1 ++ r.1)), r.2) else none) else some ([], n)
def prog_walk.f : Nat → List S64 → Int → Option (List (Int × S64) × Int)
  | 0, _, _ => none
  | k + 1, l, n => prog_walk.l0 k l 0 n
end
def stopAt {α : Type} (go : List α → α → Bool) : List α → List α → Option (List α)
  | _, [] => none
  | pre, x :: r => if go pre x = true then (stopAt go (pre ++ [x]) r).map (x :: ·) else some [x]
theorem stopAt_append {α : Type} (go : List α → α → Bool) : ∀ (a b pre : List α), stopAt go pre (a ++ b) = match stopAt go pre a with | some q => some q | none => (stopAt go (pre ++ a) b).map (a ++ ·)
  | [], b, pre => by simp [stopAt]
  | x :: a, b, pre => by
    rw [List.cons_append, stopAt, stopAt]
    by_cases h : go pre x = true
    · rw [if_pos h, if_pos h, stopAt_append go a b (pre ++ [x])]
      cases h1 : stopAt go (pre ++ [x]) a with
      | some q => rfl
      | none => cases h2 : stopAt go (pre ++ [x] ++ a) b <;> simp [h2] <;> simp at h2 <;> simp [h2]
    · rw [if_neg h, if_neg h]
theorem stopAt_over {α : Type} {go : List α → α → Bool} {pre a b : List α} (h : stopAt go pre a = none) : stopAt go pre (a ++ b) = (stopAt go (pre ++ a) b).map (a ++ ·) := by rw [stopAt_append, h]
theorem stopAt_in {α : Type} {go : List α → α → Bool} {pre a b q : List α} (h : stopAt go pre a = some q) : stopAt go pre (a ++ b) = some q := by rw [stopAt_append, h]
theorem stopAt_one {α : Type} {go : List α → α → Bool} {pre r : List α} {x : α} (h : go pre x = true) : stopAt go pre (x :: r) = (stopAt go (pre ++ [x]) r).map (x :: ·) := by rw [stopAt, if_pos h]
def StmtAt (w0 : World) (s : S64) (v : Value) : Prop := ∃ (A2 : Option Addr) (c2 : Nat) (A3 : Option Addr) (c3 : Nat) (A4 : Option Addr) (c4 : Nat), v = .agg #[.int .i64 s.f0, .int .i64 s.f1, .slice A2 s.f2.length c2, .slice A3 s.f3.length c3, .slice A4 s.f4.length c4] ∧
  s.f2.length ≤ c2 ∧ Kd.C k28 w0 A2 s.f2.length s.f2 ∧ s.f3.length ≤ c3 ∧ Kd.C k64 w0 A3 s.f3.length s.f3 ∧ s.f4.length ≤ c4 ∧ Kd.C k64 w0 A4 s.f4.length s.f4
structure Keeps (B : Nat) (g : Option Nat) (W W' : World) : Prop where
  size : W.heap.size ≤ W'.heap.size
  block : ∀ k, B ≤ k → k < W.heap.size → some k ≠ g → W'.heap[k]? = W.heap[k]?
theorem Keeps.trans {B : Nat} {g : Option Nat} {a b c : World} (h : Keeps B g a b) (k : Keeps B g b c) : Keeps B g a c :=
  ⟨Nat.le_trans h.size k.size, fun i h1 h2 h3 => (k.block i h1 (Nat.lt_of_lt_of_le h2 h.size) h3).trans (h.block i h1 h2 h3)⟩
theorem Keeps.some {B : Nat} {g : Option Nat} {a b : World} (h : Keeps B none a b) : Keeps B g a b := ⟨h.size, fun i h1 h2 _ => h.block i h1 h2 (by simp)⟩
theorem Keeps.refl (B : Nat) (g : Option Nat) (a : World) : Keeps B g a a := ⟨Nat.le_refl _, fun _ _ _ _ => rfl⟩
def walkPost (w0 : World) (Bj G : Nat) (J Jx : List (Int × S64) → World → Prop) (go : List (Int × S64) → (Int × S64) → Bool) (pre its : List (Int × S64)) (n' : Int) (W : World) (e : Ending) (W' : World) : Prop :=
  (stopAt go pre its = none ∧ e = .returned (.bool true) ∧ J (pre ++ its) W' ∧ W'.heap[G]? = some (.cells #[.int .i64 n'] 3 (0, 0)) ∧ Keeps Bj (some G) W W' ∧ Below w0.heap.size w0 W') ∨
  (∃ q, stopAt go pre its = some q ∧ e = .returned (.bool false) ∧ Jx (pre ++ q) W')
theorem walk_world {wr : World} {G : Nat} {a u : Value} {t : TypeId} (hG : wr.heap[G]? = some (.cells #[a] t (0, 0))) (o : Obj) :
    ((wr.setCell ⟨G, 0, none⟩ u).alloc o).heap[G]? = some (.cells #[u] t (0, 0)) ∧ ((wr.setCell ⟨G, 0, none⟩ u).alloc o).heap[wr.heap.size]? = some o ∧ wr.grownBy ((wr.setCell ⟨G, 0, none⟩ u).alloc o) (some G) := by
  have h1 : (wr.setCell ⟨G, 0, none⟩ u).heap[G]? = some (.cells #[u] t (0, 0)) := by simpa using blk_set hG 0 u
  refine ⟨kal h1 _, ?_, ?_⟩
  · have := heap_alloc_new (wr.setCell ⟨G, 0, none⟩ u) o
    simpa using this
  · refine ⟨rfl, rfl, rfl, by simp, fun i hi hne2 => ?_⟩
    have hne' : i ≠ G := fun e => hne2 (by rw [e])
    rw [Below.heap_alloc _ _ _ (by simpa using hi), Below.heap_setCell _ _ _ _ hne']
theorem round_any {m m' : Nat} {P : Program} {l : Nat} {f : FuncId} {tmps : Array Value} {assign body : Code} {w : World} {R : Ending → World → Prop} (h : RoundIn Fence.wide m P l f tmps assign body w R) : RoundIn Fence.wide m' P l f tmps assign body w R := ⟨h.1, fun c cs _ => h.2 c cs (room_wide _)⟩
theorem calls_any {m m' : Nat} {P : Program} {f : FuncId} {args : Array Value} {w : World} {R : Ending → World → Prop} (h : CallsIn Fence.wide m P f args w R) : CallsIn Fence.wide m' P f args w R := callsIn_wide.2 (callsIn_wide.1 h)
theorem wide_depth {m : Nat} : Fence.wide.depth.isSome = true → 1 ≤ m := fun h => by simp [Fence.wide] at h
theorem prog_walk.walkIn (w0 : World) (rl Bj m : Nat) (J Jx : List (Int × S64) → World → Prop) (go : List (Int × S64) → (Int × S64) → Bool) (all : List (Int × S64))
    (hw0 : w0.heap.size ≤ Bj)
    (hJ : ∀ pre W W', J pre W → Below Bj W W' → J pre W')
    (hY : ∀ pre x v W, J pre W → StmtAt w0 x.2 v → Below w0.heap.size w0 W → Bj ≤ W.heap.size → (pre ++ [x]) <+: all → YieldAt Fence.wide m Try.prog rl #[.int .i64 x.1, v] W fun e W' =>
      e = .returned (.bool (go pre x)) ∧ (go pre x = true → J (pre ++ [x]) W' ∧ Keeps Bj none W W' ∧ Below w0.heap.size w0 W') ∧ (go pre x = false → Jx (pre ++ [x]) W'))
    (k : Nat) : ∀ (l : List S64) (n : Int) (its : List (Int × S64)) (n' : Int) (pre : List (Int × S64)) (W : World) (G : Nat) (A : Option Addr) (c : Nat),
    prog_walk.f k l n = some (its, n') → Kd.C k64 w0 A l.length l → l.length ≤ c → Below w0.heap.size w0 W → W.heap[G]? = some (.cells #[.int .i64 n] 3 (0, 0)) → Bj ≤ G → J pre W → (pre ++ its) <+: all →
    CallsIn Fence.wide m Try.prog 121 #[.slice A l.length c, .pointer (some ⟨G, 0, none⟩), .func (.yield rl) #[] #[]] W (walkPost w0 Bj G J Jx go pre its n' W) := by
  induction k using Nat.strongRecOn with
  | _ k ih =>
  intro l n its n' pre W G A c h hr hc hB hG hGB hJ0 hall
  cases k with
  | zero => exact absurd h (by simp [prog_walk.f])
  | succ k =>
  simp only [prog_walk.f] at h
  have huS := Try.underlying64
  have hl0 := hr.1
  refine callsIn_of_wp Try.func121 rfl trivial ?_ rfl
  simp only [Try.ntmps121, List.size_toArray, List.length_cons, List.length_nil, Nat.reduceAdd, Nat.reduceSub, Array.replicate_succ, Array.replicate_zero, List.push_toArray, List.append_toArray, List.nil_append, List.cons_append]
  have HR := Aside0.mk hr
  have HC := Aside0.mk hc
  have HB := Aside0.mk hB
  have BG := Aside0.mk hG
  have hGlt := blk_lt hG
  have HGB := Aside0.mk hGB
  have HJ0 := Aside0.mk hJ0
  have HALL := Aside0.mk hall
  have H' := Aside0.mk h
  have ih' := Aside0.mk ih
  have hJ' := Aside0.mk hJ
  have hY' := Aside0.mk hY
  clear hr hc hB hG hGB hJ0 hall h ih hJ hY hl0
  gi_wp2
  gi_loopw [11] (fun v11 wr => ∃ (kq : Nat) (i cnt : Int) (done rest : List (Int × S64)), v11 = .int .i64 i ∧ Aside0 (0 ≤ i) ∧ Aside0 (prog_walk.l0 kq l i cnt = some (rest, n')) ∧ Aside0 (kq ≤ k) ∧ Aside0 (its = done ++ rest) ∧ Aside0 (stopAt go pre done = none) ∧
      Aside0 (J (pre ++ done) wr) ∧ Aside0 (wr.heap[G]? = some (.cells #[.int .i64 cnt] 3 (0, 0))) ∧ Aside0 (Keeps Bj (some G) W wr) ∧ Aside0 (Below w0.heap.size w0 wr)) (fun v11 _ => l.length - (intOf v11).toNat)
  case atStart => exact ⟨k, 0, n, [], its, rfl, ⟨Int.le_refl _⟩, H', ⟨Nat.le_refl _⟩, ⟨rfl⟩, ⟨rfl⟩, ⟨by simpa using HJ0.out⟩, BG, ⟨Keeps.refl _ _ _⟩, HB⟩
  case round =>
    clear H' HJ0 BG HB
    obtain ⟨kq, i, cnt, done, rest, rfl, HI0, HA, HK, HE, HS, HJ1, BG, KP, HB⟩ := hrel
    cases kq with
    | zero => exact absurd HA.out (by simp [prog_walk.l0])
    | succ k1 =>
      have H := HA.out
      clear HA
      simp only [prog_walk.l0] at H
      have H2 := ite_b H
      clear H
      have hGl := blk_lt BG.out
      have hg0 : wr.cell? ⟨G, 0, none⟩ = some (.int .i64 cnt) := (blk_cell BG.out 0).trans rfl
      have hf0 := blk_frozen BG.out 0
      have hi0 := HI0.out
      have hl : l.length ≤ 9223372036854775807 := HR.out.2.1
      rcases H2 with ⟨t1, H⟩ | ⟨t1, H⟩
      case inr =>
        injection (Option.some.inj H) with e1 e2
        subst e1 e2
        clear H
        gi_wp2
        go_ret
        have e : its = done := by simpa using HE.out
        exact .inl ⟨by rw [e]; exact HS.out, rfl, by rw [e]; exact HJ1.out, BG.out, KP.out, HB.out⟩
      have H2 := ite_b H
      clear H
      rcases H2 with ⟨t2, H⟩ | ⟨t2, H⟩
      case inr => exact absurd H (by simp)
      have p1 : i < (l.length : Int) := of_decide_eq_true t1
      obtain ⟨ad, B2, b2, B3, b3, B4, b4, e1, q0, q1, q2, q3, q4, ql2, qr2, ql3, qr3, ql4, qr4⟩ := at_T64 HR.out i hi0 p1
      cases e1
      replace q0 := (HB.out.cell (World.block_lt_of_cell? w0 _ q0)).trans q0
      replace q1 := (HB.out.cell (World.block_lt_of_cell? w0 _ q1)).trans q1
      replace q2 := (HB.out.cell (World.block_lt_of_cell? w0 _ q2)).trans q2
      replace q3 := (HB.out.cell (World.block_lt_of_cell? w0 _ q3)).trans q3
      replace q4 := (HB.out.cell (World.block_lt_of_cell? w0 _ q4)).trans q4
      have QV := Aside0.mk (show StmtAt w0 (rd_T64 l i) _ from ⟨B2, b2, B3, b3, B4, b4, rfl, ql2, qr2, ql3, qr3, ql4, qr4⟩)
      have QL3 := Aside0.mk ql3
      have QR3 := Aside0.mk qr3
      have QL4 := Aside0.mk ql4
      have QR4 := Aside0.mk qr4
      clear ql2 qr2 ql3 qr3 ql4 qr4
      replace H := Option.bind_eq_some_iff.mp H
      obtain ⟨⟨ti, tn⟩, T0, H⟩ := H
      replace H := Option.bind_eq_some_iff.mp H
      obtain ⟨⟨ei, en⟩, E0, H⟩ := H
      replace H := Option.bind_eq_some_iff.mp H
      obtain ⟨⟨ri, rn⟩, R0, H⟩ := H
      injection (Option.some.inj H) with e1 e2
      clear H
      dsimp only at T0 E0 R0 e1 e2
      subst e2
      have TT := Aside0.mk T0
      have EE := Aside0.mk E0
      have RR := Aside0.mk R0
      have RE := Aside0.mk e1
      clear T0 E0 R0 e1
      have cw := Aside0.mk (walk_world BG.out (.cells #[.int .i64 (rd_T64 l i).f0, .int .i64 (rd_T64 l i).f1, .slice B2 (rd_T64 l i).f2.length b2, .slice B3 (rd_T64 l i).f3.length b3, .slice B4 (rd_T64 l i).f4.length b4] 64) (u := .int .i64 (wrap64 (cnt + 1))))
      gi_wp2
      obtain ⟨bG, bS, gW1⟩ := cw.out
      clear cw
      generalize ((wr.setCell ⟨G, 0, none⟩ (.int .i64 (wrap64 (cnt + 1)))).alloc (.cells #[.int .i64 (rd_T64 l i).f0, .int .i64 (rd_T64 l i).f1, .slice B2 (rd_T64 l i).f2.length b2, .slice B3 (rd_T64 l i).f3.length b3, .slice B4 (rd_T64 l i).f4.length b4] 64)) = W1 at bG bS gW1 ⊢
      generalize wrap64 (cnt + 1) = c1 at TT RE bG ⊢
      have hxw : IntKind.i64.wrap (c1 - 1) = wrap64 (c1 - 1) := i64_w _
      have hd0 : W1.cell? ⟨G, 0, none⟩ = some (.int .i64 c1) := (blk_cell bG 0).trans rfl
      obtain ⟨s0, s1, s2, s3, s4⟩ := cells5 bS
      have hWB : Bj ≤ wr.heap.size := by have := HGB.out; omega
      have KW : Aside0 (Keeps Bj (some G) W W1) := ⟨KP.out.trans ⟨gW1.size, fun j _ h2 h3 => gW1.block j h2 h3⟩⟩
      have BW : Aside0 (Below w0.heap.size w0 W1) := ⟨below_gr HB.out gW1 (by have := HGB.out; omega)⟩
      have JW : Aside0 (J (pre ++ done) W1) := ⟨hJ'.out _ _ _ HJ1.out ⟨gW1.os, gW1.tape, gW1.output, gW1.size, fun j hj => gW1.block j (by omega) (by intro e; injection e with e; have := HGB.out; omega)⟩⟩
      have hszW : wr.heap.size < W1.heap.size := blk_lt bS
      have hpre : Aside0 ((pre ++ done ++ [(wrap64 (c1 - 1), rd_T64 l i)]) <+: all) := ⟨by
        refine List.IsPrefix.trans ?_ HALL.out
        rw [HE.out, ← RE.out]
        exact ⟨ti ++ (ei ++ ri), by simp⟩⟩
      have BGW := Aside0.mk bG
      have BSW := Aside0.mk bS
      have hyl := hY'.out (pre ++ done) (wrap64 (c1 - 1), rd_T64 l i) _ W1.drew (hJ'.out _ _ _ JW.out (bd1 (Below.refl _ _))) QV.out (bd1 BW.out) (by show Bj ≤ W1.heap.size; omega) hpre.out
      obtain ⟨fn, tmps, assign, body, hy, hR0⟩ := hyl
      clear bG bS gW1 q0 q1 q2 q3 q4 hg0 hf0 BG HB HJ1
      dsimp only at hy hR0
      refine wpIn_region_any (by kernel_rfl) ?_
      change wpAnyIn _ _ _ _ _ _ _ _ _ (World.drew _)
      refine wpAnyIn_take (i := 0) (v := .func (.yield rl) #[] #[]) rfl rfl (by kernel_rfl) (by kernel_rfl) (by kernel_rfl) (fun _ _ _ h => h) ⟨Or.inl ⟨by rfl, fun _ => by go_simp⟩, fun _ => rfl⟩ ?_
      go_simp
      refine wpAnyIn_take (i := 1) (v := .pointer (some ⟨G, 0, none⟩)) rfl rfl (by kernel_rfl) (by kernel_rfl) (by kernel_rfl) (fun _ _ _ h => h) ⟨Or.inl ⟨by rfl, fun _ => by go_simp⟩, fun _ => rfl⟩ ?_
      go_simp
      refine (fun (key : ?KeyT) => ?main) ?key
      case main =>
        skip
        refine wpAnyIn_ready (rs := [2, 5]) (by kernel_rfl) (by simp) ?_
        refine AllReadyIn.cons rfl (fun K hK => ?_) (AllReadyIn.cons rfl (fun K hK => ?_) AllReadyIn.nil)
        · go_simp
          refine hK _ _ ?_
          clear hK K
          refine wpAnyIn_ready (rs := [3, 5]) (by kernel_rfl) (by simp) ?_
          refine AllReadyIn.cons rfl (fun K hK => ?_) (AllReadyIn.cons rfl (fun K hK => ?_) AllReadyIn.nil)
          · go_simp
            refine hK _ _ ?_
            clear hK K
            refine wpAnyIn_take (i := 4) (v := .int .i64 (wrap64 (c1 - 1))) rfl rfl (by kernel_rfl) (by kernel_rfl) (by kernel_rfl) (fun _ _ _ h => h) ⟨Or.inl ⟨by rfl, fun _ => by go_simp⟩, fun _ => rfl⟩ ?_
            go_simp
            refine wpAnyIn_ready (rs := [5]) (by kernel_rfl) (by simp) (AllReadyIn.cons rfl (fun K hK => ?_) AllReadyIn.nil)
            go_simp
            refine hK _ _ ?_
            clear hK K
            exact key
          · go_simp
            refine hK _ _ ?_
            clear hK K
            refine wpAnyIn_ready (rs := [3]) (by kernel_rfl) (by simp) (AllReadyIn.cons rfl (fun K hK => ?_) AllReadyIn.nil)
            go_simp
            refine hK _ _ ?_
            clear hK K
            refine wpAnyIn_take (i := 4) (v := .int .i64 (wrap64 (c1 - 1))) rfl rfl (by kernel_rfl) (by kernel_rfl) (by kernel_rfl) (fun _ _ _ h => h) ⟨Or.inl ⟨by rfl, fun _ => by go_simp⟩, fun _ => rfl⟩ ?_
            go_simp
            exact key
        · go_simp
          refine hK _ _ ?_
          clear hK K
          refine wpAnyIn_ready (rs := [2]) (by kernel_rfl) (by simp) (AllReadyIn.cons rfl (fun K hK => ?_) AllReadyIn.nil)
          go_simp
          refine hK _ _ ?_
          clear hK K
          refine wpAnyIn_ready (rs := [3]) (by kernel_rfl) (by simp) (AllReadyIn.cons rfl (fun K hK => ?_) AllReadyIn.nil)
          go_simp
          refine hK _ _ ?_
          clear hK K
          refine wpAnyIn_take (i := 4) (v := .int .i64 (wrap64 (c1 - 1))) rfl rfl (by kernel_rfl) (by kernel_rfl) (by kernel_rfl) (fun _ _ _ h => h) ⟨Or.inl ⟨by rfl, fun _ => by go_simp⟩, fun _ => rfl⟩ ?_
          go_simp
          exact key
      refine wpAnyIn_ready (rs := [6]) (by kernel_rfl) (by simp) (AllReadyIn.cons rfl (fun K hK => ?_) AllReadyIn.nil)
      go_simp
      gi_wp2_with (first | (refine ⟨wide_depth, ?_⟩; refine (round_any hR0).mono ?_; rintro e W2 ⟨rfl, hx, hx2⟩))
      clear hR0 hy
      cases hgo : go (pre ++ done) (wrap64 (c1 - 1), rd_T64 l i) with
      | false =>
        clear hx
        replace hx2 := hx2 hgo
        refine wpAnyIn_take (i := 7) (v := .bool true) rfl rfl (by kernel_rfl) (by kernel_rfl) (by kernel_rfl) (fun _ _ _ h => h) ⟨Or.inl ⟨by rfl, fun _ => by go_simp⟩, fun _ => rfl⟩ ?_
        go_simp
        refine wpAnyIn_take (i := 8) (v := .bool true) rfl rfl (by kernel_rfl) (by kernel_rfl) (by kernel_rfl) (fun _ _ _ h => h) ⟨Or.inl ⟨by rfl, fun _ => by go_simp⟩, fun _ => rfl⟩ ?_
        go_simp
        refine wpAnyIn_take (i := 9) (v := undef) rfl rfl (by kernel_rfl) (by kernel_rfl) (by kernel_rfl) (fun _ _ _ h => h) ⟨Or.inr ⟨by rfl, rfl⟩, fun _ => rfl⟩ ?_
        go_simp
        refine wpAnyIn_take (i := 10) (v := undef) rfl rfl (by kernel_rfl) (by kernel_rfl) (by kernel_rfl) (fun _ _ _ h => h) ⟨Or.inr ⟨by rfl, rfl⟩, fun _ => rfl⟩ ?_
        go_simp
        refine wpAnyIn_take (i := 11) (v := undef) rfl rfl (by kernel_rfl) (by kernel_rfl) (by kernel_rfl) (fun _ _ _ h => h) ⟨Or.inr ⟨by rfl, rfl⟩, fun _ => rfl⟩ ?_
        go_simp
        refine wpAnyIn_take (i := 12) (v := undef) rfl rfl (by kernel_rfl) (by kernel_rfl) (by kernel_rfl) (fun _ _ _ h => h) ⟨Or.inr ⟨by rfl, rfl⟩, fun _ => rfl⟩ ?_
        go_simp
        refine wpAnyIn_ready (rs := [13]) (by kernel_rfl) (by simp) (AllReadyIn.cons rfl (fun K hK => ?_) AllReadyIn.nil)
        go_simp
        refine ⟨trivial, ?_⟩
        refine hK _ _ ?_
        clear hK K
        refine wpAnyIn_take (i := 14) (v := undef) rfl rfl (by kernel_rfl) (by kernel_rfl) (by kernel_rfl) (fun _ _ _ h => h) ⟨Or.inr ⟨by rfl, rfl⟩, fun _ => rfl⟩ ?_
        go_simp
        refine wpAnyIn_take (i := 15) (v := .bool true) rfl rfl (by kernel_rfl) (by kernel_rfl) (by kernel_rfl) (fun _ _ _ h => h) ⟨Or.inl ⟨by rfl, fun _ => by go_simp⟩, fun _ => rfl⟩ ?_
        go_simp
        refine wpAnyIn_take (i := 16) (v := .bool true) rfl rfl (by kernel_rfl) (by kernel_rfl) (by kernel_rfl) (fun _ _ _ h => h) ⟨Or.inl ⟨by rfl, fun _ => by go_simp⟩, fun _ => rfl⟩ ?_
        go_simp
        refine wpAnyIn_take (i := 17) (v := undef) rfl rfl (by kernel_rfl) (by kernel_rfl) (by kernel_rfl) (fun _ _ _ h => h) ⟨Or.inr ⟨by rfl, rfl⟩, fun _ => rfl⟩ ?_
        go_simp
        refine wpAnyIn_take (i := 18) (v := undef) rfl rfl (by kernel_rfl) (by kernel_rfl) (by kernel_rfl) (fun _ _ _ h => h) ⟨Or.inr ⟨by rfl, rfl⟩, fun _ => rfl⟩ ?_
        go_simp
        refine wpAnyIn_take (i := 19) (v := undef) rfl rfl (by kernel_rfl) (by kernel_rfl) (by kernel_rfl) (fun _ _ _ h => h) ⟨Or.inr ⟨by rfl, rfl⟩, fun _ => rfl⟩ ?_
        go_simp
        refine wpAnyIn_take (i := 20) (v := undef) rfl rfl (by kernel_rfl) (by kernel_rfl) (by kernel_rfl) (fun _ _ _ h => h) ⟨Or.inr ⟨by rfl, rfl⟩, fun _ => rfl⟩ ?_
        go_simp
        refine wpAnyIn_ready (rs := [21]) (by kernel_rfl) (by simp) (AllReadyIn.cons rfl (fun K hK => ?_) AllReadyIn.nil)
        go_simp
        refine ⟨trivial, ?_⟩
        refine hK _ _ ?_
        clear hK K
        refine wpAnyIn_take (i := 22) (v := undef) rfl rfl (by kernel_rfl) (by kernel_rfl) (by kernel_rfl) (fun _ _ _ h => h) ⟨Or.inr ⟨by rfl, rfl⟩, fun _ => rfl⟩ ?_
        go_simp
        refine wpAnyIn_take (i := 23) (v := .bool true) rfl rfl (by kernel_rfl) (by kernel_rfl) (by kernel_rfl) (fun _ _ _ h => h) ⟨Or.inl ⟨by rfl, fun _ => by go_simp⟩, fun _ => rfl⟩ ?_
        go_simp
        refine wpAnyIn_done (by kernel_rfl) ?_ _
        gi_wp2
        go_ret
        refine .inr ⟨done ++ [(wrap64 (c1 - 1), rd_T64 l i)], ?_, rfl, by simpa using hx2⟩
        rw [HE.out, ← RE.out, stopAt_over HS.out, stopAt, if_neg (by simp [hgo])]
        rfl
      | true =>
        clear hx2
        obtain ⟨j2, k2, b2'⟩ := hx hgo
        clear hx
        have BG2 : W2.heap[G]? = some (.cells #[.int .i64 c1] 3 (0, 0)) := (k2.block G HGB.out (blk_lt BGW.out) (by simp)).trans BGW.out
        have BS2 := (k2.block wr.heap.size hWB hszW (by simp)).trans BSW.out
        have K2 := Aside0.mk k2
        have J2 := Aside0.mk j2
        have B2' := Aside0.mk b2'
        have G2 := Aside0.mk BG2
        have S2 := Aside0.mk BS2
        obtain ⟨s0, s1, s2, s3, s4⟩ := cells5 BS2
        clear j2 k2 b2' BG2 BS2
        refine wpAnyIn_take (i := 7) (v := .bool false) rfl rfl (by kernel_rfl) (by kernel_rfl) (by kernel_rfl) (fun _ _ _ h => h) ⟨Or.inl ⟨by rfl, fun _ => by go_simp⟩, fun _ => rfl⟩ ?_
        go_simp
        refine wpAnyIn_take (i := 8) (v := .bool false) rfl rfl (by kernel_rfl) (by kernel_rfl) (by kernel_rfl) (fun _ _ _ h => h) ⟨Or.inl ⟨by rfl, fun _ => by go_simp⟩, fun _ => rfl⟩ ?_
        go_simp
        refine wpAnyIn_take (i := 9) (v := .pointer (some ⟨wr.heap.size, 3, none⟩)) rfl rfl (by kernel_rfl) (by kernel_rfl) (by kernel_rfl) (fun _ _ _ h => h) ⟨Or.inl ⟨by rfl, fun _ => by go_simp⟩, fun _ => rfl⟩ ?_
        go_simp
        refine wpAnyIn_take (i := 11) (v := .pointer (some ⟨G, 0, none⟩)) rfl rfl (by kernel_rfl) (by kernel_rfl) (by kernel_rfl) (fun _ _ _ h => h) ⟨Or.inl ⟨by rfl, fun _ => by go_simp⟩, fun _ => rfl⟩ ?_
        go_simp
        refine wpAnyIn_take (i := 12) (v := .func (.yield rl) #[] #[]) rfl rfl (by kernel_rfl) (by kernel_rfl) (by kernel_rfl) (fun _ _ _ h => h) ⟨Or.inl ⟨by rfl, fun _ => by go_simp⟩, fun _ => rfl⟩ ?_
        go_simp
        refine wpAnyIn_ready (rs := [10]) (by kernel_rfl) (by simp) (AllReadyIn.cons rfl (fun K hK => ?_) AllReadyIn.nil)
        go_simp
        refine hK _ _ ?_
        clear hK K
        refine wpAnyIn_ready (rs := [13]) (by kernel_rfl) (by simp) (AllReadyIn.cons rfl (fun K hK => ?_) AllReadyIn.nil)
        go_simp
        refine ⟨trivial, wide_depth, ?_⟩
        refine (calls_any (m' := m - 1) (ih'.out k1 (by have := HK.out; omega) (rd_T64 l i).f3 c1 ti tn (pre ++ done ++ [(wrap64 (c1 - 1), rd_T64 l i)]) W2 G _ _ TT.out QR3.out QL3.out B2'.out G2.out HGB.out J2.out ?pf)).mono ?_
        case pf =>
          refine List.IsPrefix.trans ?_ HALL.out
          rw [HE.out, ← RE.out]
          exact ⟨ei ++ ri, by simp⟩
        rintro e W3 hw3
        cases hst : stopAt go (pre ++ done ++ [(wrap64 (c1 - 1), rd_T64 l i)]) ti with
        | some q =>
          obtain ⟨h0, _⟩ | ⟨q', h0, rfl, hx2⟩ := hw3
          · exact absurd (h0.symm.trans hst) (by simp)
          cases (h0.symm.trans hst)
          refine hK _ _ ?_
          clear hK K
          refine wpAnyIn_take (i := 14) (v := .bool true) rfl rfl (by kernel_rfl) (by kernel_rfl) (by kernel_rfl) (fun _ _ _ h => h) ⟨Or.inl ⟨by rfl, fun _ => by go_simp⟩, fun _ => rfl⟩ ?_
          go_simp
          refine wpAnyIn_take (i := 15) (v := .bool true) rfl rfl (by kernel_rfl) (by kernel_rfl) (by kernel_rfl) (fun _ _ _ h => h) ⟨Or.inl ⟨by rfl, fun _ => by go_simp⟩, fun _ => rfl⟩ ?_
          go_simp
          refine wpAnyIn_take (i := 16) (v := .bool true) rfl rfl (by kernel_rfl) (by kernel_rfl) (by kernel_rfl) (fun _ _ _ h => h) ⟨Or.inl ⟨by rfl, fun _ => by go_simp⟩, fun _ => rfl⟩ ?_
          go_simp
          refine wpAnyIn_take (i := 17) (v := undef) rfl rfl (by kernel_rfl) (by kernel_rfl) (by kernel_rfl) (fun _ _ _ h => h) ⟨Or.inr ⟨by rfl, rfl⟩, fun _ => rfl⟩ ?_
          go_simp
          refine wpAnyIn_take (i := 18) (v := undef) rfl rfl (by kernel_rfl) (by kernel_rfl) (by kernel_rfl) (fun _ _ _ h => h) ⟨Or.inr ⟨by rfl, rfl⟩, fun _ => rfl⟩ ?_
          go_simp
          refine wpAnyIn_take (i := 19) (v := undef) rfl rfl (by kernel_rfl) (by kernel_rfl) (by kernel_rfl) (fun _ _ _ h => h) ⟨Or.inr ⟨by rfl, rfl⟩, fun _ => rfl⟩ ?_
          go_simp
          refine wpAnyIn_take (i := 20) (v := undef) rfl rfl (by kernel_rfl) (by kernel_rfl) (by kernel_rfl) (fun _ _ _ h => h) ⟨Or.inr ⟨by rfl, rfl⟩, fun _ => rfl⟩ ?_
          go_simp
          refine wpAnyIn_ready (rs := [21]) (by kernel_rfl) (by simp) (AllReadyIn.cons rfl (fun K hK => ?_) AllReadyIn.nil)
          go_simp
          refine ⟨trivial, ?_⟩
          refine hK _ _ ?_
          clear hK K
          refine wpAnyIn_take (i := 22) (v := undef) rfl rfl (by kernel_rfl) (by kernel_rfl) (by kernel_rfl) (fun _ _ _ h => h) ⟨Or.inr ⟨by rfl, rfl⟩, fun _ => rfl⟩ ?_
          go_simp
          refine wpAnyIn_take (i := 23) (v := .bool true) rfl rfl (by kernel_rfl) (by kernel_rfl) (by kernel_rfl) (fun _ _ _ h => h) ⟨Or.inl ⟨by rfl, fun _ => by go_simp⟩, fun _ => rfl⟩ ?_
          go_simp
          refine wpAnyIn_done (by kernel_rfl) ?_ _
          gi_wp2
          go_ret
          refine .inr ⟨done ++ [(wrap64 (c1 - 1), rd_T64 l i)] ++ q, ?_, rfl, by simpa using hx2⟩
          rw [HE.out, ← RE.out, stopAt_over HS.out, stopAt_one hgo, stopAt_in hst]
          simp
        | none =>
          obtain ⟨_, rfl, j3, g3, k3, b3'⟩ | ⟨q', h0, _, _⟩ := hw3
          rotate_left
          · exact absurd (h0.symm.trans hst) (by simp)
          have BS3 := (k3.block wr.heap.size hWB (blk_lt S2.out) (by intro e; injection e with e; omega)).trans S2.out
          have K3 := Aside0.mk k3
          have J3 := Aside0.mk j3
          have B3' := Aside0.mk b3'
          have G3 := Aside0.mk g3
          have S3 := Aside0.mk BS3
          clear s0 s1 s2 s3 s4
          obtain ⟨s0, s1, s2, s3, s4⟩ := cells5 BS3
          clear j3 k3 b3' g3 BS3
          refine hK _ _ ?_
          clear hK K
          refine wpAnyIn_take (i := 14) (v := .bool false) rfl rfl (by kernel_rfl) (by kernel_rfl) (by kernel_rfl) (fun _ _ _ h => h) ⟨Or.inl ⟨by rfl, fun _ => by go_simp⟩, fun _ => rfl⟩ ?_
          go_simp
          refine wpAnyIn_take (i := 15) (v := .bool false) rfl rfl (by kernel_rfl) (by kernel_rfl) (by kernel_rfl) (fun _ _ _ h => h) ⟨Or.inl ⟨by rfl, fun _ => by go_simp⟩, fun _ => rfl⟩ ?_
          go_simp
          refine wpAnyIn_take (i := 16) (v := .bool false) rfl rfl (by kernel_rfl) (by kernel_rfl) (by kernel_rfl) (fun _ _ _ h => h) ⟨Or.inl ⟨by rfl, fun _ => by go_simp⟩, fun _ => rfl⟩ ?_
          go_simp
          refine wpAnyIn_take (i := 17) (v := .pointer (some ⟨wr.heap.size, 4, none⟩)) rfl rfl (by kernel_rfl) (by kernel_rfl) (by kernel_rfl) (fun _ _ _ h => h) ⟨Or.inl ⟨by rfl, fun _ => by go_simp⟩, fun _ => rfl⟩ ?_
          go_simp
          refine wpAnyIn_take (i := 19) (v := .pointer (some ⟨G, 0, none⟩)) rfl rfl (by kernel_rfl) (by kernel_rfl) (by kernel_rfl) (fun _ _ _ h => h) ⟨Or.inl ⟨by rfl, fun _ => by go_simp⟩, fun _ => rfl⟩ ?_
          go_simp
          refine wpAnyIn_take (i := 20) (v := .func (.yield rl) #[] #[]) rfl rfl (by kernel_rfl) (by kernel_rfl) (by kernel_rfl) (fun _ _ _ h => h) ⟨Or.inl ⟨by rfl, fun _ => by go_simp⟩, fun _ => rfl⟩ ?_
          go_simp
          refine wpAnyIn_ready (rs := [18]) (by kernel_rfl) (by simp) (AllReadyIn.cons rfl (fun K hK => ?_) AllReadyIn.nil)
          go_simp
          refine hK _ _ ?_
          clear hK K
          refine wpAnyIn_ready (rs := [21]) (by kernel_rfl) (by simp) (AllReadyIn.cons rfl (fun K hK => ?_) AllReadyIn.nil)
          go_simp
          refine ⟨trivial, wide_depth, ?_⟩
          refine (calls_any (m' := m - 1) (ih'.out k1 (by have := HK.out; omega) (rd_T64 l i).f4 tn ei en ((pre ++ done ++ [(wrap64 (c1 - 1), rd_T64 l i)]) ++ ti) W3 G _ _ EE.out QR4.out QL4.out B3'.out G3.out HGB.out J3.out ?pf)).mono ?_
          case pf =>
            refine List.IsPrefix.trans ?_ HALL.out
            rw [HE.out, ← RE.out]
            exact ⟨ri, by simp⟩
          rintro e W4 hw4
          cases hst2 : stopAt go ((pre ++ done ++ [(wrap64 (c1 - 1), rd_T64 l i)]) ++ ti) ei with
          | some q =>
            obtain ⟨h0, _⟩ | ⟨q', h0, rfl, hx2⟩ := hw4
            · exact absurd (h0.symm.trans hst2) (by simp)
            cases (h0.symm.trans hst2)
            refine hK _ _ ?_
            clear hK K
            refine wpAnyIn_take (i := 22) (v := .bool true) rfl rfl (by kernel_rfl) (by kernel_rfl) (by kernel_rfl) (fun _ _ _ h => h) ⟨Or.inl ⟨by rfl, fun _ => by go_simp⟩, fun _ => rfl⟩ ?_
            go_simp
            refine wpAnyIn_take (i := 23) (v := .bool true) rfl rfl (by kernel_rfl) (by kernel_rfl) (by kernel_rfl) (fun _ _ _ h => h) ⟨Or.inl ⟨by rfl, fun _ => by go_simp⟩, fun _ => rfl⟩ ?_
            go_simp
            refine wpAnyIn_done (by kernel_rfl) ?_ _
            gi_wp2
            go_ret
            refine .inr ⟨done ++ [(wrap64 (c1 - 1), rd_T64 l i)] ++ ti ++ q, ?_, rfl, by simpa using hx2⟩
            rw [HE.out, ← RE.out, stopAt_over HS.out, stopAt_one hgo, stopAt_over hst, stopAt_in hst2]
            simp
          | none =>
            obtain ⟨_, rfl, j4, g4, k4, b4'⟩ | ⟨q', h0, _, _⟩ := hw4
            rotate_left
            · exact absurd (h0.symm.trans hst2) (by simp)
            clear s0 s1 s2 s3 s4
            refine hK _ _ ?_
            clear hK K
            refine wpAnyIn_take (i := 22) (v := .bool false) rfl rfl (by kernel_rfl) (by kernel_rfl) (by kernel_rfl) (fun _ _ _ h => h) ⟨Or.inl ⟨by rfl, fun _ => by go_simp⟩, fun _ => rfl⟩ ?_
            go_simp
            refine wpAnyIn_take (i := 23) (v := .bool false) rfl rfl (by kernel_rfl) (by kernel_rfl) (by kernel_rfl) (fun _ _ _ h => h) ⟨Or.inl ⟨by rfl, fun _ => by go_simp⟩, fun _ => rfl⟩ ?_
            go_simp
            refine wpAnyIn_done (by kernel_rfl) ?_ _
            gi_wp2
            have hw : wrap64 (i + 1) = i + 1 := IntWalk.wrap64_in _ ⟨by omega, by omega⟩
            have hrr := RR.out
            rw [hw] at hrr
            refine ⟨⟨k1, i + 1, en, done ++ ((wrap64 (c1 - 1), rd_T64 l i) :: (ti ++ ei)), ri, rfl, ⟨by omega⟩, ⟨hrr⟩, ⟨by have := HK.out; omega⟩, ⟨by rw [HE.out, ← RE.out]; simp⟩, ⟨?_⟩, ⟨by simpa using j4⟩, ⟨g4⟩, ⟨?_⟩, ⟨b4'⟩⟩, ?_⟩
            · rw [stopAt_over HS.out, stopAt_one hgo, stopAt_over hst, hst2]
              rfl
            · exact KW.out.trans ((Keeps.some (g := some G) (show Keeps Bj none W1 W2 from ⟨K2.out.size, K2.out.block⟩)).trans (K3.out.trans k4))
            · have e1 : intOf (Value.int IntKind.i64 (i + 1)) = i + 1 := rfl
              have e2 : intOf (Value.int IntKind.i64 i) = i := rfl
              rw [e1, e2]
              omega
end Go.Proofs.Ytilebfkehmecaaa.Print
namespace Go.Proofs.Ytilebfkehmecaaa.Print
open Go.RowKit Go.Proofs.YtilebfkehmecaaaW.PrintWords Go.Proofs.YtilebfkehmecaaaW.PrintLast Go.Proofs.YtilebfkehmecaaaW.PrintMore
attribute [local go_sem] max2_int min2_int max_two min_two max_three min_three max_four min_four
set_option linter.unusedVariables false
set_option linter.unusedSimpArgs false
mutual
def wkS (n : Int) : S64 → List (Int × S64)
  | ⟨op, m, a, t, e⟩ => (n, ⟨op, m, a, t, e⟩) :: (wks (n + 1) t ++ wks (n + 1 + sCs t) e)
def wks (n : Int) : List S64 → List (Int × S64)
  | [] => []
  | x :: r => wkS n x ++ wks (n + sC x) r
end
theorem wkS_eq (n : Int) (x : S64) : wkS n x = (n, x) :: (wks (n + 1) x.f3 ++ wks (n + 1 + sCs x.f3) x.f4) := by cases x; simp only [wkS]
theorem wks_nil (n : Int) : wks n [] = [] := by simp only [wks]
theorem wks_cons (n : Int) (x : S64) (r : List S64) : wks n (x :: r) = wkS n x ++ wks (n + sC x) r := by simp only [wks]
theorem walk_tells : (∀ x, goodS x → ∀ n : Int, 0 ≤ n → n + sC x ≤ 1000000 → Tells (fun k => prog_walk.f k x.f3 (n + 1)) (wks (n + 1) x.f3, n + 1 + sCs x.f3) ∧ Tells (fun k => prog_walk.f k x.f4 (n + 1 + sCs x.f3)) (wks (n + 1 + sCs x.f3) x.f4, n + 1 + sCs x.f3 + sCs x.f4)) ∧
    (∀ suf, ∀ (pre : List S64), goodSs suf → (pre ++ suf).length ≤ 9223372036854775807 → ∀ n : Int, 0 ≤ n → n + sCs suf ≤ 1000000 → Tells (fun k => prog_walk.l0 k (pre ++ suf) (pre.length : Int) n) (wks n suf, n + sCs suf)) := by
  refine S_ind (fun a b l t e h1 h2 => ?_) ?_ (fun x r ih1 ih2 => ?_)
  · intro hg n h0 hn
    rw [goodS_mk] at hg
    rw [sC_eq] at hn
    simp only at hn ⊢
    constructor
    · refine Tells.succ ?_
      simp only [prog_walk.f]
      exact h1 [] hg.2.1.2 hg.2.1.1 (n + 1) (by omega) (by omega)
    · refine Tells.succ ?_
      simp only [prog_walk.f]
      exact h2 [] hg.2.2.2 hg.2.2.1 (n + 1 + sCs t) (by omega) (by omega)
  · intro pre _ _ n _ _
    refine Tells.succ ?_
    simp only [prog_walk.l0, pre_nlt, if_false]
    rw [sCs_nil, wks_nil, show n + ((0 : Nat) : Int) = n by omega]
    exact Tells.pure _
  · intro pre hg hl n h0 hn
    rw [goodSs_cons] at hg
    rw [sCs_cons] at hn
    obtain ⟨t1, t2⟩ := ih1 hg.1 n h0 (by omega)
    have t3 := ih2 (pre ++ [x]) hg.2 (by rw [← pre_app]; exact hl) (n + sC x) (by omega) (by omega)
    rw [← pre_app] at t3
    have e : (sC x : Int) = 1 + sCs x.f3 + sCs x.f4 := by rw [sC_eq]; omega
    have hb := sC_eq x
    refine Tells.succ ?_
    simp only [prog_walk.l0, pre_lt, pre_pos, if_true, rdS_mid]
    rw [pre_next pre x r hl, w64 (n := n + 1) (by omega) (by omega), show n + 1 - 1 = n by omega, w64 (n := n) (by omega) (by omega)]
    rw [show n + ((sCs (x :: r) : Nat) : Int) = n + sC x + sCs r by rw [sCs_cons]; omega, wks_cons, wkS_eq, List.cons_append, List.append_assoc]
    refine Tells.bind t1 (Tells.bind t2 ?_)
    rw [show n + 1 + (sCs x.f3 : Int) + (sCs x.f4 : Int) = n + sC x by omega]
    exact Tells.bind t3 (Tells.pure _)
end Go.Proofs.Ytilebfkehmecaaa.Print
namespace Go.Proofs.Ytilebfkehmecaaa.Print
open Go.RowKit Go.Proofs.YtilebfkehmecaaaW.PrintWords Go.Proofs.YtilebfkehmecaaaW.PrintLast Go.Proofs.YtilebfkehmecaaaW.PrintMore
attribute [local go_sem] max2_int min2_int max_two min_two max_three min_three max_four min_four
set_option linter.unusedVariables false
set_option linter.unusedSimpArgs false
open Go.Shelf Go.RowKit
def SeqBy {α : Type} (P : Program) (gf : Nat) (lb : Array Value) (E : α → Array Value → Prop) (its : List α) (w0 : World) : Prop :=
  ∀ (m l : Nat) (J Jx : List α → World → Prop) (go : List α → α → Bool) (W : World), Below w0.heap.size w0 W →
    (∀ pre A B, J pre A → Below W.heap.size A B → J pre B) →
    (∀ pre x av A, J pre A → E x av → Below w0.heap.size w0 A → W.heap.size ≤ A.heap.size → (pre ++ [x]) <+: its → YieldAt Fence.wide m P l av A fun e B =>
      e = .returned (.bool (go pre x)) ∧ (go pre x = true → J (pre ++ [x]) B ∧ Keeps W.heap.size none A B ∧ Below w0.heap.size w0 B) ∧ (go pre x = false → Jx (pre ++ [x]) B)) →
    J [] W →
    CallsIn Fence.wide m P gf (#[.func (.yield l) #[] #[]] ++ lb) W fun e W' => (∃ v, e = .returned v) ∧
      ((stopAt go [] its = none ∧ J its W' ∧ Below w0.heap.size w0 W') ∨ (∃ q, stopAt go [] its = some q ∧ Jx q W'))
def roundBy {α : Type} (S0 : Nat) (w0 : World) (I : List α → World → Prop) (Ix : Code → List α → World → Prop) (go : List α → α → Bool) (pre : List α) (x : α) (W W2 : World) : Exit → Act → World → Prop
  | .normal, _, W3 => go pre x = true ∧ W2.heap.size ≤ W3.heap.size ∧ (∀ k, S0 ≤ k → k < W.heap.size → W3.heap[k]? = W2.heap[k]?) ∧ Below w0.heap.size w0 W3 ∧ I (pre ++ [x]) W3
  | .ret, _, W3 => go pre x = false ∧ (∀ k, S0 ≤ k → k < W.heap.size → W3.heap[k]? = W2.heap[k]?) ∧ Ix .ret (pre ++ [x]) W3
  | .exit id, _, W3 => go pre x = false ∧ (∀ k, S0 ≤ k → k < W.heap.size → W3.heap[k]? = W2.heap[k]?) ∧ Ix (.exit id) (pre ++ [x]) W3
  | _, _, _ => False
theorem below_put (B : Nat) (W : World) {l : Nat} (o : Obj) (h : B ≤ l) : Below B W (W.putObj l o) := by
  have g := grownBy_putObj' W l o
  refine ⟨g.os, g.tape, g.output, g.size, fun k hk => ?_⟩
  exact World.putObj_heap_other (by omega)
theorem wpIn_rangeBy {α : Type} {n : Nat} {P : Program} {g : Operand} {ps : Array Tmp} {assign body : Code} {Q : Exit → Act → World → Prop} {a : Act} {w : World} {gf : Nat} {lb : Array Value}
    (hg : a.eval g = .func (.func gf) #[] lb) (eg : ∀ args w, (callFunc gf args).run P w = .ok (.enter gf args) w)
    {E : α → Array Value → Prop} {its : List α} {w0 : World} (hseq : SeqBy P gf lb E its w0) (hb0 : Below w0.heap.size w0 w) (hps : ∀ x av, E x av → av.size = ps.size)
    (go : List α → α → Bool) (I : List α → World → Prop) (Ix : Code → List α → World → Prop)
    (hI : ∀ pre A B, I pre A → Below w.heap.size A B → I pre B) (hIx : ∀ c pre A (j : Nat) (o o' : Obj), w.heap.size ≤ j → Ix c pre A → A.heap[j]? = some o → o.isCells = false → Ix c pre (A.putObj j o')) (h0 : I [] w)
    (hround : ∀ l pre x av W, I pre W → E x av → (pre ++ [x]) <+: its → Below w0.heap.size w0 W → w.heap.size + 2 ≤ W.heap.size →
      assign.wpIn (Fence.wide.inRound l) n P (Exit.then (fun a1 W1 => W.grownBy W1 none ∧ ∀ W2, W1.grownBy W2 (some (w.heap.size + 1)) → W2.heap.size = W1.heap.size → I pre W2 → Below w0.heap.size w0 W2 →
        body.wpIn (Fence.wide.inRound l) n P (roundBy w.heap.size w0 I Ix go pre x W W2) a1 W2) (fun _ _ _ => False)) { tmps := (ps.zip av).foldl (fun t (p, v) => t.setIfInBounds p v) a.tmps, defers := [] } W)
    (hdone : ∀ W, stopAt go [] its = none → I its W → Below w0.heap.size w0 W → W.heap[w.heap.size]? = some (.deferred (some [])) → Q .normal { a with defers := { target := .collected w.heap.size, args := #[] } :: a.defers } W)
    (hstop : ∀ c q W, stopAt go [] its = some q → Ix c q W → W.heap[w.heap.size]? = some (.deferred (some [])) → c.wpIn Fence.wide n P Q { a with defers := { target := .collected w.heap.size, args := #[] } :: a.defers } W) :
    (Code.rangeFunc g ps assign body).wpIn Fence.wide n P Q a w := by
  refine wpIn_rangeFunc ?_
  intro fn hfn
  obtain ⟨rec, hrec⟩ : ∃ rec : LoopState → Option Code → Loop, rec = fun st pe => { state := st, pending := pe, fn, tmps := a.tmps, params := ps, assign, body, defers := w.heap.size } := ⟨_, rfl⟩
  obtain ⟨W1, hW1⟩ : ∃ W1, (w.alloc (.deferred (some []))).alloc (.loop (rec .ready none)) = W1 := ⟨_, rfl⟩
  have hL1 : W1.heap[w.heap.size + 1]? = some (.loop (rec .ready none)) := by
    rw [← hW1]; have := World.alloc_heap_new (w.alloc (.deferred (some []))) (.loop (rec .ready none)); rwa [World.size_alloc] at this
  have hK1 : W1.heap[w.heap.size]? = some (.deferred (some [])) := by
    rw [← hW1]; exact (Below.heap_alloc _ _ _ (by simp)).trans (World.alloc_heap_new w _)
  have hS1 : W1.heap.size = w.heap.size + 2 := by rw [← hW1]; simp
  have hw1 : Below w.heap.size w W1 := by
    rw [← hW1]; exact ((Below.refl _ w).alloc (Nat.le_refl _) _).alloc (by simp) _
  have hI1 : I [] W1 := hI _ _ _ h0 hw1
  have hb1 : Below w0.heap.size w0 W1 := hb0.trans (hw1.mono hb0.size)
  have hB0 : w0.heap.size ≤ w.heap.size := hb0.size
  refine ⟨w.heap.size + 1, [{ target := .collected w.heap.size, args := #[] }], W1, { target := .fn (.func gf) lb, args := #[.func (.yield (w.heap.size + 1)) #[] #[]] }, W1, gf,
    #[.func (.yield (w.heap.size + 1)) #[] #[]] ++ lb, W1, ?_, ?_, ?_, ?_, wide_depth, ?_⟩
  · rw [← hW1, hrec]; exact run_enterLoop_outer _ _ _ _ _
  · simp only [resolve, hg]
    simp [go_sem]
  · intro f' hf'; trivial
  · simp [invoke, go_sem, eg]
  refine (hseq (n - 1) (w.heap.size + 1)
    (fun pre W => I pre W ∧ W.heap[w.heap.size + 1]? = some (.loop (rec .ready none)) ∧ W.heap[w.heap.size]? = some (.deferred (some [])))
    (fun pre W => ∃ c, Ix c pre W ∧ W.heap[w.heap.size + 1]? = some (.loop (rec .done (some c))) ∧ W.heap[w.heap.size]? = some (.deferred (some [])))
    go W1 hb1
    (fun pre A B hs hb => ⟨hI _ _ _ hs.1 (hb.mono (by omega)), (hb.block _ (by omega)).trans hs.2.1, (hb.block _ (by omega)).trans hs.2.2⟩)
    ?_ ⟨hI1, hL1, hK1⟩).mono ?_
  · rintro pre x av W ⟨hi, hl, hk⟩ hE hbW hsz hpre
    have hlt : w.heap.size + 1 < W.heap.size := (Array.getElem?_eq_some_iff.1 hl).1
    have hy := run_yield (P := P) (args := av) hl (by rw [hrec]; exact hps x av hE)
    rw [hrec] at hy
    refine ⟨fn, _, assign, body, hy, round_any (roundIn_of_wpIn (n := n) trivial ?_)⟩
    refine wpIn_mono (hround (w.heap.size + 1) pre x av W hi hE hpre hbW (by omega)) ?_
    rintro e a1 Wa hp
    cases e with
    | normal =>
      obtain ⟨hga, hbd⟩ := hp
      have hla := (hga.block _ hlt (by simp)).trans hl
      have hka := (hga.block _ (by omega : w.heap.size < W.heap.size) (by simp)).trans hk
      have hgs := hga.size
      have hlta : w.heap.size + 1 < Wa.heap.size := by omega
      refine ⟨_, run_beginRound hla (by rw [hrec]), ?_⟩
      have hg2 := grownBy_putObj' Wa (w.heap.size + 1) (.loop { rec .ready none with state := .busy })
      have hl2 : (Wa.putObj (w.heap.size + 1) (.loop { rec .ready none with state := .busy })).heap[w.heap.size + 1]? = some (.loop { rec .ready none with state := .busy }) := World.putObj_heap_same hlta
      have hk2 : (Wa.putObj (w.heap.size + 1) (.loop { rec .ready none with state := .busy })).heap[w.heap.size]? = some (.deferred (some [])) := (World.putObj_heap_other (by omega)).trans hka
      have hs2 : (Wa.putObj (w.heap.size + 1) (.loop { rec .ready none with state := .busy })).heap.size = Wa.heap.size := by simp
      have hba : Below w.heap.size W Wa := ⟨hga.os, hga.tape, hga.output, hga.size, fun k hk => hga.block k (by omega) (by simp)⟩
      have hb2 : Below w.heap.size W (Wa.putObj (w.heap.size + 1) (.loop { rec .ready none with state := .busy })) := hba.trans (below_put _ _ _ (by omega))
      generalize Wa.putObj (w.heap.size + 1) (.loop { rec .ready none with state := .busy }) = W2 at hg2 hl2 hk2 hs2 hb2 ⊢
      refine wpIn_mono (hbd W2 hg2 hs2 (hI _ _ _ hi hb2) (hbW.trans (hb2.mono hB0))) ?_
      have fin : ∀ (jump : Option Code) (W3 : World), (∀ k, w.heap.size ≤ k → k < W.heap.size → W3.heap[k]? = W2.heap[k]?) →
          (Instr.endRound (w.heap.size + 1) jump).run P W3 = .ok (.bool jump.isNone) (W3.putObj (w.heap.size + 1) (.loop (rec (if jump.isNone then .ready else .done) jump))) ∧
          (W3.putObj (w.heap.size + 1) (.loop (rec (if jump.isNone then .ready else .done) jump))).heap[w.heap.size + 1]? = some (.loop (rec (if jump.isNone then .ready else .done) jump)) ∧
          (W3.putObj (w.heap.size + 1) (.loop (rec (if jump.isNone then .ready else .done) jump))).heap[w.heap.size]? = some (.deferred (some [])) ∧ W3.heap[w.heap.size + 1]? = some (.loop { rec .ready none with state := .busy }) := fun jump W3 hk3 => by
        have hl3 := (hk3 _ (by omega) hlt).trans hl2
        have := run_endRound (P := P) jump hl3
        rw [hrec] at this ⊢
        exact ⟨this, World.putObj_heap_same (Array.getElem?_eq_some_iff.1 hl3).1, (World.putObj_heap_other (by omega)).trans ((hk3 _ (Nat.le_refl _) (by omega)).trans hk2), by rw [hrec] at hl3; exact hl3⟩
      rintro e3 a3 W3 hq
      cases e3 with
      | normal =>
        obtain ⟨hgo, hsz3, hk3, hb3, hi3⟩ := hq
        obtain ⟨hr, hl4, hk4, hl3⟩ := fin none W3 hk3
        have hp3 := below_put w.heap.size W3 (.loop (rec .ready none)) (by omega : w.heap.size ≤ w.heap.size + 1)
        have hg3 := grownBy_putObj' W3 (w.heap.size + 1) (.loop (rec .ready none))
        refine ⟨_, _, hr, by rw [hgo]; rfl, fun _ => ⟨⟨hI _ _ _ hi3 hp3, hl4, hk4⟩, ⟨?_, ?_⟩, hb3.trans (hp3.mono hB0)⟩, fun h => by rw [hgo] at h; cases h⟩
        · have := hg3.size; simp only [Option.isNone_none, if_true]; omega
        · intro k h1 h2 _
          simp only [Option.isNone_none, if_true]
          rw [World.putObj_heap_other (by omega), hk3 k (by omega) h2, hg2.block k (by omega) (by intro e; injection e with e; omega)]
          exact hga.block k h2 (by simp)
      | ret =>
        obtain ⟨hgo, hk3, hi3⟩ := hq
        obtain ⟨hr, hl4, hk4, hl3⟩ := fin (some .ret) W3 hk3
        exact ⟨_, _, hr, by rw [hgo]; rfl, fun h => (by rw [hgo] at h; cases h), fun _ => ⟨.ret, hIx _ _ _ _ _ _ (by omega) hi3 hl3 rfl, hl4, hk4⟩⟩
      | exit id =>
        obtain ⟨hgo, hk3, hi3⟩ := hq
        obtain ⟨hr, hl4, hk4, hl3⟩ := fin (some (.exit id)) W3 hk3
        exact ⟨_, _, hr, by rw [hgo]; rfl, fun h => (by rw [hgo] at h; cases h), fun _ => ⟨.exit id, hIx _ _ _ _ _ _ (by omega) hi3 hl3 rfl, hl4, hk4⟩⟩
      | goto t => exact hq.elim
      | panic ch => exact hq.elim
      | outgrown => exact hq.elim
    | ret => exact hp.elim
    | exit id => exact hp.elim
    | goto t => exact hp.elim
    | panic ch => exact hp.elim
    | outgrown => exact hp.elim
  · rintro e W2 ⟨⟨v, rfl⟩, (⟨hS, ⟨hi, hl, hk⟩, hb2⟩ | ⟨q, hS, c, hi, hl, hk⟩)⟩
    · have hp3 := below_put w.heap.size W2 (.loop (rec .exhausted none)) (by omega : w.heap.size ≤ w.heap.size + 1)
      exact ⟨none, _, by have := run_endLoop (P := P) hl (by rw [hrec]; simp); rw [hrec] at this; exact this, hdone _ hS (hI _ _ _ hi (below_put _ _ _ (by omega))) (hb2.trans ((below_put _ _ _ (by omega)).mono hB0)) ((World.putObj_heap_other (by omega)).trans hk)⟩
    · exact ⟨some c, _, by have := run_endLoop (P := P) hl (by rw [hrec]; simp); rw [hrec] at this; exact this, hstop c q _ hS (hIx _ _ _ _ _ _ (by omega) hi hl rfl) ((World.putObj_heap_other (by omega)).trans hk)⟩
end Go.Proofs.Ytilebfkehmecaaa.Print
namespace Go.Proofs.Ytilebfkehmecaaa.Print
open Go.RowKit Go.Proofs.YtilebfkehmecaaaW.PrintWords Go.Proofs.YtilebfkehmecaaaW.PrintLast Go.Proofs.YtilebfkehmecaaaW.PrintMore
attribute [local go_sem] max2_int min2_int max_two min_two max_three min_three max_four min_four
set_option linter.unusedVariables false
set_option linter.unusedSimpArgs false
open Go.Shelf Go.RowKit
attribute [local go_sem] Oper.semAt_some
def itemAt (w0 : World) (x : Int × S64) (av : Array Value) : Prop := ∃ v, av = #[.int .i64 x.1, v] ∧ StmtAt w0 x.2 v
theorem prog_each.seq (w0 : World) (bp : Nat) (A : Option Addr) (c : Nat) (l : List S64) (its : List (Int × S64)) (n' : Int) (k : Nat)
    (hcell : w0.cell? ⟨bp, 2, none⟩ = some (.slice A l.length c)) (hr : Kd.C k64 w0 A l.length l) (hc : l.length ≤ c) (h : prog_walk.f k l 0 = some (its, n')) :
    SeqBy Try.prog 120 #[.pointer (some ⟨bp, 0, none⟩)] (itemAt w0) its w0 := by
  intro m rl J Jx go W hb hJ hY hJ0
  refine callsIn_of_wp Try.func120 rfl trivial ?_ rfl
  simp only [Try.ntmps120, List.size_toArray, List.length_cons, List.length_nil, Nat.reduceAdd, Nat.reduceSub, Array.replicate_succ, Array.replicate_zero, List.push_toArray, List.append_toArray, List.nil_append, List.cons_append]
  have hcw : W.cell? ⟨bp, 2, none⟩ = some (.slice A l.length c) := (hb.cell (World.block_lt_of_cell? w0 _ hcell)).trans hcell
  have hlt := World.block_lt_of_cell? W _ hcw
  have hS := hb.size
  have key : ∀ W2 : World, Below W.heap.size W W2 → W2.heap[W.heap.size]? = some (.cells #[.int .i64 0] 3 (0, 0)) →
      CallsIn Fence.wide m Try.prog 121 #[.slice A l.length c, .pointer (some ⟨W.heap.size, 0, none⟩), .func (.yield rl) #[] #[]] W2 (fun e W' => ∃ b, e = .returned (.bool b) ∧ ((stopAt go [] its = none ∧ J its W' ∧ Below w0.heap.size w0 W') ∨ (∃ q, stopAt go [] its = some q ∧ Jx q W'))) := by
    intro W2 h1 h2
    refine (prog_walk.walkIn w0 rl W.heap.size m J Jx go its hS hJ ?_ k l 0 its n' [] W2 W.heap.size A c h hr hc (hb.trans (h1.mono hS)) h2 (Nat.le_refl _) (hJ _ _ _ hJ0 h1) (by simp)).mono ?post
    case post =>
      rintro e W3 (⟨h0, rfl, hj, _, _, hb3⟩ | ⟨q, h0, rfl, hx⟩)
      · exact ⟨_, rfl, .inl ⟨h0, by simpa using hj, hb3⟩⟩
      · exact ⟨_, rfl, .inr ⟨q, h0, by simpa using hx⟩⟩
    intro pre x v A1 hj hv hb1 hsz hp
    exact hY pre x _ A1 hj ⟨v, rfl, hv⟩ hb1 hsz hp
  gi_wp2_with (first | (refine ⟨trivial, wide_depth, ?_⟩; refine (calls_any (m' := m - 1) (key _ ?k1 ?k2)).mono ?_; (case k1 => exact (Below.refl _ _).alloc (Nat.le_refl _) _); (case k2 => exact heap_alloc_new _ _); rintro e W3 ⟨b, rfl, hw⟩))
  go_end0
  exact ⟨⟨_, rfl⟩, hw⟩
end Go.Proofs.Ytilebfkehmecaaa.Print
namespace Go.Proofs.Ytilebfkehmecaaa.Print
open Go.RowKit Go.Proofs.YtilebfkehmecaaaW.PrintWords Go.Proofs.YtilebfkehmecaaaW.PrintLast Go.Proofs.YtilebfkehmecaaaW.PrintMore
attribute [local go_sem] max2_int min2_int max_two min_two max_three min_three max_four min_four
set_option linter.unusedVariables false
set_option linter.unusedSimpArgs false
open Go.Shelf Go.RowKit
theorem prog_each.fn (a b c : Value) (w : World) :
    Calls Try.prog 102 #[.agg #[a, b, c]] w fun e w' => e = .returned (.func (.func 120) #[] #[.pointer (some ⟨w.heap.size, 0, none⟩)]) ∧ Below w.heap.size w w' ∧ w'.heap[w.heap.size]? = some (.cells #[a, b, c] 25 (0, 0)) := by
  have huP := Try.underlying25
  refine calls_of_wp Try.func102 rfl ?_
  simp only [Try.ntmps102, List.size_toArray, List.length_cons, List.length_nil, Nat.reduceAdd, Nat.reduceSub, Array.replicate_succ, Array.replicate_zero, List.push_toArray, List.append_toArray, List.nil_append, List.cons_append]
  go_wp2
  go_ret
  exact ⟨rfl, (Below.refl _ _).alloc (Nat.le_refl _) _, heap_alloc_new _ _⟩
end Go.Proofs.Ytilebfkehmecaaa.Print
namespace Go.Proofs.Ytilebfkehmecaaa.Print
open Go.RowKit Go.Proofs.YtilebfkehmecaaaW.PrintWords Go.Proofs.YtilebfkehmecaaaW.PrintLast Go.Proofs.YtilebfkehmecaaaW.PrintMore
attribute [local go_sem] max2_int min2_int max_two min_two max_three min_three max_four min_four
set_option linter.unusedVariables false
set_option linter.unusedSimpArgs false
open Go.Shelf Go.RowKit
attribute [local go_sem] Oper.semAt_some
theorem size_cell (W : World) (p : Addr) (u : Value) : (W.setCell p u).heap.size = W.heap.size := by simp [World.setCell]
theorem below_cell {n B i : Nat} (W : World) (u : Value) (h : n ≤ B) : Below n W (W.setCell ⟨B, i, none⟩ u) := ⟨rfl, rfl, rfl, by rw [size_cell]; exact Nat.le_refl _, fun k hk => Below.heap_setCell _ _ _ _ (by intro e; simp at e; omega)⟩
theorem stop_none {α : Type} {p : α → Bool} : ∀ (its pre : List α), stopAt (fun _ x => !p x) pre its = none → its.find? p = none
  | [], _, _ => rfl
  | x :: r, pre, h => by
    rw [stopAt] at h
    cases hp : p x with
    | true => simp [hp] at h
    | false =>
      simp [hp] at h
      rw [List.find?_cons, hp]
      exact stop_none r _ h
def prog_Single.f (k : Nat) (a0_0 : Int) (l0_1 : List S66) (l0_2 : List S64) : Option (Bool × Int) :=
  (prog_Check.f k a0_0 l0_1 l0_2).bind fun t => if t = 0 then (if l0_1.any (fun v => decide (v.f1 > 15)) = true then some (false, 0) else (prog_walk.f k l0_2 0).bind fun its => some (!(its.1.any (fun x => decide (x.2.f0 = 3) && decide (x.2.f1 > 15))), 0)) else some (false, 30)
theorem three_boxes (w : World) (a b c : Obj) : Below w.heap.size w (((w.alloc a).alloc b).alloc c) ∧ (((w.alloc a).alloc b).alloc c).heap[w.heap.size]? = some a ∧ (((w.alloc a).alloc b).alloc c).heap[w.heap.size + 1]? = some b ∧ (((w.alloc a).alloc b).alloc c).heap[w.heap.size + 1 + 1]? = some c := by
  refine ⟨bal (bal (bal (Below.refl _ _) _) _) _, kal (kal (blk_new _ _) _) _, ?_, ?_⟩
  · have := blk_new (w.alloc a) b
    exact kal (by simpa using this) _
  · have := blk_new ((w.alloc a).alloc b) c
    simpa using this
theorem store_pair {W : World} {B C : Nat} {t s : TypeId} {x y : Value} (hne : B ≠ C) (hs : W.heap[B]? = some (.cells #[x] t (0, 0))) (he : W.heap[C]? = some (.cells #[y] s (0, 0))) (u v : Value) {W' : World} (hW : (W.setCell ⟨B, 0, none⟩ u).setCell ⟨C, 0, none⟩ v = W') :
    W'.heap[B]? = some (.cells #[u] t (0, 0)) ∧ W'.heap[C]? = some (.cells #[v] s (0, 0)) ∧ W'.heap.size = W.heap.size ∧ (∀ k, k ≠ B → k ≠ C → W'.heap[k]? = W.heap[k]?) ∧ (∀ n, n ≤ B → n ≤ C → Below n W W') := by
  subst hW
  have h0 := blk_put hs 0 u (cs' := #[u]) rfl
  have k0 := blk_far he (p := ⟨B, 0, none⟩) (Ne.symm hne) u
  exact ⟨blk_far h0 hne v, blk_put k0 0 v rfl, by simp only [size_cell], fun k h1 h2 => by rw [Below.heap_setCell _ _ _ _ h2, Below.heap_setCell _ _ _ _ h1], fun n h1 h2 => (below_cell W u h1).trans (below_cell _ v h2)⟩
theorem results_be {P : Program} {fn : Func} {p q : Tmp} {tB tE : TypeId} (h : fn.results = #[.cell p tB, .cell q tE]) (tmps : Array Value) (w : World) (g g2 : Nat) (b : Bool) (v : Int) (hp : tmps.getD p undef = .pointer (some ⟨g, 0, none⟩)) (hq : tmps.getD q undef = .pointer (some ⟨g2, 0, none⟩))
    (hg : w.heap[g]? = some (.cells #[.bool b] tB (0, 0))) (hg2 : w.heap[g2]? = some (.cells #[.int .i64 v] tE (0, 0))) (hu1 : P.underlying tB = some .bool) (hu2 : P.underlying tE = some (.int .i64)) :
    (results fn tmps).run P w = .ok (.tuple #[.bool b, .int .i64 v]) w := by
  have hp' : tmps[p]?.getD undef = .pointer (some ⟨g, 0, none⟩) := by simpa using hp
  have hq' : tmps[q]?.getD undef = .pointer (some ⟨g2, 0, none⟩) := by simpa using hq
  have hc : w.cell? ⟨g2, 0, none⟩ = some (.int .i64 v) := (blk_cell hg2 0).trans rfl
  have hd : w.cell? ⟨g, 0, none⟩ = some (.bool b) := (blk_cell hg 0).trans rfl
  have hagg : (isAgg tE).run P w = .ok false w := by
    unfold isAgg
    rw [Sem.run_bind, run_underlying hu2 w]
    simp
  have hagg1 : (isAgg tB).run P w = .ok false w := by
    unfold isAgg
    rw [Sem.run_bind, run_underlying hu1 w]
    simp
  have h2 : (loadVar tE ⟨g2, 0, none⟩).run P w = .ok (.int .i64 v) w := by simp [loadVar, Sem.run_bind, hagg, go_sem, hc, Result.andThen]
  have h1 : (loadVar tB ⟨g, 0, none⟩).run P w = .ok (.bool b) w := by simp [loadVar, Sem.run_bind, hagg1, go_sem, hd, Result.andThen]
  generalize hL1 : loadVar tB ⟨g, 0, none⟩ = L1 at h1
  generalize hL2 : loadVar tE ⟨g2, 0, none⟩ = L2 at h2
  simp [results, h, Sem.run_bind, hp', hq', asAddr, Result.andThen, hL1, hL2, h1, h2]
theorem stop_some {α : Type} {p : α → Bool} : ∀ (its pre q : List α), stopAt (fun _ x => !p x) pre its = some q → its.any p = true
  | [], _, _, h => by cases h
  | x :: r, pre, q, h => by
    rw [stopAt] at h
    cases hp : p x with
    | true => simp [hp]
    | false =>
      simp [hp] at h
      obtain ⟨q', hq, _⟩ := h
      simp only [List.any_cons, hp, Bool.false_or]
      exact stop_some r _ q' hq
theorem none_any {α : Type} {p : α → Bool} {its : List α} (h : its.find? p = none) : its.any p = false := by
  rw [List.find?_eq_none] at h
  rw [List.any_eq_false]
  exact h
def narrow (l : List S66) (i : Int) : Prop := ∀ j : Nat, (j : Int) < i → ∀ v, l[j]? = some v → ¬ v.f1 > 15
theorem narrow_all {l : List S66} {i : Int} (h : narrow l i) (hi : ¬ i < (l.length : Int)) : l.any (fun v => decide (v.f1 > 15)) = false := by
  rw [List.any_eq_false]
  intro v hv
  obtain ⟨j, hj, e⟩ := List.mem_iff_getElem.1 hv
  have := h j (by omega) v (by rw [List.getElem?_eq_getElem hj, e])
  simpa using this
theorem wide_any {l : List S66} {i : Int} (h0 : 0 ≤ i) (h1 : i < (l.length : Int)) (h : (rd_T66 l i).f1 > 15) : l.any (fun v => decide (v.f1 > 15)) = true := by
  rw [List.any_eq_true]
  have hj : i.toNat < l.length := by omega
  refine ⟨l[i.toNat], List.getElem_mem hj, ?_⟩
  have e : rd_T66 l i = l[i.toNat] := by simp [rd_T66, List.getD_eq_getElem?_getD, List.getElem?_eq_getElem hj]
  rw [e] at h
  simpa using h
theorem narrow_step {l : List S66} {i : Int} (hn : narrow l i) (h0 : 0 ≤ i) (h : ¬ (rd_T66 l i).f1 > 15) : narrow l (i + 1) := by
  intro j hj v hv
  by_cases he : (j : Int) = i
  · have e : rd_T66 l i = v := by
      have : i.toNat = j := by omega
      simp [rd_T66, List.getD_eq_getElem?_getD, this, hv]
    rw [e] at h
    exact h
  · exact hn j (by omega) v hv
theorem prog_Single.calls (k : Nat) (a0_0 : Int) (A0_1 : Option Addr) (c0_1 : Nat) (l0_1 : List S66) (A0_2 : Option Addr) (c0_2 : Nat) (l0_2 : List S64) (r1 : Bool) (r2 : Int) (w : World)
    (hr0_1 : Kd.C k66 w A0_1 l0_1.length l0_1) (hc0_1 : l0_1.length ≤ c0_1) (hr0_2 : Kd.C k64 w A0_2 l0_2.length l0_2) (hc0_2 : l0_2.length ≤ c0_2) (h : prog_Single.f k a0_0 l0_1 l0_2 = some (r1, r2)) :
    Calls Try.prog 79 #[.agg #[.int .i64 a0_0, .slice A0_1 l0_1.length c0_1, .slice A0_2 l0_2.length c0_2]] w fun e w' => e = .returned (.tuple #[.bool r1, .int .i64 r2]) ∧ Below w.heap.size w w' := by
  refine callsIn_wide.1 (?_ : CallsIn Fence.wide 9 _ _ _ _ _)
  have huP := Try.underlying25
  have huS := Try.underlying64
  have huV := Try.underlying66
  have huE := Try.underlying32
  have huB := Try.underlying4
  refine callsIn_of_wp_marks Try.func79 rfl trivial ?_ rfl
  simp only [Try.ntmps79, List.size_toArray, List.length_cons, List.length_nil, Nat.reduceAdd, Nat.reduceSub, Array.replicate_succ, Array.replicate_zero, List.push_toArray, List.append_toArray, List.nil_append, List.cons_append]
  unfold prog_Single.f at h
  obtain ⟨tc, AC0, H0⟩ := Option.bind_eq_some_iff.mp h
  clear h
  have HR1 := Aside0.mk hr0_1
  have HC1 := Aside0.mk hc0_1
  have HR2 := Aside0.mk hr0_2
  have HC2 := Aside0.mk hc0_2
  have AC := Aside0.mk AC0
  have H := Aside0.mk H0
  clear hr0_1 hc0_1 hr0_2 hc0_2 AC0 H0
  have FB := three_boxes w (.cells #[.int .i64 a0_0, .slice A0_1 l0_1.length c0_1, .slice A0_2 l0_2.length c0_2] 25) (.cells #[.bool false] 4) (.cells #[.int .i64 0] 32)
  gi_wp2
  generalize (((w.alloc (.cells #[.int .i64 a0_0, .slice A0_1 l0_1.length c0_1, .slice A0_2 l0_2.length c0_2] 25)).alloc (.cells #[.bool false] 4)).alloc (.cells #[.int .i64 0] 32)) = W1 at FB ⊢
  obtain ⟨b1, p1, s1, e1⟩ := FB
  refine ⟨trivial, ?_⟩
  refine (callsIn_wide.2 (prog_Check.calls k a0_0 _ _ l0_1 _ _ l0_2 tc W1 (Kd.C_below HR1.out b1) HC1.out (Kd.C_below HR2.out b1) HC2.out AC.out)).mono ?_
  rintro e W2 ⟨rfl, hb2⟩
  have b2 := b1.trans (hb2.mono b1.size)
  have p2 := (hb2.block _ (blk_lt p1)).trans p1
  have s2 := (hb2.block _ (blk_lt s1)).trans s1
  have e2 := (hb2.block _ (blk_lt e1)).trans e1
  clear p1 s1 e1 hb2 AC b1
  by_cases htc : tc = 0
  case neg =>
    have h := H.out
    rw [if_neg htc] at h
    obtain ⟨rfl, rfl⟩ : r1 = false ∧ r2 = 30 := by
      injection (Option.some.inj h) with e1 e2
      exact ⟨e1.symm, e2.symm⟩
    clear h H
    have g1 : (tc == 0) = false := beq_eq_false_iff_ne.mpr htc
    have g2 : (tc != 0) = true := bne_iff_ne.mpr htc
    have c0 : W2.cell? ⟨w.heap.size + 1, 0, none⟩ = some (.bool false) := (blk_cell s2 0).trans rfl
    have d0 : W2.cell? ⟨w.heap.size + 1 + 1, 0, none⟩ = some (.int .i64 0) := (blk_cell e2 0).trans rfl
    have f0 := blk_frozen s2 0
    have f5 := blk_frozen e2 0
    gi_wp2
    generalize hW : (W2.setCell ⟨w.heap.size + 1, 0, none⟩ (.bool false)).setCell ⟨w.heap.size + 1 + 1, 0, none⟩ (.int .i64 30) = W3
    obtain ⟨t1, t2, _, _, t5⟩ := store_pair (by omega) s2 e2 _ _ hW
    exact ⟨_, results_be rfl _ _ (w.heap.size + 1) (w.heap.size + 1 + 1) false 30 rfl rfl t1 t2 huB huE, rfl, b2.trans (t5 _ (by omega) (by omega))⟩
  case pos =>
    subst htc
    have h := H.out
    rw [if_pos rfl] at h
    have H1 := Aside0.mk h
    clear H h
    obtain ⟨c0, c1, c2⟩ := cells3 p2
    have S2 := Aside0.mk s2
    have E2 := Aside0.mk e2
    have P2 := Aside0.mk p2
    have B2 := Aside0.mk b2
    clear s2 e2 p2 b2
    gi_wp2
    gi_loopw [14] (fun v14 wr => ∃ i : Int, v14 = .int .i64 i ∧ Aside0 (0 ≤ i) ∧ Aside0 (narrow l0_1 i) ∧ Aside0 (Below W2.heap.size W2 wr)) (fun v14 _ => l0_1.length - (intOf v14).toNat)
    case atStart => exact ⟨0, rfl, ⟨Int.le_refl _⟩, ⟨fun j hj => by omega⟩, ⟨Below.refl _ _⟩⟩
    case round =>
      obtain ⟨i, rfl, HI0, HN, HW⟩ := hrel
      clear c0 c1 c2
      have hi0 := HI0.out
      have hl : l0_1.length ≤ 9223372036854775807 := HR1.out.2.1
      have b4 := B2.out.trans (HW.out.mono B2.out.size)
      have s4 := (HW.out.block _ (blk_lt S2.out)).trans S2.out
      have e4 := (HW.out.block _ (blk_lt E2.out)).trans E2.out
      have p4 := (HW.out.block _ (blk_lt P2.out)).trans P2.out
      by_cases hlt : i < (l0_1.length : Int)
      case pos =>
        have hld : decide (i < (l0_1.length : Int)) = true := decide_eq_true hlt
        have hz : decide (0 ≤ i) = true := decide_eq_true hi0
        obtain ⟨ad, eA, q0, q1, q2⟩ := at_T66 HR1.out i hi0 hlt
        cases eA
        replace q0 := (b4.cell (World.block_lt_of_cell? w _ q0)).trans q0
        replace q1 := (b4.cell (World.block_lt_of_cell? w _ q1)).trans q1
        replace q2 := (b4.cell (World.block_lt_of_cell? w _ q2)).trans q2
        by_cases hwd : (rd_T66 l0_1 i).f1 > 15
        case pos =>
          have hwt : decide ((rd_T66 l0_1 i).f1 > 15) = true := decide_eq_true hwd
          have hany := wide_any hi0 hlt hwd
          have h := H1.out
          rw [if_pos hany] at h
          obtain ⟨rfl, rfl⟩ : r1 = false ∧ r2 = 0 := by
            injection (Option.some.inj h) with e1 e2
            exact ⟨e1.symm, e2.symm⟩
          have l1 := blk_lt s4
          have l2 := blk_lt e4
          have c0 : wr.cell? ⟨w.heap.size + 1, 0, none⟩ = some (.bool false) := (blk_cell s4 0).trans rfl
          have d0 : wr.cell? ⟨w.heap.size + 1 + 1, 0, none⟩ = some (.int .i64 0) := (blk_cell e4 0).trans rfl
          have f0 := blk_frozen s4 0
          have f5 := blk_frozen e4 0
          gi_wp2
          generalize hW : (wr.setCell ⟨w.heap.size + 1, 0, none⟩ (.bool false)).setCell ⟨w.heap.size + 1 + 1, 0, none⟩ (.int .i64 0) = W4
          obtain ⟨t1, t2, _, _, t5⟩ := store_pair (by omega) s4 e4 _ _ hW
          exact ⟨_, results_be rfl _ _ (w.heap.size + 1) (w.heap.size + 1 + 1) false 0 rfl rfl (kal t1 _) (kal t2 _) huB huE, rfl, bal (b4.trans (t5 _ (by omega) (by omega))) _⟩
        case neg =>
          have hwt : decide ((rd_T66 l0_1 i).f1 > 15) = false := decide_eq_false hwd
          gi_wp2
          have e1 : intOf (Value.int IntKind.i64 (i + 1)) = i + 1 := rfl
          have e2 : intOf (Value.int IntKind.i64 i) = i := rfl
          refine ⟨⟨i + 1, rfl, ⟨by omega⟩, ⟨narrow_step HN.out hi0 hwd⟩, ⟨bal HW.out _⟩⟩, ?_⟩
          rw [e1, e2]
          omega
      case neg =>
        have hld : decide (i < (l0_1.length : Int)) = false := decide_eq_false hlt
        have hany := narrow_all HN.out hlt
        have h := H1.out
        rw [if_neg (by rw [hany]; simp)] at h
        obtain ⟨⟨its, n'⟩, WK0, h⟩ := Option.bind_eq_some_iff.mp h
        have WK := Aside0.mk WK0
        have PK := Aside0.mk (Option.some.inj h)
        clear h H1 WK0
        obtain ⟨c0, c1, c2⟩ := cells3 p4
        gi_wp2_with (first | (refine ⟨trivial, ?_⟩; refine (callsIn_wide.2 (prog_each.fn _ _ _ wr)).mono ?_; rintro e W3 ⟨rfl, hb3, q3⟩))
        have b3 := b4.trans (hb3.mono b4.size)
        have s3 := (hb3.block _ (blk_lt s4)).trans s4
        have e3 := (hb3.block _ (blk_lt e4)).trans e4
        clear c0 c1 c2 p4 s4 e4
        have hcell : W3.cell? ⟨wr.heap.size, 2, none⟩ = some (.slice A0_2 l0_2.length c0_2) := (blk_cell q3 2).trans rfl
        refine wpIn_rangeBy (gf := 120) (lb := #[.pointer (some ⟨wr.heap.size, 0, none⟩)]) rfl (enters_of Try.func120 (by kernel_rfl) rfl)
          (prog_each.seq W3 wr.heap.size A0_2 c0_2 l0_2 its n' k hcell (Kd.C_below HR2.out b3) HC2.out WK.out) (Below.refl _ _) (by rintro x av ⟨v, rfl, _⟩; rfl)
          (fun _ x => !(decide (x.2.f0 = 3) && decide (x.2.f1 > 15)))
          (fun _ W => Below W3.heap.size W3 W)
          (fun c _ W => c = .ret ∧ W.heap[w.heap.size + 1]? = some (.cells #[.bool false] 4 (0, 0)) ∧ W.heap[w.heap.size + 1 + 1]? = some (.cells #[.int .i64 0] 32 (0, 0)) ∧ Below w.heap.size w W)
          (fun pre A B h hb => h.trans hb) ?hIx (Below.refl _ _) ?round ?done ?stop
        case hIx =>
          rintro c pre A j o o' hj ⟨hc, h1, h2, hb⟩ hA ho
          have ne : ∀ {k : Nat} {cs : Array Value} {t : TypeId}, A.heap[k]? = some (.cells cs t (0, 0)) → k ≠ j := by
            intro k cs t hk e
            subst e
            rw [hA] at hk
            cases hk
            cases ho
          have hS3 := b3.size
          exact ⟨hc, (World.putObj_heap_other (ne h1)).trans h1, (World.putObj_heap_other (ne h2)).trans h2, hb.trans (below_put _ _ _ (by omega))⟩
        case stop =>
          rintro c q W hst ⟨rfl, t1, t2, hb⟩ hD
          have hB3 := blk_lt e3
          have hS3 := b3.size
          have ha := stop_some (p := fun x : Int × S64 => decide (x.2.f0 = 3) && decide (x.2.f1 > 15)) _ _ _ hst
          obtain ⟨rfl, rfl⟩ : r1 = false ∧ r2 = 0 := by
            injection PK.out with e1 e2
            exact ⟨by rw [← e1]; simp [ha], e2.symm⟩
          gi_wp2
          refine ⟨by simp, .inl ⟨_, _, rfl, run_takeDeferred hD, ?_⟩⟩
          exact ⟨_, results_be rfl _ _ (w.heap.size + 1) (w.heap.size + 1 + 1) false 0 rfl rfl ((World.putObj_heap_other (by omega)).trans t1) ((World.putObj_heap_other (by omega)).trans t2) huB huE, rfl, hb.trans (below_put _ _ _ hS3)⟩
        case done =>
          rintro W hst hbW _ hD
          have ha := none_any (stop_none (p := fun x : Int × S64 => decide (x.2.f0 = 3) && decide (x.2.f1 > 15)) _ _ hst)
          obtain ⟨rfl, rfl⟩ : r1 = true ∧ r2 = 0 := by
            injection PK.out with e1 e2
            exact ⟨by rw [← e1]; simp [ha], e2.symm⟩
          have hB3 := blk_lt e3
          have hS3 := b3.size
          have s4 := (hbW.block _ (blk_lt s3)).trans s3
          have e4 := (hbW.block _ (blk_lt e3)).trans e3
          have c0 : W.cell? ⟨w.heap.size + 1, 0, none⟩ = some (.bool false) := (blk_cell s4 0).trans rfl
          have d0 : W.cell? ⟨w.heap.size + 1 + 1, 0, none⟩ = some (.int .i64 0) := (blk_cell e4 0).trans rfl
          have f0 := blk_frozen s4 0
          have f5 := blk_frozen e4 0
          gi_wp2
          generalize hW : (W.setCell ⟨w.heap.size + 1, 0, none⟩ (.bool true)).setCell ⟨w.heap.size + 1 + 1, 0, none⟩ (.int .i64 0) = W6
          obtain ⟨t1, t2, _, t4, t5⟩ := store_pair (by omega) s4 e4 _ _ hW
          refine ⟨by simp, .inl ⟨_, _, rfl, run_takeDeferred ((t4 _ (by omega) (by omega)).trans hD), ?_⟩⟩
          exact ⟨_, results_be rfl _ _ (w.heap.size + 1) (w.heap.size + 1 + 1) true 0 rfl rfl ((World.putObj_heap_other (by omega)).trans t1) ((World.putObj_heap_other (by omega)).trans t2) huB huE, rfl, b3.trans ((hbW.mono hS3).trans ((t5 _ (by omega) (by omega)).trans (below_put _ _ _ hS3)))⟩
        case round =>
          rintro l pre x av W hbW ⟨v, rfl, hv⟩ hpre _ hsz
          obtain ⟨A2, z2, A3, z3, A4, z4, rfl, ql2, qr2, ql3, qr3, ql4, qr4⟩ := hv
          gi_wp2
          refine ⟨World.grownBy_alloc _ _ _, ?_⟩
          intro W4 hg4 hs4 hi4 hb4
          have x4 : W4.heap[W.heap.size]? = some (.cells #[.int .i64 x.2.f0, .int .i64 x.2.f1, .slice A2 x.2.f2.length z2, .slice A3 x.2.f3.length z3, .slice A4 x.2.f4.length z4] 64 (0, 0)) :=
            (hg4.block W.heap.size (by simp) (by intro e; injection e with e; omega)).trans (heap_alloc_new _ _)
          have hB3 := blk_lt e3
          have hS3 := b3.size
          have s4 := (hi4.block _ (blk_lt s3)).trans s3
          have e4 := (hi4.block _ (blk_lt e3)).trans e3
          obtain ⟨m0, m1, m2, m3, m4⟩ := cells5 x4
          have hsW : W4.heap.size = W.heap.size + 1 := by rw [hs4]; simp
          have c0 : W4.cell? ⟨w.heap.size + 1, 0, none⟩ = some (.bool false) := (blk_cell s4 0).trans rfl
          have d0 : W4.cell? ⟨w.heap.size + 1 + 1, 0, none⟩ = some (.int .i64 0) := (blk_cell e4 0).trans rfl
          have f0 := blk_frozen s4 0
          have f5 := blk_frozen e4 0
          by_cases h3 : x.2.f0 = 3
          case neg =>
            have h3d : decide (x.2.f0 = 3) = false := decide_eq_false h3
            have h3b : (x.2.f0 == 3) = false := beq_eq_false_iff_ne.mpr h3
            gi_wp2
            exact ⟨by simp [h3d], Nat.le_refl _, fun k _ _ => rfl, hb4, hi4⟩
          case pos =>
            have h3d : decide (x.2.f0 = 3) = true := decide_eq_true h3
            have h3b : (x.2.f0 == 3) = true := beq_iff_eq.mpr h3
            by_cases h5 : x.2.f1 > 15
            case neg =>
              have h5d : decide (x.2.f1 > 15) = false := decide_eq_false h5
              gi_wp2
              exact ⟨by simp [h3d, h5d], Nat.le_refl _, fun k _ _ => rfl, hb4, hi4⟩
            case pos =>
              have h5d : decide (x.2.f1 > 15) = true := decide_eq_true h5
              gi_wp2
              generalize hW : (W4.setCell ⟨w.heap.size + 1, 0, none⟩ (.bool false)).setCell ⟨w.heap.size + 1 + 1, 0, none⟩ (.int .i64 0) = W6
              obtain ⟨t1, t2, _, t4, t5⟩ := store_pair (by omega) s4 e4 _ _ hW
              exact ⟨by simp [h3d, h5d], fun k h1 h2 => t4 k (by omega) (by omega), rfl, t1, t2, b3.trans ((hi4.mono hS3).trans (t5 _ (by omega) (by omega)))⟩
end Go.Proofs.Ytilebfkehmecaaa.Print
