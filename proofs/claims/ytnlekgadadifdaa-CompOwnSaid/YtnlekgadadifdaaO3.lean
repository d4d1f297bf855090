/- For every program the law CompOwn returns true, and what came in reads as before. No condition. -/
import Derived.Test.YtnlekgadadifdaaO2
import Derived.Below
import Derived.Carry
import Derived.Deep.RegionWith
set_option maxRecDepth 100000
set_option maxHeartbeats 16000000
namespace Go.Proofs.Ytnlekgadadifdaa.Print
open Go.RowKit Go.Proofs.YtnlekgadadifdaaW.PrintWords Go.Proofs.YtnlekgadadifdaaW.PrintLast Go.Proofs.YtnlekgadadifdaaW.PrintMore
attribute [local go_sem] max2_int min2_int max_two min_two max_three min_three max_four min_four
set_option linter.unusedVariables false
set_option linter.unusedSimpArgs false
mutual
def prog_args.j0 : Nat → Int → Bool → Int → List (S42) → List (S57) → Int → Int → List (S52) → List (S57) → List (S57) → Option (Int)
 | 0, _, _, _, _, _, _, _, _, _, _ => none
 | k + 1, x5, x17, x171000, x171001, x171002, x172000, x172001, x172002, x172003, x172004 => if x17 = true then (if 0 ≤ x172001 then (if x172001 < (x171001.length : Int) then (prog_args.j1 k ((rd_T42 x171001 x172001).f2) x172000 x172001 x172002 x172003 x172004) else (none)) else (none)) else (prog_args.j1 k x5 x172000 x172001 x172002 x172003 x172004)
def prog_args.j1 : Nat → Int → Int → Int → List (S52) → List (S57) → List (S57) → Option (Int)
 | 0, _, _, _, _, _, _ => none
 | k + 1, x5, x172000, x172001, x172002, x172003, x172004 => if x172000 = 0 then (prog_args.j2 k x5 x172000 (x172000 == 0) x172000 x172001 x172002 x172003 x172004) else (prog_args.j2 k x5 x172000 (x172000 == 4) x172000 x172001 x172002 x172003 x172004)
def prog_args.j2 : Nat → Int → Int → Bool → Int → Int → List (S52) → List (S57) → List (S57) → Option (Int)
 | 0, _, _, _, _, _, _, _, _ => none
 | k + 1, x5, x26, x27, x172000, x172001, x172002, x172003, x172004 => if x27 = true then (if x172000 = 0 then (prog_args.j3 k x5 1) else (prog_args.j3 k x5 0)) else (if x26 = 3 then (if x172001 < 0 then (some (-1)) else (if x172001 > 47 then (some (-1)) else (some 1))) else (if x26 = 1 then (prog_args.j4 k (x26 == 1) x172000 x172001 x172002 x172003 x172004) else (if x26 = 2 then (prog_args.j4 k (x26 == 2) x172000 x172001 x172002 x172003 x172004) else (if x26 = 5 then (prog_args.j4 k (x26 == 5) x172000 x172001 x172002 x172003 x172004) else (prog_args.j4 k (x26 == 6) x172000 x172001 x172002 x172003 x172004)))))
def prog_args.j3 : Nat → Int → Int → Option (Int)
 | 0, _, _ => none
 | k + 1, x5, x6 => if x5 = 0 then (some (-1)) else (if x5 > 1 then (some (wrap64 (x6 + 1))) else (some x6))
def prog_args.j4 : Nat → Bool → Int → Int → List (S52) → List (S57) → List (S57) → Option (Int)
 | 0, _, _, _, _, _, _ => none
 | k + 1, x52, x172000, x172001, x172002, x172003, x172004 => if x52 = true then (if x172001 = 0 then (some 1) else (some (-1))) else (some (-1))
end
def prog_args.f (k : Nat) (a0_0 : Int) (l0_1 : List (S42)) (l0_2 : List (S57)) (a1_0 : Int) (a1_1 : Int) (l1_2 : List (S52)) (l1_3 : List (S57)) (l1_4 : List (S57)) : Option (Int) := if a1_1 ≥ 0 then (prog_args.j0 k 0 (decide (a1_1 < (l0_1.length : Int))) a0_0 l0_1 l0_2 a1_0 a1_1 l1_2 l1_3 l1_4) else (prog_args.j0 k 0 false a0_0 l0_1 l0_2 a1_0 a1_1 l1_2 l1_3 l1_4)
theorem prog_args.calls (k : Nat) (a0_0 : Int) (A0_1 : Option Addr) (c0_1 : Nat) (l0_1 : List (S42)) (A0_2 : Option Addr) (c0_2 : Nat) (l0_2 : List (S57)) (a1_0 : Int) (a1_1 : Int) (A1_2 : Option Addr) (c1_2 : Nat) (l1_2 : List (S52)) (A1_3 : Option Addr) (c1_3 : Nat) (l1_3 : List (S57)) (A1_4 : Option Addr) (c1_4 : Nat) (l1_4 : List (S57)) (r : Int) (w : World) (hr0_1 : Kd.C k42 w A0_1 l0_1.length l0_1) (hc0_1 : l0_1.length ≤ c0_1) (hr0_2 : Kd.C k57 w A0_2 l0_2.length l0_2) (hc0_2 : l0_2.length ≤ c0_2) (hr1_2 : Kd.C k52 w A1_2 l1_2.length l1_2) (hc1_2 : l1_2.length ≤ c1_2) (hr1_3 : Kd.C k57 w A1_3 l1_3.length l1_3) (hc1_3 : l1_3.length ≤ c1_3) (hr1_4 : Kd.C k57 w A1_4 l1_4.length l1_4) (hc1_4 : l1_4.length ≤ c1_4) (h : prog_args.f k a0_0 l0_1 l0_2 a1_0 a1_1 l1_2 l1_3 l1_4 = some r) :
  Calls Try.prog 83 #[.agg #[.int .i64 a0_0, .slice A0_1 l0_1.length c0_1, .slice A0_2 l0_2.length c0_2], .agg #[.int .i64 a1_0, .int .i64 a1_1, .slice A1_2 l1_2.length c1_2, .slice A1_3 l1_3.length c1_3, .slice A1_4 l1_4.length c1_4]] w fun e w' => e = .returned (.int .i64 r) ∧ Below w.heap.size w w' := by
 have hu25 := Try.underlying25
 have hu57 := Try.underlying57
 have HR0_1 := Aside0.mk hr0_1
 have HC0_1 := Aside0.mk hc0_1
 clear hr0_1 hc0_1
 have HR0_2 := Aside0.mk hr0_2
 have HC0_2 := Aside0.mk hc0_2
 clear hr0_2 hc0_2
 have HR1_2 := Aside0.mk hr1_2
 have HC1_2 := Aside0.mk hc1_2
 clear hr1_2 hc1_2
 have HR1_3 := Aside0.mk hr1_3
 have HC1_3 := Aside0.mk hc1_3
 clear hr1_3 hc1_3
 have HR1_4 := Aside0.mk hr1_4
 have HC1_4 := Aside0.mk hc1_4
 clear hr1_4 hc1_4
 have HB := Aside0.mk (Below.refl w.heap.size w)
 have H : (if a1_1 ≥ 0 then (prog_args.j0 k 0 (decide (a1_1 < (l0_1.length : Int))) a0_0 l0_1 l0_2 a1_0 a1_1 l1_2 l1_3 l1_4) else (prog_args.j0 k 0 false a0_0 l0_1 l0_2 a1_0 a1_1 l1_2 l1_3 l1_4)) = some r := h
 clear h
 have HC3 := Aside0.mk H
 clear H
 go_enter Try.func83, Try.ntmps83
 go_upto_region 2 with (first | ((with_reducible refine gate_dst (N := 2) rfl ?_); (try (refine gate_guard (by rfl) ?_; dsimp only)); refine bx 2 rfl rfl #[.int .i64 a0_0, .slice A0_1 l0_1.length c0_1, .slice A0_2 l0_2.length c0_2] 25 ?_; intro gb170 hg w4 hbox hb; have BK170 := Aside0.mk (hbox); have GE170 := ge HB hg; replace HB := sb HB hb; clear hb hbox hg) | ((with_reducible refine gate_dst (N := 3) rfl ?_); (try (refine gate_guard (by rfl) ?_; dsimp only)); refine bx 3 rfl rfl #[.int .i64 a1_0, .int .i64 a1_1, .slice A1_2 l1_2.length c1_2, .slice A1_3 l1_3.length c1_3, .slice A1_4 l1_4.length c1_4] 57 ?_; intro gb171 hg w5 hbox hb; have BK171 := Aside0.mk (hbox); have GE171 := ge HB hg; have NB170_171 := Aside0.mk ((by rw [hg]; exact Nat.ne_of_lt (blk_lt (kk BK170)) : gb170 ≠ gb171)); have NB171_170 := Aside0.mk ((by rw [hg]; exact Nat.ne_of_gt (blk_lt (kk BK170)) : gb171 ≠ gb170)); replace BK170 := kb BK170 hb; replace HB := sb HB hb; clear hb hbox hg))
 (try simp only [Act.put, List.setIfInBounds_toArray, List.set_cons_zero, List.set_cons_succ])
 go_cut [17] (fun v17 wc => ∃ (kq : Nat) (x17_2 : Bool), v17 = .bool x17_2 ∧ Aside0 (prog_args.j0 kq 0 x17_2 a0_0 l0_1 l0_2 a1_0 a1_1 l1_2 l1_3 l1_4 = some r) ∧ Aside0 (kq ≤ k) ∧ Aside0 (wc.heap[gb170]? = some (.cells #[.int .i64 a0_0, (.slice A0_1 l0_1.length c0_1), (.slice A0_2 l0_2.length c0_2)] 25 (0, 0))) ∧ Aside0 (wc.heap[gb171]? = some (.cells #[.int .i64 a1_0, .int .i64 a1_1, (.slice A1_2 l1_2.length c1_2), (.slice A1_3 l1_3.length c1_3), (.slice A1_4 l1_4.length c1_4)] 57 (0, 0))) ∧ Aside0 (Below w.heap.size w wc))
 case first =>
  have H := HC3.out
  clear HC3
  by_cases c6 : a1_1 ≥ 0
  rotate_left
  ·rw [if_neg c6] at H
   have c6b0 : decide (0 ≤ a1_1) = false := decide_eq_false c6
   clear c6
   (first | rw [c6b0] | (simp only [i64_w, i32_w]; rw [c6b0]) | skip)
   have H' := Aside0.mk H
   clear H
   have hnb10 := NB171_170.out
   have hnc10 := NB170_171.out
   obtain ⟨hcz11_0, hcz11_1, hcz11_2, hcz11_3, hcz11_4, hfz11_0, hfz11_1, hfz11_2, hfz11_3, hfz11_4⟩ := cf5 BK171.out
   go_wp2
   go_meet
   case rel => exact ⟨_, (false), rs, H', ⟨by first | omega | exact Nat.le_refl _⟩, ⟨kk BK170⟩, ⟨kk BK171⟩, ⟨bb HB⟩⟩
  rw [if_pos c6] at H
  have c6b0 : decide (0 ≤ a1_1) = true := decide_eq_true c6
  clear c6
  (first | rw [c6b0] | (simp only [i64_w, i32_w]; rw [c6b0]) | skip)
  have H' := Aside0.mk H
  clear H
  have hnb7 := NB171_170.out
  have hnc7 := NB170_171.out
  obtain ⟨hcz8_0, hcz8_1, hcz8_2, hcz8_3, hcz8_4, hfz8_0, hfz8_1, hfz8_2, hfz8_3, hfz8_4⟩ := cf5 BK171.out
  obtain ⟨hcz9_0, hcz9_1, hcz9_2, hfz9_0, hfz9_1, hfz9_2⟩ := cf3 BK170.out
  go_wp2
  go_meet
  case rel => exact ⟨_, (decide (a1_1 < (l0_1.length : Int))), rs, H', ⟨by first | omega | exact Nat.le_refl _⟩, ⟨kk BK170⟩, ⟨kk BK171⟩, ⟨bb HB⟩⟩
 case rest =>
  clear HC3
  try clear c1
  try clear p2
  try clear c6
  try clear c6b0
  try clear c7
  try clear c8
  try clear c10
  try clear hcz11_0 hcz11_1 hcz11_2 hcz11_3 hcz11_4
  try clear hcz8_0 hcz8_1 hcz8_2 hcz8_3 hcz8_4
  try clear hcz9_0 hcz9_1 hcz9_2
  try clear hfz11_0 hfz11_1 hfz11_2 hfz11_3 hfz11_4
  try clear hfz8_0 hfz8_1 hfz8_2 hfz8_3 hfz8_4
  try clear hfz9_0 hfz9_1 hfz9_2
  obtain ⟨kq, x17_2, rfl, HA, HJ2, BK170, BK171, HB⟩ := hcut
  cases kq with
  | zero => exact absurd HA.out (by simp [prog_args.j0])
  | succ kj2 =>
   have H := HA.out
   clear HA
   simp only [prog_args.j0] at H
   have HC12 := Aside0.mk H
   clear H
   go_upto_if 17 with (fail)
   go_cut [5] (fun v5 wc => ∃ (kq : Nat) (x5_11 : Int), v5 = .int .i64 x5_11 ∧ Aside0 (prog_args.j1 kq x5_11 a1_0 a1_1 l1_2 l1_3 l1_4 = some r) ∧ Aside0 (kq ≤ kj2) ∧ Aside0 (wc.heap[gb170]? = some (.cells #[.int .i64 a0_0, (.slice A0_1 l0_1.length c0_1), (.slice A0_2 l0_2.length c0_2)] 25 (0, 0))) ∧ Aside0 (wc.heap[gb171]? = some (.cells #[.int .i64 a1_0, .int .i64 a1_1, (.slice A1_2 l1_2.length c1_2), (.slice A1_3 l1_3.length c1_3), (.slice A1_4 l1_4.length c1_4)] 57 (0, 0))) ∧ Aside0 (Below w.heap.size w wc))
   case first =>
    have H := HC12.out
    clear HC12
    by_cases c13 : x17_2 = true
    rotate_left
    ·replace c13 := Bool.eq_false_iff.mpr c13
     subst c13
     replace H := fi H
     have H' := Aside0.mk H
     clear H
     go_wp2
     go_meet
     case rel => exact ⟨_, (0), rs, H', ⟨by have := HJ2.out; first | omega | exact Nat.le_refl _⟩, ⟨kk BK170⟩, ⟨kk BK171⟩, ⟨bb HB⟩⟩
    subst c13
    replace H := it H
    by_cases c14 : 0 ≤ a1_1
    rotate_left
    ·rw [if_neg c14] at H
     exact absurd H (by simp)
    rw [if_pos c14] at H
    have c14b0 : decide (0 ≤ a1_1) = true := decide_eq_true c14
    clear c14
    (first | rw [c14b0] | (simp only [i64_w, i32_w]; rw [c14b0]) | skip)
    by_cases c15 : a1_1 < (l0_1.length : Int)
    rotate_left
    ·rw [if_neg c15] at H
     exact absurd H (by simp)
    rw [if_pos c15] at H
    have c15b0 : decide (a1_1 < (l0_1.length : Int)) = true := decide_eq_true c15
    clear c15
    have H' := Aside0.mk H
    clear H
    have hnb16 := NB170_171.out
    have hnc16 := NB171_170.out
    obtain ⟨hcz17_0, hcz17_1, hcz17_2, hfz17_0, hfz17_1, hfz17_2⟩ := cf3 BK170.out
    obtain ⟨hcz18_0, hcz18_1, hcz18_2, hcz18_3, hcz18_4, hfz18_0, hfz18_1, hfz18_2, hfz18_3, hfz18_4⟩ := cf5 BK171.out
    have p172 : 0 ≤ (a1_1 : Int) := od
    have q172 : a1_1 < (l0_1.length : Int) := od
    obtain ⟨ad172, e172, hx172_0, hx172_1, hx172_2⟩ := at_T42 HR0_1.out a1_1 p172 q172
    cases e172
    replace hx172_0 := bcell HB.out hx172_0
    replace hx172_1 := bcell HB.out hx172_1
    replace hx172_2 := bcell HB.out hx172_2
    replace p172 := eq_true p172
    replace q172 := eq_true q172
    go_wp2
    go_meet
    case rel => exact ⟨_, ((rd_T42 l0_1 a1_1).f2), rs, H', ⟨by have := HJ2.out; first | omega | exact Nat.le_refl _⟩, ⟨kk BK170⟩, ⟨kk BK171⟩, ⟨bb HB⟩⟩
   case rest =>
    clear HC12
    try clear c1
    try clear p1
    try clear q1
    try clear hx1
    try clear p2
    try clear c6
    try clear c6b0
    try clear c7
    try clear c8
    try clear c10
    try clear c13
    try clear c14
    try clear c14b0
    try clear c15
    try clear c15b0
    try clear c16
    try clear p17
    try clear q17
    try clear hx17
    try clear hcz11_0 hcz11_1 hcz11_2 hcz11_3 hcz11_4
    try clear hcz17_0 hcz17_1 hcz17_2
    try clear hcz18_0 hcz18_1 hcz18_2 hcz18_3 hcz18_4
    try clear hcz8_0 hcz8_1 hcz8_2 hcz8_3 hcz8_4
    try clear hcz9_0 hcz9_1 hcz9_2
    try clear hfz11_0 hfz11_1 hfz11_2 hfz11_3 hfz11_4
    try clear hfz17_0 hfz17_1 hfz17_2
    try clear hfz18_0 hfz18_1 hfz18_2 hfz18_3 hfz18_4
    try clear hfz8_0 hfz8_1 hfz8_2 hfz8_3 hfz8_4
    try clear hfz9_0 hfz9_1 hfz9_2
    try clear hx172_0
    try clear hx172_1
    try clear hx172_2
    try clear p172
    try clear p2
    try clear q172
    obtain ⟨kq, x5_11, rfl, HA, HJ11, BK170, BK171, HB⟩ := hcut
    cases kq with
    | zero => exact absurd HA.out (by simp [prog_args.j1])
    | succ kj11 =>
     have H := HA.out
     clear HA
     simp only [prog_args.j1] at H
     have HC19 := Aside0.mk H
     clear H
     have hnb20 := NB171_170.out
     have hnc20 := NB170_171.out
     obtain ⟨hcz21_0, hcz21_1, hcz21_2, hcz21_3, hcz21_4, hfz21_0, hfz21_1, hfz21_2, hfz21_3, hfz21_4⟩ := cf5 BK171.out
     go_upto_if 27 with (fail)
     go_cut [27] (fun v27 wc => ∃ (kq : Nat) (x27_18 : Bool), v27 = .bool x27_18 ∧ Aside0 (prog_args.j2 kq x5_11 a1_0 x27_18 a1_0 a1_1 l1_2 l1_3 l1_4 = some r) ∧ Aside0 (kq ≤ kj11) ∧ Aside0 (wc.heap[gb170]? = some (.cells #[.int .i64 a0_0, (.slice A0_1 l0_1.length c0_1), (.slice A0_2 l0_2.length c0_2)] 25 (0, 0))) ∧ Aside0 (wc.heap[gb171]? = some (.cells #[.int .i64 a1_0, .int .i64 a1_1, (.slice A1_2 l1_2.length c1_2), (.slice A1_3 l1_3.length c1_3), (.slice A1_4 l1_4.length c1_4)] 57 (0, 0))) ∧ Aside0 (Below w.heap.size w wc))
     case first =>
      have H := HC19.out
      clear HC19
      by_cases c22 : a1_0 = 0
      rotate_left
      ·rw [if_neg c22] at H
       have c22b0 : (a1_0 == 0) = false := beq_eq_false_iff_ne.mpr c22
       have c22b1 : (a1_0 != 0) = true := bne_iff_ne.mpr c22
       (first | rw [c22b0] | (simp only [i64_w, i32_w]; rw [c22b0]) | skip)
       have H' := Aside0.mk H
       clear H
       go_wp2
       go_meet
       case rel => exact ⟨_, ((a1_0 == 4)), rs, H', ⟨by have := HJ2.out; have := HJ11.out; first | omega | exact Nat.le_refl _⟩, ⟨kk BK170⟩, ⟨kk BK171⟩, ⟨bb HB⟩⟩
      rw [if_pos c22] at H
      have c22b0 : (a1_0 == 0) = true := beq_iff_eq.mpr c22
      have c22b1 : (a1_0 != 0) = false := bne_eq_false_iff_eq.mpr c22
      clear c22
      (first | rw [c22b0] | (simp only [i64_w, i32_w]; rw [c22b0]) | skip)
      have H' := Aside0.mk H
      clear H
      go_wp2
      go_meet
      case rel => exact ⟨_, ((a1_0 == 0)), rs, H', ⟨by have := HJ2.out; have := HJ11.out; first | omega | exact Nat.le_refl _⟩, ⟨kk BK170⟩, ⟨kk BK171⟩, ⟨bb HB⟩⟩
     case rest =>
      clear HC19
      try clear c1
      try clear p1
      try clear q1
      try clear hx1
      try clear c2
      try clear p2
      try clear c6
      try clear c6b0
      try clear c7
      try clear c8
      try clear c10
      try clear c13
      try clear c14
      try clear c14b0
      try clear c15
      try clear c15b0
      try clear c16
      try clear p17
      try clear q17
      try clear hx17
      try clear c20
      try clear c22
      try clear c22b0
      try clear c22b1
      try clear hcz11_0 hcz11_1 hcz11_2 hcz11_3 hcz11_4
      try clear hcz17_0 hcz17_1 hcz17_2
      try clear hcz18_0 hcz18_1 hcz18_2 hcz18_3 hcz18_4
      try clear hcz21_0 hcz21_1 hcz21_2 hcz21_3 hcz21_4
      try clear hcz8_0 hcz8_1 hcz8_2 hcz8_3 hcz8_4
      try clear hcz9_0 hcz9_1 hcz9_2
      try clear hfz11_0 hfz11_1 hfz11_2 hfz11_3 hfz11_4
      try clear hfz17_0 hfz17_1 hfz17_2
      try clear hfz18_0 hfz18_1 hfz18_2 hfz18_3 hfz18_4
      try clear hfz21_0 hfz21_1 hfz21_2 hfz21_3 hfz21_4
      try clear hfz8_0 hfz8_1 hfz8_2 hfz8_3 hfz8_4
      try clear hfz9_0 hfz9_1 hfz9_2
      try clear hx172_0
      try clear hx172_1
      try clear hx172_2
      try clear p1
      try clear p17
      try clear p172
      try clear p2
      try clear q1
      try clear q17
      try clear q172
      obtain ⟨kq, x27_18, rfl, HA, HJ18, BK170, BK171, HB⟩ := hcut
      cases kq with
      | zero => exact absurd HA.out (by simp [prog_args.j2])
      | succ kj18 =>
       have H := HA.out
       clear HA
       simp only [prog_args.j2] at H
       by_cases c23 : x27_18 = true
       ·subst c23
        replace H := it H
        have HC24 := Aside0.mk H
        clear H
        have hnb25 := NB171_170.out
        have hnc25 := NB170_171.out
        obtain ⟨hcz26_0, hcz26_1, hcz26_2, hcz26_3, hcz26_4, hfz26_0, hfz26_1, hfz26_2, hfz26_3, hfz26_4⟩ := cf5 BK171.out
        go_upto_if 32 with (fail)
        go_cut [6] (fun v6 wc => ∃ (kq : Nat) (x6_23 : Int), v6 = .int .i64 x6_23 ∧ Aside0 (prog_args.j3 kq x5_11 x6_23 = some r) ∧ Aside0 (kq ≤ kj18) ∧ Aside0 (wc.heap[gb170]? = some (.cells #[.int .i64 a0_0, (.slice A0_1 l0_1.length c0_1), (.slice A0_2 l0_2.length c0_2)] 25 (0, 0))) ∧ Aside0 (wc.heap[gb171]? = some (.cells #[.int .i64 a1_0, .int .i64 a1_1, (.slice A1_2 l1_2.length c1_2), (.slice A1_3 l1_3.length c1_3), (.slice A1_4 l1_4.length c1_4)] 57 (0, 0))) ∧ Aside0 (Below w.heap.size w wc))
        case first =>
         have H := HC24.out
         clear HC24
         by_cases c27 : a1_0 = 0
         rotate_left
         ·rw [if_neg c27] at H
          have c27b0 : (a1_0 == 0) = false := beq_eq_false_iff_ne.mpr c27
          have c27b1 : (a1_0 != 0) = true := bne_iff_ne.mpr c27
          (first | rw [c27b0] | (simp only [i64_w, i32_w]; rw [c27b0]) | skip)
          have H' := Aside0.mk H
          clear H
          go_wp2
          go_meet
          case rel => exact ⟨_, (0), rs, H', ⟨by have := HJ2.out; have := HJ11.out; have := HJ18.out; first | omega | exact Nat.le_refl _⟩, ⟨kk BK170⟩, ⟨kk BK171⟩, ⟨bb HB⟩⟩
         rw [if_pos c27] at H
         have c27b0 : (a1_0 == 0) = true := beq_iff_eq.mpr c27
         have c27b1 : (a1_0 != 0) = false := bne_eq_false_iff_eq.mpr c27
         clear c27
         (first | rw [c27b0] | (simp only [i64_w, i32_w]; rw [c27b0]) | skip)
         have H' := Aside0.mk H
         clear H
         go_wp2
         go_meet
         case rel => exact ⟨_, (1), rs, H', ⟨by have := HJ2.out; have := HJ11.out; have := HJ18.out; first | omega | exact Nat.le_refl _⟩, ⟨kk BK170⟩, ⟨kk BK171⟩, ⟨bb HB⟩⟩
        case rest =>
         clear HC24
         try clear c1
         try clear p1
         try clear q1
         try clear hx1
         try clear c2
         try clear p2
         try clear c6
         try clear c6b0
         try clear c7
         try clear c8
         try clear c10
         try clear c13
         try clear c14
         try clear c14b0
         try clear c15
         try clear c15b0
         try clear c16
         try clear p17
         try clear q17
         try clear hx17
         try clear c20
         try clear c22
         try clear c22b0
         try clear c22b1
         try clear c23
         try clear c25
         try clear c27
         try clear c27b0
         try clear c27b1
         try clear hcz11_0 hcz11_1 hcz11_2 hcz11_3 hcz11_4
         try clear hcz17_0 hcz17_1 hcz17_2
         try clear hcz18_0 hcz18_1 hcz18_2 hcz18_3 hcz18_4
         try clear hcz21_0 hcz21_1 hcz21_2 hcz21_3 hcz21_4
         try clear hcz26_0 hcz26_1 hcz26_2 hcz26_3 hcz26_4
         try clear hcz8_0 hcz8_1 hcz8_2 hcz8_3 hcz8_4
         try clear hcz9_0 hcz9_1 hcz9_2
         try clear hfz11_0 hfz11_1 hfz11_2 hfz11_3 hfz11_4
         try clear hfz17_0 hfz17_1 hfz17_2
         try clear hfz18_0 hfz18_1 hfz18_2 hfz18_3 hfz18_4
         try clear hfz21_0 hfz21_1 hfz21_2 hfz21_3 hfz21_4
         try clear hfz26_0 hfz26_1 hfz26_2 hfz26_3 hfz26_4
         try clear hfz8_0 hfz8_1 hfz8_2 hfz8_3 hfz8_4
         try clear hfz9_0 hfz9_1 hfz9_2
         try clear hx172_0
         try clear hx172_1
         try clear hx172_2
         try clear p1
         try clear p17
         try clear p172
         try clear p2
         try clear q1
         try clear q17
         try clear q172
         obtain ⟨kq, x6_23, rfl, HA, HJ23, BK170, BK171, HB⟩ := hcut
         cases kq with
         | zero => exact absurd HA.out (by simp [prog_args.j3])
         | succ kj23 =>
          have H := HA.out
          clear HA
          simp only [prog_args.j3] at H
          by_cases c28 : x5_11 = 0
          ·rw [if_pos c28] at H
           have c28b0 : (x5_11 == 0) = true := beq_iff_eq.mpr c28
           have c28b1 : (x5_11 != 0) = false := bne_eq_false_iff_eq.mpr c28
           clear c28
           obtain rfl := Option.some.inj H
           go_wp2
           go_ret
           exact ⟨rr, bb HB⟩
          rw [if_neg c28] at H
          have c28b0 : (x5_11 == 0) = false := beq_eq_false_iff_ne.mpr c28
          have c28b1 : (x5_11 != 0) = true := bne_iff_ne.mpr c28
          by_cases c29 : x5_11 > 1
          ·rw [if_pos c29] at H
           have c29b0 : decide (1 < x5_11) = true := decide_eq_true c29
           clear c29
           obtain rfl := Option.some.inj H
           go_wp2
           go_ret
           exact ⟨rr, bb HB⟩
          rw [if_neg c29] at H
          have c29b0 : decide (1 < x5_11) = false := decide_eq_false c29
          clear c29
          obtain rfl := Option.some.inj H
          go_wp2
          go_ret
          exact ⟨rr, bb HB⟩
       replace c23 := Bool.eq_false_iff.mpr c23
       subst c23
       replace H := fi H
       by_cases c30 : a1_0 = 3
       ·rw [if_pos c30] at H
        have c30b0 : (a1_0 == 3) = true := beq_iff_eq.mpr c30
        have c30b1 : (a1_0 != 3) = false := bne_eq_false_iff_eq.mpr c30
        clear c30
        by_cases c31 : a1_1 < 0
        ·rw [if_pos c31] at H
         have c31b0 : decide (a1_1 < 0) = true := decide_eq_true c31
         clear c31
         obtain rfl := Option.some.inj H
         have hnb32 := NB171_170.out
         have hnc32 := NB170_171.out
         obtain ⟨hcz33_0, hcz33_1, hcz33_2, hcz33_3, hcz33_4, hfz33_0, hfz33_1, hfz33_2, hfz33_3, hfz33_4⟩ := cf5 BK171.out
         go_wp2
         go_ret
         exact ⟨rr, bb HB⟩
        rw [if_neg c31] at H
        have c31b0 : decide (a1_1 < 0) = false := decide_eq_false c31
        clear c31
        by_cases c34 : a1_1 > 47
        ·rw [if_pos c34] at H
         have c34b0 : decide (47 < a1_1) = true := decide_eq_true c34
         clear c34
         obtain rfl := Option.some.inj H
         have hnb35 := NB171_170.out
         have hnc35 := NB170_171.out
         obtain ⟨hcz36_0, hcz36_1, hcz36_2, hcz36_3, hcz36_4, hfz36_0, hfz36_1, hfz36_2, hfz36_3, hfz36_4⟩ := cf5 BK171.out
         go_wp2
         go_ret
         exact ⟨rr, bb HB⟩
        rw [if_neg c34] at H
        have c34b0 : decide (47 < a1_1) = false := decide_eq_false c34
        clear c34
        obtain rfl := Option.some.inj H
        have hnb37 := NB171_170.out
        have hnc37 := NB170_171.out
        obtain ⟨hcz38_0, hcz38_1, hcz38_2, hcz38_3, hcz38_4, hfz38_0, hfz38_1, hfz38_2, hfz38_3, hfz38_4⟩ := cf5 BK171.out
        go_wp2
        go_ret
        exact ⟨rr, bb HB⟩
       rw [if_neg c30] at H
       have c30b0 : (a1_0 == 3) = false := beq_eq_false_iff_ne.mpr c30
       have c30b1 : (a1_0 != 3) = true := bne_iff_ne.mpr c30
       have HC39 := Aside0.mk H
       clear H
       go_upto_if 52 with (fail)
       go_cut [52] (fun v52 wc => ∃ (kq : Nat) (x52_38 : Bool), v52 = .bool x52_38 ∧ Aside0 (prog_args.j4 kq x52_38 a1_0 a1_1 l1_2 l1_3 l1_4 = some r) ∧ Aside0 (kq ≤ kj18) ∧ Aside0 (wc.heap[gb170]? = some (.cells #[.int .i64 a0_0, (.slice A0_1 l0_1.length c0_1), (.slice A0_2 l0_2.length c0_2)] 25 (0, 0))) ∧ Aside0 (wc.heap[gb171]? = some (.cells #[.int .i64 a1_0, .int .i64 a1_1, (.slice A1_2 l1_2.length c1_2), (.slice A1_3 l1_3.length c1_3), (.slice A1_4 l1_4.length c1_4)] 57 (0, 0))) ∧ Aside0 (Below w.heap.size w wc))
       case first =>
        have H := HC39.out
        clear HC39
        by_cases c40 : a1_0 = 1
        ·rw [if_pos c40] at H
         have c40b0 : (a1_0 == 1) = true := beq_iff_eq.mpr c40
         have c40b1 : (a1_0 != 1) = false := bne_eq_false_iff_eq.mpr c40
         clear c40
         (first | rw [c40b0] | (simp only [i64_w, i32_w]; rw [c40b0]) | skip)
         have H' := Aside0.mk H
         clear H
         go_wp2
         go_meet
         case rel => exact ⟨_, ((a1_0 == 1)), rs, H', ⟨by have := HJ2.out; have := HJ11.out; have := HJ18.out; first | omega | exact Nat.le_refl _⟩, ⟨kk BK170⟩, ⟨kk BK171⟩, ⟨bb HB⟩⟩
        rw [if_neg c40] at H
        have c40b0 : (a1_0 == 1) = false := beq_eq_false_iff_ne.mpr c40
        have c40b1 : (a1_0 != 1) = true := bne_iff_ne.mpr c40
        (first | rw [c40b0] | (simp only [i64_w, i32_w]; rw [c40b0]) | skip)
        by_cases c41 : a1_0 = 2
        ·rw [if_pos c41] at H
         have c41b0 : (a1_0 == 2) = true := beq_iff_eq.mpr c41
         have c41b1 : (a1_0 != 2) = false := bne_eq_false_iff_eq.mpr c41
         clear c41
         have H' := Aside0.mk H
         clear H
         go_wp2
         go_meet
         case rel => exact ⟨_, ((a1_0 == 2)), rs, H', ⟨by have := HJ2.out; have := HJ11.out; have := HJ18.out; first | omega | exact Nat.le_refl _⟩, ⟨kk BK170⟩, ⟨kk BK171⟩, ⟨bb HB⟩⟩
        rw [if_neg c41] at H
        have c41b0 : (a1_0 == 2) = false := beq_eq_false_iff_ne.mpr c41
        have c41b1 : (a1_0 != 2) = true := bne_iff_ne.mpr c41
        by_cases c42 : a1_0 = 5
        rotate_left
        ·rw [if_neg c42] at H
         have c42b0 : (a1_0 == 5) = false := beq_eq_false_iff_ne.mpr c42
         have c42b1 : (a1_0 != 5) = true := bne_iff_ne.mpr c42
         have H' := Aside0.mk H
         clear H
         go_wp2
         go_meet
         case rel => exact ⟨_, ((a1_0 == 6)), rs, H', ⟨by have := HJ2.out; have := HJ11.out; have := HJ18.out; first | omega | exact Nat.le_refl _⟩, ⟨kk BK170⟩, ⟨kk BK171⟩, ⟨bb HB⟩⟩
        rw [if_pos c42] at H
        have c42b0 : (a1_0 == 5) = true := beq_iff_eq.mpr c42
        have c42b1 : (a1_0 != 5) = false := bne_eq_false_iff_eq.mpr c42
        clear c42
        have H' := Aside0.mk H
        clear H
        go_wp2
        go_meet
        case rel => exact ⟨_, ((a1_0 == 5)), rs, H', ⟨by have := HJ2.out; have := HJ11.out; have := HJ18.out; first | omega | exact Nat.le_refl _⟩, ⟨kk BK170⟩, ⟨kk BK171⟩, ⟨bb HB⟩⟩
       case rest =>
        clear HC39
        try clear c1
        try clear p1
        try clear q1
        try clear hx1
        try clear c2
        try clear p2
        try clear c3
        try clear c4
        try clear c6
        try clear c6b0
        try clear c7
        try clear c8
        try clear c10
        try clear c13
        try clear c14
        try clear c14b0
        try clear c15
        try clear c15b0
        try clear c16
        try clear p17
        try clear q17
        try clear hx17
        try clear c20
        try clear c22
        try clear c22b0
        try clear c22b1
        try clear c23
        try clear c25
        try clear c27
        try clear c27b0
        try clear c27b1
        try clear c28
        try clear c28b0
        try clear c28b1
        try clear c29
        try clear c29b0
        try clear c30
        try clear c30b0
        try clear c30b1
        try clear c31
        try clear c31b0
        try clear c32
        try clear c34
        try clear c34b0
        try clear c35
        try clear c37
        try clear c40
        try clear c40b0
        try clear c40b1
        try clear c41
        try clear c41b0
        try clear c41b1
        try clear c42
        try clear c42b0
        try clear c42b1
        try clear hcz11_0 hcz11_1 hcz11_2 hcz11_3 hcz11_4
        try clear hcz17_0 hcz17_1 hcz17_2
        try clear hcz18_0 hcz18_1 hcz18_2 hcz18_3 hcz18_4
        try clear hcz21_0 hcz21_1 hcz21_2 hcz21_3 hcz21_4
        try clear hcz26_0 hcz26_1 hcz26_2 hcz26_3 hcz26_4
        try clear hcz33_0 hcz33_1 hcz33_2 hcz33_3 hcz33_4
        try clear hcz36_0 hcz36_1 hcz36_2 hcz36_3 hcz36_4
        try clear hcz38_0 hcz38_1 hcz38_2 hcz38_3 hcz38_4
        try clear hcz8_0 hcz8_1 hcz8_2 hcz8_3 hcz8_4
        try clear hcz9_0 hcz9_1 hcz9_2
        try clear hfz11_0 hfz11_1 hfz11_2 hfz11_3 hfz11_4
        try clear hfz17_0 hfz17_1 hfz17_2
        try clear hfz18_0 hfz18_1 hfz18_2 hfz18_3 hfz18_4
        try clear hfz21_0 hfz21_1 hfz21_2 hfz21_3 hfz21_4
        try clear hfz26_0 hfz26_1 hfz26_2 hfz26_3 hfz26_4
        try clear hfz33_0 hfz33_1 hfz33_2 hfz33_3 hfz33_4
        try clear hfz36_0 hfz36_1 hfz36_2 hfz36_3 hfz36_4
        try clear hfz38_0 hfz38_1 hfz38_2 hfz38_3 hfz38_4
        try clear hfz8_0 hfz8_1 hfz8_2 hfz8_3 hfz8_4
        try clear hfz9_0 hfz9_1 hfz9_2
        try clear hx172_0
        try clear hx172_1
        try clear hx172_2
        try clear p1
        try clear p17
        try clear p172
        try clear p2
        try clear q1
        try clear q17
        try clear q172
        obtain ⟨kq, x52_38, rfl, HA, HJ38, BK170, BK171, HB⟩ := hcut
        cases kq with
        | zero => exact absurd HA.out (by simp [prog_args.j4])
        | succ kj38 =>
         have H := HA.out
         clear HA
         simp only [prog_args.j4] at H
         by_cases c43 : x52_38 = true
         rotate_left
         ·replace c43 := Bool.eq_false_iff.mpr c43
          subst c43
          replace H := fi H
          obtain rfl := Option.some.inj H
          go_wp2
          go_ret
          exact ⟨rr, bb HB⟩
         subst c43
         replace H := it H
         by_cases c44 : a1_1 = 0
         rotate_left
         ·rw [if_neg c44] at H
          have c44b0 : (a1_1 == 0) = false := beq_eq_false_iff_ne.mpr c44
          have c44b1 : (a1_1 != 0) = true := bne_iff_ne.mpr c44
          obtain rfl := Option.some.inj H
          have hnb47 := NB171_170.out
          have hnc47 := NB170_171.out
          obtain ⟨hcz48_0, hcz48_1, hcz48_2, hcz48_3, hcz48_4, hfz48_0, hfz48_1, hfz48_2, hfz48_3, hfz48_4⟩ := cf5 BK171.out
          go_wp2
          go_ret
          exact ⟨rr, bb HB⟩
         rw [if_pos c44] at H
         have c44b0 : (a1_1 == 0) = true := beq_iff_eq.mpr c44
         have c44b1 : (a1_1 != 0) = false := bne_eq_false_iff_eq.mpr c44
         clear c44
         obtain rfl := Option.some.inj H
         have hnb45 := NB171_170.out
         have hnc45 := NB170_171.out
         obtain ⟨hcz46_0, hcz46_1, hcz46_2, hcz46_3, hcz46_4, hfz46_0, hfz46_1, hfz46_2, hfz46_3, hfz46_4⟩ := cf5 BK171.out
         go_wp2
         go_ret
         exact ⟨rr, bb HB⟩
def nestOk (op : Int) (t e : Nat) : Bool := (t == 0 || op == 1 || op == 2) && (e == 0 || op == 1)
theorem nestOk_cases (op : Int) (t e : Nat) :
    (nestOk op t e = false ∧ (((decide (0 < t) = true ∧ decide ((0 : Int) < (t : Int)) = true) ∧ (op != 1) = true ∧ (op != 2) = true) ∨ ((decide (0 < t) = true ∧ decide ((0 : Int) < (t : Int)) = true) ∧ (op != 1) = true ∧ (op != 2) = false ∧ (decide (0 < e) = true ∧ decide ((0 : Int) < (e : Int)) = true)) ∨ ((decide (0 < t) = false ∧ decide ((0 : Int) < (t : Int)) = false) ∧ (decide (0 < e) = true ∧ decide ((0 : Int) < (e : Int)) = true) ∧ (op != 1) = true))) ∨
    (nestOk op t e = true ∧ (((decide (0 < t) = true ∧ decide ((0 : Int) < (t : Int)) = true) ∧ (op != 1) = false ∧ (decide (0 < e) = false ∧ decide ((0 : Int) < (e : Int)) = false)) ∨ ((decide (0 < t) = true ∧ decide ((0 : Int) < (t : Int)) = true) ∧ (op != 1) = false ∧ (decide (0 < e) = true ∧ decide ((0 : Int) < (e : Int)) = true)) ∨ ((decide (0 < t) = true ∧ decide ((0 : Int) < (t : Int)) = true) ∧ (op != 1) = true ∧ (op != 2) = false ∧ (decide (0 < e) = false ∧ decide ((0 : Int) < (e : Int)) = false)) ∨ ((decide (0 < t) = false ∧ decide ((0 : Int) < (t : Int)) = false) ∧ (decide (0 < e) = false ∧ decide ((0 : Int) < (e : Int)) = false)) ∨ ((decide (0 < t) = false ∧ decide ((0 : Int) < (t : Int)) = false) ∧ (decide (0 < e) = true ∧ decide ((0 : Int) < (e : Int)) = true) ∧ (op != 1) = false))) := by
  unfold nestOk
  by_cases ht : t = 0 <;> by_cases he : e = 0 <;> by_cases h1 : op = 1 <;> by_cases h2 : op = 2 <;> simp [ht, he, h1, h2, Nat.pos_iff_ne_zero, Int.natCast_pos] <;> omega
mutual
def prog_count_fine.l1 : Nat → Int → List S42 → List S57 → List S57 → Int → Int → Int → Int → Int → Option (Bool × Int × Int)
  | 0, _, _, _, _, _, _, _, _, _ => none
  | k + 1, a0, l1, l2, l, deep, i, j, st, nd => if j < ((rd_T57 l i).f2.length : Int) then (if 0 ≤ j then ((expr_Check.f k a0 l1 1 (rd_T52 (rd_T57 l i).f2 j).f0 (rd_T52 (rd_T57 l i).f2 j).f1 (rd_T52 (rd_T57 l i).f2 j).f2 (rd_T52 (rd_T57 l i).f2 j).f3).bind fun t => if t = 0 then
        ((expr_Nodes.f k (rd_T52 (rd_T57 l i).f2 j).f0 (rd_T52 (rd_T57 l i).f2 j).f1 (rd_T52 (rd_T57 l i).f2 j).f2 (rd_T52 (rd_T57 l i).f2 j).f3).bind fun m => prog_count_fine.l1 k a0 l1 l2 l deep i (wrap64 (j + 1)) st (wrap64 (nd + m))) else some (false, st, nd)) else none)
      else (prog_count_fine.f k a0 l1 l2 (rd_T57 l i).f3 (wrap64 (deep + 1)) st nd).bind fun q => if q.1 = true then ((prog_count_fine.f k a0 l1 l2 (rd_T57 l i).f4 (wrap64 (deep + 1)) q.2.1 q.2.2).bind fun q2 => if q2.1 = true then prog_count_fine.l0 k a0 l1 l2 l deep (wrap64 (i + 1)) q2.2.1 q2.2.2 else some (false, q2.2.1, q2.2.2)) else some (false, q.2.1, q.2.2)
def prog_count_fine.l0 : Nat → Int → List S42 → List S57 → List S57 → Int → Int → Int → Int → Option (Bool × Int × Int)
  | 0, _, _, _, _, _, _, _, _ => none
  | k + 1, a0, l1, l2, l, deep, i, st, nd => if i < (l.length : Int) then (if 0 ≤ i then (if 400 < wrap64 (nd + 1) then some (false, wrap64 (st + 1), wrap64 (nd + 1)) else
      (prog_args.f k a0 l1 l2 (rd_T57 l i).f0 (rd_T57 l i).f1 (rd_T57 l i).f2 (rd_T57 l i).f3 (rd_T57 l i).f4).bind fun ar => if ar = ((rd_T57 l i).f2.length : Int) then
        (if nestOk (rd_T57 l i).f0 (rd_T57 l i).f3.length (rd_T57 l i).f4.length = true then prog_count_fine.l1 k a0 l1 l2 l deep i 0 (wrap64 (st + 1)) (wrap64 (nd + 1)) else some (false, wrap64 (st + 1), wrap64 (nd + 1))) else some (false, wrap64 (st + 1), wrap64 (nd + 1))) else none)
      else some (decide (nd ≤ 400), st, nd)
def prog_count_fine.f : Nat → Int → List S42 → List S57 → List S57 → Int → Int → Int → Option (Bool × Int × Int)
  | 0, _, _, _, _, _, _, _ => none
  | k + 1, a0, l1, l2, l, deep, st, nd => if (0 : Int) < (l.length : Int) then (if 16 < deep then some (false, st, nd) else prog_count_fine.l0 k a0 l1 l2 l deep 0 st nd) else prog_count_fine.l0 k a0 l1 l2 l deep 0 st nd
end
theorem cells2 {w : World} {g : Nat} {a b : Value} {t : TypeId} {fr : Nat × Nat} (h : w.heap[g]? = some (.cells #[a, b] t (0, 0))) : w.cell? ⟨g, 0, none⟩ = some a ∧ w.cell? ⟨g, 1, none⟩ = some b := ⟨(blk_cell h 0).trans rfl, (blk_cell h 1).trans rfl⟩
theorem cells3 {w : World} {g : Nat} {a b c : Value} {t : TypeId} (h : w.heap[g]? = some (.cells #[a, b, c] t (0, 0))) : w.cell? ⟨g, 0, none⟩ = some a ∧ w.cell? ⟨g, 1, none⟩ = some b ∧ w.cell? ⟨g, 2, none⟩ = some c := ⟨(blk_cell h 0).trans rfl, (blk_cell h 1).trans rfl, (blk_cell h 2).trans rfl⟩
theorem cells5 {w : World} {g : Nat} {a b c d e : Value} {t : TypeId} (h : w.heap[g]? = some (.cells #[a, b, c, d, e] t (0, 0))) : w.cell? ⟨g, 0, none⟩ = some a ∧ w.cell? ⟨g, 1, none⟩ = some b ∧ w.cell? ⟨g, 2, none⟩ = some c ∧ w.cell? ⟨g, 3, none⟩ = some d ∧ w.cell? ⟨g, 4, none⟩ = some e :=
  ⟨(blk_cell h 0).trans rfl, (blk_cell h 1).trans rfl, (blk_cell h 2).trans rfl, (blk_cell h 3).trans rfl, (blk_cell h 4).trans rfl⟩
theorem count_world {wr : World} {G p : Nat} {a b u v : Value} {t : TypeId} {oP : Obj} (hG : wr.heap[G]? = some (.cells #[a, b] t (0, 0))) (hP : wr.heap[p]? = some oP) (hne : p ≠ G) (o : Obj) :
    (((wr.setCell ⟨G, 0, none⟩ u).setCell ⟨G, 1, none⟩ v).alloc o).heap[G]? = some (.cells #[u, v] t (0, 0)) ∧ (((wr.setCell ⟨G, 0, none⟩ u).setCell ⟨G, 1, none⟩ v).alloc o).heap[p]? = some oP ∧
      (((wr.setCell ⟨G, 0, none⟩ u).setCell ⟨G, 1, none⟩ v).alloc o).heap[wr.heap.size]? = some o ∧ wr.grownBy (((wr.setCell ⟨G, 0, none⟩ u).setCell ⟨G, 1, none⟩ v).alloc o) (some G) ∧ wr.heap.size < (((wr.setCell ⟨G, 0, none⟩ u).setCell ⟨G, 1, none⟩ v).alloc o).heap.size := by
  have h1 : (wr.setCell ⟨G, 0, none⟩ u).heap[G]? = some (.cells #[u, b] t (0, 0)) := by simpa using blk_set hG 0 u
  have h2 : ((wr.setCell ⟨G, 0, none⟩ u).setCell ⟨G, 1, none⟩ v).heap[G]? = some (.cells #[u, v] t (0, 0)) := by simpa using blk_set h1 1 v
  refine ⟨kal h2 _, kal ((Below.heap_setCell _ _ _ _ hne).trans ((Below.heap_setCell _ _ _ _ hne).trans hP)) _, ?_, ?_, by simp⟩
  · have := heap_alloc_new ((wr.setCell ⟨G, 0, none⟩ u).setCell ⟨G, 1, none⟩ v) o
    simpa using this
  · refine ⟨rfl, rfl, rfl, by simp, fun i hi hne2 => ?_⟩
    have hne' : i ≠ G := fun e => hne2 (by rw [e])
    rw [Below.heap_alloc _ _ _ (by simpa using hi), Below.heap_setCell _ _ _ _ hne', Below.heap_setCell _ _ _ _ hne']
theorem undrew {w w' : World} (h : Below w.drew.heap.size w.drew w') : Below w.heap.size w w' := ⟨h.os, h.tape, h.output, h.size, h.block⟩
theorem prog_count_fine.calls (k : Nat) : ∀ (a0 : Int) (A1 : Option Addr) (c1 : Nat) (l1 : List S42) (A2 : Option Addr) (c2 : Nat) (l2 : List S57) (A : Option Addr) (c : Nat) (l : List S57) (deep st nd : Int) (G : Nat) (r : Bool) (st' nd' : Int) (w0 w : World)
    (hr1 : Kd.C k42 w0 A1 l1.length l1) (hc1 : l1.length ≤ c1) (hr2 : Kd.C k57 w0 A2 l2.length l2) (hc2 : l2.length ≤ c2) (hr : Kd.C k57 w0 A l.length l) (hc : l.length ≤ c) (hB : Below w0.heap.size w0 w) (hG0 : w0.heap.size ≤ G)
    (hG : w.heap[G]? = some (.cells #[.int .i64 st, .int .i64 nd] 110 (0, 0))) (h : prog_count_fine.f k a0 l1 l2 l deep st nd = some (r, st', nd')),
    Calls Try.prog 72 #[.pointer (some ⟨G, 0, none⟩), .agg #[.int .i64 a0, .slice A1 l1.length c1, .slice A2 l2.length c2], .slice A l.length c, .int .i64 deep] w fun e w' =>
      e = .returned (.bool r) ∧ w'.heap[G]? = some (.cells #[.int .i64 st', .int .i64 nd'] 110 (0, 0)) ∧ w.grownBy w' (some G) := by
  induction k using Nat.strongRecOn with
  | _ k ih =>
  intro a0 A1 c1 l1 A2 c2 l2 A c l deep st nd G r st' nd' w0 w hr1 hc1 hr2 hc2 hr hc hB hG0 hG h
  cases k with
  | zero => exact absurd h (by simp [prog_count_fine.f])
  | succ k =>
  simp only [prog_count_fine.f] at h
  have huP := Try.underlying25
  have huS := Try.underlying57
  have huC := Try.underlying110
  have HR1 := Aside0.mk hr1
  have HC1 := Aside0.mk hc1
  have HR2 := Aside0.mk hr2
  have HC2 := Aside0.mk hc2
  have HR := Aside0.mk hr
  have HC := Aside0.mk hc
  have HB := Aside0.mk hB
  have HG0 := Aside0.mk hG0
  have BG0 := Aside0.mk hG
  have hGl := blk_lt hG
  have ih' := Aside0.mk ih
  clear hr1 hc1 hr2 hc2 hr hc hB hG0 hG ih
  have HH : (0 < l.length ∧ decide (16 < deep) = true ∧ r = false ∧ st = st' ∧ nd = nd') ∨ (((0 < l.length ∧ decide (16 < deep) = false) ∨ l.length = 0) ∧ Aside0 (prog_count_fine.l0 k a0 l1 l2 l deep 0 st nd = some (r, st', nd'))) := by
    by_cases h0 : (0 : Int) < (l.length : Int)
    · rw [if_pos h0] at h
      rcases ite_b h with ⟨d, h⟩ | ⟨d, h⟩
      · injection (Option.some.inj h) with e1 e2
        injection e2 with e2 e3
        exact .inl ⟨by omega, d, e1.symm, e2, e3⟩
      · exact .inr ⟨.inl ⟨by omega, d⟩, ⟨h⟩⟩
    · rw [if_neg h0] at h
      exact .inr ⟨.inr (by omega), ⟨h⟩⟩
  clear h
  rcases HH with ⟨d0, d1, rfl, rfl, rfl⟩ | ⟨hd, HL⟩
  · have d0' : decide (0 < l.length) = true := decide_eq_true d0
    have d0'' : decide ((0 : Int) < (l.length : Int)) = true := decide_eq_true (by omega)
    go_enter Try.func72, Try.ntmps72
    go_wp2
    go_ret
    exact ⟨rfl, kal BG0.out _, World.grownBy_alloc _ _ _⟩
  have hd' : (decide (0 < l.length) = true ∧ decide ((0 : Int) < (l.length : Int)) = true ∧ decide (16 < deep) = false) ∨ (decide (0 < l.length) = false ∧ decide ((0 : Int) < (l.length : Int)) = false) := by
    rcases hd with ⟨d, d1⟩ | d
    · exact .inl ⟨decide_eq_true d, decide_eq_true (by omega), d1⟩
    · exact .inr ⟨decide_eq_false (by omega), decide_eq_false (by omega)⟩
  clear hd
  go_enter Try.func72, Try.ntmps72
  go_upto_region 1 with (fail)
  go_cut [19] (fun v19 wc => v19 = .bool false ∧ Aside0 (wc.heap[G]? = some (.cells #[.int .i64 st, .int .i64 nd] 110 (0, 0))) ∧ Aside0 (wc.heap[w.heap.size]? = some (.cells #[.int .i64 a0, .slice A1 l1.length c1, .slice A2 l2.length c2] 25 (0, 0))) ∧ Aside0 (w.grownBy wc (some G)))
  case first =>
    rcases hd' with ⟨d0, d1, d2⟩ | ⟨d0, d1⟩
    all_goals
      go_wp2
      go_meet
      case rel => exact ⟨rfl, ⟨kal BG0.out _⟩, ⟨heap_alloc_new _ _⟩, ⟨World.grownBy_alloc _ _ _⟩⟩
  case rest =>
    clear hd' BG0
    obtain ⟨rfl, BG0, BP0, GW0⟩ := hcut
    go_wp2
    go_loopg [22] k (fun kq v22 wl => ∃ (i s1 n1 : Int), v22 = .int .i64 i ∧ Aside0 (prog_count_fine.l0 kq a0 l1 l2 l deep i s1 n1 = some (r, st', nd')) ∧ Aside0 (kq ≤ k) ∧ Aside0 (wl.heap[G]? = some (.cells #[.int .i64 s1, .int .i64 n1] 110 (0, 0))) ∧
      Aside0 (wl.heap[w.heap.size]? = some (.cells #[.int .i64 a0, .slice A1 l1.length c1, .slice A2 l2.length c2] 25 (0, 0))) ∧ Aside0 (w.grownBy wl (some G)))
    case atStart => exact ⟨0, st, nd, rfl, HL, ⟨Nat.le_refl _⟩, BG0, BP0, GW0⟩
    case round =>
      clear HL BG0 BP0 GW0
      obtain ⟨i, s1, n1, rfl, HA, HK, BG, BP, GW⟩ := hrel
      cases gk with
      | zero => exact absurd HA.out (by simp [prog_count_fine.l0])
      | succ k1 =>
        have H := HA.out
        clear HA
        simp only [prog_count_fine.l0] at H
        have H2 := ite_b H
        clear H
        obtain ⟨hg0, hg1⟩ := cells2 (fr := (0, 0)) BG.out
        have hf0 := blk_frozen BG.out 0
        have hf1 := blk_frozen BG.out 1
        have hGlt := blk_lt BG.out
        have hPlt := blk_lt BP.out
        rcases H2 with ⟨t1, H⟩ | ⟨t1, H⟩
        case inr =>
          injection (Option.some.inj H) with e1 e2
          injection e2 with e2 e3
          subst e1 e2 e3
          clear H
          go_wp2
          go_ret
          exact ⟨rfl, BG.out, GW.out⟩
        have H2 := ite_b H
        clear H
        rcases H2 with ⟨t2, H⟩ | ⟨t2, H⟩
        case inr => exact absurd H (by simp)
        have p0 : 0 ≤ i := of_decide_eq_true t2
        have p1 : i < (l.length : Int) := of_decide_eq_true t1
        have B0 := Aside0.mk (below_gr HB.out GW.out HG0.out)
        obtain ⟨ad, B2, b2, B3, b3, B4, b4, e1, q0, q1, q2, q3, q4, ql2, qr2, ql3, qr3, ql4, qr4⟩ := at_T57 HR.out i p0 p1
        cases e1
        replace q0 := (B0.out.cell (World.block_lt_of_cell? w0 _ q0)).trans q0
        replace q1 := (B0.out.cell (World.block_lt_of_cell? w0 _ q1)).trans q1
        replace q2 := (B0.out.cell (World.block_lt_of_cell? w0 _ q2)).trans q2
        replace q3 := (B0.out.cell (World.block_lt_of_cell? w0 _ q3)).trans q3
        replace q4 := (B0.out.cell (World.block_lt_of_cell? w0 _ q4)).trans q4
        have QL2 := Aside0.mk ql2
        have QR2 := Aside0.mk qr2
        have QL3 := Aside0.mk ql3
        have QR3 := Aside0.mk qr3
        have QL4 := Aside0.mk ql4
        have QR4 := Aside0.mk qr4
        have hne : w.heap.size ≠ G := by omega
        have cw := count_world BG.out BP.out hne (.cells #[.int .i64 (rd_T57 l i).f0, .int .i64 (rd_T57 l i).f1, .slice B2 (rd_T57 l i).f2.length b2, .slice B3 (rd_T57 l i).f3.length b3, .slice B4 (rd_T57 l i).f4.length b4] 57) (u := .int .i64 (wrap64 (s1 + 1))) (v := .int .i64 (wrap64 (n1 + 1)))
        have hH := Aside0.mk H
        clear ql2 qr2 ql3 qr3 ql4 qr4 H
        have CW := Aside0.mk cw
        clear cw
        go_wp2
        have cw := CW.out
        clear CW
        generalize (((wr.setCell ⟨G, 0, none⟩ (.int .i64 (wrap64 (s1 + 1)))).setCell ⟨G, 1, none⟩ (.int .i64 (wrap64 (n1 + 1)))).alloc (.cells #[.int .i64 (rd_T57 l i).f0, .int .i64 (rd_T57 l i).f1, .slice B2 (rd_T57 l i).f2.length b2, .slice B3 (rd_T57 l i).f3.length b3, .slice B4 (rd_T57 l i).f4.length b4] 57)) = W1 at cw ⊢
        have H := hH.out
        clear hH
        generalize wrap64 (s1 + 1) = s2 at H cw ⊢
        generalize wrap64 (n1 + 1) = n2 at H cw ⊢
        obtain ⟨bG, bP, bS, gW1, hlt⟩ := cw
        obtain ⟨cG0, cG1⟩ := cells2 (fr := (0, 0)) bG
        obtain ⟨cP0, cP1, cP2⟩ := cells3 bP
        obtain ⟨cS0, cS1, cS2, cS3, cS4⟩ := cells5 bS
        have BG := Aside0.mk bG
        have BP := Aside0.mk bP
        have BS := Aside0.mk bS
        have GW := Aside0.mk (gtrans GW.out gW1)
        have B1 := Aside0.mk (below_gr HB.out GW.out HG0.out)
        clear bG bP bS gW1 hg0 hg1 hf0 hf1 q0 q1 q2 q3 q4 B0
        have H2 := ite_b H
        clear H
        rcases H2 with ⟨d1, H⟩ | ⟨d1, H⟩
        case inl =>
          injection (Option.some.inj H) with e1 e2
          injection e2 with e2 e3
          subst e1 e2 e3
          clear H
          go_quiet (fail)
          go_wp2
          go_ret
          exact ⟨rfl, BG.out, ⟨GW.out.os, GW.out.tape, GW.out.output, GW.out.size, GW.out.block⟩⟩
        replace H := Option.bind_eq_some_iff.mp H
        obtain ⟨ar, AR0, H⟩ := H
        have AR := Aside0.mk AR0
        clear AR0
        have H2 := ite_b H
        clear H
        rcases H2 with ⟨d3, H⟩ | ⟨d3, H⟩
        case inr =>
          injection (Option.some.inj H) with e1 e2
          injection e2 with e2 e3
          subst e1 e2 e3
          clear H
          have d3a : (ar == ((rd_T57 l i).f2.length : Int)) = false := beq_eq_false_iff_ne.mpr (of_decide_eq_false d3)
          have d3b : (ar != ((rd_T57 l i).f2.length : Int)) = true := bne_iff_ne.mpr (of_decide_eq_false d3)
          clear d3
          go_region_held3 (fun w' => Below W1.heap.size W1 w' ∧ w'.cell? ⟨G, 0, none⟩ = some (.int .i64 s2) ∧ w'.cell? ⟨G, 1, none⟩ = some (.int .i64 n2) ∧ w'.cell? ⟨w.heap.size, 0, none⟩ = some (.int .i64 a0) ∧ w'.cell? ⟨w.heap.size, 1, none⟩ = some (.slice A1 l1.length c1) ∧ w'.cell? ⟨w.heap.size, 2, none⟩ = some (.slice A2 l2.length c2) ∧
              w'.cell? ⟨wr.heap.size, 0, none⟩ = some (.int .i64 (rd_T57 l i).f0) ∧ w'.cell? ⟨wr.heap.size, 1, none⟩ = some (.int .i64 (rd_T57 l i).f1) ∧ w'.cell? ⟨wr.heap.size, 2, none⟩ = some (.slice B2 (rd_T57 l i).f2.length b2) ∧ w'.cell? ⟨wr.heap.size, 3, none⟩ = some (.slice B3 (rd_T57 l i).f3.length b3) ∧ w'.cell? ⟨wr.heap.size, 4, none⟩ = some (.slice B4 (rd_T57 l i).f4.length b4))
            (first
              | exact ⟨below_drew (Below.refl _ _), cG0, cG1, cP0, cP1, cP2, cS0, cS1, cS2, cS3, cS4⟩
              | (go_split_ands; exact ⟨below_then (by assumption) (Below.size (by assumption)) hb, pw_cell_below hb (by assumption), pw_cell_below hb (by assumption), pw_cell_below hb (by assumption), pw_cell_below hb (by assumption), pw_cell_below hb (by assumption), pw_cell_below hb (by assumption), pw_cell_below hb (by assumption), pw_cell_below hb (by assumption), pw_cell_below hb (by assumption), pw_cell_below hb (by assumption)⟩))
            (first | (go_at_call 83; (with_reducible refine (prog_args.calls k1 a0 _ _ l1 _ _ l2 _ _ _ _ (rd_T57 l i).f2 _ _ (rd_T57 l i).f3 _ _ (rd_T57 l i).f4 ar _ ?s1 HC1.out ?s2 HC2.out ?s3 QL2.out ?s4 QL3.out ?s5 QL4.out AR.out).mono ?_); (case s1 => exact Kd.C_below HR1.out (by repeat (first | exact B1.out | apply below_drew))); (case s2 => exact Kd.C_below HR2.out (by repeat (first | exact B1.out | apply below_drew))); (case s3 => exact Kd.C_below QR2.out (by repeat (first | exact B1.out | apply below_drew))); (case s4 => exact Kd.C_below QR3.out (by repeat (first | exact B1.out | apply below_drew))); (case s5 => exact Kd.C_below QR4.out (by repeat (first | exact B1.out | apply below_drew))); rintro e w' ⟨rfl, hb⟩))
          obtain ⟨hBw, _⟩ := ‹Below W1.heap.size W1 _ ∧ _›
          go_wp2
          go_ret
          exact ⟨rfl, fine_end GW.out BG.out hBw⟩
        have d3a : (ar == ((rd_T57 l i).f2.length : Int)) = true := beq_iff_eq.mpr (of_decide_eq_true d3)
        have d3b : (ar != ((rd_T57 l i).f2.length : Int)) = false := bne_eq_false_iff_eq.mpr (of_decide_eq_true d3)
        clear d3
        go_region_held3 (fun w' => Below W1.heap.size W1 w' ∧ w'.cell? ⟨G, 0, none⟩ = some (.int .i64 s2) ∧ w'.cell? ⟨G, 1, none⟩ = some (.int .i64 n2) ∧ w'.cell? ⟨w.heap.size, 0, none⟩ = some (.int .i64 a0) ∧ w'.cell? ⟨w.heap.size, 1, none⟩ = some (.slice A1 l1.length c1) ∧ w'.cell? ⟨w.heap.size, 2, none⟩ = some (.slice A2 l2.length c2) ∧
            w'.cell? ⟨wr.heap.size, 0, none⟩ = some (.int .i64 (rd_T57 l i).f0) ∧ w'.cell? ⟨wr.heap.size, 1, none⟩ = some (.int .i64 (rd_T57 l i).f1) ∧ w'.cell? ⟨wr.heap.size, 2, none⟩ = some (.slice B2 (rd_T57 l i).f2.length b2) ∧ w'.cell? ⟨wr.heap.size, 3, none⟩ = some (.slice B3 (rd_T57 l i).f3.length b3) ∧ w'.cell? ⟨wr.heap.size, 4, none⟩ = some (.slice B4 (rd_T57 l i).f4.length b4))
          (first
            | exact ⟨below_drew (Below.refl _ _), cG0, cG1, cP0, cP1, cP2, cS0, cS1, cS2, cS3, cS4⟩
            | (go_split_ands; exact ⟨below_then (by assumption) (Below.size (by assumption)) hb, pw_cell_below hb (by assumption), pw_cell_below hb (by assumption), pw_cell_below hb (by assumption), pw_cell_below hb (by assumption), pw_cell_below hb (by assumption), pw_cell_below hb (by assumption), pw_cell_below hb (by assumption), pw_cell_below hb (by assumption), pw_cell_below hb (by assumption), pw_cell_below hb (by assumption)⟩))
          (first | (go_at_call 83; (with_reducible refine (prog_args.calls k1 a0 _ _ l1 _ _ l2 _ _ _ _ (rd_T57 l i).f2 _ _ (rd_T57 l i).f3 _ _ (rd_T57 l i).f4 ar _ ?s1 HC1.out ?s2 HC2.out ?s3 QL2.out ?s4 QL3.out ?s5 QL4.out AR.out).mono ?_); (case s1 => exact Kd.C_below HR1.out (by repeat (first | exact B1.out | apply below_drew))); (case s2 => exact Kd.C_below HR2.out (by repeat (first | exact B1.out | apply below_drew))); (case s3 => exact Kd.C_below QR2.out (by repeat (first | exact B1.out | apply below_drew))); (case s4 => exact Kd.C_below QR3.out (by repeat (first | exact B1.out | apply below_drew))); (case s5 => exact Kd.C_below QR4.out (by repeat (first | exact B1.out | apply below_drew))); rintro e w' ⟨rfl, hb⟩))
        obtain ⟨hBw, hcG0, hcG1, hcP0, hcP1, hcP2, hcS0, hcS1, hcS2, hcS3, hcS4⟩ := ‹Below W1.heap.size W1 _ ∧ _›
        have E2 := fine_end GW.out BG.out hBw
        have BG := Aside0.mk E2.1
        have GW := Aside0.mk E2.2
        have BP := Aside0.mk ((hBw.block _ (blk_lt BP.out)).trans BP.out)
        have BS := Aside0.mk ((hBw.block _ (blk_lt BS.out)).trans BS.out)
        have hH := Aside0.mk H
        clear hBw hb E2 cG0 cG1 cP0 cP1 cP2 cS0 cS1 cS2 cS3 cS4 B1 AR d1 d3a d3b H
        have H := hH.out
        clear hH
        rcases nestOk_cases (rd_T57 l i).f0 (rd_T57 l i).f3.length (rd_T57 l i).f4.length with ⟨hno, hcs⟩ | ⟨hno, hcs⟩
        · rw [hno] at H
          injection (Option.some.inj (show some (false, s2, n2) = some (r, st', nd') from H)) with e1 e2
          injection e2 with e2 e3
          subst e1 e2 e3
          clear H hno
          rcases hcs with ⟨⟨g1, g2⟩, g3, g4⟩ | ⟨⟨g1, g2⟩, g3, g4, g5, g6⟩ | ⟨⟨g1, g2⟩, ⟨g3, g4⟩, g5⟩
          all_goals go_wp2
          all_goals (go_ret; exact ⟨rfl, BG.out, GW.out⟩)
        rw [hno] at H
        have HL := Aside0.mk (show prog_count_fine.l1 k1 a0 l1 l2 l deep i 0 s2 n2 = some (r, st', nd') from H)
        clear H hno
        go_upto_region 10 with (fail)
        go_cut [78] (fun v78 wc => v78 = .bool false ∧ Aside0 (wc.heap[G]? = some (.cells #[.int .i64 s2, .int .i64 n2] 110 (0, 0))) ∧ Aside0 (wc.heap[w.heap.size]? = some (.cells #[.int .i64 a0, .slice A1 l1.length c1, .slice A2 l2.length c2] 25 (0, 0))) ∧ Aside0 (wc.heap[wr.heap.size]? = some (.cells #[.int .i64 (rd_T57 l i).f0, .int .i64 (rd_T57 l i).f1, .slice B2 (rd_T57 l i).f2.length b2, .slice B3 (rd_T57 l i).f3.length b3, .slice B4 (rd_T57 l i).f4.length b4] 57 (0, 0))) ∧ Aside0 (w.grownBy wc (some G)))
        case first =>
          rcases hcs with ⟨⟨g1, g2⟩, g3, g4, g5⟩ | ⟨⟨g1, g2⟩, g3, g4, g5⟩ | ⟨⟨g1, g2⟩, g3, g4, g5, g6⟩ | ⟨⟨g1, g2⟩, g3, g4⟩ | ⟨⟨g1, g2⟩, ⟨g3, g4⟩, g5⟩
          all_goals
            go_wp2
            go_meet
            case rel => exact ⟨rfl, BG, BP, BS, GW⟩
        case rest =>
          clear hcs BG BP BS GW hcG0 hcG1 hcP0 hcP1 hcP2 hcS0 hcS1 hcS2 hcS3 hcS4
          obtain ⟨rfl, BG, BP, BS, GW⟩ := hcut
          clear hlt hGlt
          generalize wr.heap.size = T at BS ⊢
          obtain ⟨cS0, cS1, cS2, cS3, cS4⟩ := cells5 BS.out
          go_wp2
          clear cS0 cS1 cS2 cS3 cS4
          go_loopg [82] k1 (fun kq v82 wl => ∃ (j s3 n3 : Int), v82 = .int .i64 j ∧ Aside0 (prog_count_fine.l1 kq a0 l1 l2 l deep i j s3 n3 = some (r, st', nd')) ∧ Aside0 (kq ≤ k1) ∧ Aside0 (wl.heap[G]? = some (.cells #[.int .i64 s3, .int .i64 n3] 110 (0, 0))) ∧
            Aside0 (wl.heap[w.heap.size]? = some (.cells #[.int .i64 a0, .slice A1 l1.length c1, .slice A2 l2.length c2] 25 (0, 0))) ∧ Aside0 (wl.heap[T]? = some (.cells #[.int .i64 (rd_T57 l i).f0, .int .i64 (rd_T57 l i).f1, .slice B2 (rd_T57 l i).f2.length b2, .slice B3 (rd_T57 l i).f3.length b3, .slice B4 (rd_T57 l i).f4.length b4] 57 (0, 0))) ∧ Aside0 (w.grownBy wl (some G)))
          case atStart => exact ⟨0, s2, n2, rfl, HL, ⟨Nat.le_refl _⟩, BG, BP, BS, GW⟩
          case round =>
            clear HL BG BP BS GW
            obtain ⟨j, s3, n3, rfl, HA, HK2, BG, BP, BS, GW⟩ := hrel
            cases gk with
            | zero => exact absurd HA.out (by simp [prog_count_fine.l1])
            | succ k2 =>
              have H := HA.out
              clear HA
              simp only [prog_count_fine.l1] at H
              have H2 := ite_b H
              clear H
              have hTG := blk_ne BS.out BG.out (by decide)
              obtain ⟨cG0, cG1⟩ := cells2 (fr := (0, 0)) BG.out
              obtain ⟨cP0, cP1, cP2⟩ := cells3 BP.out
              obtain ⟨cS0, cS1, cS2, cS3, cS4⟩ := cells5 BS.out
              have hGlt := blk_lt BG.out
              have hTlt := blk_lt BS.out
              have hPlt := blk_lt BP.out
              have B0 := Aside0.mk (below_gr HB.out GW.out HG0.out)
              have hk1 := HK.out
              have hk2 := HK2.out
              rcases H2 with ⟨t3, H⟩ | ⟨t3, H⟩
              case inr =>
                replace H := Option.bind_eq_some_iff.mp H
                obtain ⟨⟨r3, s4, n4⟩, A30, H⟩ := H
                have A3 := Aside0.mk A30
                clear A30
                have H2 := ite_t (t := r3) H
                clear H
                rcases H2 with ⟨rfl, H⟩ | ⟨rfl, H⟩
                case inr =>
                  injection (Option.some.inj H) with e1 e2
                  injection e2 with e2 e3
                  subst e1 e2 e3
                  clear H
                  go_wp2_with (first | (go_at_call 72; (with_reducible refine (ih'.out k2 (by omega) a0 _ _ l1 _ _ l2 _ _ (rd_T57 l i).f3 (wrap64 (deep + 1)) s3 n3 G false s4 n4 w0 _ HR1.out HC1.out HR2.out HC2.out QR3.out QL3.out B0.out HG0.out BG.out A3.out).mono ?_); rintro e w3 ⟨rfl, hG3, hgr3⟩))
                  go_ret
                  exact ⟨rfl, hG3, gtrans GW.out hgr3⟩
                replace H := Option.bind_eq_some_iff.mp H
                obtain ⟨⟨r4, s5, n5⟩, A40, H⟩ := H
                have A4 := Aside0.mk A40
                clear A40
                have H2 := ite_t (t := r4) H
                clear H
                rcases H2 with ⟨rfl, H⟩ | ⟨rfl, H⟩
                case inr =>
                  injection (Option.some.inj H) with e1 e2
                  injection e2 with e2 e3
                  subst e1 e2 e3
                  clear H
                  go_wp2_with (first
                    | (go_at_call 72; (with_reducible refine (ih'.out k2 (by omega) a0 _ _ l1 _ _ l2 _ _ (rd_T57 l i).f3 (wrap64 (deep + 1)) s3 n3 G true s4 n4 w0 _ HR1.out HC1.out HR2.out HC2.out QR3.out QL3.out B0.out HG0.out BG.out A3.out).mono ?_); rintro e w3 ⟨rfl, hG3, hgr3⟩; have BG3 := Aside0.mk hG3; have BP3 := Aside0.mk (grown_blk BP.out hgr3 hne); have BS3 := Aside0.mk (grown_blk BS.out hgr3 hTG); have GW3 := Aside0.mk (gtrans GW.out hgr3); have B3' := Aside0.mk (below_gr HB.out GW3.out HG0.out); obtain ⟨dP0, dP1, dP2⟩ := cells3 BP3.out; obtain ⟨dS0, dS1, dS2, dS3, dS4⟩ := cells5 BS3.out; clear hG3 hgr3)
                    | (go_at_call 72; (with_reducible refine (ih'.out k2 (by omega) a0 _ _ l1 _ _ l2 _ _ (rd_T57 l i).f4 (wrap64 (deep + 1)) s4 n4 G false s5 n5 w0 _ HR1.out HC1.out HR2.out HC2.out QR4.out QL4.out B3'.out HG0.out BG3.out A4.out).mono ?_); rintro e w4 ⟨rfl, hG4, hgr4⟩))
                  go_ret
                  exact ⟨rfl, hG4, gtrans GW3.out hgr4⟩
                have H' := Aside0.mk H
                clear H
                go_wp2_with (first
                  | (go_at_call 72; (with_reducible refine (ih'.out k2 (by omega) a0 _ _ l1 _ _ l2 _ _ (rd_T57 l i).f3 (wrap64 (deep + 1)) s3 n3 G true s4 n4 w0 _ HR1.out HC1.out HR2.out HC2.out QR3.out QL3.out B0.out HG0.out BG.out A3.out).mono ?_); rintro e w3 ⟨rfl, hG3, hgr3⟩; have BG3 := Aside0.mk hG3; have BP3 := Aside0.mk (grown_blk BP.out hgr3 hne); have BS3 := Aside0.mk (grown_blk BS.out hgr3 hTG); have GW3 := Aside0.mk (gtrans GW.out hgr3); have B3' := Aside0.mk (below_gr HB.out GW3.out HG0.out); obtain ⟨dP0, dP1, dP2⟩ := cells3 BP3.out; obtain ⟨dS0, dS1, dS2, dS3, dS4⟩ := cells5 BS3.out; clear hG3 hgr3)
                  | (go_at_call 72; (with_reducible refine (ih'.out k2 (by omega) a0 _ _ l1 _ _ l2 _ _ (rd_T57 l i).f4 (wrap64 (deep + 1)) s4 n4 G true s5 n5 w0 _ HR1.out HC1.out HR2.out HC2.out QR4.out QL4.out B3'.out HG0.out BG3.out A4.out).mono ?_); rintro e w4 ⟨rfl, hG4, hgr4⟩))
                go_roundg k2
                case measure => omega
                case rel => exact ⟨_, s5, n5, rfl, H', ⟨by omega⟩, ⟨hG4⟩, ⟨grown_blk BP3.out hgr4 hne⟩, ⟨gtrans GW3.out hgr4⟩⟩
              have H2 := ite_b H
              clear H
              rcases H2 with ⟨t4, H⟩ | ⟨t4, H⟩
              case inr => exact absurd H (by simp)
              have p2 : 0 ≤ j := of_decide_eq_true t4
              have p3 : j < ((rd_T57 l i).f2.length : Int) := of_decide_eq_true t3
              obtain ⟨ae, D3, d3, e2, u0, u1, u2, u3, ul, ur⟩ := at_T52 QR2.out j p2 p3
              cases e2
              replace u0 := (B0.out.cell (World.block_lt_of_cell? w0 _ u0)).trans u0
              replace u1 := (B0.out.cell (World.block_lt_of_cell? w0 _ u1)).trans u1
              replace u2 := (B0.out.cell (World.block_lt_of_cell? w0 _ u2)).trans u2
              replace u3 := (B0.out.cell (World.block_lt_of_cell? w0 _ u3)).trans u3
              have UL := Aside0.mk ul
              have UR := Aside0.mk ur
              clear ul ur
              replace H := Option.bind_eq_some_iff.mp H
              obtain ⟨tc, AC0, H⟩ := H
              have AC := Aside0.mk AC0
              clear AC0
              have hf0 := blk_frozen BG.out 0
              have hf1 := blk_frozen BG.out 1
              by_cases htc : tc = 0
              case neg =>
                rw [if_neg htc] at H
                injection (Option.some.inj H) with e1 e2
                injection e2 with e2 e3
                subst e1 e2 e3
                clear H
                have g1 : (tc == 0) = false := beq_eq_false_iff_ne.mpr htc
                have g2 : (tc != 0) = true := bne_iff_ne.mpr htc
                clear htc
                go_wp2_with (first | (go_at_call 84; (with_reducible refine (expr_Check.calls k2 a0 _ _ l1 1 _ _ _ _ _ (rd_T52 (rd_T57 l i).f2 j).f3 tc _ ?s1 HC1.out ?s2 UL.out AC.out).mono ?_); (case s1 => exact Kd.C_below HR1.out (by repeat (first | exact B0.out | apply bal | apply below_drew))); (case s2 => exact Kd.C_below UR.out (by repeat (first | exact B0.out | apply bal | apply below_drew))); rintro e w5 ⟨rfl, hb5⟩))
                go_ret
                exact ⟨rfl, fine_end (gtrans GW.out (World.grownBy_alloc _ _ _)) (kal BG.out _) hb5⟩
              subst htc
              rw [if_pos rfl] at H
              replace H := Option.bind_eq_some_iff.mp H
              obtain ⟨m, AM0, H⟩ := H
              have AM := Aside0.mk AM0
              have H' := Aside0.mk H
              clear AM0 H
              go_wp2_with (first | (go_at_call 84; (with_reducible refine (expr_Check.calls k2 a0 _ _ l1 1 _ _ _ _ _ (rd_T52 (rd_T57 l i).f2 j).f3 0 _ ?s1 HC1.out ?s2 UL.out AC.out).mono ?_); (case s1 => exact Kd.C_below HR1.out (by repeat (first | exact B0.out | apply bal | apply below_drew))); (case s2 => exact Kd.C_below UR.out (by repeat (first | exact B0.out | apply bal | apply below_drew))); rintro e w5 ⟨rfl, hb5⟩))
              have F5 := fine_end (gtrans GW.out (World.grownBy_alloc _ _ _)) (kal BG.out _) hb5
              have BG5 := Aside0.mk F5.1
              have GW5 := Aside0.mk F5.2
              have BP5 := Aside0.mk ((hb5.block _ (by simp; omega)).trans (kal BP.out _))
              have BS5 := Aside0.mk ((hb5.block _ (by simp; omega)).trans (kal BS.out _))
              have BE5 := (hb5.block wr.heap.size (by simp)).trans (heap_alloc_new _ _)
              have B5 := Aside0.mk (below_gr HB.out GW5.out HG0.out)
              have e0 : w5.cell? ⟨wr.heap.size, 0, none⟩ = some (.int .i64 (rd_T52 (rd_T57 l i).f2 j).f0) := (blk_cell BE5 0).trans rfl
              have e1 : w5.cell? ⟨wr.heap.size, 1, none⟩ = some (.int .i64 (rd_T52 (rd_T57 l i).f2 j).f1) := (blk_cell BE5 1).trans rfl
              have e2 : w5.cell? ⟨wr.heap.size, 2, none⟩ = some (.int .i64 (rd_T52 (rd_T57 l i).f2 j).f2) := (blk_cell BE5 2).trans rfl
              have e3 : w5.cell? ⟨wr.heap.size, 3, none⟩ = some (.slice D3 (rd_T52 (rd_T57 l i).f2 j).f3.length d3) := (blk_cell BE5 3).trans rfl
              obtain ⟨gG0, gG1⟩ := cells2 (fr := (0, 0)) BG5.out
              have gf1 := blk_frozen BG5.out 1
              have hEG : wr.heap.size ≠ G := by omega
              have hGl5 := blk_lt BG5.out
              clear F5 hb5 BE5 u0 u1 u2 u3 cG0 cG1 cP0 cP1 cP2 cS0 cS1 cS2 cS3 cS4 hf0 hf1 AC
              go_region_with
                (first | (go_at_call 85; (with_reducible refine (expr_Nodes.calls k2 _ _ _ _ _ (rd_T52 (rd_T57 l i).f2 j).f3 m _ ?s1 UL.out AM.out).mono ?_); (case s1 => exact Kd.C_below UR.out (by repeat (first | exact B5.out | apply below_drew))); rintro e w' ⟨rfl, hb⟩; have gG1' := pw_cell_below hb (show w5.drew.cell? _ = _ from gG1); have gf1' : w'.frozen? ⟨G, 1, none⟩ = false := (hb.frozen (p := ⟨G, 1, none⟩) hGl5).trans gf1; have hb' := Aside0.mk (undrew hb)))
              all_goals
                go_wp2
                go_roundg k2
                case measure => omega
                case rel =>
                  have E6 := fine_end GW5.out BG5.out hb'.out
                  have BP6 := (hb'.out.block _ (blk_lt BP5.out)).trans BP5.out
                  have BS6 := (hb'.out.block _ (blk_lt BS5.out)).trans BS5.out
                  have q1 := blk_set E6.1 1 (.int .i64 (wrap64 (n3 + m)))
                  refine ⟨_, s3, _, rfl, H', ⟨by omega⟩, ⟨?_⟩, ⟨(Below.heap_setCell _ _ _ _ hne).trans BP6⟩, ⟨(Below.heap_setCell _ _ _ _ hTG).trans BS6⟩, ⟨gtrans E6.2 ⟨rfl, rfl, rfl, by simp [World.setCell], fun i hi hn => Below.heap_setCell _ _ _ _ (fun e => hn (by rw [e]))⟩⟩⟩
                  first | simpa using q1 | simpa [i64_w] using q1
def prog_counted.f (k : Nat) (a0 : Int) (l1 : List S42) (l2 : List S57) : Option (Int × Int × Bool) :=
  (expr_Heading.f k a0 l1).bind fun t => if t = 0 then ((prog_count_fine.f k a0 l1 l2 l2 1 0 0).bind fun p => if p.1 = true then some (p.2.1, p.2.2, true) else some (0, 0, false)) else some (0, 0, false)
theorem two_blocks {w w1 : World} {o1 o2 : Obj} (hb : Below ((w.alloc o1).alloc o2).heap.size ((w.alloc o1).alloc o2) w1) :
    w1.heap[w.heap.size]? = some o1 ∧ w1.heap[w.heap.size + 1]? = some o2 ∧ Below w.heap.size w w1 := by
  have b1 : ((w.alloc o1).alloc o2).heap[w.heap.size]? = some o1 := kal (heap_alloc_new w _) _
  have b2 : ((w.alloc o1).alloc o2).heap[w.heap.size + 1]? = some o2 := by have := heap_alloc_new (w.alloc o1) o2; simpa using this
  exact ⟨(hb.block _ (blk_lt b1)).trans b1, (hb.block _ (blk_lt b2)).trans b2, below_then (bal (bal (Below.refl _ _) _) _) (by simp; omega) hb⟩
theorem prog_counted.calls (k : Nat) (a0 : Int) (A1 : Option Addr) (c1 : Nat) (l1 : List S42) (A2 : Option Addr) (c2 : Nat) (l2 : List S57) (r1 r2 : Int) (r3 : Bool) (w : World)
    (hr1 : Kd.C k42 w A1 l1.length l1) (hc1 : l1.length ≤ c1) (hr2 : Kd.C k57 w A2 l2.length l2) (hc2 : l2.length ≤ c2) (h : prog_counted.f k a0 l1 l2 = some (r1, r2, r3)) :
    Calls Try.prog 61 #[.agg #[.int .i64 a0, .slice A1 l1.length c1, .slice A2 l2.length c2]] w fun e w' => e = .returned (.tuple #[.agg #[.int .i64 r1, .int .i64 r2], .bool r3]) ∧ Below w.heap.size w w' := by
  have huP := Try.underlying25
  have huC := Try.underlying110
  have HR1 := Aside0.mk hr1
  have HC1 := Aside0.mk hc1
  have HR2 := Aside0.mk hr2
  have HC2 := Aside0.mk hc2
  clear hr1 hc1 hr2 hc2
  unfold prog_counted.f at h
  obtain ⟨t, T0, H⟩ := Option.bind_eq_some_iff.mp h
  have T := Aside0.mk T0
  have HB := Aside0.mk (Below.refl w.heap.size w)
  clear T0 h
  by_cases ht : t = 0
  case neg =>
    rw [if_neg ht] at H
    injection (Option.some.inj H) with e1 e2
    injection e2 with e2 e3
    subst e1 e2 e3
    have g1 : (t == 0) = false := beq_eq_false_iff_ne.mpr ht
    have g2 : (t != 0) = true := bne_iff_ne.mpr ht
    clear ht H
    go_enter Try.func61, Try.ntmps61
    go_wp2_with (first
      | (go_at_call 71; (with_reducible refine (expr_Heading.calls k a0 _ _ l1 _ _ ?side1 HC1.out T.out).mono ?_); (case side1 => exact Kd.C_below HR1.out (by repeat (first | exact HB.out | apply bal | apply bd1))); rintro e w1 ⟨rfl, hb⟩; obtain ⟨k1, k2, hb1⟩ := two_blocks hb; have B1 := Aside0.mk hb1; have BC := Aside0.mk k2; obtain ⟨x0, x1⟩ := cells2 (fr := (0, 0)) k2; have y0 := blk_frozen k2 0; have y1 := blk_frozen k2 1; have z1 := blk_lt k2; clear hb hb1 k1 k2))
    refine bodyPost_ret (v := .tuple #[.agg #[.int .i64 0, .int .i64 0], .bool false]) (by simp [results, Try.results61, go_sem, x0, x1]) rfl ⟨rfl, ?_⟩
    repeat (first | exact B1.out | refine bst ?_ (by omega))
  subst ht
  rw [if_pos rfl] at H
  obtain ⟨⟨q, s', n'⟩, F0, H⟩ := Option.bind_eq_some_iff.mp H
  have F := Aside0.mk F0
  clear F0
  have H2 := ite_t (t := q) H
  clear H
  rcases H2 with ⟨rfl, H⟩ | ⟨rfl, H⟩
  · injection (Option.some.inj H) with e1 e2
    injection e2 with e2 e3
    dsimp only at e1 e2
    subst e1 e2 e3
    clear H
    go_enter Try.func61, Try.ntmps61
    go_wp2_with (first | (go_at_call 71; (with_reducible refine (expr_Heading.calls k a0 _ _ l1 _ _ ?side1 HC1.out T.out).mono ?_); (case side1 => exact Kd.C_below HR1.out (by repeat (first | exact HB.out | apply bal | apply bd1))); rintro e w1 ⟨rfl, hb⟩; obtain ⟨k1, k2, hb1⟩ := two_blocks hb; have B1 := Aside0.mk hb1; have BC := Aside0.mk k2; have BP := Aside0.mk k1; obtain ⟨x0, x1⟩ := cells2 (fr := (0, 0)) k2; obtain ⟨u0, u1, u2⟩ := cells3 k1; have y0 := blk_frozen k2 0; have y1 := blk_frozen k2 1; have z1 := blk_lt k2; clear hb hb1 k1 k2) | (go_at_call 72; (with_reducible refine (prog_count_fine.calls k a0 _ _ l1 _ _ l2 _ _ l2 1 0 0 (w.heap.size + 1) true s' n' w _ HR1.out HC1.out HR2.out HC2.out HR2.out HC2.out B1.out (by omega) BC.out F.out).mono ?_); rintro e w2 ⟨rfl, hG2, hgr2⟩; have B2 := Aside0.mk (below_gr B1.out hgr2 (by omega)); have BC2 := Aside0.mk hG2; obtain ⟨v0, v1⟩ := cells2 (fr := (0, 0)) hG2; have f0 := blk_frozen hG2 0; have f1 := blk_frozen hG2 1; have z2 := blk_lt hG2; clear hG2 hgr2))
    refine bodyPost_ret (v := .tuple #[.agg #[.int .i64 s', .int .i64 n'], .bool true]) (by simp [results, Try.results61, go_sem, v0, v1]) rfl ⟨rfl, ?_⟩
    repeat (first | exact B2.out | refine bst ?_ (by omega))
  · injection (Option.some.inj H) with e1 e2
    injection e2 with e2 e3
    subst e1 e2 e3
    clear H
    go_enter Try.func61, Try.ntmps61
    go_wp2_with (first | (go_at_call 71; (with_reducible refine (expr_Heading.calls k a0 _ _ l1 _ _ ?side1 HC1.out T.out).mono ?_); (case side1 => exact Kd.C_below HR1.out (by repeat (first | exact HB.out | apply bal | apply bd1))); rintro e w1 ⟨rfl, hb⟩; obtain ⟨k1, k2, hb1⟩ := two_blocks hb; have B1 := Aside0.mk hb1; have BC := Aside0.mk k2; have BP := Aside0.mk k1; obtain ⟨x0, x1⟩ := cells2 (fr := (0, 0)) k2; obtain ⟨u0, u1, u2⟩ := cells3 k1; have y0 := blk_frozen k2 0; have y1 := blk_frozen k2 1; have z1 := blk_lt k2; clear hb hb1 k1 k2) | (go_at_call 72; (with_reducible refine (prog_count_fine.calls k a0 _ _ l1 _ _ l2 _ _ l2 1 0 0 (w.heap.size + 1) false s' n' w _ HR1.out HC1.out HR2.out HC2.out HR2.out HC2.out B1.out (by omega) BC.out F.out).mono ?_); rintro e w2 ⟨rfl, hG2, hgr2⟩; have B2 := Aside0.mk (below_gr B1.out hgr2 (by omega)); have BC2 := Aside0.mk hG2; obtain ⟨v0, v1⟩ := cells2 (fr := (0, 0)) hG2; have f0 := blk_frozen hG2 0; have f1 := blk_frozen hG2 1; have z2 := blk_lt hG2; clear hG2 hgr2))
    refine bodyPost_ret (v := .tuple #[.agg #[.int .i64 0, .int .i64 0], .bool false]) (by simp [results, Try.results61, go_sem, v0, v1]) rfl ⟨rfl, ?_⟩
    repeat (first | exact B2.out | refine bst ?_ (by omega))
def prog_Check.f (k : Nat) (a0_0 : Int) (l0_1 : List (S42)) (l0_2 : List (S57)) : Option (Int) := (prog_counted.f k a0_0 l0_1 l0_2).bind fun bt194 => (if bt194.2.2 = true then (some 0) else (some 30))
theorem prog_Check.calls (k : Nat) (a0_0 : Int) (A0_1 : Option Addr) (c0_1 : Nat) (l0_1 : List (S42)) (A0_2 : Option Addr) (c0_2 : Nat) (l0_2 : List (S57)) (r : Int) (w : World) (hr0_1 : Kd.C k42 w A0_1 l0_1.length l0_1) (hc0_1 : l0_1.length ≤ c0_1) (hr0_2 : Kd.C k57 w A0_2 l0_2.length l0_2) (hc0_2 : l0_2.length ≤ c0_2) (h : prog_Check.f k a0_0 l0_1 l0_2 = some r) :
  Calls Try.prog 37 #[.agg #[.int .i64 a0_0, .slice A0_1 l0_1.length c0_1, .slice A0_2 l0_2.length c0_2]] w fun e w' => e = .returned (.int .i64 r) ∧ Below w.heap.size w w' := by
 have hu25 := Try.underlying25
 have hu110 := Try.underlying110
 have HR0_1 := Aside0.mk hr0_1
 have HC0_1 := Aside0.mk hc0_1
 clear hr0_1 hc0_1
 have HR0_2 := Aside0.mk hr0_2
 have HC0_2 := Aside0.mk hc0_2
 clear hr0_2 hc0_2
 have HB := Aside0.mk (Below.refl w.heap.size w)
 have H : ((prog_counted.f k a0_0 l0_1 l0_2).bind fun bt194 => (if bt194.2.2 = true then (some 0) else (some 30))) = some r := h
 clear h
 replace H := Option.bind_eq_some_iff.mp H
 obtain ⟨⟨t194, t195, t196⟩, A20, H⟩ := H
 replace H : (if t196 = true then (some 0) else (some 30)) = some r := H
 have A2 := Aside0.mk A20
 clear A20
 by_cases c3 : t196 = true
 ·subst c3
  replace H := it H
  obtain rfl := Option.some.inj H
  go_enter Try.func37, Try.ntmps37
  go_wp2_with (first | ((with_reducible refine gate_dst (N := 1) rfl ?_); refine bx 1 rfl rfl #[.int .i64 a0_0, .slice A0_1 l0_1.length c0_1, .slice A0_2 l0_2.length c0_2] 25 ?_; intro gb193 hg w4 hbox hb; have BK193 := Aside0.mk (hbox); have GE193 := ge HB hg; replace HB := sb HB hb; clear hb hbox hg; obtain ⟨hcz5_0, hcz5_1, hcz5_2, hfz5_0, hfz5_1, hfz5_2⟩ := cf3 BK193.out) | ((with_reducible refine gate_callee (f := 61) rfl ?_); refine gL (some 7) rfl rfl Try.func61 #[.agg #[.int .i64 a0_0, .slice A0_1 l0_1.length c0_1, .slice A0_2 l0_2.length c0_2]] rfl ?_; (with_reducible refine (prog_counted.calls k a0_0 _ _ l0_1 _ _ l0_2 t194 t195 true _ ?side1 ?side2 ?side3 ?side4 A2.out).mono ?_); (case side1 => exact cb HR0_1 HB); (case side2 => exact HC0_1.out); (case side3 => exact cb HR0_2 HB); (case side4 => exact HC0_2.out); rintro e w6 ⟨rfl, hb⟩; refine ⟨_, rfl, ?_⟩; replace BK193 := kb BK193 hb; replace HB := sb HB hb; (try clear hb)) | ((with_reducible refine gate_dst (N := 3) rfl ?_); refine bx 3 rfl rfl #[.int .i64 0, .int .i64 0] 110 ?_; intro gb197 hg w7 hbox hb; have BK197 := Aside0.mk (hbox); have GE197 := ge HB hg; have NB193_197 := Aside0.mk ((by rw [hg]; exact Nat.ne_of_lt (blk_lt (kk BK193)) : gb193 ≠ gb197)); have NB197_193 := Aside0.mk ((by rw [hg]; exact Nat.ne_of_gt (blk_lt (kk BK193)) : gb197 ≠ gb193)); replace BK193 := kb BK193 hb; replace HB := sb HB hb; clear hb hbox hg; have hnb8 := NB197_193.out; have hnc8 := NB193_197.out; obtain ⟨hcz9_0, hcz9_1, hfz9_0, hfz9_1⟩ := cf2 BK197.out))
  go_ret
  exact ⟨rr, bb HB⟩
 replace c3 := Bool.eq_false_iff.mpr c3
 subst c3
 replace H := fi H
 obtain rfl := Option.some.inj H
 go_enter Try.func37, Try.ntmps37
 go_wp2_with (first | ((with_reducible refine gate_dst (N := 1) rfl ?_); refine bx 1 rfl rfl #[.int .i64 a0_0, .slice A0_1 l0_1.length c0_1, .slice A0_2 l0_2.length c0_2] 25 ?_; intro gb193 hg w10 hbox hb; have BK193 := Aside0.mk (hbox); have GE193 := ge HB hg; replace HB := sb HB hb; clear hb hbox hg; obtain ⟨hcz11_0, hcz11_1, hcz11_2, hfz11_0, hfz11_1, hfz11_2⟩ := cf3 BK193.out) | ((with_reducible refine gate_callee (f := 61) rfl ?_); refine gL (some 7) rfl rfl Try.func61 #[.agg #[.int .i64 a0_0, .slice A0_1 l0_1.length c0_1, .slice A0_2 l0_2.length c0_2]] rfl ?_; (with_reducible refine (prog_counted.calls k a0_0 _ _ l0_1 _ _ l0_2 t194 t195 false _ ?side1 ?side2 ?side3 ?side4 A2.out).mono ?_); (case side1 => exact cb HR0_1 HB); (case side2 => exact HC0_1.out); (case side3 => exact cb HR0_2 HB); (case side4 => exact HC0_2.out); rintro e w12 ⟨rfl, hb⟩; refine ⟨_, rfl, ?_⟩; replace BK193 := kb BK193 hb; replace HB := sb HB hb; (try clear hb)) | ((with_reducible refine gate_dst (N := 3) rfl ?_); refine bx 3 rfl rfl #[.int .i64 0, .int .i64 0] 110 ?_; intro gb197 hg w13 hbox hb; have BK197 := Aside0.mk (hbox); have GE197 := ge HB hg; have NB193_197 := Aside0.mk ((by rw [hg]; exact Nat.ne_of_lt (blk_lt (kk BK193)) : gb193 ≠ gb197)); have NB197_193 := Aside0.mk ((by rw [hg]; exact Nat.ne_of_gt (blk_lt (kk BK193)) : gb197 ≠ gb193)); replace BK193 := kb BK193 hb; replace HB := sb HB hb; clear hb hbox hg; have hnb14 := NB197_193.out; have hnc14 := NB193_197.out; obtain ⟨hcz15_0, hcz15_1, hfz15_0, hfz15_1⟩ := cf2 BK197.out))
 go_ret
 exact ⟨rr, bb HB⟩
mutual
def r3_Depth.l0 : Nat → List (S57) → Int → Int → Option (Int)
 | 0, _, _, _ => none
 | k + 1, x0, x3, x4 => if x4 < (x0.length : Int) then (if 0 ≤ x4 then ((r3_Depth.f k ((rd_T57 x0 x4).f3)).bind fun t124 => ((r3_Depth.f k ((rd_T57 x0 x4).f4)).bind fun t126 => (r3_Depth.l0 k x0 (mx (mx x3 (wrap64 (1 + t124))) (wrap64 (1 + t126))) (wrap64 (x4 + 1))))) else (none)) else (some x3)
def r3_Depth.f : Nat → List (S57) → Option (Int)
 | 0, _ => none
 | k + 1, l0 => r3_Depth.l0 k l0 0 0
end
def r3_Depth.T5 : Bool × List (List Nat × List Nat) := (true, [([], []), ([], []), ([], []), ([1, 2], [1, 2]), ([3], [3]), ([4], [4]), ([5], [5]), ([6], [6]), ([], []), ([], []), ([8, 9], [8, 9]), ([10], [10]), ([11], [11]), ([12, 6], [12]), ([13], [13]), ([0, 7, 14], [0, 7, 14]), ([15, 13, 0, 1, 2, 3, 4, 5, 6, 7, 8, 9, 10, 11, 12, 13, 14, 15], [0, 15])])
def r3_Depth.B5 : List Nat := [0, 0, 0, 6, 14, 30, 62, 126, 0, 0, 768, 1792, 3840, 8062, 16254, 32767, 65535]
theorem r3_Depth.tab5 : rtab .any (opsOf Try.f15 5) = r3_Depth.T5 := by kernel_rfl
theorem r3_Depth.bits5 : waitsOk r3_Depth.T5.2 r3_Depth.B5 = true := by kernel_rfl
theorem r3_Depth.calls (k : Nat) : ∀ (A0 : Option Addr) (c0 : Nat) (l0 : List (S57)) (r : Int) (w : World) (hr0 : Kd.C k57 w A0 l0.length l0) (hc0 : l0.length ≤ c0) (h : r3_Depth.f k l0 = some r),
  Calls Try.prog 15 #[.slice A0 l0.length c0] w fun e w' => e = .returned (.int .i64 r) ∧ Below w.heap.size w w' := by
 induction k using Nat.strongRecOn with
 | _ k ih =>
 intro A0 c0 l0 r w hr0 hc0 h
 cases k with
 | zero => exact absurd h (by simp [r3_Depth.f])
 | succ k =>
 simp only [r3_Depth.f] at h
 have HR0 := Aside0.mk hr0
 have HC0 := Aside0.mk hc0
 clear hr0 hc0
 have HB := Aside0.mk (Below.refl w.heap.size w)
 have H : (r3_Depth.l0 k l0 0 0) = some r := h
 clear h
 have H' := Aside0.mk H
 clear H
 go_enter Try.func15, Try.ntmps15
 go_wp2
 go_loopg [3, 4] k (fun kq v3 v4 w' => ∃ (x3_1 : Int) (x4_1 : Int), v3 = .int .i64 x3_1 ∧ v4 = .int .i64 x4_1 ∧ Aside0 (r3_Depth.l0 kq l0 x3_1 x4_1 = some r) ∧ Aside0 (kq ≤ k) ∧ Aside0 (Below w.heap.size w w'))
 case atStart => exact ⟨(0), (0), rs, rs, H', ⟨Nat.le_refl _⟩, ⟨bb HB⟩⟩
 case round =>
  clear H'
  try clear c1
  obtain ⟨x3_1, x4_1, rfl, rfl, HA, HK1, HB⟩ := hrel
  cases gk with
  | zero => exact absurd HA.out (by simp [r3_Depth.l0])
  | succ k1 =>
   have H := HA.out
   clear HA
   simp only [r3_Depth.l0] at H
   by_cases c2 : x4_1 < (l0.length : Int)
   rotate_left
   ·rw [if_neg c2] at H
    have c2b0 : decide (x4_1 < (l0.length : Int)) = false := decide_eq_false c2
    clear c2
    obtain rfl := Option.some.inj H
    go_wp2
    go_ret
    exact ⟨rr, bb HB⟩
   rw [if_pos c2] at H
   have c2b0 : decide (x4_1 < (l0.length : Int)) = true := decide_eq_true c2
   clear c2
   by_cases c3 : 0 ≤ x4_1
   rotate_left
   ·rw [if_neg c3] at H
    exact absurd H (by simp)
   rw [if_pos c3] at H
   have c3b0 : decide (0 ≤ x4_1) = true := decide_eq_true c3
   clear c3
   obtain ⟨t124, A4, H⟩ := be H
   obtain ⟨t126, A5, H⟩ := be H
   obtain ⟨ji6, hji6⟩ : ∃ j_ : Int, (mx x3_1 (wrap64 (1 + t124))) = j_ := ⟨_, rfl⟩
   replace H : (r3_Depth.l0 k1 l0 (mx (ji6) (wrap64 (1 + t126))) (wrap64 (x4_1 + 1))) = some r := by first | (rw [hji6] at H; exact H) | (simp only [hji6] at H ⊢; exact H)
   (try rw [hji6] at A4)
   (try rw [hji6] at A5)
   have hji6_ : (if x3_1 < (wrap64 (1 + t124)) then (wrap64 (1 + t124)) else x3_1) = ji6 := hji6
   obtain ⟨ji7, hji7⟩ : ∃ j_ : Int, (mx (ji6) (wrap64 (1 + t126))) = j_ := ⟨_, rfl⟩
   replace H : (r3_Depth.l0 k1 l0 ji7 (wrap64 (x4_1 + 1))) = some r := by first | (rw [hji7] at H; exact H) | (simp only [hji7] at H ⊢; exact H)
   (try rw [hji7] at A4)
   (try rw [hji7] at A5)
   have hji7_ : (if (ji6) < (wrap64 (1 + t126)) then (wrap64 (1 + t126)) else (ji6)) = ji7 := hji7
   have H' := Aside0.mk H
   clear H
   try go_wp2
   replace HB := Aside0.mk (bd1 HB.out)
   have p123 : 0 ≤ (x4_1 : Int) := od
   have q123 : x4_1 < (l0.length : Int) := od
   obtain ⟨ad123, A123_2, c123_2, A123_3, c123_3, A123_4, c123_4, e123, hx123_0, hx123_1, hx123_2, hx123_3, hx123_4, hl123_2, hi123_2, hl123_3, hi123_3, hl123_4, hi123_4⟩ := at_T57 HR0.out x4_1 p123 q123
   have hw123_4 := hx123_4
   have hw123_3 := hx123_3
   have hw123_2 := hx123_2
   have hw123_1 := hx123_1
   have hw123_0 := hx123_0
   cases e123
   replace hx123_0 := bcell HB.out hx123_0
   replace hx123_1 := bcell HB.out hx123_1
   replace hx123_2 := bcell HB.out hx123_2
   replace hx123_3 := bcell HB.out hx123_3
   replace hx123_4 := bcell HB.out hx123_4
   have HR123_2 := Aside0.mk hi123_2
   have HC123_2 := Aside0.mk hl123_2
   clear hi123_2 hl123_2
   have HR123_3 := Aside0.mk hi123_3
   have HC123_3 := Aside0.mk hl123_3
   clear hi123_3 hl123_3
   have HR123_4 := Aside0.mk hi123_4
   have HC123_4 := Aside0.mk hl123_4
   clear hi123_4 hl123_4
   replace p123 := eq_true p123
   replace q123 := eq_true q123
   refine start_ (n := 17) (S := fun w' => w'.cell? (ad123.add ((x4_1).toNat * 5)) = some (.int .i64 ((rd_T57 l0 x4_1).f0)) ∧ w'.cell? ⟨(ad123.add ((x4_1).toNat * 5)).block, (ad123.add ((x4_1).toNat * 5)).off + 1, none⟩ = some (.int .i64 ((rd_T57 l0 x4_1).f1)) ∧ w'.cell? ⟨(ad123.add ((x4_1).toNat * 5)).block, (ad123.add ((x4_1).toNat * 5)).off + 2, none⟩ = some (.slice A123_2 ((rd_T57 l0 x4_1).f2).length c123_2) ∧ w'.cell? ⟨(ad123.add ((x4_1).toNat * 5)).block, (ad123.add ((x4_1).toNat * 5)).off + 3, none⟩ = some (.slice A123_3 ((rd_T57 l0 x4_1).f3).length c123_3) ∧ w'.cell? ⟨(ad123.add ((x4_1).toNat * 5)).block, (ad123.add ((x4_1).toNat * 5)).off + 4, none⟩ = some (.slice A123_4 ((rd_T57 l0 x4_1).f4).length c123_4)) (ds := []) #[false, false, false, false, false, false, false, false, false, false, false, false, false, false, false, false, false] (by kernel_rfl) rfl rfl ⟨(bcell HB.out hw123_0), (bcell HB.out hw123_1), (bcell HB.out hw123_2), (bcell HB.out hw123_3), (bcell HB.out hw123_4)⟩ (fun hHeld => ?_); refine with_tabW r3_Depth.tab5 r3_Depth.bits5 (fun HT_ HW_ => ?_)
   generalize wr.drew = w8 at HB HR123_2 HR123_3 HR123_4 hx123_0 hx123_1 hx123_2 hx123_3 hx123_4 hHeld ⊢
   refine pT 0 11 (bl 17 1) HT_ rfl rfl ?_
   refine pT 1 12 (bl 17 3) HT_ rfl rfl ?_
   refine pT 2 13 (bl 17 7) HT_ rfl rfl ?_
   refine pT 3 14 (bl 17 15) HT_ rfl rfl ?_
   refine pT 4 15 (bl 17 31) HT_ rfl rfl ?_
   refine pT 8 19 (bl 17 287) HT_ rfl rfl ?_
   refine pT 9 20 (bl 17 799) HT_ rfl rfl ?_
   refine pT 10 21 (bl 17 1823) HT_ rfl rfl ?_
   refine pT 11 22 (bl 17 3871) HT_ rfl rfl ?_
   refine tk (i := 5) (N := some 16) (bl 17 3903) rfl rfl (take_ofW HT_.out HW_.out (by kernel_rfl)) hHeld ?_
   refine tk (i := 12) (N := some 23) (bl 17 7999) rfl rfl (take_ofW HT_.out HW_.out (by kernel_rfl)) hHeld ?_
   refine one_ (i := 6) (N := some 17) (bl 17 8063) rfl rfl (one_of HT_.out (by kernel_rfl)) (by decide) (fun K hK => ?_)
   refine gO Try.func15 #[.slice A123_3 ((rd_T57 l0 x4_1).f3).length c123_3] (by rfl) rfl rfl ?_
   with_reducible refine (ih k1 (by have := HK1.out; omega) _ _ ((rd_T57 l0 x4_1).f3) t124 _ ?side1 ?side2 A4.out).mono ?_
   (case side1 => exact cb HR123_3 HB)
   (case side2 => exact HC123_3.out)
   rintro e w9 ⟨rfl, hb⟩
   refine ⟨_, rfl, ?_⟩
   replace HB := sb HB hb
   (try clear hb)
   (try clear hb2)
   (try clear hk)
   (try clear hi)
   refine hK.out _ _ ⟨(bcell HB.out hw123_0), (bcell HB.out hw123_1), (bcell HB.out hw123_2), (bcell HB.out hw123_3), (bcell HB.out hw123_4)⟩ (fun hHeld => ?_)
   clear hK K
   refine nm 17 ?_
   refine pT 7 18 (bl 17 8191) HT_ rfl rfl ?_
   refine one_ (i := 13) (N := some 24) (bl 17 16383) rfl rfl (one_of HT_.out (by kernel_rfl)) (by decide) (fun K hK => ?_)
   refine gO Try.func15 #[.slice A123_4 ((rd_T57 l0 x4_1).f4).length c123_4] (by rfl) rfl rfl ?_
   with_reducible refine (ih k1 (by have := HK1.out; omega) _ _ ((rd_T57 l0 x4_1).f4) t126 _ ?side1 ?side2 A5.out).mono ?_
   (case side1 => exact cb HR123_4 HB)
   (case side2 => exact HC123_4.out)
   rintro e w10 ⟨rfl, hb⟩
   refine ⟨_, rfl, ?_⟩
   replace HB := sb HB hb
   (try clear hb)
   (try clear hb2)
   (try clear hk)
   (try clear hi)
   refine hK.out _ _ ⟨(bcell HB.out hw123_0), (bcell HB.out hw123_1), (bcell HB.out hw123_2), (bcell HB.out hw123_3), (bcell HB.out hw123_4)⟩ (fun hHeld => ?_)
   clear hK K
   refine nm 24 ?_
   refine pT 14 25 (bl 17 32767) HT_ rfl rfl ?_
   refine pT 15 26 (bl 17 65535) HT_ rfl rfl ?_
   refine pT 16 3 (bl 17 131071) HT_ rfl rfl ?_
   refine done_ (done_of HT_.out (by kernel_rfl)) ?_
   try go_wp2
   go_roundg k1
   case measure => have := HK1.out; omega
   case rel => exact ⟨(ji7), (wrap64 (x4_1 + 1)), (by first | rfl | (simp; done) | (simp only [← hji7] <;> (first | rfl | simp)) | (simp [*]; done)), rs, H', ⟨by have := HK1.out; omega⟩, ⟨bb HB⟩⟩
mutual
def r3_left.l0 : Nat → List (S57) → Int → Int → Option (Int)
 | 0, _, _, _ => none
 | k + 1, x0, x1, x5 => if x5 < (x0.length : Int) then (r3_left.j1 k x0 x1 x5 (decide (x1 > 0))) else (r3_left.j1 k x0 x1 x5 false)
def r3_left.j1 : Nat → List (S57) → Int → Int → Bool → Option (Int)
 | 0, _, _, _, _ => none
 | k + 1, x0, x1, x5, x14 => if x14 = true then (r3_left.l1 k x0 (wrap64 (x1 - 1)) x5 0) else (some x1)
def r3_left.l1 : Nat → List (S57) → Int → Int → Int → Option (Int)
 | 0, _, _, _, _ => none
 | k + 1, x0, x1, x5, x6 => if 0 ≤ x5 then (if x5 < (x0.length : Int) then (if x6 < (((rd_T57 x0 x5).f2).length : Int) then (if 0 ≤ x6 then ((r2_Left.f k ((rd_T52 ((rd_T57 x0 x5).f2) x6).f0) ((rd_T52 ((rd_T57 x0 x5).f2) x6).f1) ((rd_T52 ((rd_T57 x0 x5).f2) x6).f2) ((rd_T52 ((rd_T57 x0 x5).f2) x6).f3) x1).bind fun t117 => (r3_left.l1 k x0 t117 x5 (wrap64 (x6 + 1)))) else (none)) else ((r3_left.f k ((rd_T57 x0 x5).f3) x1).bind fun t119 => ((r3_left.f k ((rd_T57 x0 x5).f4) t119).bind fun t121 => (r3_left.l0 k x0 t121 (wrap64 (x5 + 1)))))) else (none)) else (none)
def r3_left.f : Nat → List (S57) → Int → Option (Int)
 | 0, _, _ => none
 | k + 1, l0, a1 => r3_left.l0 k l0 a1 0
end
theorem r3_left.calls (k : Nat) : ∀ (A0 : Option Addr) (c0 : Nat) (l0 : List (S57)) (a1 : Int) (r : Int) (w : World) (hr0 : Kd.C k57 w A0 l0.length l0) (hc0 : l0.length ≤ c0) (h : r3_left.f k l0 a1 = some r),
  Calls Try.prog 29 #[.slice A0 l0.length c0, .int .i64 a1] w fun e w' => e = .returned (.int .i64 r) ∧ Below w.heap.size w w' := by
 induction k using Nat.strongRecOn with
 | _ k ih =>
 intro A0 c0 l0 a1 r w hr0 hc0 h
 cases k with
 | zero => exact absurd h (by simp [r3_left.f])
 | succ k =>
 simp only [r3_left.f] at h
 have hu52 := Try.underlying52
 have HR0 := Aside0.mk hr0
 have HC0 := Aside0.mk hc0
 clear hr0 hc0
 have HB := Aside0.mk (Below.refl w.heap.size w)
 have H : (r3_left.l0 k l0 a1 0) = some r := h
 clear h
 have H' := Aside0.mk H
 clear H
 go_enter Try.func29, Try.ntmps29
 go_wp2
 go_loopg [1, 5] k (fun kq v1 v5 w' => ∃ (x1_1 : Int) (x5_1 : Int), v1 = .int .i64 x1_1 ∧ v5 = .int .i64 x5_1 ∧ Aside0 (r3_left.l0 kq l0 x1_1 x5_1 = some r) ∧ Aside0 (kq ≤ k) ∧ Aside0 (Below w.heap.size w w'))
 case atStart => exact ⟨(a1), (0), rs, rs, H', ⟨Nat.le_refl _⟩, ⟨bb HB⟩⟩
 case round =>
  clear H'
  try clear c2
  try clear p2
  obtain ⟨x1_1, x5_1, rfl, rfl, HA, HK1, HB⟩ := hrel
  cases gk with
  | zero => exact absurd HA.out (by simp [r3_left.l0])
  | succ k1 =>
   have H := HA.out
   clear HA
   simp only [r3_left.l0] at H
   have HC3 := Aside0.mk H
   clear H
   go_upto_region 2 with (fail)
   go_cut [14] (fun v14 wc => ∃ (kq : Nat) (x14_2 : Bool), v14 = .bool x14_2 ∧ Aside0 (r3_left.j1 kq l0 x1_1 x5_1 x14_2 = some r) ∧ Aside0 (kq ≤ k1) ∧ Aside0 (Below w.heap.size w wc))
   case first =>
    have H := HC3.out
    clear HC3
    by_cases c4 : x5_1 < (l0.length : Int)
    rotate_left
    ·rw [if_neg c4] at H
     have c4b0 : decide (x5_1 < (l0.length : Int)) = false := decide_eq_false c4
     clear c4
     (first | rw [c4b0] | (simp only [i64_w, i32_w]; rw [c4b0]) | skip)
     have H' := Aside0.mk H
     clear H
     go_wp2
     go_meet
     case rel => exact ⟨_, (false), rs, H', ⟨by have := HK1.out; first | omega | exact Nat.le_refl _⟩, ⟨bb HB⟩⟩
    rw [if_pos c4] at H
    have c4b0 : decide (x5_1 < (l0.length : Int)) = true := decide_eq_true c4
    clear c4
    (first | rw [c4b0] | (simp only [i64_w, i32_w]; rw [c4b0]) | skip)
    have H' := Aside0.mk H
    clear H
    go_wp2
    go_meet
    case rel => exact ⟨_, (decide (x1_1 > 0)), rs, H', ⟨by have := HK1.out; first | omega | exact Nat.le_refl _⟩, ⟨bb HB⟩⟩
   case rest =>
    clear HC3
    try clear c2
    try clear p2
    try clear c4
    try clear c4b0
    try clear p2
    obtain ⟨kq, x14_2, rfl, HA, HJ2, HB⟩ := hcut
    cases kq with
    | zero => exact absurd HA.out (by simp [r3_left.j1])
    | succ kj2 =>
     have H := HA.out
     clear HA
     simp only [r3_left.j1] at H
     by_cases c5 : x14_2 = true
     rotate_left
     ·replace c5 := Bool.eq_false_iff.mpr c5
      subst c5
      replace H := fi H
      obtain rfl := Option.some.inj H
      go_wp2
      go_ret
      exact ⟨rr, bb HB⟩
     subst c5
     replace H := it H
     have H' := Aside0.mk H
     clear H
     go_wp2
     go_loopg [1, 6] kj2 (fun kq v1 v6 w' => ∃ (x1_3 : Int) (x6_3 : Int), v1 = .int .i64 x1_3 ∧ v6 = .int .i64 x6_3 ∧ Aside0 (r3_left.l1 kq l0 x1_3 x5_1 x6_3 = some r) ∧ Aside0 (kq ≤ kj2) ∧ Aside0 (Below w.heap.size w w'))
     case atStart => exact ⟨(wrap64 (x1_1 - 1)), (0), rs, rs, H', ⟨Nat.le_refl _⟩, ⟨bb HB⟩⟩
     case round =>
      clear H'
      try clear c2
      try clear p2
      try clear c4
      try clear c4b0
      try clear c5
      try clear p2
      obtain ⟨x1_3, x6_3, rfl, rfl, HA, HK3, HB⟩ := hrel
      cases gk with
      | zero => exact absurd HA.out (by simp [r3_left.l1])
      | succ k3 =>
       have H := HA.out
       clear HA
       simp only [r3_left.l1] at H
       by_cases c6 : 0 ≤ x5_1
       rotate_left
       ·rw [if_neg c6] at H
        exact absurd H (by simp)
       rw [if_pos c6] at H
       have c6b0 : decide (0 ≤ x5_1) = true := decide_eq_true c6
       clear c6
       by_cases c7 : x5_1 < (l0.length : Int)
       rotate_left
       ·rw [if_neg c7] at H
        exact absurd H (by simp)
       rw [if_pos c7] at H
       have c7b0 : decide (x5_1 < (l0.length : Int)) = true := decide_eq_true c7
       clear c7
       by_cases c8 : x6_3 < (((rd_T57 l0 x5_1).f2).length : Int)
       ·rw [if_pos c8] at H
        have c8b0 : decide (x6_3 < (((rd_T57 l0 x5_1).f2).length : Int)) = true := decide_eq_true c8
        clear c8
        by_cases c9 : 0 ≤ x6_3
        rotate_left
        ·rw [if_neg c9] at H
         exact absurd H (by simp)
        rw [if_pos c9] at H
        have c9b0 : decide (0 ≤ x6_3) = true := decide_eq_true c9
        clear c9
        obtain ⟨t117, A10, H⟩ := be H
        have H' := Aside0.mk H
        clear H
        have p114 : 0 ≤ (x5_1 : Int) := od
        have q114 : x5_1 < (l0.length : Int) := od
        obtain ⟨ad114, A114_2, c114_2, A114_3, c114_3, A114_4, c114_4, e114, hx114_0, hx114_1, hx114_2, hx114_3, hx114_4, hl114_2, hi114_2, hl114_3, hi114_3, hl114_4, hi114_4⟩ := at_T57 HR0.out x5_1 p114 q114
        cases e114
        replace hx114_0 := bcell HB.out hx114_0
        replace hx114_1 := bcell HB.out hx114_1
        replace hx114_2 := bcell HB.out hx114_2
        replace hx114_3 := bcell HB.out hx114_3
        replace hx114_4 := bcell HB.out hx114_4
        have HR114_2 := Aside0.mk hi114_2
        have HC114_2 := Aside0.mk hl114_2
        clear hi114_2 hl114_2
        have HR114_3 := Aside0.mk hi114_3
        have HC114_3 := Aside0.mk hl114_3
        clear hi114_3 hl114_3
        have HR114_4 := Aside0.mk hi114_4
        have HC114_4 := Aside0.mk hl114_4
        clear hi114_4 hl114_4
        replace p114 := eq_true p114
        replace q114 := eq_true q114
        have p116 : 0 ≤ (x6_3 : Int) := od
        have q116 : x6_3 < (((rd_T57 l0 x5_1).f2).length : Int) := od
        obtain ⟨ad116, A116_3, c116_3, e116, hx116_0, hx116_1, hx116_2, hx116_3, hl116_3, hi116_3⟩ := at_T52 HR114_2.out x6_3 p116 q116
        cases e116
        replace hx116_0 := bcell HB.out hx116_0
        replace hx116_1 := bcell HB.out hx116_1
        replace hx116_2 := bcell HB.out hx116_2
        replace hx116_3 := bcell HB.out hx116_3
        have HR116_3 := Aside0.mk hi116_3
        have HC116_3 := Aside0.mk hl116_3
        clear hi116_3 hl116_3
        replace p116 := eq_true p116
        replace q116 := eq_true q116
        go_wp2_with (first | ((with_reducible refine gate_callee (f := 44) rfl ?_); refine gL (some 38) rfl rfl Try.func44 #[.agg #[.int .i64 ((rd_T52 ((rd_T57 l0 x5_1).f2) x6_3).f0), .int .i64 ((rd_T52 ((rd_T57 l0 x5_1).f2) x6_3).f1), .int .i64 ((rd_T52 ((rd_T57 l0 x5_1).f2) x6_3).f2), .slice A116_3 ((rd_T52 ((rd_T57 l0 x5_1).f2) x6_3).f3).length c116_3], .int .i64 x1_3] rfl ?_; (with_reducible refine (r2_Left.calls k3 ((rd_T52 ((rd_T57 l0 x5_1).f2) x6_3).f0) ((rd_T52 ((rd_T57 l0 x5_1).f2) x6_3).f1) ((rd_T52 ((rd_T57 l0 x5_1).f2) x6_3).f2) _ _ ((rd_T52 ((rd_T57 l0 x5_1).f2) x6_3).f3) x1_3 t117 _ ?side1 ?side2 A10.out).mono ?_); (case side1 => exact cb HR116_3 HB); (case side2 => exact HC116_3.out); rintro e w11 ⟨rfl, hb⟩; refine ⟨_, rfl, ?_⟩; replace HB := sb HB hb; (try clear hb)))
        go_roundg k3
        case measure => have := HK1.out; have := HJ2.out; have := HK3.out; omega
        case rel => exact ⟨(t117), (wrap64 (x6_3 + 1)), rs, rs, H', ⟨by have := HK1.out; have := HJ2.out; have := HK3.out; omega⟩, ⟨bb HB⟩⟩
       rw [if_neg c8] at H
       have c8b0 : decide (x6_3 < (((rd_T57 l0 x5_1).f2).length : Int)) = false := decide_eq_false c8
       clear c8
       obtain ⟨t119, A12, H⟩ := be H
       obtain ⟨t121, A13, H⟩ := be H
       have H' := Aside0.mk H
       clear H
       have p114 : 0 ≤ (x5_1 : Int) := od
       have q114 : x5_1 < (l0.length : Int) := od
       obtain ⟨ad114, A114_2, c114_2, A114_3, c114_3, A114_4, c114_4, e114, hx114_0, hx114_1, hx114_2, hx114_3, hx114_4, hl114_2, hi114_2, hl114_3, hi114_3, hl114_4, hi114_4⟩ := at_T57 HR0.out x5_1 p114 q114
       cases e114
       replace hx114_0 := bcell HB.out hx114_0
       replace hx114_1 := bcell HB.out hx114_1
       replace hx114_2 := bcell HB.out hx114_2
       replace hx114_3 := bcell HB.out hx114_3
       replace hx114_4 := bcell HB.out hx114_4
       have HR114_2 := Aside0.mk hi114_2
       have HC114_2 := Aside0.mk hl114_2
       clear hi114_2 hl114_2
       have HR114_3 := Aside0.mk hi114_3
       have HC114_3 := Aside0.mk hl114_3
       clear hi114_3 hl114_3
       have HR114_4 := Aside0.mk hi114_4
       have HC114_4 := Aside0.mk hl114_4
       clear hi114_4 hl114_4
       replace p114 := eq_true p114
       replace q114 := eq_true q114
       go_wp2_with (first | ((with_reducible refine gate_callee (f := 29) rfl ?_); refine gL (some 45) rfl rfl Try.func29 #[.slice A114_3 ((rd_T57 l0 x5_1).f3).length c114_3, .int .i64 x1_3] rfl ?_; (with_reducible refine (ih k3 (by have := HK1.out; have := HJ2.out; have := HK3.out; omega) _ _ ((rd_T57 l0 x5_1).f3) x1_3 t119 _ ?side1 ?side2 A12.out).mono ?_); (case side1 => exact cb HR114_3 HB); (case side2 => exact HC114_3.out); rintro e w14 ⟨rfl, hb⟩; refine ⟨_, rfl, ?_⟩; replace HB := sb HB hb; (try clear hb); have p120 : 0 ≤ (x5_1 : Int) := od; have q120 : x5_1 < (l0.length : Int) := od; obtain ⟨ad120, A120_2, c120_2, A120_3, c120_3, A120_4, c120_4, e120, hx120_0, hx120_1, hx120_2, hx120_3, hx120_4, hl120_2, hi120_2, hl120_3, hi120_3, hl120_4, hi120_4⟩ := at_T57 HR0.out x5_1 p120 q120; obtain rfl : ad114 = ad120 := (by injection e120); replace hx120_0 := bcell HB.out hx120_0; replace hx120_1 := bcell HB.out hx120_1; replace hx120_2 := bcell HB.out hx120_2; replace hx120_3 := bcell HB.out hx120_3; replace hx120_4 := bcell HB.out hx120_4; have HR120_2 := Aside0.mk hi120_2; have HC120_2 := Aside0.mk hl120_2; clear hi120_2 hl120_2; have HR120_3 := Aside0.mk hi120_3; have HC120_3 := Aside0.mk hl120_3; clear hi120_3 hl120_3; have HR120_4 := Aside0.mk hi120_4; have HC120_4 := Aside0.mk hl120_4; clear hi120_4 hl120_4; replace p120 := eq_true p120; replace q120 := eq_true q120) | ((with_reducible refine gate_callee (f := 29) rfl ?_); refine gL (some 52) rfl rfl Try.func29 #[.slice A120_4 ((rd_T57 l0 x5_1).f4).length c120_4, .int .i64 t119] rfl ?_; (with_reducible refine (ih k3 (by have := HK1.out; have := HJ2.out; have := HK3.out; omega) _ _ ((rd_T57 l0 x5_1).f4) t119 t121 _ ?side1 ?side2 A13.out).mono ?_); (case side1 => exact cb HR120_4 HB); (case side2 => exact HC120_4.out); rintro e w15 ⟨rfl, hb⟩; refine ⟨_, rfl, ?_⟩; replace HB := sb HB hb; (try clear hb)))
       go_roundg k3
       case measure => have := HK1.out; have := HJ2.out; have := HK3.out; omega
       case rel => exact ⟨(t121), (wrap64 (x5_1 + 1)), rs, rs, H', ⟨by have := HK1.out; have := HJ2.out; have := HK3.out; omega⟩, ⟨bb HB⟩⟩
def r3_Fits.f (k : Nat) (l0 : List (S57)) (a1 : Int) : Option (Bool) := (r3_left.f k l0 (wrap64 (a1 + 1))).bind fun t122 => (some (decide (t122 > 0)))
theorem r3_Fits.calls (k : Nat) (A0 : Option Addr) (c0 : Nat) (l0 : List (S57)) (a1 : Int) (r : Bool) (w : World) (hr0 : Kd.C k57 w A0 l0.length l0) (hc0 : l0.length ≤ c0) (h : r3_Fits.f k l0 a1 = some r) :
  Calls Try.prog 14 #[.slice A0 l0.length c0, .int .i64 a1] w fun e w' => e = .returned (.bool r) ∧ Below w.heap.size w w' := by
 have HR0 := Aside0.mk hr0
 have HC0 := Aside0.mk hc0
 clear hr0 hc0
 have HB := Aside0.mk (Below.refl w.heap.size w)
 have H : ((r3_left.f k l0 (wrap64 (a1 + 1))).bind fun t122 => (some (decide (t122 > 0)))) = some r := h
 clear h
 obtain ⟨t122, A3, H⟩ := be H
 obtain rfl := Option.some.inj H
 go_enter Try.func14, Try.ntmps14
 go_wp2_with (first | ((with_reducible refine gate_callee (f := 29) rfl ?_); refine gL (some 8) rfl rfl Try.func29 #[.slice A0 l0.length c0, .int .i64 (wrap64 (a1 + 1))] rfl ?_; (with_reducible refine (r3_left.calls k _ _ l0 (wrap64 (a1 + 1)) t122 _ ?side1 ?side2 A3.out).mono ?_); (case side1 => exact ca HR0); (case side2 => exact HC0.out); rintro e w4 ⟨rfl, hb⟩; refine ⟨_, rfl, ?_⟩; replace HB := sb HB hb; (try clear hb)))
 go_ret
 exact ⟨rr, bb HB⟩
def r3_variable.f (l0 : List (S42)) (a1_0 : Int) (a1_1 : Int) (l1_2 : List (S52)) (l1_3 : List (S57)) (l1_4 : List (S57)) (a2 : Int) : Option (Bool) := if a1_1 ≥ 0 then (if a1_1 < (l0.length : Int) then (if 0 ≤ a1_1 then ((r1_One.f (decide (((rd_T42 l0 a1_1).f2) > 1))).bind fun t129 => (some ((l1_2.length : Int) == (wrap64 (a2 + t129))))) else (none)) else (some false)) else (some false)
theorem r3_variable.calls (A0 : Option Addr) (c0 : Nat) (l0 : List (S42)) (a1_0 : Int) (a1_1 : Int) (A1_2 : Option Addr) (c1_2 : Nat) (l1_2 : List (S52)) (A1_3 : Option Addr) (c1_3 : Nat) (l1_3 : List (S57)) (A1_4 : Option Addr) (c1_4 : Nat) (l1_4 : List (S57)) (a2 : Int) (r : Bool) (w : World) (hr0 : Kd.C k42 w A0 l0.length l0) (hc0 : l0.length ≤ c0) (hr1_2 : Kd.C k52 w A1_2 l1_2.length l1_2) (hc1_2 : l1_2.length ≤ c1_2) (hr1_3 : Kd.C k57 w A1_3 l1_3.length l1_3) (hc1_3 : l1_3.length ≤ c1_3) (hr1_4 : Kd.C k57 w A1_4 l1_4.length l1_4) (hc1_4 : l1_4.length ≤ c1_4) (h : r3_variable.f l0 a1_0 a1_1 l1_2 l1_3 l1_4 a2 = some r) :
  Calls Try.prog 45 #[.slice A0 l0.length c0, .agg #[.int .i64 a1_0, .int .i64 a1_1, .slice A1_2 l1_2.length c1_2, .slice A1_3 l1_3.length c1_3, .slice A1_4 l1_4.length c1_4], .int .i64 a2] w fun e w' => e = .returned (.bool r) ∧ Below w.heap.size w w' := by
 have hu57 := Try.underlying57
 have HR0 := Aside0.mk hr0
 have HC0 := Aside0.mk hc0
 clear hr0 hc0
 have HR1_2 := Aside0.mk hr1_2
 have HC1_2 := Aside0.mk hc1_2
 clear hr1_2 hc1_2
 have HR1_3 := Aside0.mk hr1_3
 have HC1_3 := Aside0.mk hc1_3
 clear hr1_3 hc1_3
 have HR1_4 := Aside0.mk hr1_4
 have HC1_4 := Aside0.mk hc1_4
 clear hr1_4 hc1_4
 have HB := Aside0.mk (Below.refl w.heap.size w)
 have H : (if a1_1 ≥ 0 then (if a1_1 < (l0.length : Int) then (if 0 ≤ a1_1 then ((r1_One.f (decide (((rd_T42 l0 a1_1).f2) > 1))).bind fun t129 => (some ((l1_2.length : Int) == (wrap64 (a2 + t129))))) else (none)) else (some false)) else (some false)) = some r := h
 clear h
 by_cases c4 : a1_1 ≥ 0
 rotate_left
 ·rw [if_neg c4] at H
  have c4b0 : decide (0 ≤ a1_1) = false := decide_eq_false c4
  clear c4
  obtain rfl := Option.some.inj H
  go_enter Try.func45, Try.ntmps45
  go_wp2_with (first | ((with_reducible refine gate_dst (N := 4) rfl ?_); (try (refine gate_guard (by rfl) ?_; dsimp only)); refine bx 4 rfl rfl #[.int .i64 a1_0, .int .i64 a1_1, .slice A1_2 l1_2.length c1_2, .slice A1_3 l1_3.length c1_3, .slice A1_4 l1_4.length c1_4] 57 ?_; intro gb127 hg w12 hbox hb; have BK127 := Aside0.mk (hbox); have GE127 := ge HB hg; replace HB := sb HB hb; clear hb hbox hg; obtain ⟨hcz13_0, hcz13_1, hcz13_2, hcz13_3, hcz13_4, hfz13_0, hfz13_1, hfz13_2, hfz13_3, hfz13_4⟩ := cf5 BK127.out))
  repeat (go_quiet (first | ((with_reducible refine gate_dst (N := 4) rfl ?_); (try (refine gate_guard (by rfl) ?_; dsimp only)); refine bx 4 rfl rfl #[.int .i64 a1_0, .int .i64 a1_1, .slice A1_2 l1_2.length c1_2, .slice A1_3 l1_3.length c1_3, .slice A1_4 l1_4.length c1_4] 57 ?_; intro gb127 hg w12 hbox hb; have BK127 := Aside0.mk (hbox); have GE127 := ge HB hg; replace HB := sb HB hb; clear hb hbox hg; obtain ⟨hcz13_0, hcz13_1, hcz13_2, hcz13_3, hcz13_4, hfz13_0, hfz13_1, hfz13_2, hfz13_3, hfz13_4⟩ := cf5 BK127.out)); try go_wp2_with (first | ((with_reducible refine gate_dst (N := 4) rfl ?_); (try (refine gate_guard (by rfl) ?_; dsimp only)); refine bx 4 rfl rfl #[.int .i64 a1_0, .int .i64 a1_1, .slice A1_2 l1_2.length c1_2, .slice A1_3 l1_3.length c1_3, .slice A1_4 l1_4.length c1_4] 57 ?_; intro gb127 hg w12 hbox hb; have BK127 := Aside0.mk (hbox); have GE127 := ge HB hg; replace HB := sb HB hb; clear hb hbox hg; obtain ⟨hcz13_0, hcz13_1, hcz13_2, hcz13_3, hcz13_4, hfz13_0, hfz13_1, hfz13_2, hfz13_3, hfz13_4⟩ := cf5 BK127.out)))
  go_ret
  exact ⟨rr, bb HB⟩
 rw [if_pos c4] at H
 have c4b0 : decide (0 ≤ a1_1) = true := decide_eq_true c4
 clear c4
 by_cases c5 : a1_1 < (l0.length : Int)
 rotate_left
 ·rw [if_neg c5] at H
  have c5b0 : decide (a1_1 < (l0.length : Int)) = false := decide_eq_false c5
  clear c5
  obtain rfl := Option.some.inj H
  go_enter Try.func45, Try.ntmps45
  go_wp2_with (first | ((with_reducible refine gate_dst (N := 4) rfl ?_); (try (refine gate_guard (by rfl) ?_; dsimp only)); refine bx 4 rfl rfl #[.int .i64 a1_0, .int .i64 a1_1, .slice A1_2 l1_2.length c1_2, .slice A1_3 l1_3.length c1_3, .slice A1_4 l1_4.length c1_4] 57 ?_; intro gb127 hg w10 hbox hb; have BK127 := Aside0.mk (hbox); have GE127 := ge HB hg; replace HB := sb HB hb; clear hb hbox hg; obtain ⟨hcz11_0, hcz11_1, hcz11_2, hcz11_3, hcz11_4, hfz11_0, hfz11_1, hfz11_2, hfz11_3, hfz11_4⟩ := cf5 BK127.out))
  repeat (go_quiet (first | ((with_reducible refine gate_dst (N := 4) rfl ?_); (try (refine gate_guard (by rfl) ?_; dsimp only)); refine bx 4 rfl rfl #[.int .i64 a1_0, .int .i64 a1_1, .slice A1_2 l1_2.length c1_2, .slice A1_3 l1_3.length c1_3, .slice A1_4 l1_4.length c1_4] 57 ?_; intro gb127 hg w10 hbox hb; have BK127 := Aside0.mk (hbox); have GE127 := ge HB hg; replace HB := sb HB hb; clear hb hbox hg; obtain ⟨hcz11_0, hcz11_1, hcz11_2, hcz11_3, hcz11_4, hfz11_0, hfz11_1, hfz11_2, hfz11_3, hfz11_4⟩ := cf5 BK127.out)); try go_wp2_with (first | ((with_reducible refine gate_dst (N := 4) rfl ?_); (try (refine gate_guard (by rfl) ?_; dsimp only)); refine bx 4 rfl rfl #[.int .i64 a1_0, .int .i64 a1_1, .slice A1_2 l1_2.length c1_2, .slice A1_3 l1_3.length c1_3, .slice A1_4 l1_4.length c1_4] 57 ?_; intro gb127 hg w10 hbox hb; have BK127 := Aside0.mk (hbox); have GE127 := ge HB hg; replace HB := sb HB hb; clear hb hbox hg; obtain ⟨hcz11_0, hcz11_1, hcz11_2, hcz11_3, hcz11_4, hfz11_0, hfz11_1, hfz11_2, hfz11_3, hfz11_4⟩ := cf5 BK127.out)))
  go_ret
  exact ⟨rr, bb HB⟩
 rw [if_pos c5] at H
 have c5b0 : decide (a1_1 < (l0.length : Int)) = true := decide_eq_true c5
 clear c5
 by_cases c6 : 0 ≤ a1_1
 rotate_left
 ·rw [if_neg c6] at H
  exact absurd H (by simp)
 rw [if_pos c6] at H
 have c6b0 : decide (0 ≤ a1_1) = true := decide_eq_true c6
 clear c6
 obtain ⟨t129, A7, H⟩ := be H
 obtain rfl := Option.some.inj H
 go_enter Try.func45, Try.ntmps45
 go_wp2_with (first | ((with_reducible refine gate_dst (N := 4) rfl ?_); (try (refine gate_guard (by rfl) ?_; dsimp only)); refine bx 4 rfl rfl #[.int .i64 a1_0, .int .i64 a1_1, .slice A1_2 l1_2.length c1_2, .slice A1_3 l1_3.length c1_3, .slice A1_4 l1_4.length c1_4] 57 ?_; intro gb127 hg w8 hbox hb; have BK127 := Aside0.mk (hbox); have GE127 := ge HB hg; replace HB := sb HB hb; clear hb hbox hg; obtain ⟨hcz9_0, hcz9_1, hcz9_2, hcz9_3, hcz9_4, hfz9_0, hfz9_1, hfz9_2, hfz9_3, hfz9_4⟩ := cf5 BK127.out; have p128 : 0 ≤ (a1_1 : Int) := od; have q128 : a1_1 < (l0.length : Int) := od; obtain ⟨ad128, e128, hx128_0, hx128_1, hx128_2⟩ := at_T42 HR0.out a1_1 p128 q128; cases e128; replace hx128_0 := bcell HB.out hx128_0; replace hx128_1 := bcell HB.out hx128_1; replace hx128_2 := bcell HB.out hx128_2; replace p128 := eq_true p128; replace q128 := eq_true q128) | (go_at_call 60; (with_reducible refine (r1_One.calls (decide (((rd_T42 l0 a1_1).f2) > 1)) t129 _ A7.out).mono ?_); rintro e w' ⟨rfl, ⟨nd, rfl⟩⟩; (try first | exact ⟨rfl, _, World.drewN_drewN _ _ _⟩ | exact ⟨rfl, _, Eq.trans (World.drewN_drewN _ _ _) (congrArg (World.drewN _) (Nat.add_assoc _ _ _))⟩)))
 repeat (go_quiet (first | ((with_reducible refine gate_dst (N := 4) rfl ?_); (try (refine gate_guard (by rfl) ?_; dsimp only)); refine bx 4 rfl rfl #[.int .i64 a1_0, .int .i64 a1_1, .slice A1_2 l1_2.length c1_2, .slice A1_3 l1_3.length c1_3, .slice A1_4 l1_4.length c1_4] 57 ?_; intro gb127 hg w8 hbox hb; have BK127 := Aside0.mk (hbox); have GE127 := ge HB hg; replace HB := sb HB hb; clear hb hbox hg; obtain ⟨hcz9_0, hcz9_1, hcz9_2, hcz9_3, hcz9_4, hfz9_0, hfz9_1, hfz9_2, hfz9_3, hfz9_4⟩ := cf5 BK127.out; have p128 : 0 ≤ (a1_1 : Int) := od; have q128 : a1_1 < (l0.length : Int) := od; obtain ⟨ad128, e128, hx128_0, hx128_1, hx128_2⟩ := at_T42 HR0.out a1_1 p128 q128; cases e128; replace hx128_0 := bcell HB.out hx128_0; replace hx128_1 := bcell HB.out hx128_1; replace hx128_2 := bcell HB.out hx128_2; replace p128 := eq_true p128; replace q128 := eq_true q128) | (go_at_call 60; (with_reducible refine (r1_One.calls (decide (((rd_T42 l0 a1_1).f2) > 1)) t129 _ A7.out).mono ?_); rintro e w' ⟨rfl, ⟨nd, rfl⟩⟩; (try first | exact ⟨rfl, _, World.drewN_drewN _ _ _⟩ | exact ⟨rfl, _, Eq.trans (World.drewN_drewN _ _ _) (congrArg (World.drewN _) (Nat.add_assoc _ _ _))⟩))); try go_wp2_with (first | ((with_reducible refine gate_dst (N := 4) rfl ?_); (try (refine gate_guard (by rfl) ?_; dsimp only)); refine bx 4 rfl rfl #[.int .i64 a1_0, .int .i64 a1_1, .slice A1_2 l1_2.length c1_2, .slice A1_3 l1_3.length c1_3, .slice A1_4 l1_4.length c1_4] 57 ?_; intro gb127 hg w8 hbox hb; have BK127 := Aside0.mk (hbox); have GE127 := ge HB hg; replace HB := sb HB hb; clear hb hbox hg; obtain ⟨hcz9_0, hcz9_1, hcz9_2, hcz9_3, hcz9_4, hfz9_0, hfz9_1, hfz9_2, hfz9_3, hfz9_4⟩ := cf5 BK127.out; have p128 : 0 ≤ (a1_1 : Int) := od; have q128 : a1_1 < (l0.length : Int) := od; obtain ⟨ad128, e128, hx128_0, hx128_1, hx128_2⟩ := at_T42 HR0.out a1_1 p128 q128; cases e128; replace hx128_0 := bcell HB.out hx128_0; replace hx128_1 := bcell HB.out hx128_1; replace hx128_2 := bcell HB.out hx128_2; replace p128 := eq_true p128; replace q128 := eq_true q128) | (go_at_call 60; (with_reducible refine (r1_One.calls (decide (((rd_T42 l0 a1_1).f2) > 1)) t129 _ A7.out).mono ?_); rintro e w' ⟨rfl, ⟨nd, rfl⟩⟩; (try first | exact ⟨rfl, _, World.drewN_drewN _ _ _⟩ | exact ⟨rfl, _, Eq.trans (World.drewN_drewN _ _ _) (congrArg (World.drewN _) (Nat.add_assoc _ _ _))⟩))))
 go_ret
 exact ⟨rr, bb HB⟩
def r3_head.j0 : Nat → List (S42) → Bool → Int → Int → List (S52) → List (S57) → List (S57) → Option (Bool)
 | 0, _, _, _, _, _, _, _ => none
 | k + 1, x0, x5, x131000, x131001, x131002, x131003, x131004 => if x131000 = 0 then (if x5 = true then ((r3_variable.f x0 x131000 x131001 x131002 x131003 x131004 1).bind fun t131 => (some t131)) else (some false)) else (if x131000 = 1 then (if x131001 = 0 then (some ((x131002.length : Int) == 1)) else (some false)) else (if x131000 = 2 then (if x131001 = 0 then (if (x131002.length : Int) = 1 then (some ((x131004.length : Int) == 0)) else (some false)) else (some false)) else (if x131000 = 3 then (if x5 = true then (if x131001 ≥ 0 then (if x131001 ≤ 47 then (some ((x131002.length : Int) == 1)) else (some false)) else (some false)) else (some false)) else (if x131000 = 4 then (if x5 = true then ((r3_variable.f x0 x131000 x131001 x131002 x131003 x131004 0).bind fun t132 => (some t132)) else (some false)) else (if x131000 = 5 then (if x5 = true then (if x131001 = 0 then (some ((x131002.length : Int) == 1)) else (some false)) else (some false)) else (if x131000 = 6 then (if x5 = true then (if x131001 = 0 then (some ((x131002.length : Int) == 1)) else (some false)) else (some false)) else (some false)))))))
def r3_head.f (k : Nat) (l0 : List (S42)) (a1_0 : Int) (a1_1 : Int) (l1_2 : List (S52)) (l1_3 : List (S57)) (l1_4 : List (S57)) : Option (Bool) := if (l1_3.length : Int) = 0 then (r3_head.j0 k l0 ((l1_4.length : Int) == 0) a1_0 a1_1 l1_2 l1_3 l1_4) else (r3_head.j0 k l0 false a1_0 a1_1 l1_2 l1_3 l1_4)
theorem r3_head.calls (k : Nat) (A0 : Option Addr) (c0 : Nat) (l0 : List (S42)) (a1_0 : Int) (a1_1 : Int) (A1_2 : Option Addr) (c1_2 : Nat) (l1_2 : List (S52)) (A1_3 : Option Addr) (c1_3 : Nat) (l1_3 : List (S57)) (A1_4 : Option Addr) (c1_4 : Nat) (l1_4 : List (S57)) (r : Bool) (w : World) (hr0 : Kd.C k42 w A0 l0.length l0) (hc0 : l0.length ≤ c0) (hr1_2 : Kd.C k52 w A1_2 l1_2.length l1_2) (hc1_2 : l1_2.length ≤ c1_2) (hr1_3 : Kd.C k57 w A1_3 l1_3.length l1_3) (hc1_3 : l1_3.length ≤ c1_3) (hr1_4 : Kd.C k57 w A1_4 l1_4.length l1_4) (hc1_4 : l1_4.length ≤ c1_4) (h : r3_head.f k l0 a1_0 a1_1 l1_2 l1_3 l1_4 = some r) :
  Calls Try.prog 30 #[.slice A0 l0.length c0, .agg #[.int .i64 a1_0, .int .i64 a1_1, .slice A1_2 l1_2.length c1_2, .slice A1_3 l1_3.length c1_3, .slice A1_4 l1_4.length c1_4]] w fun e w' => e = .returned (.bool r) ∧ Below w.heap.size w w' := by
 have hu57 := Try.underlying57
 have HR0 := Aside0.mk hr0
 have HC0 := Aside0.mk hc0
 clear hr0 hc0
 have HR1_2 := Aside0.mk hr1_2
 have HC1_2 := Aside0.mk hc1_2
 clear hr1_2 hc1_2
 have HR1_3 := Aside0.mk hr1_3
 have HC1_3 := Aside0.mk hc1_3
 clear hr1_3 hc1_3
 have HR1_4 := Aside0.mk hr1_4
 have HC1_4 := Aside0.mk hc1_4
 clear hr1_4 hc1_4
 have HB := Aside0.mk (Below.refl w.heap.size w)
 have H : (if (l1_3.length : Int) = 0 then (r3_head.j0 k l0 ((l1_4.length : Int) == 0) a1_0 a1_1 l1_2 l1_3 l1_4) else (r3_head.j0 k l0 false a1_0 a1_1 l1_2 l1_3 l1_4)) = some r := h
 clear h
 have HC3 := Aside0.mk H
 clear H
 go_enter Try.func30, Try.ntmps30
 go_upto_region 1 with (first | ((with_reducible refine gate_dst (N := 3) rfl ?_); (try (refine gate_guard (by rfl) ?_; dsimp only)); refine bx 3 rfl rfl #[.int .i64 a1_0, .int .i64 a1_1, .slice A1_2 l1_2.length c1_2, .slice A1_3 l1_3.length c1_3, .slice A1_4 l1_4.length c1_4] 57 ?_; intro gb130 hg w4 hbox hb; have BK130 := Aside0.mk (hbox); have GE130 := ge HB hg; replace HB := sb HB hb; clear hb hbox hg))
 (try simp only [Act.put, List.setIfInBounds_toArray, List.set_cons_zero, List.set_cons_succ])
 go_cut [5] (fun v5 wc => ∃ (kq : Nat) (x5_2 : Bool), v5 = .bool x5_2 ∧ Aside0 (r3_head.j0 kq l0 x5_2 a1_0 a1_1 l1_2 l1_3 l1_4 = some r) ∧ Aside0 (kq ≤ k) ∧ Aside0 (wc.heap[gb130]? = some (.cells #[.int .i64 a1_0, .int .i64 a1_1, (.slice A1_2 l1_2.length c1_2), (.slice A1_3 l1_3.length c1_3), (.slice A1_4 l1_4.length c1_4)] 57 (0, 0))) ∧ Aside0 (Below w.heap.size w wc))
 case first =>
  have H := HC3.out
  clear HC3
  by_cases c5 : (l1_3.length : Int) = 0
  ·rw [if_pos c5] at H
   have c5b0 : ((l1_3.length : Int) == 0) = true := beq_iff_eq.mpr c5
   have c5b1 : ((l1_3.length : Int) != 0) = false := bne_eq_false_iff_eq.mpr c5
   clear c5
   (first | rw [c5b0] | (simp only [i64_w, i32_w]; rw [c5b0]) | skip)
   have H' := Aside0.mk H
   clear H
   obtain ⟨hcz6_0, hcz6_1, hcz6_2, hcz6_3, hcz6_4, hfz6_0, hfz6_1, hfz6_2, hfz6_3, hfz6_4⟩ := cf5 BK130.out
   go_wp2
   go_meet
   case rel => exact ⟨_, (((l1_4.length : Int) == 0)), rs, H', ⟨by first | omega | exact Nat.le_refl _⟩, ⟨kk BK130⟩, ⟨bb HB⟩⟩
  rw [if_neg c5] at H
  have c5b0 : ((l1_3.length : Int) == 0) = false := beq_eq_false_iff_ne.mpr c5
  have c5b1 : ((l1_3.length : Int) != 0) = true := bne_iff_ne.mpr c5
  have c5b2 : ¬ (l1_3 = []) := fun h_ => c5 (by rw [h_]; rfl)
  (first | rw [c5b0] | (simp only [i64_w, i32_w]; rw [c5b0]) | skip)
  have H' := Aside0.mk H
  clear H
  obtain ⟨hcz7_0, hcz7_1, hcz7_2, hcz7_3, hcz7_4, hfz7_0, hfz7_1, hfz7_2, hfz7_3, hfz7_4⟩ := cf5 BK130.out
  go_wp2
  go_meet
  case rel => exact ⟨_, (false), rs, H', ⟨by first | omega | exact Nat.le_refl _⟩, ⟨kk BK130⟩, ⟨bb HB⟩⟩
 case rest =>
  clear HC3
  try clear c1
  try clear p2
  try clear c3
  try clear c5
  try clear c5b0
  try clear c5b1
  try clear c5b2
  try clear hcz6_0 hcz6_1 hcz6_2 hcz6_3 hcz6_4
  try clear hcz7_0 hcz7_1 hcz7_2 hcz7_3 hcz7_4
  try clear hfz6_0 hfz6_1 hfz6_2 hfz6_3 hfz6_4
  try clear hfz7_0 hfz7_1 hfz7_2 hfz7_3 hfz7_4
  obtain ⟨kq, x5_2, rfl, HA, HJ2, BK130, HB⟩ := hcut
  cases kq with
  | zero => exact absurd HA.out (by simp [r3_head.j0])
  | succ kj2 =>
   have H := HA.out
   clear HA
   simp only [r3_head.j0] at H
   by_cases c8 : a1_0 = 0
   ·rw [if_pos c8] at H
    have c8b0 : (a1_0 == 0) = true := beq_iff_eq.mpr c8
    have c8b1 : (a1_0 != 0) = false := bne_eq_false_iff_eq.mpr c8
    clear c8
    by_cases c9 : x5_2 = true
    rotate_left
    ·replace c9 := Bool.eq_false_iff.mpr c9
     subst c9
     replace H := fi H
     obtain rfl := Option.some.inj H
     obtain ⟨hcz13_0, hcz13_1, hcz13_2, hcz13_3, hcz13_4, hfz13_0, hfz13_1, hfz13_2, hfz13_3, hfz13_4⟩ := cf5 BK130.out
     go_wp2
     go_ret
     exact ⟨rr, bb HB⟩
    subst c9
    replace H := it H
    obtain ⟨t131, A10, H⟩ := be H
    obtain rfl := Option.some.inj H
    obtain ⟨hcz11_0, hcz11_1, hcz11_2, hcz11_3, hcz11_4, hfz11_0, hfz11_1, hfz11_2, hfz11_3, hfz11_4⟩ := cf5 BK130.out
    go_wp2_with (first | (go_at_call 45; (with_reducible refine (r3_variable.calls _ _ l0 a1_0 a1_1 _ _ l1_2 _ _ l1_3 _ _ l1_4 1 t131 _ ?side1 ?side2 ?side3 ?side4 ?side5 ?side6 ?side7 ?side8 A10.out).mono ?_); (case side1 => exact cb HR0 HB); (case side2 => exact HC0.out); (case side3 => exact cb HR1_2 HB); (case side4 => exact HC1_2.out); (case side5 => exact cb HR1_3 HB); (case side6 => exact HC1_3.out); (case side7 => exact cb HR1_4 HB); (case side8 => exact HC1_4.out); rintro e w12 ⟨rfl, hb⟩; replace BK130 := kb BK130 hb; replace HB := sb HB hb; (try clear hb)))
    go_ret
    exact ⟨rr, bb HB⟩
   rw [if_neg c8] at H
   have c8b0 : (a1_0 == 0) = false := beq_eq_false_iff_ne.mpr c8
   have c8b1 : (a1_0 != 0) = true := bne_iff_ne.mpr c8
   by_cases c14 : a1_0 = 1
   ·rw [if_pos c14] at H
    have c14b0 : (a1_0 == 1) = true := beq_iff_eq.mpr c14
    have c14b1 : (a1_0 != 1) = false := bne_eq_false_iff_eq.mpr c14
    clear c14
    by_cases c15 : a1_1 = 0
    rotate_left
    ·rw [if_neg c15] at H
     have c15b0 : (a1_1 == 0) = false := beq_eq_false_iff_ne.mpr c15
     have c15b1 : (a1_1 != 0) = true := bne_iff_ne.mpr c15
     obtain rfl := Option.some.inj H
     obtain ⟨hcz17_0, hcz17_1, hcz17_2, hcz17_3, hcz17_4, hfz17_0, hfz17_1, hfz17_2, hfz17_3, hfz17_4⟩ := cf5 BK130.out
     go_wp2
     go_ret
     exact ⟨rr, bb HB⟩
    rw [if_pos c15] at H
    have c15b0 : (a1_1 == 0) = true := beq_iff_eq.mpr c15
    have c15b1 : (a1_1 != 0) = false := bne_eq_false_iff_eq.mpr c15
    clear c15
    obtain rfl := Option.some.inj H
    obtain ⟨hcz16_0, hcz16_1, hcz16_2, hcz16_3, hcz16_4, hfz16_0, hfz16_1, hfz16_2, hfz16_3, hfz16_4⟩ := cf5 BK130.out
    go_wp2
    go_ret
    exact ⟨rr, bb HB⟩
   rw [if_neg c14] at H
   have c14b0 : (a1_0 == 1) = false := beq_eq_false_iff_ne.mpr c14
   have c14b1 : (a1_0 != 1) = true := bne_iff_ne.mpr c14
   by_cases c18 : a1_0 = 2
   ·rw [if_pos c18] at H
    have c18b0 : (a1_0 == 2) = true := beq_iff_eq.mpr c18
    have c18b1 : (a1_0 != 2) = false := bne_eq_false_iff_eq.mpr c18
    clear c18
    by_cases c19 : a1_1 = 0
    rotate_left
    ·rw [if_neg c19] at H
     have c19b0 : (a1_1 == 0) = false := beq_eq_false_iff_ne.mpr c19
     have c19b1 : (a1_1 != 0) = true := bne_iff_ne.mpr c19
     obtain rfl := Option.some.inj H
     obtain ⟨hcz23_0, hcz23_1, hcz23_2, hcz23_3, hcz23_4, hfz23_0, hfz23_1, hfz23_2, hfz23_3, hfz23_4⟩ := cf5 BK130.out
     go_wp2
     go_ret
     exact ⟨rr, bb HB⟩
    rw [if_pos c19] at H
    have c19b0 : (a1_1 == 0) = true := beq_iff_eq.mpr c19
    have c19b1 : (a1_1 != 0) = false := bne_eq_false_iff_eq.mpr c19
    clear c19
    by_cases c20 : (l1_2.length : Int) = 1
    rotate_left
    ·rw [if_neg c20] at H
     have c20b0 : ((l1_2.length : Int) == 1) = false := beq_eq_false_iff_ne.mpr c20
     have c20b1 : ((l1_2.length : Int) != 1) = true := bne_iff_ne.mpr c20
     obtain rfl := Option.some.inj H
     obtain ⟨hcz22_0, hcz22_1, hcz22_2, hcz22_3, hcz22_4, hfz22_0, hfz22_1, hfz22_2, hfz22_3, hfz22_4⟩ := cf5 BK130.out
     go_wp2
     go_ret
     exact ⟨rr, bb HB⟩
    rw [if_pos c20] at H
    have c20b0 : ((l1_2.length : Int) == 1) = true := beq_iff_eq.mpr c20
    have c20b1 : ((l1_2.length : Int) != 1) = false := bne_eq_false_iff_eq.mpr c20
    clear c20
    obtain rfl := Option.some.inj H
    obtain ⟨hcz21_0, hcz21_1, hcz21_2, hcz21_3, hcz21_4, hfz21_0, hfz21_1, hfz21_2, hfz21_3, hfz21_4⟩ := cf5 BK130.out
    go_wp2
    go_ret
    exact ⟨rr, bb HB⟩
   rw [if_neg c18] at H
   have c18b0 : (a1_0 == 2) = false := beq_eq_false_iff_ne.mpr c18
   have c18b1 : (a1_0 != 2) = true := bne_iff_ne.mpr c18
   by_cases c24 : a1_0 = 3
   ·rw [if_pos c24] at H
    have c24b0 : (a1_0 == 3) = true := beq_iff_eq.mpr c24
    have c24b1 : (a1_0 != 3) = false := bne_eq_false_iff_eq.mpr c24
    clear c24
    by_cases c25 : x5_2 = true
    rotate_left
    ·replace c25 := Bool.eq_false_iff.mpr c25
     subst c25
     replace H := fi H
     obtain rfl := Option.some.inj H
     obtain ⟨hcz31_0, hcz31_1, hcz31_2, hcz31_3, hcz31_4, hfz31_0, hfz31_1, hfz31_2, hfz31_3, hfz31_4⟩ := cf5 BK130.out
     go_wp2
     go_ret
     exact ⟨rr, bb HB⟩
    subst c25
    replace H := it H
    by_cases c26 : a1_1 ≥ 0
    rotate_left
    ·rw [if_neg c26] at H
     have c26b0 : decide (0 ≤ a1_1) = false := decide_eq_false c26
     clear c26
     obtain rfl := Option.some.inj H
     obtain ⟨hcz30_0, hcz30_1, hcz30_2, hcz30_3, hcz30_4, hfz30_0, hfz30_1, hfz30_2, hfz30_3, hfz30_4⟩ := cf5 BK130.out
     go_wp2
     go_ret
     exact ⟨rr, bb HB⟩
    rw [if_pos c26] at H
    have c26b0 : decide (0 ≤ a1_1) = true := decide_eq_true c26
    clear c26
    by_cases c27 : a1_1 ≤ 47
    ·rw [if_pos c27] at H
     have c27b0 : decide (a1_1 ≤ 47) = true := decide_eq_true c27
     clear c27
     obtain rfl := Option.some.inj H
     obtain ⟨hcz28_0, hcz28_1, hcz28_2, hcz28_3, hcz28_4, hfz28_0, hfz28_1, hfz28_2, hfz28_3, hfz28_4⟩ := cf5 BK130.out
     go_wp2
     go_ret
     exact ⟨rr, bb HB⟩
    rw [if_neg c27] at H
    have c27b0 : decide (a1_1 ≤ 47) = false := decide_eq_false c27
    clear c27
    obtain rfl := Option.some.inj H
    obtain ⟨hcz29_0, hcz29_1, hcz29_2, hcz29_3, hcz29_4, hfz29_0, hfz29_1, hfz29_2, hfz29_3, hfz29_4⟩ := cf5 BK130.out
    go_wp2
    go_ret
    exact ⟨rr, bb HB⟩
   rw [if_neg c24] at H
   have c24b0 : (a1_0 == 3) = false := beq_eq_false_iff_ne.mpr c24
   have c24b1 : (a1_0 != 3) = true := bne_iff_ne.mpr c24
   by_cases c32 : a1_0 = 4
   ·rw [if_pos c32] at H
    have c32b0 : (a1_0 == 4) = true := beq_iff_eq.mpr c32
    have c32b1 : (a1_0 != 4) = false := bne_eq_false_iff_eq.mpr c32
    clear c32
    by_cases c33 : x5_2 = true
    rotate_left
    ·replace c33 := Bool.eq_false_iff.mpr c33
     subst c33
     replace H := fi H
     obtain rfl := Option.some.inj H
     obtain ⟨hcz37_0, hcz37_1, hcz37_2, hcz37_3, hcz37_4, hfz37_0, hfz37_1, hfz37_2, hfz37_3, hfz37_4⟩ := cf5 BK130.out
     go_wp2
     go_ret
     exact ⟨rr, bb HB⟩
    subst c33
    replace H := it H
    obtain ⟨t132, A34, H⟩ := be H
    obtain rfl := Option.some.inj H
    obtain ⟨hcz35_0, hcz35_1, hcz35_2, hcz35_3, hcz35_4, hfz35_0, hfz35_1, hfz35_2, hfz35_3, hfz35_4⟩ := cf5 BK130.out
    go_wp2_with (first | (go_at_call 45; (with_reducible refine (r3_variable.calls _ _ l0 a1_0 a1_1 _ _ l1_2 _ _ l1_3 _ _ l1_4 0 t132 _ ?side1 ?side2 ?side3 ?side4 ?side5 ?side6 ?side7 ?side8 A34.out).mono ?_); (case side1 => exact cb HR0 HB); (case side2 => exact HC0.out); (case side3 => exact cb HR1_2 HB); (case side4 => exact HC1_2.out); (case side5 => exact cb HR1_3 HB); (case side6 => exact HC1_3.out); (case side7 => exact cb HR1_4 HB); (case side8 => exact HC1_4.out); rintro e w36 ⟨rfl, hb⟩; replace BK130 := kb BK130 hb; replace HB := sb HB hb; (try clear hb)))
    go_ret
    exact ⟨rr, bb HB⟩
   rw [if_neg c32] at H
   have c32b0 : (a1_0 == 4) = false := beq_eq_false_iff_ne.mpr c32
   have c32b1 : (a1_0 != 4) = true := bne_iff_ne.mpr c32
   by_cases c38 : a1_0 = 5
   ·rw [if_pos c38] at H
    have c38b0 : (a1_0 == 5) = true := beq_iff_eq.mpr c38
    have c38b1 : (a1_0 != 5) = false := bne_eq_false_iff_eq.mpr c38
    clear c38
    by_cases c39 : x5_2 = true
    rotate_left
    ·replace c39 := Bool.eq_false_iff.mpr c39
     subst c39
     replace H := fi H
     obtain rfl := Option.some.inj H
     obtain ⟨hcz43_0, hcz43_1, hcz43_2, hcz43_3, hcz43_4, hfz43_0, hfz43_1, hfz43_2, hfz43_3, hfz43_4⟩ := cf5 BK130.out
     go_wp2
     go_ret
     exact ⟨rr, bb HB⟩
    subst c39
    replace H := it H
    by_cases c40 : a1_1 = 0
    rotate_left
    ·rw [if_neg c40] at H
     have c40b0 : (a1_1 == 0) = false := beq_eq_false_iff_ne.mpr c40
     have c40b1 : (a1_1 != 0) = true := bne_iff_ne.mpr c40
     obtain rfl := Option.some.inj H
     obtain ⟨hcz42_0, hcz42_1, hcz42_2, hcz42_3, hcz42_4, hfz42_0, hfz42_1, hfz42_2, hfz42_3, hfz42_4⟩ := cf5 BK130.out
     go_wp2
     go_ret
     exact ⟨rr, bb HB⟩
    rw [if_pos c40] at H
    have c40b0 : (a1_1 == 0) = true := beq_iff_eq.mpr c40
    have c40b1 : (a1_1 != 0) = false := bne_eq_false_iff_eq.mpr c40
    clear c40
    obtain rfl := Option.some.inj H
    obtain ⟨hcz41_0, hcz41_1, hcz41_2, hcz41_3, hcz41_4, hfz41_0, hfz41_1, hfz41_2, hfz41_3, hfz41_4⟩ := cf5 BK130.out
    go_wp2
    go_ret
    exact ⟨rr, bb HB⟩
   rw [if_neg c38] at H
   have c38b0 : (a1_0 == 5) = false := beq_eq_false_iff_ne.mpr c38
   have c38b1 : (a1_0 != 5) = true := bne_iff_ne.mpr c38
   by_cases c44 : a1_0 = 6
   rotate_left
   ·rw [if_neg c44] at H
    have c44b0 : (a1_0 == 6) = false := beq_eq_false_iff_ne.mpr c44
    have c44b1 : (a1_0 != 6) = true := bne_iff_ne.mpr c44
    obtain rfl := Option.some.inj H
    obtain ⟨hcz50_0, hcz50_1, hcz50_2, hcz50_3, hcz50_4, hfz50_0, hfz50_1, hfz50_2, hfz50_3, hfz50_4⟩ := cf5 BK130.out
    go_wp2
    go_ret
    exact ⟨rr, bb HB⟩
   rw [if_pos c44] at H
   have c44b0 : (a1_0 == 6) = true := beq_iff_eq.mpr c44
   have c44b1 : (a1_0 != 6) = false := bne_eq_false_iff_eq.mpr c44
   clear c44
   by_cases c45 : x5_2 = true
   rotate_left
   ·replace c45 := Bool.eq_false_iff.mpr c45
    subst c45
    replace H := fi H
    obtain rfl := Option.some.inj H
    obtain ⟨hcz49_0, hcz49_1, hcz49_2, hcz49_3, hcz49_4, hfz49_0, hfz49_1, hfz49_2, hfz49_3, hfz49_4⟩ := cf5 BK130.out
    go_wp2
    go_ret
    exact ⟨rr, bb HB⟩
   subst c45
   replace H := it H
   by_cases c46 : a1_1 = 0
   rotate_left
   ·rw [if_neg c46] at H
    have c46b0 : (a1_1 == 0) = false := beq_eq_false_iff_ne.mpr c46
    have c46b1 : (a1_1 != 0) = true := bne_iff_ne.mpr c46
    obtain rfl := Option.some.inj H
    obtain ⟨hcz48_0, hcz48_1, hcz48_2, hcz48_3, hcz48_4, hfz48_0, hfz48_1, hfz48_2, hfz48_3, hfz48_4⟩ := cf5 BK130.out
    go_wp2
    go_ret
    exact ⟨rr, bb HB⟩
   rw [if_pos c46] at H
   have c46b0 : (a1_1 == 0) = true := beq_iff_eq.mpr c46
   have c46b1 : (a1_1 != 0) = false := bne_eq_false_iff_eq.mpr c46
   clear c46
   obtain rfl := Option.some.inj H
   obtain ⟨hcz47_0, hcz47_1, hcz47_2, hcz47_3, hcz47_4, hfz47_0, hfz47_1, hfz47_2, hfz47_3, hfz47_4⟩ := cf5 BK130.out
   go_wp2
   go_ret
   exact ⟨rr, bb HB⟩
mutual
def r3_rows.l0 : Nat → Int → List (S42) → List (S57) → Int → Option (Bool)
 | 0, _, _, _, _ => none
 | k + 1, x0, x1, x2, x7 => if x7 < (x2.length : Int) then (if 0 ≤ x7 then ((r3_head.f k x1 ((rd_T57 x2 x7).f0) ((rd_T57 x2 x7).f1) ((rd_T57 x2 x7).f2) ((rd_T57 x2 x7).f3) ((rd_T57 x2 x7).f4)).bind fun t155 => (if t155 = true then ((r3_rows.f k x0 x1 ((rd_T57 x2 x7).f3)).bind fun t157 => (if t157 = true then ((r3_rows.f k x0 x1 ((rd_T57 x2 x7).f4)).bind fun t159 => (r3_rows.j1 k x0 x1 x2 x7 (!t159))) else (r3_rows.j1 k x0 x1 x2 x7 true))) else (r3_rows.j1 k x0 x1 x2 x7 true))) else (none)) else (some true)
def r3_rows.j1 : Nat → Int → List (S42) → List (S57) → Int → Bool → Option (Bool)
 | 0, _, _, _, _, _ => none
 | k + 1, x0, x1, x2, x7, x43 => if x43 = true then (some false) else (r3_rows.l1 k x0 x1 x2 x7 0)
def r3_rows.l1 : Nat → Int → List (S42) → List (S57) → Int → Int → Option (Bool)
 | 0, _, _, _, _, _ => none
 | k + 1, x0, x1, x2, x7, x8 => if 0 ≤ x7 then (if x7 < (x2.length : Int) then (if x8 < (((rd_T57 x2 x7).f2).length : Int) then (if 0 ≤ x8 then ((r2_Is.f k x0 x1 1 ((rd_T52 ((rd_T57 x2 x7).f2) x8).f0) ((rd_T52 ((rd_T57 x2 x7).f2) x8).f1) ((rd_T52 ((rd_T57 x2 x7).f2) x8).f2) ((rd_T52 ((rd_T57 x2 x7).f2) x8).f3)).bind fun t163 => (if t163 = true then (r3_rows.l1 k x0 x1 x2 x7 (wrap64 (x8 + 1))) else (some false))) else (none)) else (r3_rows.l0 k x0 x1 x2 (wrap64 (x7 + 1)))) else (none)) else (none)
def r3_rows.f : Nat → Int → List (S42) → List (S57) → Option (Bool)
 | 0, _, _, _ => none
 | k + 1, a0, l1, l2 => r3_rows.l0 k a0 l1 l2 0
end
theorem r3_rows.calls (k : Nat) : ∀ (a0 : Int) (A1 : Option Addr) (c1 : Nat) (l1 : List (S42)) (A2 : Option Addr) (c2 : Nat) (l2 : List (S57)) (r : Bool) (w : World) (hr1 : Kd.C k42 w A1 l1.length l1) (hc1 : l1.length ≤ c1) (hr2 : Kd.C k57 w A2 l2.length l2) (hc2 : l2.length ≤ c2) (h : r3_rows.f k a0 l1 l2 = some r),
  Calls Try.prog 16 #[.int .i64 a0, .slice A1 l1.length c1, .slice A2 l2.length c2] w fun e w' => e = .returned (.bool r) ∧ Below w.heap.size w w' := by
 induction k using Nat.strongRecOn with
 | _ k ih =>
 intro a0 A1 c1 l1 A2 c2 l2 r w hr1 hc1 hr2 hc2 h
 cases k with
 | zero => exact absurd h (by simp [r3_rows.f])
 | succ k =>
 simp only [r3_rows.f] at h
 have hu57 := Try.underlying57
 have hu52 := Try.underlying52
 have HR1 := Aside0.mk hr1
 have HC1 := Aside0.mk hc1
 clear hr1 hc1
 have HR2 := Aside0.mk hr2
 have HC2 := Aside0.mk hc2
 clear hr2 hc2
 have HB := Aside0.mk (Below.refl w.heap.size w)
 have H : (r3_rows.l0 k a0 l1 l2 0) = some r := h
 clear h
 have H' := Aside0.mk H
 clear H
 go_enter Try.func16, Try.ntmps16
 go_wp2
 go_loopg [7] k (fun kq v7 w' => ∃ (x7_1 : Int), v7 = .int .i64 x7_1 ∧ Aside0 (r3_rows.l0 kq a0 l1 l2 x7_1 = some r) ∧ Aside0 (kq ≤ k) ∧ Aside0 (Below w.heap.size w w'))
 case atStart => exact ⟨(0), rs, H', ⟨Nat.le_refl _⟩, ⟨bb HB⟩⟩
 case round =>
  clear H'
  try clear c1
  try clear c2
  try clear p2
  obtain ⟨x7_1, rfl, HA, HK1, HB⟩ := hrel
  cases gk with
  | zero => exact absurd HA.out (by simp [r3_rows.l0])
  | succ k1 =>
   have H := HA.out
   clear HA
   simp only [r3_rows.l0] at H
   by_cases c4 : x7_1 < (l2.length : Int)
   rotate_left
   ·rw [if_neg c4] at H
    have c4b0 : decide (x7_1 < (l2.length : Int)) = false := decide_eq_false c4
    clear c4
    obtain rfl := Option.some.inj H
    go_wp2
    go_ret
    exact ⟨rr, bb HB⟩
   rw [if_pos c4] at H
   have c4b0 : decide (x7_1 < (l2.length : Int)) = true := decide_eq_true c4
   clear c4
   have HC5 := Aside0.mk H
   clear H
   go_upto_region 4 with (fail)
   go_cut [43] (fun v43 wc => ∃ (kq : Nat) (x43_4 : Bool), v43 = .bool x43_4 ∧ Aside0 (r3_rows.j1 kq a0 l1 l2 x7_1 x43_4 = some r) ∧ Aside0 (kq ≤ k1) ∧ Aside0 (Below w.heap.size w wc))
   case first =>
    have H := HC5.out
    clear HC5
    by_cases c6 : 0 ≤ x7_1
    rotate_left
    ·rw [if_neg c6] at H
     exact absurd H (by simp)
    rw [if_pos c6] at H
    have c6b0 : decide (0 ≤ x7_1) = true := decide_eq_true c6
    clear c6
    (first | rw [c6b0] | (simp only [i64_w, i32_w]; rw [c6b0]) | skip)
    obtain ⟨t155, A7, H⟩ := be H
    by_cases c8 : t155 = true
    rotate_left
    ·replace c8 := Bool.eq_false_iff.mpr c8
     subst c8
     replace H := fi H
     have H' := Aside0.mk H
     clear H
     have p154 : 0 ≤ (x7_1 : Int) := od
     have q154 : x7_1 < (l2.length : Int) := od
     obtain ⟨ad154, A154_2, c154_2, A154_3, c154_3, A154_4, c154_4, e154, hx154_0, hx154_1, hx154_2, hx154_3, hx154_4, hl154_2, hi154_2, hl154_3, hi154_3, hl154_4, hi154_4⟩ := at_T57 HR2.out x7_1 p154 q154
     cases e154
     replace hx154_0 := bcell HB.out hx154_0
     replace hx154_1 := bcell HB.out hx154_1
     replace hx154_2 := bcell HB.out hx154_2
     replace hx154_3 := bcell HB.out hx154_3
     replace hx154_4 := bcell HB.out hx154_4
     have HR154_2 := Aside0.mk hi154_2
     have HC154_2 := Aside0.mk hl154_2
     clear hi154_2 hl154_2
     have HR154_3 := Aside0.mk hi154_3
     have HC154_3 := Aside0.mk hl154_3
     clear hi154_3 hl154_3
     have HR154_4 := Aside0.mk hi154_4
     have HC154_4 := Aside0.mk hl154_4
     clear hi154_4 hl154_4
     replace p154 := eq_true p154
     replace q154 := eq_true q154
     go_wp2_with (first | ((with_reducible refine gate_callee (f := 30) rfl ?_); refine gL (some 20) rfl rfl Try.func30 #[.slice A1 l1.length c1, .agg #[.int .i64 ((rd_T57 l2 x7_1).f0), .int .i64 ((rd_T57 l2 x7_1).f1), .slice A154_2 ((rd_T57 l2 x7_1).f2).length c154_2, .slice A154_3 ((rd_T57 l2 x7_1).f3).length c154_3, .slice A154_4 ((rd_T57 l2 x7_1).f4).length c154_4]] rfl ?_; (with_reducible refine (r3_head.calls k1 _ _ l1 ((rd_T57 l2 x7_1).f0) ((rd_T57 l2 x7_1).f1) _ _ ((rd_T57 l2 x7_1).f2) _ _ ((rd_T57 l2 x7_1).f3) _ _ ((rd_T57 l2 x7_1).f4) false _ ?side1 ?side2 ?side3 ?side4 ?side5 ?side6 ?side7 ?side8 A7.out).mono ?_); (case side1 => exact cb HR1 HB); (case side2 => exact HC1.out); (case side3 => exact cb HR154_2 HB); (case side4 => exact HC154_2.out); (case side5 => exact cb HR154_3 HB); (case side6 => exact HC154_3.out); (case side7 => exact cb HR154_4 HB); (case side8 => exact HC154_4.out); rintro e w17 ⟨rfl, hb⟩; refine ⟨_, rfl, ?_⟩; replace HB := sb HB hb; (try clear hb)))
     go_meet
     case rel => exact ⟨_, (true), rs, H', ⟨by have := HK1.out; first | omega | exact Nat.le_refl _⟩, ⟨bb HB⟩⟩
    subst c8
    replace H := it H
    obtain ⟨t157, A9, H⟩ := be H
    by_cases c10 : t157 = true
    rotate_left
    ·replace c10 := Bool.eq_false_iff.mpr c10
     subst c10
     replace H := fi H
     have H' := Aside0.mk H
     clear H
     have p154 : 0 ≤ (x7_1 : Int) := od
     have q154 : x7_1 < (l2.length : Int) := od
     obtain ⟨ad154, A154_2, c154_2, A154_3, c154_3, A154_4, c154_4, e154, hx154_0, hx154_1, hx154_2, hx154_3, hx154_4, hl154_2, hi154_2, hl154_3, hi154_3, hl154_4, hi154_4⟩ := at_T57 HR2.out x7_1 p154 q154
     cases e154
     replace hx154_0 := bcell HB.out hx154_0
     replace hx154_1 := bcell HB.out hx154_1
     replace hx154_2 := bcell HB.out hx154_2
     replace hx154_3 := bcell HB.out hx154_3
     replace hx154_4 := bcell HB.out hx154_4
     have HR154_2 := Aside0.mk hi154_2
     have HC154_2 := Aside0.mk hl154_2
     clear hi154_2 hl154_2
     have HR154_3 := Aside0.mk hi154_3
     have HC154_3 := Aside0.mk hl154_3
     clear hi154_3 hl154_3
     have HR154_4 := Aside0.mk hi154_4
     have HC154_4 := Aside0.mk hl154_4
     clear hi154_4 hl154_4
     replace p154 := eq_true p154
     replace q154 := eq_true q154
     go_wp2_with (first | ((with_reducible refine gate_callee (f := 30) rfl ?_); refine gL (some 20) rfl rfl Try.func30 #[.slice A1 l1.length c1, .agg #[.int .i64 ((rd_T57 l2 x7_1).f0), .int .i64 ((rd_T57 l2 x7_1).f1), .slice A154_2 ((rd_T57 l2 x7_1).f2).length c154_2, .slice A154_3 ((rd_T57 l2 x7_1).f3).length c154_3, .slice A154_4 ((rd_T57 l2 x7_1).f4).length c154_4]] rfl ?_; (with_reducible refine (r3_head.calls k1 _ _ l1 ((rd_T57 l2 x7_1).f0) ((rd_T57 l2 x7_1).f1) _ _ ((rd_T57 l2 x7_1).f2) _ _ ((rd_T57 l2 x7_1).f3) _ _ ((rd_T57 l2 x7_1).f4) true _ ?side1 ?side2 ?side3 ?side4 ?side5 ?side6 ?side7 ?side8 A7.out).mono ?_); (case side1 => exact cb HR1 HB); (case side2 => exact HC1.out); (case side3 => exact cb HR154_2 HB); (case side4 => exact HC154_2.out); (case side5 => exact cb HR154_3 HB); (case side6 => exact HC154_3.out); (case side7 => exact cb HR154_4 HB); (case side8 => exact HC154_4.out); rintro e w15 ⟨rfl, hb⟩; refine ⟨_, rfl, ?_⟩; replace HB := sb HB hb; (try clear hb); have p156 : 0 ≤ (x7_1 : Int) := od; have q156 : x7_1 < (l2.length : Int) := od; obtain ⟨ad156, A156_2, c156_2, A156_3, c156_3, A156_4, c156_4, e156, hx156_0, hx156_1, hx156_2, hx156_3, hx156_4, hl156_2, hi156_2, hl156_3, hi156_3, hl156_4, hi156_4⟩ := at_T57 HR2.out x7_1 p156 q156; obtain rfl : ad154 = ad156 := (by injection e156); replace hx156_0 := bcell HB.out hx156_0; replace hx156_1 := bcell HB.out hx156_1; replace hx156_2 := bcell HB.out hx156_2; replace hx156_3 := bcell HB.out hx156_3; replace hx156_4 := bcell HB.out hx156_4; have HR156_2 := Aside0.mk hi156_2; have HC156_2 := Aside0.mk hl156_2; clear hi156_2 hl156_2; have HR156_3 := Aside0.mk hi156_3; have HC156_3 := Aside0.mk hl156_3; clear hi156_3 hl156_3; have HR156_4 := Aside0.mk hi156_4; have HC156_4 := Aside0.mk hl156_4; clear hi156_4 hl156_4; replace p156 := eq_true p156; replace q156 := eq_true q156) | (go_at_call 16; (with_reducible refine (ih k1 (by have := HK1.out; omega) a0 _ _ l1 _ _ ((rd_T57 l2 x7_1).f3) false _ ?side1 ?side2 ?side3 ?side4 A9.out).mono ?_); (case side1 => exact cb HR1 HB); (case side2 => exact HC1.out); (case side3 => exact cb HR156_3 HB); (case side4 => exact HC156_3.out); rintro e w16 ⟨rfl, hb⟩; replace HB := sb HB hb; (try clear hb)))
     go_meet
     case rel => exact ⟨_, (true), rs, H', ⟨by have := HK1.out; first | omega | exact Nat.le_refl _⟩, ⟨bb HB⟩⟩
    subst c10
    replace H := it H
    obtain ⟨t159, A11, H⟩ := be H
    have H' := Aside0.mk H
    clear H
    have p154 : 0 ≤ (x7_1 : Int) := od
    have q154 : x7_1 < (l2.length : Int) := od
    obtain ⟨ad154, A154_2, c154_2, A154_3, c154_3, A154_4, c154_4, e154, hx154_0, hx154_1, hx154_2, hx154_3, hx154_4, hl154_2, hi154_2, hl154_3, hi154_3, hl154_4, hi154_4⟩ := at_T57 HR2.out x7_1 p154 q154
    cases e154
    replace hx154_0 := bcell HB.out hx154_0
    replace hx154_1 := bcell HB.out hx154_1
    replace hx154_2 := bcell HB.out hx154_2
    replace hx154_3 := bcell HB.out hx154_3
    replace hx154_4 := bcell HB.out hx154_4
    have HR154_2 := Aside0.mk hi154_2
    have HC154_2 := Aside0.mk hl154_2
    clear hi154_2 hl154_2
    have HR154_3 := Aside0.mk hi154_3
    have HC154_3 := Aside0.mk hl154_3
    clear hi154_3 hl154_3
    have HR154_4 := Aside0.mk hi154_4
    have HC154_4 := Aside0.mk hl154_4
    clear hi154_4 hl154_4
    replace p154 := eq_true p154
    replace q154 := eq_true q154
    go_wp2_with (first | ((with_reducible refine gate_callee (f := 30) rfl ?_); refine gL (some 20) rfl rfl Try.func30 #[.slice A1 l1.length c1, .agg #[.int .i64 ((rd_T57 l2 x7_1).f0), .int .i64 ((rd_T57 l2 x7_1).f1), .slice A154_2 ((rd_T57 l2 x7_1).f2).length c154_2, .slice A154_3 ((rd_T57 l2 x7_1).f3).length c154_3, .slice A154_4 ((rd_T57 l2 x7_1).f4).length c154_4]] rfl ?_; (with_reducible refine (r3_head.calls k1 _ _ l1 ((rd_T57 l2 x7_1).f0) ((rd_T57 l2 x7_1).f1) _ _ ((rd_T57 l2 x7_1).f2) _ _ ((rd_T57 l2 x7_1).f3) _ _ ((rd_T57 l2 x7_1).f4) true _ ?side1 ?side2 ?side3 ?side4 ?side5 ?side6 ?side7 ?side8 A7.out).mono ?_); (case side1 => exact cb HR1 HB); (case side2 => exact HC1.out); (case side3 => exact cb HR154_2 HB); (case side4 => exact HC154_2.out); (case side5 => exact cb HR154_3 HB); (case side6 => exact HC154_3.out); (case side7 => exact cb HR154_4 HB); (case side8 => exact HC154_4.out); rintro e w12 ⟨rfl, hb⟩; refine ⟨_, rfl, ?_⟩; replace HB := sb HB hb; (try clear hb); have p156 : 0 ≤ (x7_1 : Int) := od; have q156 : x7_1 < (l2.length : Int) := od; obtain ⟨ad156, A156_2, c156_2, A156_3, c156_3, A156_4, c156_4, e156, hx156_0, hx156_1, hx156_2, hx156_3, hx156_4, hl156_2, hi156_2, hl156_3, hi156_3, hl156_4, hi156_4⟩ := at_T57 HR2.out x7_1 p156 q156; obtain rfl : ad154 = ad156 := (by injection e156); replace hx156_0 := bcell HB.out hx156_0; replace hx156_1 := bcell HB.out hx156_1; replace hx156_2 := bcell HB.out hx156_2; replace hx156_3 := bcell HB.out hx156_3; replace hx156_4 := bcell HB.out hx156_4; have HR156_2 := Aside0.mk hi156_2; have HC156_2 := Aside0.mk hl156_2; clear hi156_2 hl156_2; have HR156_3 := Aside0.mk hi156_3; have HC156_3 := Aside0.mk hl156_3; clear hi156_3 hl156_3; have HR156_4 := Aside0.mk hi156_4; have HC156_4 := Aside0.mk hl156_4; clear hi156_4 hl156_4; replace p156 := eq_true p156; replace q156 := eq_true q156) | (go_at_call 16; (with_reducible refine (ih k1 (by have := HK1.out; omega) a0 _ _ l1 _ _ ((rd_T57 l2 x7_1).f3) true _ ?side1 ?side2 ?side3 ?side4 A9.out).mono ?_); (case side1 => exact cb HR1 HB); (case side2 => exact HC1.out); (case side3 => exact cb HR156_3 HB); (case side4 => exact HC156_3.out); rintro e w13 ⟨rfl, hb⟩; replace HB := sb HB hb; (try clear hb); have p158 : 0 ≤ (x7_1 : Int) := od; have q158 : x7_1 < (l2.length : Int) := od; obtain ⟨ad158, A158_2, c158_2, A158_3, c158_3, A158_4, c158_4, e158, hx158_0, hx158_1, hx158_2, hx158_3, hx158_4, hl158_2, hi158_2, hl158_3, hi158_3, hl158_4, hi158_4⟩ := at_T57 HR2.out x7_1 p158 q158; obtain rfl : ad154 = ad158 := (by injection e158); replace hx158_0 := bcell HB.out hx158_0; replace hx158_1 := bcell HB.out hx158_1; replace hx158_2 := bcell HB.out hx158_2; replace hx158_3 := bcell HB.out hx158_3; replace hx158_4 := bcell HB.out hx158_4; have HR158_2 := Aside0.mk hi158_2; have HC158_2 := Aside0.mk hl158_2; clear hi158_2 hl158_2; have HR158_3 := Aside0.mk hi158_3; have HC158_3 := Aside0.mk hl158_3; clear hi158_3 hl158_3; have HR158_4 := Aside0.mk hi158_4; have HC158_4 := Aside0.mk hl158_4; clear hi158_4 hl158_4; replace p158 := eq_true p158; replace q158 := eq_true q158) | (go_at_call 16; (with_reducible refine (ih k1 (by have := HK1.out; omega) a0 _ _ l1 _ _ ((rd_T57 l2 x7_1).f4) t159 _ ?side1 ?side2 ?side3 ?side4 A11.out).mono ?_); (case side1 => exact cb HR1 HB); (case side2 => exact HC1.out); (case side3 => exact cb HR158_4 HB); (case side4 => exact HC158_4.out); rintro e w14 ⟨rfl, hb⟩; replace HB := sb HB hb; (try clear hb)))
    go_meet
    case rel => exact ⟨_, (!t159), rs, H', ⟨by have := HK1.out; first | omega | exact Nat.le_refl _⟩, ⟨bb HB⟩⟩
   case rest =>
    clear HC5
    try clear c1
    try clear p1
    try clear q1
    try clear hx1
    try clear c2
    try clear p2
    try clear c3
    try clear c4
    try clear c4b0
    try clear c6
    try clear c6b0
    try clear c8
    try clear c10
    try clear c15
    try clear p15
    try clear q15
    try clear hx15
    try clear c16
    try clear hx154_0
    try clear hx154_1
    try clear hx154_2
    try clear hx154_3
    try clear hx154_4
    try clear hx156_0
    try clear hx156_1
    try clear hx156_2
    try clear hx156_3
    try clear hx156_4
    try clear hx158_0
    try clear hx158_1
    try clear hx158_2
    try clear hx158_3
    try clear hx158_4
    try clear p154
    try clear p156
    try clear p158
    try clear p2
    try clear q154
    try clear q156
    try clear q158
    obtain ⟨kq, x43_4, rfl, HA, HJ4, HB⟩ := hcut
    cases kq with
    | zero => exact absurd HA.out (by simp [r3_rows.j1])
    | succ kj4 =>
     have H := HA.out
     clear HA
     simp only [r3_rows.j1] at H
     by_cases c18 : x43_4 = true
     ·subst c18
      replace H := it H
      obtain rfl := Option.some.inj H
      go_wp2
      go_ret
      exact ⟨rr, bb HB⟩
     replace c18 := Bool.eq_false_iff.mpr c18
     subst c18
     replace H := fi H
     have H' := Aside0.mk H
     clear H
     go_wp2
     go_loopg [8] kj4 (fun kq v8 w' => ∃ (x8_3 : Int), v8 = .int .i64 x8_3 ∧ Aside0 (r3_rows.l1 kq a0 l1 l2 x7_1 x8_3 = some r) ∧ Aside0 (kq ≤ kj4) ∧ Aside0 (Below w.heap.size w w'))
     case atStart => exact ⟨(0), rs, H', ⟨Nat.le_refl _⟩, ⟨bb HB⟩⟩
     case round =>
      clear H'
      try clear c1
      try clear p1
      try clear q1
      try clear hx1
      try clear c2
      try clear p2
      try clear c3
      try clear c4
      try clear c4b0
      try clear c6
      try clear c6b0
      try clear c8
      try clear c10
      try clear c15
      try clear p15
      try clear q15
      try clear hx15
      try clear c16
      try clear c18
      try clear hx154_0
      try clear hx154_1
      try clear hx154_2
      try clear hx154_3
      try clear hx154_4
      try clear hx156_0
      try clear hx156_1
      try clear hx156_2
      try clear hx156_3
      try clear hx156_4
      try clear hx158_0
      try clear hx158_1
      try clear hx158_2
      try clear hx158_3
      try clear hx158_4
      try clear p1
      try clear p15
      try clear p154
      try clear p156
      try clear p158
      try clear p2
      try clear q1
      try clear q15
      try clear q154
      try clear q156
      try clear q158
      obtain ⟨x8_3, rfl, HA, HK3, HB⟩ := hrel
      cases gk with
      | zero => exact absurd HA.out (by simp [r3_rows.l1])
      | succ k3 =>
       have H := HA.out
       clear HA
       simp only [r3_rows.l1] at H
       by_cases c19 : 0 ≤ x7_1
       rotate_left
       ·rw [if_neg c19] at H
        exact absurd H (by simp)
       rw [if_pos c19] at H
       have c19b0 : decide (0 ≤ x7_1) = true := decide_eq_true c19
       clear c19
       by_cases c20 : x7_1 < (l2.length : Int)
       rotate_left
       ·rw [if_neg c20] at H
        exact absurd H (by simp)
       rw [if_pos c20] at H
       have c20b0 : decide (x7_1 < (l2.length : Int)) = true := decide_eq_true c20
       clear c20
       by_cases c21 : x8_3 < (((rd_T57 l2 x7_1).f2).length : Int)
       rotate_left
       ·rw [if_neg c21] at H
        have c21b0 : decide (x8_3 < (((rd_T57 l2 x7_1).f2).length : Int)) = false := decide_eq_false c21
        clear c21
        have H' := Aside0.mk H
        clear H
        have p160 : 0 ≤ (x7_1 : Int) := od
        have q160 : x7_1 < (l2.length : Int) := od
        obtain ⟨ad160, A160_2, c160_2, A160_3, c160_3, A160_4, c160_4, e160, hx160_0, hx160_1, hx160_2, hx160_3, hx160_4, hl160_2, hi160_2, hl160_3, hi160_3, hl160_4, hi160_4⟩ := at_T57 HR2.out x7_1 p160 q160
        cases e160
        replace hx160_0 := bcell HB.out hx160_0
        replace hx160_1 := bcell HB.out hx160_1
        replace hx160_2 := bcell HB.out hx160_2
        replace hx160_3 := bcell HB.out hx160_3
        replace hx160_4 := bcell HB.out hx160_4
        have HR160_2 := Aside0.mk hi160_2
        have HC160_2 := Aside0.mk hl160_2
        clear hi160_2 hl160_2
        have HR160_3 := Aside0.mk hi160_3
        have HC160_3 := Aside0.mk hl160_3
        clear hi160_3 hl160_3
        have HR160_4 := Aside0.mk hi160_4
        have HC160_4 := Aside0.mk hl160_4
        clear hi160_4 hl160_4
        replace p160 := eq_true p160
        replace q160 := eq_true q160
        go_wp2
        go_roundg k3
        case measure => have := HK1.out; have := HJ4.out; have := HK3.out; omega
        case rel => exact ⟨(wrap64 (x7_1 + 1)), rs, H', ⟨by have := HK1.out; have := HJ4.out; have := HK3.out; omega⟩, ⟨bb HB⟩⟩
       rw [if_pos c21] at H
       have c21b0 : decide (x8_3 < (((rd_T57 l2 x7_1).f2).length : Int)) = true := decide_eq_true c21
       clear c21
       by_cases c22 : 0 ≤ x8_3
       rotate_left
       ·rw [if_neg c22] at H
        exact absurd H (by simp)
       rw [if_pos c22] at H
       have c22b0 : decide (0 ≤ x8_3) = true := decide_eq_true c22
       clear c22
       obtain ⟨t163, A23, H⟩ := be H
       by_cases c24 : t163 = true
       rotate_left
       ·replace c24 := Bool.eq_false_iff.mpr c24
        subst c24
        replace H := fi H
        obtain rfl := Option.some.inj H
        have p160 : 0 ≤ (x7_1 : Int) := od
        have q160 : x7_1 < (l2.length : Int) := od
        obtain ⟨ad160, A160_2, c160_2, A160_3, c160_3, A160_4, c160_4, e160, hx160_0, hx160_1, hx160_2, hx160_3, hx160_4, hl160_2, hi160_2, hl160_3, hi160_3, hl160_4, hi160_4⟩ := at_T57 HR2.out x7_1 p160 q160
        cases e160
        replace hx160_0 := bcell HB.out hx160_0
        replace hx160_1 := bcell HB.out hx160_1
        replace hx160_2 := bcell HB.out hx160_2
        replace hx160_3 := bcell HB.out hx160_3
        replace hx160_4 := bcell HB.out hx160_4
        have HR160_2 := Aside0.mk hi160_2
        have HC160_2 := Aside0.mk hl160_2
        clear hi160_2 hl160_2
        have HR160_3 := Aside0.mk hi160_3
        have HC160_3 := Aside0.mk hl160_3
        clear hi160_3 hl160_3
        have HR160_4 := Aside0.mk hi160_4
        have HC160_4 := Aside0.mk hl160_4
        clear hi160_4 hl160_4
        replace p160 := eq_true p160
        replace q160 := eq_true q160
        have p162 : 0 ≤ (x8_3 : Int) := od
        have q162 : x8_3 < (((rd_T57 l2 x7_1).f2).length : Int) := od
        obtain ⟨ad162, A162_3, c162_3, e162, hx162_0, hx162_1, hx162_2, hx162_3, hl162_3, hi162_3⟩ := at_T52 HR160_2.out x8_3 p162 q162
        cases e162
        replace hx162_0 := bcell HB.out hx162_0
        replace hx162_1 := bcell HB.out hx162_1
        replace hx162_2 := bcell HB.out hx162_2
        replace hx162_3 := bcell HB.out hx162_3
        have HR162_3 := Aside0.mk hi162_3
        have HC162_3 := Aside0.mk hl162_3
        clear hi162_3 hl162_3
        replace p162 := eq_true p162
        replace q162 := eq_true q162
        go_wp2_with (first | ((with_reducible refine gate_callee (f := 31) rfl ?_); refine gL (some 64) rfl rfl Try.func31 #[.int .i64 a0, .slice A1 l1.length c1, .int .i64 1, .agg #[.int .i64 ((rd_T52 ((rd_T57 l2 x7_1).f2) x8_3).f0), .int .i64 ((rd_T52 ((rd_T57 l2 x7_1).f2) x8_3).f1), .int .i64 ((rd_T52 ((rd_T57 l2 x7_1).f2) x8_3).f2), .slice A162_3 ((rd_T52 ((rd_T57 l2 x7_1).f2) x8_3).f3).length c162_3]] rfl ?_; (with_reducible refine (r2_Is.calls k3 a0 _ _ l1 1 ((rd_T52 ((rd_T57 l2 x7_1).f2) x8_3).f0) ((rd_T52 ((rd_T57 l2 x7_1).f2) x8_3).f1) ((rd_T52 ((rd_T57 l2 x7_1).f2) x8_3).f2) _ _ ((rd_T52 ((rd_T57 l2 x7_1).f2) x8_3).f3) false _ ?side1 ?side2 ?side3 ?side4 A23.out).mono ?_); (case side1 => exact cb HR1 HB); (case side2 => exact HC1.out); (case side3 => exact cb HR162_3 HB); (case side4 => exact HC162_3.out); rintro e w26 ⟨rfl, hb⟩; refine ⟨_, rfl, ?_⟩; replace HB := sb HB hb; (try clear hb)))
        go_ret
        exact ⟨rr, bb HB⟩
       subst c24
       replace H := it H
       have H' := Aside0.mk H
       clear H
       have p160 : 0 ≤ (x7_1 : Int) := od
       have q160 : x7_1 < (l2.length : Int) := od
       obtain ⟨ad160, A160_2, c160_2, A160_3, c160_3, A160_4, c160_4, e160, hx160_0, hx160_1, hx160_2, hx160_3, hx160_4, hl160_2, hi160_2, hl160_3, hi160_3, hl160_4, hi160_4⟩ := at_T57 HR2.out x7_1 p160 q160
       cases e160
       replace hx160_0 := bcell HB.out hx160_0
       replace hx160_1 := bcell HB.out hx160_1
       replace hx160_2 := bcell HB.out hx160_2
       replace hx160_3 := bcell HB.out hx160_3
       replace hx160_4 := bcell HB.out hx160_4
       have HR160_2 := Aside0.mk hi160_2
       have HC160_2 := Aside0.mk hl160_2
       clear hi160_2 hl160_2
       have HR160_3 := Aside0.mk hi160_3
       have HC160_3 := Aside0.mk hl160_3
       clear hi160_3 hl160_3
       have HR160_4 := Aside0.mk hi160_4
       have HC160_4 := Aside0.mk hl160_4
       clear hi160_4 hl160_4
       replace p160 := eq_true p160
       replace q160 := eq_true q160
       have p162 : 0 ≤ (x8_3 : Int) := od
       have q162 : x8_3 < (((rd_T57 l2 x7_1).f2).length : Int) := od
       obtain ⟨ad162, A162_3, c162_3, e162, hx162_0, hx162_1, hx162_2, hx162_3, hl162_3, hi162_3⟩ := at_T52 HR160_2.out x8_3 p162 q162
       cases e162
       replace hx162_0 := bcell HB.out hx162_0
       replace hx162_1 := bcell HB.out hx162_1
       replace hx162_2 := bcell HB.out hx162_2
       replace hx162_3 := bcell HB.out hx162_3
       have HR162_3 := Aside0.mk hi162_3
       have HC162_3 := Aside0.mk hl162_3
       clear hi162_3 hl162_3
       replace p162 := eq_true p162
       replace q162 := eq_true q162
       go_wp2_with (first | ((with_reducible refine gate_callee (f := 31) rfl ?_); refine gL (some 64) rfl rfl Try.func31 #[.int .i64 a0, .slice A1 l1.length c1, .int .i64 1, .agg #[.int .i64 ((rd_T52 ((rd_T57 l2 x7_1).f2) x8_3).f0), .int .i64 ((rd_T52 ((rd_T57 l2 x7_1).f2) x8_3).f1), .int .i64 ((rd_T52 ((rd_T57 l2 x7_1).f2) x8_3).f2), .slice A162_3 ((rd_T52 ((rd_T57 l2 x7_1).f2) x8_3).f3).length c162_3]] rfl ?_; (with_reducible refine (r2_Is.calls k3 a0 _ _ l1 1 ((rd_T52 ((rd_T57 l2 x7_1).f2) x8_3).f0) ((rd_T52 ((rd_T57 l2 x7_1).f2) x8_3).f1) ((rd_T52 ((rd_T57 l2 x7_1).f2) x8_3).f2) _ _ ((rd_T52 ((rd_T57 l2 x7_1).f2) x8_3).f3) true _ ?side1 ?side2 ?side3 ?side4 A23.out).mono ?_); (case side1 => exact cb HR1 HB); (case side2 => exact HC1.out); (case side3 => exact cb HR162_3 HB); (case side4 => exact HC162_3.out); rintro e w25 ⟨rfl, hb⟩; refine ⟨_, rfl, ?_⟩; replace HB := sb HB hb; (try clear hb)))
       go_roundg k3
       case measure => have := HK1.out; have := HJ4.out; have := HK3.out; omega
       case rel => exact ⟨(wrap64 (x8_3 + 1)), rs, H', ⟨by have := HK1.out; have := HJ4.out; have := HK3.out; omega⟩, ⟨bb HB⟩⟩
def r3_Is.f (k : Nat) (a0_0 : Int) (l0_1 : List (S42)) (l0_2 : List (S57)) : Option (Bool) := (r2_Heading.f k a0_0 l0_1).bind fun t165 => (if t165 = true then ((r3_Fits.f k l0_2 400).bind fun t166 => (if t166 = true then ((r3_Depth.f k l0_2).bind fun t167 => (if t167 ≤ 16 then ((r3_rows.f k a0_0 l0_1 l0_2).bind fun t168 => (some t168)) else (some false))) else (some false))) else (some false))
theorem r3_Is.calls (k : Nat) (a0_0 : Int) (A0_1 : Option Addr) (c0_1 : Nat) (l0_1 : List (S42)) (A0_2 : Option Addr) (c0_2 : Nat) (l0_2 : List (S57)) (r : Bool) (w : World) (hr0_1 : Kd.C k42 w A0_1 l0_1.length l0_1) (hc0_1 : l0_1.length ≤ c0_1) (hr0_2 : Kd.C k57 w A0_2 l0_2.length l0_2) (hc0_2 : l0_2.length ≤ c0_2) (h : r3_Is.f k a0_0 l0_1 l0_2 = some r) :
  Calls Try.prog 4 #[.agg #[.int .i64 a0_0, .slice A0_1 l0_1.length c0_1, .slice A0_2 l0_2.length c0_2]] w fun e w' => e = .returned (.bool r) ∧ Below w.heap.size w w' := by
 have hu25 := Try.underlying25
 have HR0_1 := Aside0.mk hr0_1
 have HC0_1 := Aside0.mk hc0_1
 clear hr0_1 hc0_1
 have HR0_2 := Aside0.mk hr0_2
 have HC0_2 := Aside0.mk hc0_2
 clear hr0_2 hc0_2
 have HB := Aside0.mk (Below.refl w.heap.size w)
 have H : ((r2_Heading.f k a0_0 l0_1).bind fun t165 => (if t165 = true then ((r3_Fits.f k l0_2 400).bind fun t166 => (if t166 = true then ((r3_Depth.f k l0_2).bind fun t167 => (if t167 ≤ 16 then ((r3_rows.f k a0_0 l0_1 l0_2).bind fun t168 => (some t168)) else (some false))) else (some false))) else (some false))) = some r := h
 clear h
 obtain ⟨t165, A2, H⟩ := be H
 by_cases c3 : t165 = true
 rotate_left
 ·replace c3 := Bool.eq_false_iff.mpr c3
  subst c3
  replace H := fi H
  obtain rfl := Option.some.inj H
  go_enter Try.func4, Try.ntmps4
  go_wp2_with (first | ((with_reducible refine gate_dst (N := 1) rfl ?_); refine bx 1 rfl rfl #[.int .i64 a0_0, .slice A0_1 l0_1.length c0_1, .slice A0_2 l0_2.length c0_2] 25 ?_; intro gb164 hg w30 hbox hb; have BK164 := Aside0.mk (hbox); have GE164 := ge HB hg; replace HB := sb HB hb; clear hb hbox hg; obtain ⟨hcz31_0, hcz31_1, hcz31_2, hfz31_0, hfz31_1, hfz31_2⟩ := cf3 BK164.out) | ((with_reducible refine gate_callee (f := 13) rfl ?_); refine gL (some 7) rfl rfl Try.func13 #[.int .i64 a0_0, .slice A0_1 l0_1.length c0_1] rfl ?_; (with_reducible refine (r2_Heading.calls k a0_0 _ _ l0_1 false _ ?side1 ?side2 A2.out).mono ?_); (case side1 => exact cb HR0_1 HB); (case side2 => exact HC0_1.out); rintro e w32 ⟨rfl, hb⟩; refine ⟨_, rfl, ?_⟩; replace BK164 := kb BK164 hb; replace HB := sb HB hb; (try clear hb)))
  go_ret
  exact ⟨rr, bb HB⟩
 subst c3
 replace H := it H
 obtain ⟨t166, A4, H⟩ := be H
 by_cases c5 : t166 = true
 rotate_left
 ·replace c5 := Bool.eq_false_iff.mpr c5
  subst c5
  replace H := fi H
  obtain rfl := Option.some.inj H
  go_enter Try.func4, Try.ntmps4
  go_wp2_with (first | ((with_reducible refine gate_dst (N := 1) rfl ?_); refine bx 1 rfl rfl #[.int .i64 a0_0, .slice A0_1 l0_1.length c0_1, .slice A0_2 l0_2.length c0_2] 25 ?_; intro gb164 hg w25 hbox hb; have BK164 := Aside0.mk (hbox); have GE164 := ge HB hg; replace HB := sb HB hb; clear hb hbox hg; obtain ⟨hcz26_0, hcz26_1, hcz26_2, hfz26_0, hfz26_1, hfz26_2⟩ := cf3 BK164.out) | ((with_reducible refine gate_callee (f := 13) rfl ?_); refine gL (some 7) rfl rfl Try.func13 #[.int .i64 a0_0, .slice A0_1 l0_1.length c0_1] rfl ?_; (with_reducible refine (r2_Heading.calls k a0_0 _ _ l0_1 true _ ?side1 ?side2 A2.out).mono ?_); (case side1 => exact cb HR0_1 HB); (case side2 => exact HC0_1.out); rintro e w27 ⟨rfl, hb⟩; refine ⟨_, rfl, ?_⟩; replace BK164 := kb BK164 hb; replace HB := sb HB hb; (try clear hb); obtain ⟨hcz28_0, hcz28_1, hcz28_2, hfz28_0, hfz28_1, hfz28_2⟩ := cf3 BK164.out) | (go_at_call 14; (with_reducible refine (r3_Fits.calls k _ _ l0_2 400 false _ ?side1 ?side2 A4.out).mono ?_); (case side1 => exact cb HR0_2 HB); (case side2 => exact HC0_2.out); rintro e w29 ⟨rfl, hb⟩; replace BK164 := kb BK164 hb; replace HB := sb HB hb; (try clear hb)))
  go_ret
  exact ⟨rr, bb HB⟩
 subst c5
 replace H := it H
 obtain ⟨t167, A6, H⟩ := be H
 by_cases c7 : t167 ≤ 16
 rotate_left
 ·rw [if_neg c7] at H
  have c7b0 : decide (t167 ≤ 16) = false := decide_eq_false c7
  clear c7
  obtain rfl := Option.some.inj H
  go_enter Try.func4, Try.ntmps4
  go_wp2_with (first | ((with_reducible refine gate_dst (N := 1) rfl ?_); refine bx 1 rfl rfl #[.int .i64 a0_0, .slice A0_1 l0_1.length c0_1, .slice A0_2 l0_2.length c0_2] 25 ?_; intro gb164 hg w18 hbox hb; have BK164 := Aside0.mk (hbox); have GE164 := ge HB hg; replace HB := sb HB hb; clear hb hbox hg; obtain ⟨hcz19_0, hcz19_1, hcz19_2, hfz19_0, hfz19_1, hfz19_2⟩ := cf3 BK164.out) | ((with_reducible refine gate_callee (f := 13) rfl ?_); refine gL (some 7) rfl rfl Try.func13 #[.int .i64 a0_0, .slice A0_1 l0_1.length c0_1] rfl ?_; (with_reducible refine (r2_Heading.calls k a0_0 _ _ l0_1 true _ ?side1 ?side2 A2.out).mono ?_); (case side1 => exact cb HR0_1 HB); (case side2 => exact HC0_1.out); rintro e w20 ⟨rfl, hb⟩; refine ⟨_, rfl, ?_⟩; replace BK164 := kb BK164 hb; replace HB := sb HB hb; (try clear hb); obtain ⟨hcz21_0, hcz21_1, hcz21_2, hfz21_0, hfz21_1, hfz21_2⟩ := cf3 BK164.out) | (go_at_call 14; (with_reducible refine (r3_Fits.calls k _ _ l0_2 400 true _ ?side1 ?side2 A4.out).mono ?_); (case side1 => exact cb HR0_2 HB); (case side2 => exact HC0_2.out); rintro e w22 ⟨rfl, hb⟩; replace BK164 := kb BK164 hb; replace HB := sb HB hb; (try clear hb); obtain ⟨hcz23_0, hcz23_1, hcz23_2, hfz23_0, hfz23_1, hfz23_2⟩ := cf3 BK164.out) | (go_at_call 15; (with_reducible refine (r3_Depth.calls k _ _ l0_2 t167 _ ?side1 ?side2 A6.out).mono ?_); (case side1 => exact cb HR0_2 HB); (case side2 => exact HC0_2.out); rintro e w24 ⟨rfl, hb⟩; replace BK164 := kb BK164 hb; replace HB := sb HB hb; (try clear hb)))
  go_ret
  exact ⟨rr, bb HB⟩
 rw [if_pos c7] at H
 have c7b0 : decide (t167 ≤ 16) = true := decide_eq_true c7
 clear c7
 obtain ⟨t168, A8, H⟩ := be H
 obtain rfl := Option.some.inj H
 go_enter Try.func4, Try.ntmps4
 go_wp2_with (first | ((with_reducible refine gate_dst (N := 1) rfl ?_); refine bx 1 rfl rfl #[.int .i64 a0_0, .slice A0_1 l0_1.length c0_1, .slice A0_2 l0_2.length c0_2] 25 ?_; intro gb164 hg w9 hbox hb; have BK164 := Aside0.mk (hbox); have GE164 := ge HB hg; replace HB := sb HB hb; clear hb hbox hg; obtain ⟨hcz10_0, hcz10_1, hcz10_2, hfz10_0, hfz10_1, hfz10_2⟩ := cf3 BK164.out) | ((with_reducible refine gate_callee (f := 13) rfl ?_); refine gL (some 7) rfl rfl Try.func13 #[.int .i64 a0_0, .slice A0_1 l0_1.length c0_1] rfl ?_; (with_reducible refine (r2_Heading.calls k a0_0 _ _ l0_1 true _ ?side1 ?side2 A2.out).mono ?_); (case side1 => exact cb HR0_1 HB); (case side2 => exact HC0_1.out); rintro e w11 ⟨rfl, hb⟩; refine ⟨_, rfl, ?_⟩; replace BK164 := kb BK164 hb; replace HB := sb HB hb; (try clear hb); obtain ⟨hcz12_0, hcz12_1, hcz12_2, hfz12_0, hfz12_1, hfz12_2⟩ := cf3 BK164.out) | (go_at_call 14; (with_reducible refine (r3_Fits.calls k _ _ l0_2 400 true _ ?side1 ?side2 A4.out).mono ?_); (case side1 => exact cb HR0_2 HB); (case side2 => exact HC0_2.out); rintro e w13 ⟨rfl, hb⟩; replace BK164 := kb BK164 hb; replace HB := sb HB hb; (try clear hb); obtain ⟨hcz14_0, hcz14_1, hcz14_2, hfz14_0, hfz14_1, hfz14_2⟩ := cf3 BK164.out) | (go_at_call 15; (with_reducible refine (r3_Depth.calls k _ _ l0_2 t167 _ ?side1 ?side2 A6.out).mono ?_); (case side1 => exact cb HR0_2 HB); (case side2 => exact HC0_2.out); rintro e w15 ⟨rfl, hb⟩; replace BK164 := kb BK164 hb; replace HB := sb HB hb; (try clear hb); obtain ⟨hcz16_0, hcz16_1, hcz16_2, hfz16_0, hfz16_1, hfz16_2⟩ := cf3 BK164.out) | (go_at_call 16; (with_reducible refine (r3_rows.calls k a0_0 _ _ l0_1 _ _ l0_2 t168 _ ?side1 ?side2 ?side3 ?side4 A8.out).mono ?_); (case side1 => exact cb HR0_1 HB); (case side2 => exact HC0_1.out); (case side3 => exact cb HR0_2 HB); (case side4 => exact HC0_2.out); rintro e w17 ⟨rfl, hb⟩; replace BK164 := kb BK164 hb; replace HB := sb HB hb; (try clear hb)))
 go_ret
 exact ⟨rr, bb HB⟩
theorem S_ind {P : S57 → Prop} {Q : List S57 → Prop} (node : ∀ a b l t e, Q t → Q e → P ⟨a, b, l, t, e⟩) (nil : Q []) (cons : ∀ x r, P x → Q r → Q (x :: r)) : (∀ x, P x) ∧ (∀ l, Q l) :=
  ⟨fun x => S57.rec (motive_1 := P) (motive_2 := Q) node nil cons x, fun l => S57.rec_1 (motive_1 := P) (motive_2 := Q) node nil cons l⟩
mutual
def sN : S57 → Nat
  | ⟨_, _, a, t, e⟩ => 1 + eNs a + sNs t + sNs e
def sNs : List S57 → Nat
  | [] => 0
  | x :: r => sN x + sNs r
end
mutual
def sC : S57 → Nat
  | ⟨_, _, _, t, e⟩ => 1 + sCs t + sCs e
def sCs : List S57 → Nat
  | [] => 0
  | x :: r => sC x + sCs r
end
mutual
def sD : S57 → Nat
  | ⟨_, _, _, t, e⟩ => 1 + max (sDs t) (sDs e)
def sDs : List S57 → Nat
  | [] => 0
  | x :: r => max (sD x) (sDs r)
end
theorem sN_eq (x : S57) : sN x = 1 + eNs x.f2 + sNs x.f3 + sNs x.f4 := by cases x; simp only [sN]
theorem sC_eq (x : S57) : sC x = 1 + sCs x.f3 + sCs x.f4 := by cases x; simp only [sC]
theorem sD_eq (x : S57) : sD x = 1 + max (sDs x.f3) (sDs x.f4) := by cases x; simp only [sD]
theorem sNs_nil : sNs [] = 0 := by simp only [sNs]
theorem sCs_nil : sCs [] = 0 := by simp only [sCs]
theorem sDs_nil : sDs [] = 0 := by simp only [sDs]
theorem sNs_cons (x : S57) (r : List S57) : sNs (x :: r) = sN x + sNs r := by simp only [sNs]
theorem sCs_cons (x : S57) (r : List S57) : sCs (x :: r) = sC x + sCs r := by simp only [sCs]
theorem sDs_cons (x : S57) (r : List S57) : sDs (x :: r) = max (sD x) (sDs r) := by simp only [sDs]
theorem eNs_nil : eNs [] = 0 := by simp only [eNs]
theorem eNs_cons (x : S52) (r : List S52) : eNs (x :: r) = eN x + eNs r := by simp only [eNs]
theorem s_le : (∀ x, sC x ≤ sN x ∧ sD x ≤ sN x) ∧ (∀ l, sCs l ≤ sNs l ∧ sDs l ≤ sNs l) := by
  refine S_ind (fun a b l t e h1 h2 => ?_) ⟨by rw [sCs_nil]; omega, by rw [sDs_nil]; omega⟩ (fun x r h1 h2 => ?_)
  · rw [sC_eq, sD_eq, sN_eq]
    simp only
    omega
  · rw [sCs_cons, sDs_cons, sNs_cons]
    omega
def goodS : S57 → Prop := S57.rec (motive_1 := fun _ => Prop) (motive_2 := fun _ => Prop) (fun _ _ a t e p q => (a.length ≤ 9223372036854775807 ∧ goodEs a) ∧ (t.length ≤ 9223372036854775807 ∧ p) ∧ (e.length ≤ 9223372036854775807 ∧ q)) True (fun _ _ p q => p ∧ q)
def goodSs : List S57 → Prop := S57.rec_1 (motive_1 := fun _ => Prop) (motive_2 := fun _ => Prop) (fun _ _ a t e p q => (a.length ≤ 9223372036854775807 ∧ goodEs a) ∧ (t.length ≤ 9223372036854775807 ∧ p) ∧ (e.length ≤ 9223372036854775807 ∧ q)) True (fun _ _ p q => p ∧ q)
theorem goodS_mk (a b : Int) (l : List S52) (t e : List S57) : goodS ⟨a, b, l, t, e⟩ = ((l.length ≤ 9223372036854775807 ∧ goodEs l) ∧ (t.length ≤ 9223372036854775807 ∧ goodSs t) ∧ (e.length ≤ 9223372036854775807 ∧ goodSs e)) := rfl
theorem goodSs_cons (x : S57) (r : List S57) : goodSs (x :: r) = (goodS x ∧ goodSs r) := rfl
theorem goodS_eq (x : S57) : goodS x = ((x.f2.length ≤ 9223372036854775807 ∧ goodEs x.f2) ∧ (x.f3.length ≤ 9223372036854775807 ∧ goodSs x.f3) ∧ (x.f4.length ≤ 9223372036854775807 ∧ goodSs x.f4)) := by cases x; rfl
theorem goodSs_all : ∀ {l : List S57}, (∀ x ∈ l, goodS x) → goodSs l
  | [], _ => trivial
  | x :: r, h => ⟨h x (by simp), goodSs_all fun y hy => h y (by simp [hy])⟩
theorem rdS_mid (pre : List S57) (x : S57) (r : List S57) : rd_T57 (pre ++ x :: r) (pre.length : Int) = x := getD_mid pre x _ r
theorem leftOf_z {n : Nat} : leftOf 0 n = 0 := by unfold leftOf; split <;> omega
theorem sleft_tells : (∀ x, ∀ m : Int, goodS x → 0 ≤ m → m ≤ 1000000 → Tells (fun k => r3_left.f k x.f3 m) (leftOf m (sNs x.f3)) ∧ Tells (fun k => r3_left.f k x.f4 m) (leftOf m (sNs x.f4))) ∧
    (∀ suf, ∀ (pre : List S57) (m : Int), goodSs suf → (pre ++ suf).length ≤ 9223372036854775807 → 0 ≤ m → m ≤ 1000000 → Tells (fun k => r3_left.l0 k (pre ++ suf) m (pre.length : Int)) (leftOf m (sNs suf))) := by
  refine S_ind (fun a b l t e h1 h2 => ?_) ?_ (fun x r ih1 ih2 => ?_)
  · intro m hg h0 hm
    rw [goodS_mk] at hg
    constructor
    · refine Tells.succ ?_
      simp only [r3_left.f]
      exact h1 [] m hg.2.1.2 hg.2.1.1 h0 hm
    · refine Tells.succ ?_
      simp only [r3_left.f]
      exact h2 [] m hg.2.2.2 hg.2.2.1 h0 hm
  · intro pre m _ _ h0 _
    refine Tells.succ (Tells.succ ?_)
    simp only [r3_left.l0, r3_left.j1, pre_nlt, if_false, Bool.false_eq_true]
    rw [sNs_nil, leftOf_nil h0]
    exact Tells.pure _
  · intro pre m hg hl h0 hm
    rw [goodSs_cons] at hg
    obtain ⟨hg1, hg2⟩ := hg
    have hx := hg1
    rw [goodS_eq] at hx
    have args : ∀ (asuf apre : List S52) (m : Int), x.f2 = apre ++ asuf → goodEs asuf → 0 ≤ m → m ≤ 1000000 → Tells (fun k => r3_left.l1 k (pre ++ x :: r) m (pre.length : Int) (apre.length : Int)) (leftOf m (eNs asuf + (sNs x.f3 + (sNs x.f4 + sNs r)))) := by
      intro asuf
      induction asuf with
      | nil =>
        intro apre m hx2 _ h0 hm
        refine Tells.succ ?_
        have hn : ¬ ((apre.length : Int) < (x.f2.length : Int)) := by rw [hx2, List.append_nil]; omega
        simp only [r3_left.l1, pre_pos, pre_lt, if_true, rdS_mid, hn, if_false]
        obtain ⟨t1, _⟩ := ih1 m hg1 h0 hm
        have b1 := leftOf_nonneg m (sNs x.f3)
        have b2 := leftOf_le h0 (sNs x.f3)
        obtain ⟨_, t2⟩ := ih1 (leftOf m (sNs x.f3)) hg1 b1 (by omega)
        have b3 := leftOf_nonneg (leftOf m (sNs x.f3)) (sNs x.f4)
        have b4 := leftOf_le b1 (sNs x.f4)
        have t3 := ih2 (pre ++ [x]) (leftOf (leftOf m (sNs x.f3)) (sNs x.f4)) hg2 (by rw [← pre_app]; exact hl) b3 (by omega)
        rw [← pre_app] at t3
        rw [eNs_nil, Nat.zero_add, ← leftOf_add h0, ← leftOf_add b1, pre_next pre x r hl]
        exact Tells.bind t1 (Tells.bind t2 t3)
      | cons a az iha =>
        intro apre m hx2 hga h0 hm
        refine Tells.succ ?_
        have hn : ((apre.length : Int) < (x.f2.length : Int)) := by rw [hx2]; exact pre_lt _ _ _
        have ha : rd_T52 x.f2 (apre.length : Int) = a := by rw [hx2]; exact rdE_mid _ _ _
        simp only [r3_left.l1, pre_pos, pre_lt, if_true, rdS_mid, hn, ha]
        have b1 := leftOf_nonneg m (eN a)
        have b2 := leftOf_le h0 (eN a)
        rw [pre_next apre a az (by rw [← hx2]; exact hx.1.1), eNs_cons, Nat.add_assoc, ← leftOf_add h0]
        exact Tells.bind (left_tells.1 a m hga.1 h0 hm) (iha (apre ++ [a]) _ (by rw [hx2, pre_app]) hga.2 b1 (by omega))
    refine Tells.succ (Tells.succ ?_)
    simp only [r3_left.l0, r3_left.j1, pre_lt, if_true]
    by_cases hz : m > 0
    · refine Tells.ifT (decide_eq_true hz) ?_
      rw [w64 (by omega) (by omega)]
      have := args x.f2 [] (m - 1) rfl hx.1.2 (by omega) (by omega)
      rw [sNs_cons, sN_eq]
      have e : leftOf m (1 + eNs x.f2 + sNs x.f3 + sNs x.f4 + sNs r) = leftOf (m - 1) (eNs x.f2 + (sNs x.f3 + (sNs x.f4 + sNs r))) := by
        rw [← leftOf_succ (by omega)]
        congr 1
        omega
      rw [e]
      exact this
    · have : m = 0 := by omega
      subst this
      rw [leftOf_z]
      exact Tells.ifF (by decide) (Tells.pure _)
theorem fitsS (l : List S57) (m : Int) (hl : l.length ≤ 9223372036854775807) (hg : goodSs l) (h0 : 0 ≤ m) (h1 : m ≤ 1000) : Tells (fun k => r3_Fits.f k l m) (decide ((sNs l : Int) ≤ m)) := by
  unfold r3_Fits.f
  rw [w64 (by omega) (by omega)]
  have t : Tells (fun k => r3_left.f k l (m + 1)) (leftOf (m + 1) (sNs l)) := by
    refine Tells.succ ?_
    simp only [r3_left.f]
    exact sleft_tells.2 l [] (m + 1) hg hl (by omega) (by omega)
  refine Tells.bind t ?_
  have : decide (leftOf (m + 1) (sNs l) > 0) = decide ((sNs l : Int) ≤ m) := by
    apply decide_eq_decide.2
    unfold leftOf
    split <;> omega
  rw [this]
  exact Tells.pure _
theorem sdepth_tells : (∀ x, goodS x → sN x ≤ 1000000 → Tells (fun k => r3_Depth.f k x.f3) (sDs x.f3 : Int) ∧ Tells (fun k => r3_Depth.f k x.f4) (sDs x.f4 : Int)) ∧
    (∀ suf, ∀ (pre : List S57) (n : Nat), goodSs suf → (pre ++ suf).length ≤ 9223372036854775807 → sNs suf ≤ 1000000 → Tells (fun k => r3_Depth.l0 k (pre ++ suf) (n : Int) (pre.length : Int)) ((max n (sDs suf) : Nat) : Int)) := by
  refine S_ind (fun a b l t e h1 h2 => ?_) ?_ (fun x r ih1 ih2 => ?_)
  · intro hg hn
    rw [goodS_mk] at hg
    rw [sN_eq] at hn
    simp only at hn
    constructor
    · refine Tells.succ ?_
      simp only [r3_Depth.f]
      have := h1 [] 0 hg.2.1.2 hg.2.1.1 (by omega)
      rw [Nat.zero_max] at this
      exact this
    · refine Tells.succ ?_
      simp only [r3_Depth.f]
      have := h2 [] 0 hg.2.2.2 hg.2.2.1 (by omega)
      rw [Nat.zero_max] at this
      exact this
  · intro pre n _ _ _
    refine Tells.succ ?_
    simp only [r3_Depth.l0, pre_nlt, if_false]
    rw [sDs_nil, Nat.max_zero]
    exact Tells.pure _
  · intro pre n hg hl hn
    rw [goodSs_cons] at hg
    rw [sNs_cons] at hn
    have hle := (s_le.1 x).2
    rw [sD_eq] at hle
    refine Tells.succ ?_
    simp only [r3_Depth.l0, pre_lt, pre_pos, if_true, rdS_mid]
    obtain ⟨t1, t2⟩ := ih1 hg.1 (by omega)
    refine Tells.bind t1 (Tells.bind t2 ?_)
    have t3 := ih2 (pre ++ [x]) (max (max n (1 + sDs x.f3)) (1 + sDs x.f4)) hg.2 (by rw [← pre_app]; exact hl) (by omega)
    rw [← pre_app] at t3
    rw [pre_next pre x r hl, w64 (n := 1 + (sDs x.f3 : Int)) (by omega) (by omega), w64 (n := 1 + (sDs x.f4 : Int)) (by omega) (by omega),
      show (1 + (sDs x.f3 : Int)) = ((1 + sDs x.f3 : Nat) : Int) by omega, show (1 + (sDs x.f4 : Int)) = ((1 + sDs x.f4 : Nat) : Int) by omega, mx_nat, mx_nat]
    rw [sDs_cons, sD_eq, show max n (max (1 + max (sDs x.f3) (sDs x.f4)) (sDs r)) = max (max (max n (1 + sDs x.f3)) (1 + sDs x.f4)) (sDs r) by omega]
    exact t3
def argVal (vars : List S42) (op n : Int) : Int :=
  if op = 0 then (if 0 ≤ n ∧ n < (vars.length : Int) then (if (rd_T42 vars n).f2 > 1 then 2 else 1) else -1)
  else if op = 4 then (if 0 ≤ n ∧ n < (vars.length : Int) then (if (rd_T42 vars n).f2 > 1 then 1 else 0) else -1)
  else if op = 3 then (if 0 ≤ n ∧ n ≤ 47 then 1 else -1)
  else if op = 1 ∨ op = 2 ∨ op = 5 ∨ op = 6 then (if n = 0 then 1 else -1) else -1
theorem argVal_le (vars : List S42) (op n : Int) : argVal vars op n ≤ 2 := by
  unfold argVal
  repeat' split
  all_goals omega
def cellsAt (vars : List S42) (n : Int) : Int := if 0 ≤ n ∧ n < (vars.length : Int) then (rd_T42 vars n).f2 else 0
theorem cellsAt_pos {vars : List S42} (hv : ∀ v ∈ vars, 1 ≤ v.f2 ∧ v.f2 ≤ 8) {n : Int} (h : 0 ≤ n ∧ n < (vars.length : Int)) : 1 ≤ (rd_T42 vars n).f2 ∧ (rd_T42 vars n).f2 ≤ 8 := by
  apply hv
  unfold rd_T42
  have : n.toNat < vars.length := by omega
  rw [List.getD_eq_getElem?_getD, List.getElem?_eq_getElem this]
  exact List.getElem_mem this
theorem args_tells (w : Int) (vars : List S42) (hv : ∀ v ∈ vars, 1 ≤ v.f2 ∧ v.f2 ≤ 8) (l2 : List S57) (op n : Int) (a : List S52) (t e : List S57) : Tells (fun k => prog_args.f k w vars l2 op n a t e) (argVal vars op n) := by
  have j3 : ∀ m : Int, 0 ≤ m → m ≤ 1 → Tells (fun k => prog_args.j3 k (cellsAt vars n) m) (if 0 ≤ n ∧ n < (vars.length : Int) then (if (rd_T42 vars n).f2 > 1 then m + 1 else m) else -1) := by
    intro m m0 m1
    refine Tells.succ ?_
    simp only [prog_args.j3]
    unfold cellsAt
    by_cases h : 0 ≤ n ∧ n < (vars.length : Int)
    · have hp := cellsAt_pos hv h
      simp only [h, and_self, if_true]
      refine Tells.ifF (by omega) ?_
      by_cases h1 : (rd_T42 vars n).f2 > 1
      · simp only [h1, if_true]
        rw [w64 (by omega) (by omega)]
        exact Tells.pure _
      · simp only [h1, if_false]
        exact Tells.pure _
    · simp only [h, if_false]
      exact Tells.ifT trivial (Tells.pure _)
  have j4 : ∀ b : Bool, Tells (fun k => prog_args.j4 k b op n a t e) (if b = true then (if n = 0 then 1 else -1) else -1) := by
    intro b
    refine Tells.succ ?_
    simp only [prog_args.j4]
    cases b
    · exact Tells.pure _
    · simp only [if_true]
      by_cases h : n = 0
      · simp only [h, if_true]; exact Tells.pure _
      · simp only [h, if_false]; exact Tells.pure _
  have j1 : Tells (fun k => prog_args.j1 k (cellsAt vars n) op n a t e) (argVal vars op n) := by
    refine Tells.succ ?_
    simp only [prog_args.j1]
    unfold argVal
    by_cases o0 : op = 0
    · subst o0
      simp only [if_true]
      refine Tells.succ ?_
      simp only [prog_args.j2, beq_self_eq_true, if_true]
      exact j3 1 (by decide) (by decide)
    · simp only [o0, if_false]
      refine Tells.succ ?_
      simp only [prog_args.j2]
      by_cases o4 : op = 4
      · subst o4
        simp only [beq_self_eq_true, if_true, show ¬ ((4 : Int) = 0) by decide, if_false]
        exact j3 0 (by decide) (by decide)
      · have hb : (op == 4) = false := by simpa using o4
        simp only [hb, Bool.false_eq_true, if_false, o4]
        by_cases o3 : op = 3
        · subst o3
          simp only [if_true]
          by_cases h1 : n < 0
          · have : ¬ (0 ≤ n ∧ n ≤ 47) := by omega
            simp only [h1, this, if_true, if_false]
            exact Tells.pure _
          · by_cases h2 : n > 47
            · have : ¬ (0 ≤ n ∧ n ≤ 47) := by omega
              simp only [h1, h2, this, if_true, if_false]
              exact Tells.pure _
            · have : (0 ≤ n ∧ n ≤ 47) := by omega
              simp only [h1, h2, this, and_self, if_true, if_false]
              exact Tells.pure _
        · simp only [o3, if_false]
          by_cases o1 : op = 1
          · subst o1
            simpa using j4 true
          · by_cases o2 : op = 2
            · subst o2
              simpa using j4 true
            · by_cases o5 : op = 5
              · subst o5
                simpa using j4 true
              · by_cases o6 : op = 6
                · subst o6
                  simpa using j4 true
                · have hb6 : (op == 6) = false := by simpa using o6
                  simp only [o1, o2, o5, if_false, hb6]
                  simpa [o6] using j4 false
  unfold prog_args.f
  by_cases h0 : n ≥ 0
  · refine Tells.ifT h0 (Tells.succ ?_)
    simp only [prog_args.j0]
    by_cases h1 : n < (vars.length : Int)
    · refine Tells.ifT (decide_eq_true h1) (Tells.ifT h0 (Tells.ifT h1 ?_))
      have : (rd_T42 vars n).f2 = cellsAt vars n := by unfold cellsAt; rw [if_pos ⟨h0, h1⟩]
      rw [this]
      exact j1
    · refine Tells.ifF (by rw [decide_eq_true_eq]; exact h1) ?_
      have : (0 : Int) = cellsAt vars n := by unfold cellsAt; rw [if_neg (fun h => h1 h.2)]
      rw [this]
      exact j1
  · refine Tells.ifF h0 (Tells.succ ?_)
    simp only [prog_args.j0, Bool.false_eq_true, if_false]
    have : (0 : Int) = cellsAt vars n := by unfold cellsAt; rw [if_neg (fun h => h0 h.1)]
    rw [this]
    exact j1
def headB (vars : List S42) (op n : Int) (a t e : Nat) : Bool := decide (argVal vars op n = (a : Int)) && nestOk op t e
theorem variable_eq (vars : List S42) (op n : Int) (a : List S52) (t e : List S57) (m : Int) (m0 : 0 ≤ m) (m1 : m ≤ 1) :
    r3_variable.f vars op n a t e m = some (decide ((if 0 ≤ n ∧ n < (vars.length : Int) then (if (rd_T42 vars n).f2 > 1 then m + 1 else m) else -1) = (a.length : Int))) := by
  unfold r3_variable.f r1_One.f
  have eqd : ∀ x y : Int, (x == y) = decide (y = x) := fun x y => by rw [Bool.eq_iff_iff, beq_iff_eq, decide_eq_true_iff]; exact eq_comm
  by_cases h0 : n ≥ 0
  · have h0' : 0 ≤ n := h0
    rw [if_pos h0]
    by_cases h1 : n < (vars.length : Int)
    · rw [if_pos h1, if_pos h0', if_pos (⟨h0', h1⟩ : 0 ≤ n ∧ n < (vars.length : Int))]
      by_cases h2 : (rd_T42 vars n).f2 > 1
      · rw [decide_eq_true h2, if_pos rfl, Option.bind_some, if_pos h2, w64 (by omega) (by omega), eqd]
      · rw [decide_eq_false h2, if_neg (by decide), Option.bind_some, if_neg h2, w64 (by omega) (by omega), eqd, Int.add_zero]
    · rw [if_neg h1, if_neg (fun h : 0 ≤ n ∧ n < (vars.length : Int) => h1 h.2), decide_eq_false (by omega)]
  · rw [if_neg h0, if_neg (fun h : 0 ≤ n ∧ n < (vars.length : Int) => h0 h.1), decide_eq_false (by omega)]
theorem head_tells (vars : List S42) (op n : Int) (a : List S52) (t e : List S57) : Tells (fun k => r3_head.f k vars op n a t e) (headB vars op n a.length t.length e.length) := by
  have eqd : ∀ x y : Int, (x == y) = decide (y = x) := fun x y => by rw [Bool.eq_iff_iff, beq_iff_eq, decide_eq_true_iff]; exact eq_comm
  have j0 : ∀ b : Bool, b = (decide (t.length = 0) && decide (e.length = 0)) → Tells (fun k => r3_head.j0 k vars b op n a t e) (headB vars op n a.length t.length e.length) := by
    intro b hb
    refine Tells.succ ?_
    simp only [r3_head.j0]
    unfold headB argVal nestOk
    have et : (t.length == 0) = decide (t.length = 0) := by rw [Bool.eq_iff_iff, beq_iff_eq, decide_eq_true_iff]
    have ee : (e.length == 0) = decide (e.length = 0) := by rw [Bool.eq_iff_iff, beq_iff_eq, decide_eq_true_iff]
    have ez : ((e.length : Int) == 0) = decide (e.length = 0) := by rw [Bool.eq_iff_iff, beq_iff_eq, decide_eq_true_iff]; omega
    rw [et, ee]
    by_cases o0 : op = 0
    · subst o0
      simp only [if_true, variable_eq vars 0 n a t e 1 (by decide) (by decide), Option.bind_some, show ((0 : Int) == 1) = false from rfl, show ((0 : Int) == 2) = false from rfl, Bool.or_false]
      rw [← hb, Bool.and_comm]
      exact Tells.ifB (Tells.pure _)
    simp only [o0, if_false]
    by_cases o1 : op = 1
    · subst o1
      simp only [if_true, show ((1 : Int) == 1) = true from rfl, Bool.or_true, Bool.true_or, Bool.and_true, show ¬ ((1 : Int) = 4) by decide, show ¬ ((1 : Int) = 3) by decide, if_false, true_or]
      by_cases h : n = 0
      · simp only [h, if_true]
        rw [eqd]
        exact Tells.pure _
      · simp only [h, if_false]
        rw [decide_eq_false (p := (-1 : Int) = (a.length : Int)) (by omega)]
        exact Tells.pure _
    have b1 : (op == 1) = false := by simpa using o1
    simp only [o1, if_false, b1, Bool.or_false]
    by_cases o2 : op = 2
    · subst o2
      simp only [if_true, show ((2 : Int) == 2) = true from rfl, Bool.or_true, Bool.true_and, show ¬ ((2 : Int) = 4) by decide, show ¬ ((2 : Int) = 3) by decide, if_false, true_or, or_true]
      by_cases h : n = 0
      · simp only [h, if_true, ez]
        by_cases h1 : (a.length : Int) = 1
        · simp only [h1, if_true, decide_true, Bool.true_and]
          exact Tells.pure _
        · simp only [h1, if_false]
          rw [decide_eq_false (fun h' => h1 h'.symm), Bool.false_and]
          exact Tells.pure _
      · simp only [h, if_false]
        rw [decide_eq_false (p := (-1 : Int) = (a.length : Int)) (by omega), Bool.false_and]
        exact Tells.pure _
    have b2 : (op == 2) = false := by simpa using o2
    simp only [o2, if_false, b2, Bool.or_false]
    rw [← hb, Bool.and_comm]
    by_cases o3 : op = 3
    · subst o3
      simp only [if_true, show ¬ ((3 : Int) = 4) by decide, if_false]
      refine Tells.ifB ?_
      by_cases h : n ≥ 0
      · by_cases h1 : n ≤ 47
        · simp only [h, h1, if_true, show (0 ≤ n ∧ n ≤ 47) from ⟨h, h1⟩, and_self, eqd]
          exact Tells.pure _
        · simp only [h, h1, if_true, if_false, and_false]
          rw [decide_eq_false (p := (-1 : Int) = (a.length : Int)) (by omega)]
          exact Tells.pure _
      · simp only [h, if_false, false_and]
        rw [decide_eq_false (p := (-1 : Int) = (a.length : Int)) (by omega)]
        exact Tells.pure _
    simp only [o3, if_false]
    by_cases o4 : op = 4
    · subst o4
      simp only [if_true, variable_eq vars 4 n a t e 0 (by decide) (by decide), Option.bind_some]
      exact Tells.ifB (Tells.pure _)
    simp only [o4, if_false]
    have last : Tells (fun k => if b = true then (if n = 0 then some ((a.length : Int) == 1) else some false) else some false) (b && decide ((if n = 0 then (1 : Int) else -1) = (a.length : Int))) := by
      refine Tells.ifB ?_
      by_cases h : n = 0
      · simp only [h, if_true, eqd]
        exact Tells.pure _
      · simp only [h, if_false]
        rw [decide_eq_false (p := (-1 : Int) = (a.length : Int)) (by omega)]
        exact Tells.pure _
    by_cases o5 : op = 5
    · subst o5
      simpa using last
    by_cases o6 : op = 6
    · subst o6
      simpa using last
    simp only [o5, o6, or_self, if_false]
    rw [decide_eq_false (p := (-1 : Int) = (a.length : Int)) (by omega), Bool.and_false]
    exact Tells.pure _
  unfold r3_head.f
  by_cases h : (t.length : Int) = 0
  · refine Tells.ifT h (j0 _ ?_)
    rw [decide_eq_true (by omega : t.length = 0), Bool.true_and, Bool.eq_iff_iff, beq_iff_eq, decide_eq_true_iff]
    omega
  · refine Tells.ifF h (j0 _ ?_)
    rw [decide_eq_false (by omega : ¬ t.length = 0), Bool.false_and]
end Go.Proofs.Ytnlekgadadifdaa.Print
namespace Go.Proofs.Ytnlekgadadifdaa.Print
open Go.RowKit Go.Proofs.YtnlekgadadifdaaW.PrintWords Go.Proofs.YtnlekgadadifdaaW.PrintLast Go.Proofs.YtnlekgadadifdaaW.PrintMore
attribute [local go_sem] max2_int min2_int max_two min_two max_three min_three max_four min_four
set_option linter.unusedVariables false
set_option linter.unusedSimpArgs false
open Go.ChangeShapes Go.WideShapes
theorem opens_V (n : Nat) : Opens Try.prog n 42 k42 (fun _ => True) := by
  cases n with
  | zero => exact opens_zero
  | succ n =>
    refine opens_imp (φ := fun _ => True) ?_ (fun _ _ => trivial)
    unfold k42
    have h : OpensFs Try.prog n (Try.prog.underlying 42 |>.elim [] fun | .struct fs => fs.toList | _ => []) 0 (Kd.pair Kd.string (Kd.pair (Kd.int .i64) (Kd.int .i64))) (fun _ => True) := by
      rw [Try.underlying42]
      have h2 := opensFs_one (P := Try.prog) (n := n) (f := { name := "Cells", type := 3, offset := 2, embedded := false, tag := "", pkgPath := "", byteOffset := 24 }) (o := 2) rfl (by kernel_rfl) (opens_int Try.underlying3)
      have h1 := opensFs_cons (f := { name := "Level", type := 3, offset := 1, embedded := false, tag := "", pkgPath := "", byteOffset := 16 }) (o := 1) rfl (by kernel_rfl) (opens_int Try.underlying3) h2
      have h0 := opensFs_cons (f := { name := "Name", type := 9, offset := 0, embedded := false, tag := "", pkgPath := "", byteOffset := 0 }) (o := 0) rfl (by kernel_rfl) (opens_string Try.underlying9) h1
      intro H enc W sp hd cs y hl hy
      obtain ⟨x, hx, _⟩ := h0 H enc W sp hd cs y hl hy
      exact ⟨x, hx, trivial⟩
    rw [Try.underlying42] at h
    exact opens_imp (opens_iso (fun x => ⟨⟨x.1, x.2.1, x.2.2⟩, rfl⟩) (opens_struct Try.underlying42 (by kernel_rfl) h)) (fun _ _ => trivial)
theorem opens_E : ∀ n, Opens Try.prog n 52 (Kd.upto F52 4 [52] n) goodE ∧ Opens Try.prog n 50 (Kd.slice 52 (Kd.upto F52 4 [52] n)) (fun xs => xs.length ≤ maxLen ∧ ∀ x ∈ xs, goodE x)
  | 0 => ⟨opens_zero, opens_zero⟩
  | n + 1 => by
    obtain ⟨ih1, ih2⟩ := opens_E n
    constructor
    · have h3 := opensFs_one (f := { name := "Args", type := 50, offset := 3, embedded := false, tag := "", pkgPath := "", byteOffset := 24 }) (o := 3) rfl (by kernel_rfl) ih2
      have h2 := opensFs_cons (f := { name := "Copy", type := 3, offset := 2, embedded := false, tag := "", pkgPath := "", byteOffset := 16 }) (o := 2) rfl (by kernel_rfl) (opens_int Try.underlying3) h3
      have h1 := opensFs_cons (f := { name := "N", type := 3, offset := 1, embedded := false, tag := "", pkgPath := "", byteOffset := 8 }) (o := 1) rfl (by kernel_rfl) (opens_int Try.underlying3) h2
      have h0 := opensFs_cons (f := { name := "Op", type := 3, offset := 0, embedded := false, tag := "", pkgPath := "", byteOffset := 0 }) (o := 0) rfl (by kernel_rfl) (opens_int Try.underlying3) h1
      refine opens_imp (opens_iso (f := fun x : S52 => (x.f0, x.f1, x.f2, x.f3)) (fun x => ⟨⟨x.1, x.2.1, x.2.2.1, x.2.2.2⟩, rfl⟩) (opens_struct Try.underlying52 (by kernel_rfl) h0)) ?_
      rintro ⟨a, b, c, l⟩ ⟨_, _, _, hl, hx⟩
      exact ⟨by unfold maxLen at hl; simp only at hl; omega, goodEs_all hx⟩
    · refine opens_slice Try.underlying50 ?_ ?_
      · rw [sz52]; kernel_rfl
      · intro H enc W sp hd cs y hy
        obtain ⟨x, hx, hp⟩ := ih1 H enc W sp hd cs y hy
        exact ⟨x, Kd.upto_K_le mono52 sz52 (Nat.le_succ n) hx, hp⟩
theorem opens_kE (n : Nat) : Opens Try.prog n 52 k52 goodE := opens_fix (fun n => (opens_E n).1) n
theorem opens_Es (n : Nat) : Opens Try.prog n 50 (Kd.slice 52 k52) (fun xs => xs.length ≤ maxLen ∧ ∀ x ∈ xs, goodE x) := by
  cases n with
  | zero => exact opens_zero
  | succ n => exact opens_slice Try.underlying50 (by kernel_rfl) (opens_kE n)
theorem opens_S : ∀ n, Opens Try.prog n 57 (Kd.upto F57 5 [52, 57] n) goodS ∧ Opens Try.prog n 23 (Kd.slice 57 (Kd.upto F57 5 [52, 57] n)) (fun xs => xs.length ≤ maxLen ∧ ∀ x ∈ xs, goodS x)
  | 0 => ⟨opens_zero, opens_zero⟩
  | n + 1 => by
    obtain ⟨ih1, ih2⟩ := opens_S n
    constructor
    · have h4 := opensFs_one (f := { name := "Else", type := 23, offset := 4, embedded := false, tag := "", pkgPath := "", byteOffset := 64 }) (o := 4) rfl (by kernel_rfl) ih2
      have h3 := opensFs_cons (f := { name := "Then", type := 23, offset := 3, embedded := false, tag := "", pkgPath := "", byteOffset := 40 }) (o := 3) rfl (by kernel_rfl) ih2 h4
      have h2 := opensFs_cons (f := { name := "Args", type := 50, offset := 2, embedded := false, tag := "", pkgPath := "", byteOffset := 16 }) (o := 2) rfl (by kernel_rfl) (opens_Es n) h3
      have h1 := opensFs_cons (f := { name := "N", type := 3, offset := 1, embedded := false, tag := "", pkgPath := "", byteOffset := 8 }) (o := 1) rfl (by kernel_rfl) (opens_int Try.underlying3) h2
      have h0 := opensFs_cons (f := { name := "Op", type := 3, offset := 0, embedded := false, tag := "", pkgPath := "", byteOffset := 0 }) (o := 0) rfl (by kernel_rfl) (opens_int Try.underlying3) h1
      refine opens_imp (opens_iso (f := fun x : S57 => (x.f0, x.f1, x.f2, x.f3, x.f4)) (fun x => ⟨⟨x.1, x.2.1, x.2.2.1, x.2.2.2.1, x.2.2.2.2⟩, rfl⟩) (opens_struct Try.underlying57 (by kernel_rfl) h0)) ?_
      rintro ⟨a, b, l, t, e⟩ ⟨_, _, ⟨hl, hx⟩, ⟨htl, ht⟩, ⟨hel, he⟩⟩
      unfold maxLen at hl htl hel
      simp only at hl htl hel
      exact ⟨⟨by omega, goodEs_all hx⟩, ⟨by omega, goodSs_all ht⟩, ⟨by omega, goodSs_all he⟩⟩
    · refine opens_slice Try.underlying23 ?_ ?_
      · rw [sz57]; kernel_rfl
      · intro H enc W sp hd cs y hy
        obtain ⟨x, hx, hp⟩ := ih1 H enc W sp hd cs y hy
        exact ⟨x, Kd.upto_K_le mono57 sz57 (Nat.le_succ n) hx, hp⟩
theorem opens_kS (n : Nat) : Opens Try.prog n 57 k57 goodS := opens_fix (fun n => (opens_S n).1) n
theorem opens_Ss (n : Nat) : Opens Try.prog n 23 (Kd.slice 57 k57) (fun xs => xs.length ≤ maxLen ∧ ∀ x ∈ xs, goodS x) := by
  cases n with
  | zero => exact opens_zero
  | succ n => exact opens_slice Try.underlying23 (by kernel_rfl) (opens_kS n)
theorem opens_Vs (n : Nat) : Opens Try.prog n 22 (Kd.slice 42 k42) (fun xs => xs.length ≤ maxLen ∧ ∀ x ∈ xs, True) := by
  cases n with
  | zero => exact opens_zero
  | succ n => exact opens_slice Try.underlying22 (by kernel_rfl) (opens_V n)
theorem open_prog {H : Type} {enc : TypeId × Value → H} {W : World} {sp : Nat → Bool} {hd : Bool} {v : Value} {d : DataW H} {ps : List MemPlace} {r : Reach} {b0 : Nat} (hval : Value.okWide Try.prog W r b0 25 v) (h : DataW.Trod enc Try.prog W 0 sp hd 25 v d ps) :
    ∃ (w : Int) (A1 : Option Addr) (c1 : Nat) (l1 : List S42) (A2 : Option Addr) (c2 : Nat) (l2 : List S57), v = .agg #[.int .i64 w, .slice A1 l1.length c1, .slice A2 l2.length c2] ∧
      Kd.C k42 W A1 l1.length l1 ∧ l1.length ≤ c1 ∧ Kd.C k57 W A2 l2.length l2 ∧ l2.length ≤ c2 ∧ l2.length ≤ 9223372036854775807 ∧ goodSs l2 := by
  obtain ⟨fuel, hf⟩ := h
  obtain ⟨cs, rfl, hcs⟩ := okWide_struct Try.underlying25 hval
  cases fuel with
  | zero => exact absurd hf (by simp [DataW.trod])
  | succ n =>
    have h2 := opensFs_one (P := Try.prog) (f := { name := "Body", type := 23, offset := 2, embedded := false, tag := "", pkgPath := "", byteOffset := 32 }) (o := 2) rfl (by kernel_rfl) (opens_Ss n)
    have h1 := opensFs_cons (f := { name := "Vars", type := 22, offset := 1, embedded := false, tag := "", pkgPath := "", byteOffset := 8 }) (o := 1) rfl (by kernel_rfl) (opens_Vs n) h2
    have h0 := opensFs_cons (f := { name := "Width", type := 3, offset := 0, embedded := false, tag := "", pkgPath := "", byteOffset := 0 }) (o := 0) rfl (by kernel_rfl) (opens_int Try.underlying3) h1
    obtain ⟨⟨w, l1, l2⟩, hK, _, _, hl, hx⟩ := opens_struct Try.underlying25 (by kernel_rfl) h0 H enc W sp hd _ _ hf
    obtain ⟨c0, c1, e0, e1, ⟨c2, c3, e2, ⟨A1, k1, e3, g1, g2⟩, ⟨A2, k2, e4, g3, g4⟩⟩⟩ := hK
    simp only at e1 e3 e4 g1 g2 g3 g4
    subst e1 e3 e4 e2
    have : cs = #[.int .i64 w, .slice A1 l1.length k1, .slice A2 l2.length k2] := by
      apply Array.toList_inj.1
      exact e0
    subst this
    unfold maxLen at hl
    simp only at hl hx
    exact ⟨w, A1, k1, l1, A2, k2, l2, rfl, g2, g1, g4, g3, by omega, goodSs_all hx⟩
end Go.Proofs.Ytnlekgadadifdaa.Print
namespace Go.Proofs.Ytnlekgadadifdaa.Print
open Go.RowKit Go.Proofs.YtnlekgadadifdaaW.PrintWords Go.Proofs.YtnlekgadadifdaaW.PrintLast Go.Proofs.YtnlekgadadifdaaW.PrintMore
attribute [local go_sem] max2_int min2_int max_two min_two max_three min_three max_four min_four
set_option linter.unusedVariables false
set_option linter.unusedSimpArgs false
mutual
def sOK (w : Int) (vars : List S42) : S57 → Bool
  | ⟨op, n, a, t, e⟩ => headB vars op n a.length t.length e.length && (sOKs w vars t && (sOKs w vars e && a.all (eIs w vars 1)))
def sOKs (w : Int) (vars : List S42) : List S57 → Bool
  | [] => true
  | x :: r => sOK w vars x && sOKs w vars r
end
theorem sOK_eq (w : Int) (vars : List S42) (x : S57) : sOK w vars x = (headB vars x.f0 x.f1 x.f2.length x.f3.length x.f4.length && (sOKs w vars x.f3 && (sOKs w vars x.f4 && x.f2.all (eIs w vars 1)))) := by cases x; simp only [sOK]
theorem sOKs_nil (w : Int) (vars : List S42) : sOKs w vars [] = true := by simp only [sOKs]
theorem sOKs_cons (w : Int) (vars : List S42) (x : S57) (r : List S57) : sOKs w vars (x :: r) = (sOK w vars x && sOKs w vars r) := by simp only [sOKs]
theorem rows_tells (w : Int) (vars : List S42) (h1 : 1 ≤ w) (h8 : w ≤ 8) : (∀ x, goodS x → Tells (fun k => r3_rows.f k w vars x.f3) (sOKs w vars x.f3) ∧ Tells (fun k => r3_rows.f k w vars x.f4) (sOKs w vars x.f4)) ∧
    (∀ suf, ∀ (pre : List S57), goodSs suf → (pre ++ suf).length ≤ 9223372036854775807 → Tells (fun k => r3_rows.l0 k w vars (pre ++ suf) (pre.length : Int)) (sOKs w vars suf)) := by
  refine S_ind (fun a b l t e h1 h2 => ?_) ?_ (fun x r ih1 ih2 => ?_)
  · intro hg
    rw [goodS_mk] at hg
    constructor
    · refine Tells.succ ?_
      simp only [r3_rows.f]
      exact h1 [] hg.2.1.2 hg.2.1.1
    · refine Tells.succ ?_
      simp only [r3_rows.f]
      exact h2 [] hg.2.2.2 hg.2.2.1
  · intro pre _ _
    refine Tells.succ ?_
    simp only [r3_rows.l0, pre_nlt, if_false]
    rw [sOKs_nil]
    exact Tells.pure _
  · intro pre hg hl
    rw [goodSs_cons] at hg
    obtain ⟨hg1, hg2⟩ := hg
    have hx := hg1
    rw [goodS_eq] at hx
    obtain ⟨t1, t2⟩ := ih1 hg1
    have args : ∀ (asuf apre : List S52), x.f2 = apre ++ asuf → goodEs asuf → Tells (fun k => r3_rows.l1 k w vars (pre ++ x :: r) (pre.length : Int) (apre.length : Int)) (asuf.all (eIs w vars 1) && sOKs w vars r) := by
      intro asuf
      induction asuf with
      | nil =>
        intro apre hx2 _
        refine Tells.succ ?_
        have hn : ¬ ((apre.length : Int) < (x.f2.length : Int)) := by rw [hx2, List.append_nil]; omega
        simp only [r3_rows.l1, pre_pos, pre_lt, if_true, rdS_mid, hn, if_false]
        have t3 := ih2 (pre ++ [x]) hg2 (by rw [← pre_app]; exact hl)
        rw [← pre_app] at t3
        rw [pre_next pre x r hl, List.all_nil, Bool.true_and]
        exact t3
      | cons a az iha =>
        intro apre hx2 hga
        refine Tells.succ ?_
        have hn : ((apre.length : Int) < (x.f2.length : Int)) := by rw [hx2]; exact pre_lt _ _ _
        have ha : rd_T52 x.f2 (apre.length : Int) = a := by rw [hx2]; exact rdE_mid _ _ _
        simp only [r3_rows.l1, pre_pos, pre_lt, if_true, rdS_mid, hn, ha]
        rw [pre_next apre a az (by rw [← hx2]; exact hx.1.1), List.all_cons, Bool.and_assoc]
        exact Tells.bind (Is_tells w vars 1 h1 h8 a hga.1) (Tells.ifB (iha (apre ++ [a]) (by rw [hx2, pre_app]) hga.2))
    have jt : Tells (fun k => r3_rows.j1 k w vars (pre ++ x :: r) (pre.length : Int) true) false := by
      refine Tells.succ ?_
      simp only [r3_rows.j1, if_true]
      exact Tells.pure _
    have jf : Tells (fun k => r3_rows.j1 k w vars (pre ++ x :: r) (pre.length : Int) false) (x.f2.all (eIs w vars 1) && sOKs w vars r) := by
      refine Tells.succ ?_
      simp only [r3_rows.j1, Bool.false_eq_true, if_false]
      exact args x.f2 [] rfl hx.1.2
    refine Tells.succ ?_
    simp only [r3_rows.l0, pre_lt, pre_pos, if_true, rdS_mid]
    rw [sOKs_cons, sOK_eq]
    refine Tells.bind (head_tells vars x.f0 x.f1 x.f2 x.f3 x.f4) ?_
    cases headB vars x.f0 x.f1 x.f2.length x.f3.length x.f4.length
    · exact jt
    · simp only [if_true, Bool.true_and]
      refine Tells.bind t1 ?_
      cases sOKs w vars x.f3
      · exact jt
      · simp only [if_true, Bool.true_and]
        refine Tells.bind t2 ?_
        cases sOKs w vars x.f4
        · exact jt
        · exact jf
def pIs (w : Int) (vars : List S42) (body : List S57) : Bool := hIs w vars && (decide (sNs body ≤ 400) && (decide (sDs body ≤ 16) && sOKs w vars body))
theorem pIs_tells (w : Int) (vars : List S42) (body : List S57) (hl : body.length ≤ 9223372036854775807) (hg : goodSs body) : Tells (fun k => r3_Is.f k w vars body) (pIs w vars body) := by
  unfold r3_Is.f pIs
  refine Tells.bind (RHeading_tells w vars) ?_
  cases hh : hIs w vars
  · exact Tells.pure _
  · obtain ⟨h1, h8, _⟩ := hIs_all hh
    simp only [if_true, Bool.true_and]
    have hf := fitsS body 400 hl hg (by decide) (by decide)
    rw [decide_eq_decide.2 (show ((sNs body : Int) ≤ 400) ↔ (sNs body ≤ 400) by omega)] at hf
    refine Tells.bind hf ?_
    by_cases hn : sNs body ≤ 400
    · rw [decide_eq_true hn]
      simp only [if_true, Bool.true_and]
      have td : Tells (fun k => r3_Depth.f k body) (sDs body : Int) := by
        refine Tells.succ ?_
        simp only [r3_Depth.f]
        have := sdepth_tells.2 body [] 0 hg hl (by omega)
        rw [Nat.zero_max] at this
        exact this
      refine Tells.bind td ?_
      by_cases hd : sDs body ≤ 16
      · rw [decide_eq_true hd, Bool.true_and]
        refine Tells.ifT (by omega) ?_
        refine Tells.id' (Tells.succ ?_)
        simp only [r3_rows.f]
        exact (rows_tells w vars h1 h8).2 body [] hg hl
      · rw [decide_eq_false hd, Bool.false_and]
        exact Tells.ifF (by omega) (Tells.pure _)
    · rw [decide_eq_false hn, Bool.false_and]
      exact Tells.pure _
def CF (w : Int) (vars : List S42) (l : List S57) (deep nd : Int) : Prop := nd + sNs l ≤ 400 ∧ deep + sDs l ≤ 17 ∧ sOKs w vars l = true
def CFr (w : Int) (vars : List S42) (l : List S57) (deep st nd : Int) (g : Nat → Option (Bool × Int × Int)) : Prop :=
  ∃ b st' nd', Tells g (b, st', nd') ∧ (b = true ↔ CF w vars l deep nd) ∧ (b = true → st' = st + sCs l ∧ nd' = nd + sNs l)
theorem cf_no {w : Int} {vars : List S42} {l : List S57} {deep st nd : Int} {g : Nat → Option (Bool × Int × Int)} (st' nd' : Int) (h : Tells g (false, st', nd')) (hn : ¬ CF w vars l deep nd) : CFr w vars l deep st nd g :=
  ⟨false, st', nd', h, ⟨fun e => absurd e (by decide), fun e => absurd e hn⟩, fun e => absurd e (by decide)⟩
theorem cfine_tells (w : Int) (vars : List S42) (l2 : List S57) (h1 : 1 ≤ w) (h8 : w ≤ 8) (hv : ∀ v ∈ vars, 1 ≤ v.f2 ∧ v.f2 ≤ 8) (hh : Tells (fun k => expr_Heading.f k w vars) 0) :
    (∀ x, ∀ deep : Int, goodS x → 1 ≤ deep → deep ≤ 17 → ∀ st nd : Int, 0 ≤ st → st ≤ nd → nd ≤ 1201 → CFr w vars x.f3 deep st nd (fun k => prog_count_fine.f k w vars l2 x.f3 deep st nd) ∧ CFr w vars x.f4 deep st nd (fun k => prog_count_fine.f k w vars l2 x.f4 deep st nd)) ∧
    (∀ suf, ∀ (pre : List S57) (deep : Int), goodSs suf → (pre ++ suf).length ≤ 9223372036854775807 → 1 ≤ deep → deep ≤ 17 → (suf ≠ [] → deep ≤ 16) → ∀ st nd : Int, 0 ≤ st → st ≤ nd → nd ≤ 1201 →
      CFr w vars suf deep st nd (fun k => prog_count_fine.l0 k w vars l2 (pre ++ suf) deep (pre.length : Int) st nd)) := by
  refine S_ind (fun a b l t e q1 q2 => ?_) ?_ (fun x r ih1 ih2 => ?_)
  · intro deep hg d1 d17 st nd s0 sn n0
    rw [goodS_mk] at hg
    have one : ∀ (t : List S57), (∀ (pre : List S57) (deep : Int), goodSs t → (pre ++ t).length ≤ 9223372036854775807 → 1 ≤ deep → deep ≤ 17 → (t ≠ [] → deep ≤ 16) → ∀ st nd : Int, 0 ≤ st → st ≤ nd → nd ≤ 1201 →
      CFr w vars t deep st nd (fun k => prog_count_fine.l0 k w vars l2 (pre ++ t) deep (pre.length : Int) st nd)) → goodSs t → t.length ≤ 9223372036854775807 → CFr w vars t deep st nd (fun k => prog_count_fine.f k w vars l2 t deep st nd) := by
      intro t q hgt hlt
      by_cases ht : t = []
      · obtain ⟨b, s', n', tt, p1, p2⟩ := q [] deep hgt hlt d1 d17 (fun h => absurd ht h) st nd s0 sn n0
        refine ⟨b, s', n', Tells.succ ?_, p1, p2⟩
        simp only [prog_count_fine.f]
        exact Tells.ifF (by rw [ht]; decide) tt
      · have hpos : (0 : Int) < (t.length : Int) := by
          have := List.length_pos_iff.2 ht
          omega
        by_cases hd : 16 < deep
        · refine cf_no st nd (Tells.succ ?_) (fun h => ?_)
          · simp only [prog_count_fine.f]
            exact Tells.ifT hpos (Tells.ifT hd (Tells.pure _))
          · obtain ⟨x, r, rfl⟩ : ∃ x r, t = x :: r := by cases t with
              | nil => exact absurd rfl ht
              | cons x r => exact ⟨x, r, rfl⟩
            have := h.2.1
            rw [sDs_cons, sD_eq] at this
            omega
        · obtain ⟨b, s', n', tt, p1, p2⟩ := q [] deep hgt hlt d1 d17 (fun _ => by omega) st nd s0 sn n0
          refine ⟨b, s', n', Tells.succ ?_, p1, p2⟩
          simp only [prog_count_fine.f]
          exact Tells.ifT hpos (Tells.ifF hd tt)
    exact ⟨one t q1 hg.2.1.2 hg.2.1.1, one e q2 hg.2.2.2 hg.2.2.1⟩
  · intro pre deep _ _ d1 d17 _ st nd s0 sn n0
    refine ⟨decide (nd ≤ 400), st, nd, Tells.succ ?_, ?_, fun _ => by rw [sCs_nil, sNs_nil]; omega⟩
    · simp only [prog_count_fine.l0, pre_nlt, if_false]
      exact Tells.pure _
    · rw [decide_eq_true_eq]
      unfold CF
      rw [sNs_nil, sDs_nil, sOKs_nil]
      exact ⟨fun h => ⟨by omega, by omega, rfl⟩, fun h => by have := h.1; omega⟩
  · intro pre deep hg hl d1 d17 d16 st nd s0 sn n0
    have d16' := d16 (by simp)
    rw [goodSs_cons] at hg
    obtain ⟨hg1, hg2⟩ := hg
    have hx := hg1
    rw [goodS_eq] at hx
    have w1 : wrap64 (nd + 1) = nd + 1 := w64 (by omega) (by omega)
    have w2 : wrap64 (st + 1) = st + 1 := w64 (by omega) (by omega)
    have w3 : wrap64 (deep + 1) = deep + 1 := w64 (by omega) (by omega)
    by_cases hbig : 400 < nd + 1
    · refine cf_no (st + 1) (nd + 1) (Tells.succ ?_) (fun h => ?_)
      · simp only [prog_count_fine.l0, pre_lt, pre_pos, if_true, rdS_mid, w1, w2]
        exact Tells.ifT hbig (Tells.pure _)
      · have := h.1
        rw [sNs_cons, sN_eq] at this
        omega
    have ta := args_tells w vars hv l2 x.f0 x.f1 x.f2 x.f3 x.f4
    by_cases har : argVal vars x.f0 x.f1 = (x.f2.length : Int)
    case neg =>
      refine cf_no (st + 1) (nd + 1) (Tells.succ ?_) (fun h => ?_)
      · simp only [prog_count_fine.l0, pre_lt, pre_pos, if_true, rdS_mid, w1, w2]
        exact Tells.ifF hbig (Tells.bind ta (Tells.ifF har (Tells.pure _)))
      · have := h.2.2
        rw [sOKs_cons, sOK_eq] at this
        unfold headB at this
        rw [decide_eq_false har] at this
        simp at this
    by_cases hne : nestOk x.f0 x.f3.length x.f4.length = true
    case neg =>
      refine cf_no (st + 1) (nd + 1) (Tells.succ ?_) (fun h => ?_)
      · simp only [prog_count_fine.l0, pre_lt, pre_pos, if_true, rdS_mid, w1, w2]
        exact Tells.ifF hbig (Tells.bind ta (Tells.ifT har (Tells.ifF hne (Tells.pure _))))
      · have := h.2.2
        rw [sOKs_cons, sOK_eq] at this
        unfold headB at this
        rw [Bool.eq_false_iff.2 hne] at this
        simp at this
    have hhead : headB vars x.f0 x.f1 x.f2.length x.f3.length x.f4.length = true := by unfold headB; rw [decide_eq_true har, hne]; rfl
    have hlen : x.f2.length ≤ 2 := by have := argVal_le vars x.f0 x.f1; omega
    have args : ∀ (asuf apre : List S52) (nd' : Int), x.f2 = apre ++ asuf → goodEs asuf → 0 ≤ nd' → nd' ≤ 401 + 400 * apre.length → st + 1 ≤ nd' →
        ∃ b s' n', Tells (fun k => prog_count_fine.l1 k w vars l2 (pre ++ x :: r) deep (pre.length : Int) (apre.length : Int) (st + 1) nd') (b, s', n') ∧
          (b = true ↔ (nd' + eNs asuf + sNs x.f3 + sNs x.f4 + sNs r ≤ 400 ∧ deep + 1 + sDs x.f3 ≤ 17 ∧ deep + 1 + sDs x.f4 ≤ 17 ∧ deep + sDs r ≤ 17 ∧ asuf.all (eIs w vars 1) = true ∧ sOKs w vars x.f3 = true ∧ sOKs w vars x.f4 = true ∧ sOKs w vars r = true)) ∧
          (b = true → s' = st + 1 + sCs x.f3 + sCs x.f4 + sCs r ∧ n' = nd' + eNs asuf + sNs x.f3 + sNs x.f4 + sNs r) := by
      intro asuf
      induction asuf with
      | nil =>
        intro apre nd' hx2 _ z0 zb zs
        have hal : apre.length ≤ 2 := by
          have := congrArg List.length hx2
          rw [List.length_append, List.length_nil] at this
          omega
        have hn : ¬ ((apre.length : Int) < (x.f2.length : Int)) := by rw [hx2, List.append_nil]; omega
        obtain ⟨b1, s1, n1, t1, p1, q1⟩ := (ih1 (deep + 1) hg1 (by omega) (by omega) (st + 1) nd' (by omega) zs (by omega)).1
        rw [List.all_nil, eNs_nil]
        cases b1
        · have hno : ¬ CF w vars x.f3 (deep + 1) nd' := fun h => by have := p1.2 h; cases this
          refine ⟨false, s1, n1, Tells.succ ?_, ⟨fun h => (by cases h), fun h => ?_⟩, fun h => by cases h⟩
          · simp only [prog_count_fine.l1, rdS_mid, hn, if_false, w3]
            exact Tells.bind t1 (Tells.pure _)
          · exact absurd ⟨by omega, by omega, h.2.2.2.2.2.1⟩ hno
        · obtain ⟨e1, e2⟩ := q1 rfl
          have c1 := p1.1 rfl
          have hle1 := (s_le.2 x.f3).1
          have c11 := c1.1
          have c12 := c1.2.1
          obtain ⟨b2, s2, n2, t2, p2, q2⟩ := (ih1 (deep + 1) hg1 (by omega) (by omega) s1 n1 (by omega) (by omega) (by omega)).2
          cases b2
          · have hno : ¬ CF w vars x.f4 (deep + 1) n1 := fun h => by have := p2.2 h; cases this
            refine ⟨false, s2, n2, Tells.succ ?_, ⟨fun h => (by cases h), fun h => ?_⟩, fun h => by cases h⟩
            · simp only [prog_count_fine.l1, rdS_mid, hn, if_false, w3]
              refine Tells.bind t1 ?_
              simp only [if_true]
              exact Tells.bind t2 (Tells.pure _)
            · exact absurd ⟨by omega, by omega, h.2.2.2.2.2.2.1⟩ hno
          · obtain ⟨e3, e4⟩ := q2 rfl
            have c2 := p2.1 rfl
            have hle2 := (s_le.2 x.f4).1
            have c21 := c2.1
            have c22 := c2.2.1
            obtain ⟨b3, s3, n3, t3, p3, q3⟩ := ih2 (pre ++ [x]) deep hg2 (by rw [← pre_app]; exact hl) d1 d17 (fun _ => d16') s2 n2 (by omega) (by omega) (by omega)
            rw [← pre_app] at t3
            refine ⟨b3, s3, n3, Tells.succ ?_, ⟨fun h => ?_, fun h => ?_⟩, fun h => ?_⟩
            · simp only [prog_count_fine.l1, rdS_mid, hn, if_false, w3]
              refine Tells.bind t1 ?_
              simp only [if_true]
              refine Tells.bind t2 ?_
              simp only [if_true]
              rw [pre_next pre x r hl]
              exact t3
            · have c3 := p3.1 h
              have c31 := c3.1
              have c32 := c3.2.1
              exact ⟨by omega, by omega, by omega, by omega, rfl, c1.2.2, c2.2.2, c3.2.2⟩
            · exact p3.2 ⟨by omega, by omega, h.2.2.2.2.2.2.2⟩
            · have := q3 h
              omega
      | cons a az iha =>
        intro apre nd' hx2 hga z0 zb zs
        have hal : apre.length + 1 ≤ 2 := by
          have := congrArg List.length hx2
          rw [List.length_append, List.length_cons] at this
          omega
        have hn : ((apre.length : Int) < (x.f2.length : Int)) := by rw [hx2]; exact pre_lt _ _ _
        have ha : rd_T52 x.f2 (apre.length : Int) = a := by rw [hx2]; exact rdE_mid _ _ _
        have tc := Check_tells w vars 1 h1 h8 (by decide) (by decide) hh a hga.1
        rw [List.all_cons, eNs_cons]
        cases hi : eIs w vars 1 a
        · rw [hi] at tc
          refine ⟨false, st + 1, nd', Tells.succ ?_, ⟨fun h => (by cases h), fun h => (by have := h.2.2.2.2.1; cases this)⟩, fun h => by cases h⟩
          simp only [prog_count_fine.l1, pre_pos, if_true, rdS_mid, hn, ha]
          exact Tells.bind tc (Tells.ifF (by decide) (Tells.pure _))
        · rw [hi] at tc
          have hn400 : eN a ≤ 400 := by
            unfold eIs at hi
            simp only [Bool.and_eq_true, decide_eq_true_eq] at hi
            exact hi.1
          have tn := nodesE'.1 a hga.1 (by omega)
          obtain ⟨b, s', n', tt, p, q⟩ := iha (apre ++ [a]) (nd' + eN a) (by rw [hx2, pre_app]) hga.2 (by omega) (by rw [List.length_append, List.length_singleton]; omega) (by omega)
          refine ⟨b, s', n', Tells.succ ?_, ?_, fun h => by have := q h; omega⟩
          · simp only [prog_count_fine.l1, pre_pos, if_true, rdS_mid, hn, ha]
            refine Tells.bind tc (Tells.ifT rfl (Tells.bind tn ?_))
            rw [pre_next apre a az (by rw [← hx2]; exact hx.1.1), w64 (n := nd' + (eN a : Int)) (by omega) (by omega)]
            exact tt
          · rw [p, Bool.true_and, show (nd' + ((eN a + eNs az : Nat) : Int)) = nd' + eN a + eNs az by omega]
    obtain ⟨b, s', n', tt, p, q⟩ := args x.f2 [] (nd + 1) rfl hx.1.2 (by omega) (by rw [List.length_nil]; omega) (by omega)
    refine ⟨b, s', n', Tells.succ ?_, ⟨fun h => ?_, fun h => p.2 ?_⟩, fun h => ?_⟩
    · simp only [prog_count_fine.l0, pre_lt, pre_pos, if_true, rdS_mid, w1, w2]
      exact Tells.ifF hbig (Tells.bind ta (Tells.ifT har (Tells.ifT hne tt)))
    · obtain ⟨c1, c2, c3, c4, c5, c6, c7, c8⟩ := p.1 h
      unfold CF
      rw [sNs_cons, sN_eq, sDs_cons, sD_eq, sOKs_cons, sOK_eq, hhead, c5, c6, c7, c8]
      exact ⟨by omega, by omega, rfl⟩
    · unfold CF at h
      rw [sNs_cons, sN_eq, sDs_cons, sD_eq, sOKs_cons, sOK_eq] at h
      obtain ⟨c1, c2, c3⟩ := h
      simp only [Bool.and_eq_true] at c3
      exact ⟨by omega, by omega, by omega, by omega, c3.1.2.2.2, c3.1.2.1, c3.1.2.2.1, c3.2⟩
    · have := q h
      rw [sCs_cons, sC_eq, sNs_cons, sN_eq]
      omega
def cntOf (w : Int) (vars : List S42) (body : List S57) : Int × Int × Bool := if pIs w vars body = true then ((sCs body : Int), (sNs body : Int), true) else (0, 0, false)
theorem counted_tells (w : Int) (vars : List S42) (body : List S57) (hl : body.length ≤ 9223372036854775807) (hg : goodSs body) : Tells (fun k => prog_counted.f k w vars body) (cntOf w vars body) := by
  unfold prog_counted.f cntOf
  have th := Heading_tells w vars
  cases hh : hIs w vars
  · rw [hh] at th
    have : pIs w vars body = false := by unfold pIs; rw [hh]; rfl
    rw [this]
    exact Tells.bind th (Tells.ifF (by decide) (Tells.pure _))
  · rw [hh] at th
    obtain ⟨h1, h8, _, _, hv, _⟩ := hIs_all hh
    obtain ⟨b, s', n', tt, p, q⟩ : CFr w vars body 1 0 0 (fun k => prog_count_fine.f k w vars body body 1 0 0) := by
      by_cases hb : body = []
      · obtain ⟨b, s', n', tt, p, q⟩ := (cfine_tells w vars body h1 h8 (fun v hv' => (hv v hv').2.2) th).2 body [] 1 hg hl (by decide) (by decide) (fun _ => by decide) 0 0 (by decide) (by decide) (by decide)
        refine ⟨b, s', n', Tells.succ ?_, p, q⟩
        simp only [prog_count_fine.f]
        exact Tells.ifF (by rw [hb]; decide) tt
      · obtain ⟨b, s', n', tt, p, q⟩ := (cfine_tells w vars body h1 h8 (fun v hv' => (hv v hv').2.2) th).2 body [] 1 hg hl (by decide) (by decide) (fun _ => by decide) 0 0 (by decide) (by decide) (by decide)
        refine ⟨b, s', n', Tells.succ ?_, p, q⟩
        simp only [prog_count_fine.f]
        exact Tells.ifT (by have := List.length_pos_iff.2 hb; omega) (Tells.ifF (by decide) tt)
    have hp : pIs w vars body = b := by
      rw [Bool.eq_iff_iff, p]
      unfold pIs CF
      rw [hh]
      simp only [Bool.true_and, Bool.and_eq_true, decide_eq_true_eq]
      constructor
      · intro h; exact ⟨by omega, by omega, h.2.2⟩
      · intro h; exact ⟨by omega, by omega, h.2.2⟩
    refine Tells.bind th (Tells.ifT rfl (Tells.bind tt ?_))
    rw [hp]
    cases b
    · exact Tells.pure _
    · obtain ⟨e1, e2⟩ := q rfl
      have e1' : s' = (sCs body : Int) := by omega
      have e2' : n' = (sNs body : Int) := by omega
      rw [e1', e2']
      exact Tells.pure _
theorem pCheck_tells (w : Int) (vars : List S42) (body : List S57) (hl : body.length ≤ 9223372036854775807) (hg : goodSs body) : Tells (fun k => prog_Check.f k w vars body) (okInt (pIs w vars body) 30) := by
  unfold prog_Check.f
  refine Tells.bind (counted_tells w vars body hl hg) ?_
  unfold cntOf
  cases pIs w vars body
  · exact Tells.pure _
  · exact Tells.pure _
theorem pIs_all {w : Int} {vars : List S42} {body : List S57} (h : pIs w vars body = true) : hIs w vars = true ∧ sNs body ≤ 400 := by
  unfold pIs at h
  simp only [Bool.and_eq_true, decide_eq_true_eq] at h
  exact ⟨h.1, h.2.1⟩
theorem eNs_len : ∀ l : List S52, l.length ≤ eNs l
  | [] => Nat.zero_le _
  | x :: r => by
    have := eNs_len r
    have := eN_pos x
    rw [eNs_cons, List.length_cons]
    omega
theorem E_eta (x : S52) : (⟨x.f0, x.f1, x.f2, x.f3⟩ : S52) = x := by cases x; rfl
theorem S_eta (x : S57) : (⟨x.f0, x.f1, x.f2, x.f3, x.f4⟩ : S57) = x := by cases x; rfl
theorem sN_pos (x : S57) : 1 ≤ sN x := by rw [sN_eq]; omega
theorem sNs_len : ∀ l : List S57, l.length ≤ sNs l
  | [] => Nat.zero_le _
  | x :: r => by
    have := sNs_len r
    have := sN_pos x
    rw [sNs_cons, List.length_cons]
    omega
mutual
def r2_Same.j0 : Nat → Bool → Int → Int → Int → List (S52) → Int → Int → Int → List (S52) → Option (Bool)
 | 0, _, _, _, _, _, _, _, _, _ => none
 | k + 1, x33, x926000, x926001, x926002, x926003, x927000, x927001, x927002, x927003 => if x33 = true then (some false) else (r2_Same.l0 k 0 x926000 x926001 x926002 x926003 x927000 x927001 x927002 x927003)
def r2_Same.l0 : Nat → Int → Int → Int → Int → List (S52) → Int → Int → Int → List (S52) → Option (Bool)
 | 0, _, _, _, _, _, _, _, _, _ => none
 | k + 1, x5, x926000, x926001, x926002, x926003, x927000, x927001, x927002, x927003 => if x5 < (x926003.length : Int) then (if 0 ≤ x5 then (if x5 < (x927003.length : Int) then ((r2_Same.f k ((rd_T52 x926003 x5).f0) ((rd_T52 x926003 x5).f1) ((rd_T52 x926003 x5).f2) ((rd_T52 x926003 x5).f3) ((rd_T52 x927003 x5).f0) ((rd_T52 x927003 x5).f1) ((rd_T52 x927003 x5).f2) ((rd_T52 x927003 x5).f3)).bind fun t929 => (if t929 = true then (r2_Same.l0 k (wrap64 (x5 + 1)) x926000 x926001 x926002 x926003 x927000 x927001 x927002 x927003) else (some false))) else (none)) else (none)) else (some true)
def r2_Same.f : Nat → Int → Int → Int → List (S52) → Int → Int → Int → List (S52) → Option (Bool)
 | 0, _, _, _, _, _, _, _, _ => none
 | k + 1, a0_0, a0_1, a0_2, l0_3, a1_0, a1_1, a1_2, l1_3 => if a0_0 = a1_0 then (if a0_1 = a1_1 then (if a0_2 = a1_2 then (r2_Same.j0 k ((l0_3.length : Int) != (l1_3.length : Int)) a0_0 a0_1 a0_2 l0_3 a1_0 a1_1 a1_2 l1_3) else (r2_Same.j0 k true a0_0 a0_1 a0_2 l0_3 a1_0 a1_1 a1_2 l1_3)) else (r2_Same.j0 k true a0_0 a0_1 a0_2 l0_3 a1_0 a1_1 a1_2 l1_3)) else (r2_Same.j0 k true a0_0 a0_1 a0_2 l0_3 a1_0 a1_1 a1_2 l1_3)
end
def r2_Same.T6 : Bool × List (List Nat × List Nat) := (true, [([], []), ([0], [0]), ([], []), ([1, 2], [1, 2]), ([3], [3]), ([], []), ([5], [5]), ([], []), ([6, 7], [6, 7]), ([8], [8]), ([4, 9], [4, 9]), ([10], [10])])
def r2_Same.B6 : List Nat := [0, 1, 0, 7, 15, 0, 32, 0, 224, 480, 1023, 2047]
theorem r2_Same.tab6 : rtab .any (opsOf Try.f78 6) = r2_Same.T6 := by kernel_rfl
theorem r2_Same.bits6 : waitsOk r2_Same.T6.2 r2_Same.B6 = true := by kernel_rfl
theorem r2_Same.calls (k : Nat) : ∀ (a0_0 : Int) (a0_1 : Int) (a0_2 : Int) (A0_3 : Option Addr) (c0_3 : Nat) (l0_3 : List (S52)) (a1_0 : Int) (a1_1 : Int) (a1_2 : Int) (A1_3 : Option Addr) (c1_3 : Nat) (l1_3 : List (S52)) (r : Bool) (w : World) (hr0_3 : Kd.C k52 w A0_3 l0_3.length l0_3) (hc0_3 : l0_3.length ≤ c0_3) (hr1_3 : Kd.C k52 w A1_3 l1_3.length l1_3) (hc1_3 : l1_3.length ≤ c1_3) (h : r2_Same.f k a0_0 a0_1 a0_2 l0_3 a1_0 a1_1 a1_2 l1_3 = some r),
  Calls Try.prog 78 #[.agg #[.int .i64 a0_0, .int .i64 a0_1, .int .i64 a0_2, .slice A0_3 l0_3.length c0_3], .agg #[.int .i64 a1_0, .int .i64 a1_1, .int .i64 a1_2, .slice A1_3 l1_3.length c1_3]] w fun e w' => e = .returned (.bool r) ∧ Below w.heap.size w w' := by
 induction k using Nat.strongRecOn with
 | _ k ih =>
 intro a0_0 a0_1 a0_2 A0_3 c0_3 l0_3 a1_0 a1_1 a1_2 A1_3 c1_3 l1_3 r w hr0_3 hc0_3 hr1_3 hc1_3 h
 cases k with
 | zero => exact absurd h (by simp [r2_Same.f])
 | succ k =>
 simp only [r2_Same.f] at h
 have hu52 := Try.underlying52
 have HR0_3 := Aside0.mk hr0_3
 have HC0_3 := Aside0.mk hc0_3
 clear hr0_3 hc0_3
 have HR1_3 := Aside0.mk hr1_3
 have HC1_3 := Aside0.mk hc1_3
 clear hr1_3 hc1_3
 have HB := Aside0.mk (Below.refl w.heap.size w)
 have H : (if a0_0 = a1_0 then (if a0_1 = a1_1 then (if a0_2 = a1_2 then (r2_Same.j0 k ((l0_3.length : Int) != (l1_3.length : Int)) a0_0 a0_1 a0_2 l0_3 a1_0 a1_1 a1_2 l1_3) else (r2_Same.j0 k true a0_0 a0_1 a0_2 l0_3 a1_0 a1_1 a1_2 l1_3)) else (r2_Same.j0 k true a0_0 a0_1 a0_2 l0_3 a1_0 a1_1 a1_2 l1_3)) else (r2_Same.j0 k true a0_0 a0_1 a0_2 l0_3 a1_0 a1_1 a1_2 l1_3)) = some r := h
 clear h
 have HC3 := Aside0.mk H
 clear H
 go_enter Try.func78, Try.ntmps78
 go_upto_region 1 with (first | ((with_reducible refine gate_dst (N := 2) rfl ?_); (try (refine gate_guard (by rfl) ?_; dsimp only)); refine bx 2 rfl rfl #[.int .i64 a0_0, .int .i64 a0_1, .int .i64 a0_2, .slice A0_3 l0_3.length c0_3] 52 ?_; intro gb925 hg w4 hbox hb; have BK925 := Aside0.mk (hbox); have GE925 := ge HB hg; replace HB := sb HB hb; clear hb hbox hg) | ((with_reducible refine gate_dst (N := 3) rfl ?_); (try (refine gate_guard (by rfl) ?_; dsimp only)); refine bx 3 rfl rfl #[.int .i64 a1_0, .int .i64 a1_1, .int .i64 a1_2, .slice A1_3 l1_3.length c1_3] 52 ?_; intro gb926 hg w5 hbox hb; have BK926 := Aside0.mk (hbox); have GE926 := ge HB hg; have NB925_926 := Aside0.mk ((by rw [hg]; exact Nat.ne_of_lt (blk_lt (kk BK925)) : gb925 ≠ gb926)); have NB926_925 := Aside0.mk ((by rw [hg]; exact Nat.ne_of_gt (blk_lt (kk BK925)) : gb926 ≠ gb925)); replace BK925 := kb BK925 hb; replace HB := sb HB hb; clear hb hbox hg))
 (try simp only [Act.put, List.setIfInBounds_toArray, List.set_cons_zero, List.set_cons_succ])
 go_cut [33] (fun v33 wc => ∃ (kq : Nat) (x33_2 : Bool), v33 = .bool x33_2 ∧ Aside0 (r2_Same.j0 kq x33_2 a0_0 a0_1 a0_2 l0_3 a1_0 a1_1 a1_2 l1_3 = some r) ∧ Aside0 (kq ≤ k) ∧ Aside0 (wc.heap[gb925]? = some (.cells #[.int .i64 a0_0, .int .i64 a0_1, .int .i64 a0_2, (.slice A0_3 l0_3.length c0_3)] 52 (0, 0))) ∧ Aside0 (wc.heap[gb926]? = some (.cells #[.int .i64 a1_0, .int .i64 a1_1, .int .i64 a1_2, (.slice A1_3 l1_3.length c1_3)] 52 (0, 0))) ∧ Aside0 (Below w.heap.size w wc))
 case first =>
  have H := HC3.out
  clear HC3
  by_cases c6 : a0_0 = a1_0
  rotate_left
  ·rw [if_neg c6] at H
   have c6b0 : (a0_0 == a1_0) = false := beq_eq_false_iff_ne.mpr c6
   have c6b1 : (a0_0 != a1_0) = true := bne_iff_ne.mpr c6
   (first | rw [c6b0] | (simp only [i64_w, i32_w]; rw [c6b0]) | skip)
   have H' := Aside0.mk H
   clear H
   have hnb18 := NB925_926.out
   have hnc18 := NB926_925.out
   obtain ⟨hcz19_0, hcz19_1, hcz19_2, hcz19_3, hfz19_0, hfz19_1, hfz19_2, hfz19_3⟩ := cf4 BK925.out
   obtain ⟨hcz20_0, hcz20_1, hcz20_2, hcz20_3, hfz20_0, hfz20_1, hfz20_2, hfz20_3⟩ := cf4 BK926.out
   go_wp2
   go_meet
   case rel => exact ⟨_, (true), rs, H', ⟨by first | omega | exact Nat.le_refl _⟩, ⟨kk BK925⟩, ⟨kk BK926⟩, ⟨bb HB⟩⟩
  rw [if_pos c6] at H
  have c6b0 : (a0_0 == a1_0) = true := beq_iff_eq.mpr c6
  have c6b1 : (a0_0 != a1_0) = false := bne_eq_false_iff_eq.mpr c6
  clear c6
  (first | rw [c6b0] | (simp only [i64_w, i32_w]; rw [c6b0]) | skip)
  by_cases c7 : a0_1 = a1_1
  rotate_left
  ·rw [if_neg c7] at H
   have c7b0 : (a0_1 == a1_1) = false := beq_eq_false_iff_ne.mpr c7
   have c7b1 : (a0_1 != a1_1) = true := bne_iff_ne.mpr c7
   have H' := Aside0.mk H
   clear H
   have hnb15 := NB925_926.out
   have hnc15 := NB926_925.out
   obtain ⟨hcz16_0, hcz16_1, hcz16_2, hcz16_3, hfz16_0, hfz16_1, hfz16_2, hfz16_3⟩ := cf4 BK925.out
   obtain ⟨hcz17_0, hcz17_1, hcz17_2, hcz17_3, hfz17_0, hfz17_1, hfz17_2, hfz17_3⟩ := cf4 BK926.out
   go_wp2
   go_meet
   case rel => exact ⟨_, (true), rs, H', ⟨by first | omega | exact Nat.le_refl _⟩, ⟨kk BK925⟩, ⟨kk BK926⟩, ⟨bb HB⟩⟩
  rw [if_pos c7] at H
  have c7b0 : (a0_1 == a1_1) = true := beq_iff_eq.mpr c7
  have c7b1 : (a0_1 != a1_1) = false := bne_eq_false_iff_eq.mpr c7
  clear c7
  by_cases c8 : a0_2 = a1_2
  rotate_left
  ·rw [if_neg c8] at H
   have c8b0 : (a0_2 == a1_2) = false := beq_eq_false_iff_ne.mpr c8
   have c8b1 : (a0_2 != a1_2) = true := bne_iff_ne.mpr c8
   have H' := Aside0.mk H
   clear H
   have hnb12 := NB925_926.out
   have hnc12 := NB926_925.out
   obtain ⟨hcz13_0, hcz13_1, hcz13_2, hcz13_3, hfz13_0, hfz13_1, hfz13_2, hfz13_3⟩ := cf4 BK925.out
   obtain ⟨hcz14_0, hcz14_1, hcz14_2, hcz14_3, hfz14_0, hfz14_1, hfz14_2, hfz14_3⟩ := cf4 BK926.out
   go_wp2
   go_meet
   case rel => exact ⟨_, (true), rs, H', ⟨by first | omega | exact Nat.le_refl _⟩, ⟨kk BK925⟩, ⟨kk BK926⟩, ⟨bb HB⟩⟩
  rw [if_pos c8] at H
  have c8b0 : (a0_2 == a1_2) = true := beq_iff_eq.mpr c8
  have c8b1 : (a0_2 != a1_2) = false := bne_eq_false_iff_eq.mpr c8
  clear c8
  have H' := Aside0.mk H
  clear H
  have hnb9 := NB925_926.out
  have hnc9 := NB926_925.out
  obtain ⟨hcz10_0, hcz10_1, hcz10_2, hcz10_3, hfz10_0, hfz10_1, hfz10_2, hfz10_3⟩ := cf4 BK925.out
  obtain ⟨hcz11_0, hcz11_1, hcz11_2, hcz11_3, hfz11_0, hfz11_1, hfz11_2, hfz11_3⟩ := cf4 BK926.out
  go_wp2
  go_meet
  case rel => exact ⟨_, (((l0_3.length : Int) != (l1_3.length : Int))), rs, H', ⟨by first | omega | exact Nat.le_refl _⟩, ⟨kk BK925⟩, ⟨kk BK926⟩, ⟨bb HB⟩⟩
 case rest =>
  clear HC3
  try clear c1
  try clear p2
  try clear c6
  try clear c6b0
  try clear c6b1
  try clear c7
  try clear c7b0
  try clear c7b1
  try clear c8
  try clear c8b0
  try clear c8b1
  try clear c9
  try clear c12
  try clear c15
  try clear c18
  try clear hcz10_0 hcz10_1 hcz10_2 hcz10_3
  try clear hcz11_0 hcz11_1 hcz11_2 hcz11_3
  try clear hcz13_0 hcz13_1 hcz13_2 hcz13_3
  try clear hcz14_0 hcz14_1 hcz14_2 hcz14_3
  try clear hcz16_0 hcz16_1 hcz16_2 hcz16_3
  try clear hcz17_0 hcz17_1 hcz17_2 hcz17_3
  try clear hcz19_0 hcz19_1 hcz19_2 hcz19_3
  try clear hcz20_0 hcz20_1 hcz20_2 hcz20_3
  try clear hfz10_0 hfz10_1 hfz10_2 hfz10_3
  try clear hfz11_0 hfz11_1 hfz11_2 hfz11_3
  try clear hfz13_0 hfz13_1 hfz13_2 hfz13_3
  try clear hfz14_0 hfz14_1 hfz14_2 hfz14_3
  try clear hfz16_0 hfz16_1 hfz16_2 hfz16_3
  try clear hfz17_0 hfz17_1 hfz17_2 hfz17_3
  try clear hfz19_0 hfz19_1 hfz19_2 hfz19_3
  try clear hfz20_0 hfz20_1 hfz20_2 hfz20_3
  obtain ⟨kq, x33_2, rfl, HA, HJ2, BK925, BK926, HB⟩ := hcut
  cases kq with
  | zero => exact absurd HA.out (by simp [r2_Same.j0])
  | succ kj2 =>
   have H := HA.out
   clear HA
   simp only [r2_Same.j0] at H
   by_cases c21 : x33_2 = true
   ·subst c21
    replace H := it H
    obtain rfl := Option.some.inj H
    go_wp2
    go_ret
    exact ⟨rr, bb HB⟩
   replace c21 := Bool.eq_false_iff.mpr c21
   subst c21
   replace H := fi H
   have H' := Aside0.mk H
   clear H
   go_wp2
   go_loopg [5] kj2 (fun kq v5 w' => ∃ (x5_2 : Int), v5 = .int .i64 x5_2 ∧ Aside0 (r2_Same.l0 kq x5_2 a0_0 a0_1 a0_2 l0_3 a1_0 a1_1 a1_2 l1_3 = some r) ∧ Aside0 (kq ≤ kj2) ∧ Aside0 (w'.heap[gb925]? = some (.cells #[.int .i64 a0_0, .int .i64 a0_1, .int .i64 a0_2, (.slice A0_3 l0_3.length c0_3)] 52 (0, 0))) ∧ Aside0 (w'.heap[gb926]? = some (.cells #[.int .i64 a1_0, .int .i64 a1_1, .int .i64 a1_2, (.slice A1_3 l1_3.length c1_3)] 52 (0, 0))) ∧ Aside0 (Below w.heap.size w w'))
   case atStart => exact ⟨(0), rs, H', ⟨Nat.le_refl _⟩, ⟨kk BK925⟩, ⟨kk BK926⟩, ⟨bb HB⟩⟩
   case round =>
    clear H'
    try clear c1
    try clear c2
    try clear p2
    try clear c6
    try clear c6b0
    try clear c6b1
    try clear c7
    try clear c7b0
    try clear c7b1
    try clear c8
    try clear c8b0
    try clear c8b1
    try clear c9
    try clear c12
    try clear c15
    try clear c18
    try clear c21
    try clear hcz10_0 hcz10_1 hcz10_2 hcz10_3
    try clear hcz11_0 hcz11_1 hcz11_2 hcz11_3
    try clear hcz13_0 hcz13_1 hcz13_2 hcz13_3
    try clear hcz14_0 hcz14_1 hcz14_2 hcz14_3
    try clear hcz16_0 hcz16_1 hcz16_2 hcz16_3
    try clear hcz17_0 hcz17_1 hcz17_2 hcz17_3
    try clear hcz19_0 hcz19_1 hcz19_2 hcz19_3
    try clear hcz20_0 hcz20_1 hcz20_2 hcz20_3
    try clear hfz10_0 hfz10_1 hfz10_2 hfz10_3
    try clear hfz11_0 hfz11_1 hfz11_2 hfz11_3
    try clear hfz13_0 hfz13_1 hfz13_2 hfz13_3
    try clear hfz14_0 hfz14_1 hfz14_2 hfz14_3
    try clear hfz16_0 hfz16_1 hfz16_2 hfz16_3
    try clear hfz17_0 hfz17_1 hfz17_2 hfz17_3
    try clear hfz19_0 hfz19_1 hfz19_2 hfz19_3
    try clear hfz20_0 hfz20_1 hfz20_2 hfz20_3
    try clear p2
    obtain ⟨x5_2, rfl, HA, HK2, BK925, BK926, HB⟩ := hrel
    cases gk with
    | zero => exact absurd HA.out (by simp [r2_Same.l0])
    | succ k2 =>
     have H := HA.out
     clear HA
     simp only [r2_Same.l0] at H
     by_cases c22 : x5_2 < (l0_3.length : Int)
     rotate_left
     ·rw [if_neg c22] at H
      have c22b0 : decide (x5_2 < (l0_3.length : Int)) = false := decide_eq_false c22
      clear c22
      obtain rfl := Option.some.inj H
      have hnb35 := NB925_926.out
      have hnc35 := NB926_925.out
      obtain ⟨hcz36_0, hcz36_1, hcz36_2, hcz36_3, hfz36_0, hfz36_1, hfz36_2, hfz36_3⟩ := cf4 BK925.out
      go_wp2
      go_ret
      exact ⟨rr, bb HB⟩
     rw [if_pos c22] at H
     have c22b0 : decide (x5_2 < (l0_3.length : Int)) = true := decide_eq_true c22
     clear c22
     by_cases c23 : 0 ≤ x5_2
     rotate_left
     ·rw [if_neg c23] at H
      exact absurd H (by simp)
     rw [if_pos c23] at H
     have c23b0 : decide (0 ≤ x5_2) = true := decide_eq_true c23
     clear c23
     by_cases c24 : x5_2 < (l1_3.length : Int)
     rotate_left
     ·rw [if_neg c24] at H
      exact absurd H (by simp)
     rw [if_pos c24] at H
     have c24b0 : decide (x5_2 < (l1_3.length : Int)) = true := decide_eq_true c24
     clear c24
     obtain ⟨t929, A25, H⟩ := be H
     by_cases c26 : t929 = true
     rotate_left
     ·replace c26 := Bool.eq_false_iff.mpr c26
      subst c26
      replace H := fi H
      obtain rfl := Option.some.inj H
      have hnb31 := NB925_926.out
      have hnc31 := NB926_925.out
      obtain ⟨hcz32_0, hcz32_1, hcz32_2, hcz32_3, hfz32_0, hfz32_1, hfz32_2, hfz32_3⟩ := cf4 BK925.out
      try go_wp2
      replace BK925 := Aside0.mk (kdr BK925.out)
      replace BK926 := Aside0.mk (kdr BK926.out)
      replace HB := Aside0.mk (bd1 HB.out)
      have p927 : 0 ≤ (x5_2 : Int) := od
      have q927 : x5_2 < (l0_3.length : Int) := od
      obtain ⟨ad927, A927_3, c927_3, e927, hx927_0, hx927_1, hx927_2, hx927_3, hl927_3, hi927_3⟩ := at_T52 HR0_3.out x5_2 p927 q927
      have hw927_3 := hx927_3
      have hw927_2 := hx927_2
      have hw927_1 := hx927_1
      have hw927_0 := hx927_0
      cases e927
      replace hx927_0 := bcell HB.out hx927_0
      replace hx927_1 := bcell HB.out hx927_1
      replace hx927_2 := bcell HB.out hx927_2
      replace hx927_3 := bcell HB.out hx927_3
      have HR927_3 := Aside0.mk hi927_3
      have HC927_3 := Aside0.mk hl927_3
      clear hi927_3 hl927_3
      replace p927 := eq_true p927
      replace q927 := eq_true q927
      have p928 : 0 ≤ (x5_2 : Int) := od
      have q928 : x5_2 < (l1_3.length : Int) := od
      obtain ⟨ad928, A928_3, c928_3, e928, hx928_0, hx928_1, hx928_2, hx928_3, hl928_3, hi928_3⟩ := at_T52 HR1_3.out x5_2 p928 q928
      have hw928_3 := hx928_3
      have hw928_2 := hx928_2
      have hw928_1 := hx928_1
      have hw928_0 := hx928_0
      cases e928
      replace hx928_0 := bcell HB.out hx928_0
      replace hx928_1 := bcell HB.out hx928_1
      replace hx928_2 := bcell HB.out hx928_2
      replace hx928_3 := bcell HB.out hx928_3
      have HR928_3 := Aside0.mk hi928_3
      have HC928_3 := Aside0.mk hl928_3
      clear hi928_3 hl928_3
      replace p928 := eq_true p928
      replace q928 := eq_true q928
      refine start_ (n := 12) (S := fun w' => w'.cell? ⟨gb925, 0, none⟩ = some (.int .i64 a0_0) ∧ w'.cell? ⟨gb925, 1, none⟩ = some (.int .i64 a0_1) ∧ w'.cell? ⟨gb925, 2, none⟩ = some (.int .i64 a0_2) ∧ w'.cell? ⟨gb925, 3, none⟩ = some (.slice (some ad927) l0_3.length c0_3) ∧ w'.cell? ⟨gb926, 0, none⟩ = some (.int .i64 a1_0) ∧ w'.cell? ⟨gb926, 1, none⟩ = some (.int .i64 a1_1) ∧ w'.cell? ⟨gb926, 2, none⟩ = some (.int .i64 a1_2) ∧ w'.cell? ⟨gb926, 3, none⟩ = some (.slice (some ad928) l1_3.length c1_3) ∧ w'.cell? (ad927.add ((x5_2).toNat * 4)) = some (.int .i64 ((rd_T52 l0_3 x5_2).f0)) ∧ w'.cell? ⟨(ad927.add ((x5_2).toNat * 4)).block, (ad927.add ((x5_2).toNat * 4)).off + 1, none⟩ = some (.int .i64 ((rd_T52 l0_3 x5_2).f1)) ∧ w'.cell? ⟨(ad927.add ((x5_2).toNat * 4)).block, (ad927.add ((x5_2).toNat * 4)).off + 2, none⟩ = some (.int .i64 ((rd_T52 l0_3 x5_2).f2)) ∧ w'.cell? ⟨(ad927.add ((x5_2).toNat * 4)).block, (ad927.add ((x5_2).toNat * 4)).off + 3, none⟩ = some (.slice A927_3 ((rd_T52 l0_3 x5_2).f3).length c927_3) ∧ w'.cell? (ad928.add ((x5_2).toNat * 4)) = some (.int .i64 ((rd_T52 l1_3 x5_2).f0)) ∧ w'.cell? ⟨(ad928.add ((x5_2).toNat * 4)).block, (ad928.add ((x5_2).toNat * 4)).off + 1, none⟩ = some (.int .i64 ((rd_T52 l1_3 x5_2).f1)) ∧ w'.cell? ⟨(ad928.add ((x5_2).toNat * 4)).block, (ad928.add ((x5_2).toNat * 4)).off + 2, none⟩ = some (.int .i64 ((rd_T52 l1_3 x5_2).f2)) ∧ w'.cell? ⟨(ad928.add ((x5_2).toNat * 4)).block, (ad928.add ((x5_2).toNat * 4)).off + 3, none⟩ = some (.slice A928_3 ((rd_T52 l1_3 x5_2).f3).length c928_3)) (ds := []) #[false, false, false, false, false, false, false, false, false, false, false, false] (by kernel_rfl) rfl rfl ⟨(blk_cell BK925.out 0).trans rfl, (blk_cell BK925.out 1).trans rfl, (blk_cell BK925.out 2).trans rfl, (blk_cell BK925.out 3).trans rfl, (blk_cell BK926.out 0).trans rfl, (blk_cell BK926.out 1).trans rfl, (blk_cell BK926.out 2).trans rfl, (blk_cell BK926.out 3).trans rfl, (bcell HB.out hw927_0), (bcell HB.out hw927_1), (bcell HB.out hw927_2), (bcell HB.out hw927_3), (bcell HB.out hw928_0), (bcell HB.out hw928_1), (bcell HB.out hw928_2), (bcell HB.out hw928_3)⟩ (fun hHeld => ?_); refine with_tabW r2_Same.tab6 r2_Same.bits6 (fun HT_ HW_ => ?_)
      generalize wr.drew = w33 at BK925 BK926 HB HR927_3 HR928_3 hx927_0 hx927_1 hx927_2 hx927_3 hx928_0 hx928_1 hx928_2 hx928_3 hHeld ⊢
      refine pT 0 41 (bl 12 1) HT_ rfl rfl ?_
      refine pT 2 43 (bl 12 5) HT_ rfl rfl ?_
      refine pT 5 46 (bl 12 37) HT_ rfl rfl ?_
      refine pT 7 48 (bl 12 165) HT_ rfl rfl ?_
      refine tk (i := 1) (N := some 42) (bl 12 167) rfl rfl (take_ofW HT_.out HW_.out (by kernel_rfl)) hHeld ?_
      refine pT 3 44 (bl 12 175) HT_ rfl rfl ?_
      refine tk (i := 4) (N := some 45) (bl 12 191) rfl rfl (take_ofW HT_.out HW_.out (by kernel_rfl)) hHeld ?_
      refine tk (i := 6) (N := some 47) (bl 12 255) rfl rfl (take_ofW HT_.out HW_.out (by kernel_rfl)) hHeld ?_
      refine pT 8 49 (bl 12 511) HT_ rfl rfl ?_
      refine tk (i := 9) (N := some 50) (bl 12 1023) rfl rfl (take_ofW HT_.out HW_.out (by kernel_rfl)) hHeld ?_
      refine one_ (i := 10) (N := some 51) (bl 12 2047) rfl rfl (one_of HT_.out (by kernel_rfl)) (by decide) (fun K hK => ?_)
      refine gO Try.func78 #[.agg #[.int .i64 ((rd_T52 l0_3 x5_2).f0), .int .i64 ((rd_T52 l0_3 x5_2).f1), .int .i64 ((rd_T52 l0_3 x5_2).f2), .slice A927_3 ((rd_T52 l0_3 x5_2).f3).length c927_3], .agg #[.int .i64 ((rd_T52 l1_3 x5_2).f0), .int .i64 ((rd_T52 l1_3 x5_2).f1), .int .i64 ((rd_T52 l1_3 x5_2).f2), .slice A928_3 ((rd_T52 l1_3 x5_2).f3).length c928_3]] (by rfl) rfl rfl ?_
      with_reducible refine (ih k2 (by have := HJ2.out; have := HK2.out; omega) ((rd_T52 l0_3 x5_2).f0) ((rd_T52 l0_3 x5_2).f1) ((rd_T52 l0_3 x5_2).f2) _ _ ((rd_T52 l0_3 x5_2).f3) ((rd_T52 l1_3 x5_2).f0) ((rd_T52 l1_3 x5_2).f1) ((rd_T52 l1_3 x5_2).f2) _ _ ((rd_T52 l1_3 x5_2).f3) false _ ?side1 ?side2 ?side3 ?side4 A25.out).mono ?_
      (case side1 => exact cb HR927_3 HB)
      (case side2 => exact HC927_3.out)
      (case side3 => exact cb HR928_3 HB)
      (case side4 => exact HC928_3.out)
      rintro e w34 ⟨rfl, hb⟩
      refine ⟨_, rfl, ?_⟩
      replace BK925 := kb BK925 hb
      replace BK926 := kb BK926 hb
      replace HB := sb HB hb
      (try clear hb)
      (try clear hb2)
      (try clear hk)
      (try clear hi)
      refine hK.out _ _ ⟨(blk_cell BK925.out 0).trans rfl, (blk_cell BK925.out 1).trans rfl, (blk_cell BK925.out 2).trans rfl, (blk_cell BK925.out 3).trans rfl, (blk_cell BK926.out 0).trans rfl, (blk_cell BK926.out 1).trans rfl, (blk_cell BK926.out 2).trans rfl, (blk_cell BK926.out 3).trans rfl, (bcell HB.out hw927_0), (bcell HB.out hw927_1), (bcell HB.out hw927_2), (bcell HB.out hw927_3), (bcell HB.out hw928_0), (bcell HB.out hw928_1), (bcell HB.out hw928_2), (bcell HB.out hw928_3)⟩ (fun hHeld => ?_)
      clear hK K
      refine nm 51 ?_
      refine pT 11 52 (bl 12 4095) HT_ rfl rfl ?_
      refine done_ (done_of HT_.out (by kernel_rfl)) ?_
      try go_wp2
      go_ret
      exact ⟨rr, bb HB⟩
     subst c26
     replace H := it H
     have H' := Aside0.mk H
     clear H
     have hnb27 := NB925_926.out
     have hnc27 := NB926_925.out
     obtain ⟨hcz28_0, hcz28_1, hcz28_2, hcz28_3, hfz28_0, hfz28_1, hfz28_2, hfz28_3⟩ := cf4 BK925.out
     try go_wp2
     replace BK925 := Aside0.mk (kdr BK925.out)
     replace BK926 := Aside0.mk (kdr BK926.out)
     replace HB := Aside0.mk (bd1 HB.out)
     have p927 : 0 ≤ (x5_2 : Int) := od
     have q927 : x5_2 < (l0_3.length : Int) := od
     obtain ⟨ad927, A927_3, c927_3, e927, hx927_0, hx927_1, hx927_2, hx927_3, hl927_3, hi927_3⟩ := at_T52 HR0_3.out x5_2 p927 q927
     have hw927_3 := hx927_3
     have hw927_2 := hx927_2
     have hw927_1 := hx927_1
     have hw927_0 := hx927_0
     cases e927
     replace hx927_0 := bcell HB.out hx927_0
     replace hx927_1 := bcell HB.out hx927_1
     replace hx927_2 := bcell HB.out hx927_2
     replace hx927_3 := bcell HB.out hx927_3
     have HR927_3 := Aside0.mk hi927_3
     have HC927_3 := Aside0.mk hl927_3
     clear hi927_3 hl927_3
     replace p927 := eq_true p927
     replace q927 := eq_true q927
     have p928 : 0 ≤ (x5_2 : Int) := od
     have q928 : x5_2 < (l1_3.length : Int) := od
     obtain ⟨ad928, A928_3, c928_3, e928, hx928_0, hx928_1, hx928_2, hx928_3, hl928_3, hi928_3⟩ := at_T52 HR1_3.out x5_2 p928 q928
     have hw928_3 := hx928_3
     have hw928_2 := hx928_2
     have hw928_1 := hx928_1
     have hw928_0 := hx928_0
     cases e928
     replace hx928_0 := bcell HB.out hx928_0
     replace hx928_1 := bcell HB.out hx928_1
     replace hx928_2 := bcell HB.out hx928_2
     replace hx928_3 := bcell HB.out hx928_3
     have HR928_3 := Aside0.mk hi928_3
     have HC928_3 := Aside0.mk hl928_3
     clear hi928_3 hl928_3
     replace p928 := eq_true p928
     replace q928 := eq_true q928
     refine start_ (n := 12) (S := fun w' => w'.cell? ⟨gb925, 0, none⟩ = some (.int .i64 a0_0) ∧ w'.cell? ⟨gb925, 1, none⟩ = some (.int .i64 a0_1) ∧ w'.cell? ⟨gb925, 2, none⟩ = some (.int .i64 a0_2) ∧ w'.cell? ⟨gb925, 3, none⟩ = some (.slice (some ad927) l0_3.length c0_3) ∧ w'.cell? ⟨gb926, 0, none⟩ = some (.int .i64 a1_0) ∧ w'.cell? ⟨gb926, 1, none⟩ = some (.int .i64 a1_1) ∧ w'.cell? ⟨gb926, 2, none⟩ = some (.int .i64 a1_2) ∧ w'.cell? ⟨gb926, 3, none⟩ = some (.slice (some ad928) l1_3.length c1_3) ∧ w'.cell? (ad927.add ((x5_2).toNat * 4)) = some (.int .i64 ((rd_T52 l0_3 x5_2).f0)) ∧ w'.cell? ⟨(ad927.add ((x5_2).toNat * 4)).block, (ad927.add ((x5_2).toNat * 4)).off + 1, none⟩ = some (.int .i64 ((rd_T52 l0_3 x5_2).f1)) ∧ w'.cell? ⟨(ad927.add ((x5_2).toNat * 4)).block, (ad927.add ((x5_2).toNat * 4)).off + 2, none⟩ = some (.int .i64 ((rd_T52 l0_3 x5_2).f2)) ∧ w'.cell? ⟨(ad927.add ((x5_2).toNat * 4)).block, (ad927.add ((x5_2).toNat * 4)).off + 3, none⟩ = some (.slice A927_3 ((rd_T52 l0_3 x5_2).f3).length c927_3) ∧ w'.cell? (ad928.add ((x5_2).toNat * 4)) = some (.int .i64 ((rd_T52 l1_3 x5_2).f0)) ∧ w'.cell? ⟨(ad928.add ((x5_2).toNat * 4)).block, (ad928.add ((x5_2).toNat * 4)).off + 1, none⟩ = some (.int .i64 ((rd_T52 l1_3 x5_2).f1)) ∧ w'.cell? ⟨(ad928.add ((x5_2).toNat * 4)).block, (ad928.add ((x5_2).toNat * 4)).off + 2, none⟩ = some (.int .i64 ((rd_T52 l1_3 x5_2).f2)) ∧ w'.cell? ⟨(ad928.add ((x5_2).toNat * 4)).block, (ad928.add ((x5_2).toNat * 4)).off + 3, none⟩ = some (.slice A928_3 ((rd_T52 l1_3 x5_2).f3).length c928_3)) (ds := []) #[false, false, false, false, false, false, false, false, false, false, false, false] (by kernel_rfl) rfl rfl ⟨(blk_cell BK925.out 0).trans rfl, (blk_cell BK925.out 1).trans rfl, (blk_cell BK925.out 2).trans rfl, (blk_cell BK925.out 3).trans rfl, (blk_cell BK926.out 0).trans rfl, (blk_cell BK926.out 1).trans rfl, (blk_cell BK926.out 2).trans rfl, (blk_cell BK926.out 3).trans rfl, (bcell HB.out hw927_0), (bcell HB.out hw927_1), (bcell HB.out hw927_2), (bcell HB.out hw927_3), (bcell HB.out hw928_0), (bcell HB.out hw928_1), (bcell HB.out hw928_2), (bcell HB.out hw928_3)⟩ (fun hHeld => ?_); refine with_tabW r2_Same.tab6 r2_Same.bits6 (fun HT_ HW_ => ?_)
     generalize wr.drew = w29 at BK925 BK926 HB HR927_3 HR928_3 hx927_0 hx927_1 hx927_2 hx927_3 hx928_0 hx928_1 hx928_2 hx928_3 hHeld ⊢
     refine pT 0 41 (bl 12 1) HT_ rfl rfl ?_
     refine pT 2 43 (bl 12 5) HT_ rfl rfl ?_
     refine pT 5 46 (bl 12 37) HT_ rfl rfl ?_
     refine pT 7 48 (bl 12 165) HT_ rfl rfl ?_
     refine tk (i := 1) (N := some 42) (bl 12 167) rfl rfl (take_ofW HT_.out HW_.out (by kernel_rfl)) hHeld ?_
     refine pT 3 44 (bl 12 175) HT_ rfl rfl ?_
     refine tk (i := 4) (N := some 45) (bl 12 191) rfl rfl (take_ofW HT_.out HW_.out (by kernel_rfl)) hHeld ?_
     refine tk (i := 6) (N := some 47) (bl 12 255) rfl rfl (take_ofW HT_.out HW_.out (by kernel_rfl)) hHeld ?_
     refine pT 8 49 (bl 12 511) HT_ rfl rfl ?_
     refine tk (i := 9) (N := some 50) (bl 12 1023) rfl rfl (take_ofW HT_.out HW_.out (by kernel_rfl)) hHeld ?_
     refine one_ (i := 10) (N := some 51) (bl 12 2047) rfl rfl (one_of HT_.out (by kernel_rfl)) (by decide) (fun K hK => ?_)
     refine gO Try.func78 #[.agg #[.int .i64 ((rd_T52 l0_3 x5_2).f0), .int .i64 ((rd_T52 l0_3 x5_2).f1), .int .i64 ((rd_T52 l0_3 x5_2).f2), .slice A927_3 ((rd_T52 l0_3 x5_2).f3).length c927_3], .agg #[.int .i64 ((rd_T52 l1_3 x5_2).f0), .int .i64 ((rd_T52 l1_3 x5_2).f1), .int .i64 ((rd_T52 l1_3 x5_2).f2), .slice A928_3 ((rd_T52 l1_3 x5_2).f3).length c928_3]] (by rfl) rfl rfl ?_
     with_reducible refine (ih k2 (by have := HJ2.out; have := HK2.out; omega) ((rd_T52 l0_3 x5_2).f0) ((rd_T52 l0_3 x5_2).f1) ((rd_T52 l0_3 x5_2).f2) _ _ ((rd_T52 l0_3 x5_2).f3) ((rd_T52 l1_3 x5_2).f0) ((rd_T52 l1_3 x5_2).f1) ((rd_T52 l1_3 x5_2).f2) _ _ ((rd_T52 l1_3 x5_2).f3) true _ ?side1 ?side2 ?side3 ?side4 A25.out).mono ?_
     (case side1 => exact cb HR927_3 HB)
     (case side2 => exact HC927_3.out)
     (case side3 => exact cb HR928_3 HB)
     (case side4 => exact HC928_3.out)
     rintro e w30 ⟨rfl, hb⟩
     refine ⟨_, rfl, ?_⟩
     replace BK925 := kb BK925 hb
     replace BK926 := kb BK926 hb
     replace HB := sb HB hb
     (try clear hb)
     (try clear hb2)
     (try clear hk)
     (try clear hi)
     refine hK.out _ _ ⟨(blk_cell BK925.out 0).trans rfl, (blk_cell BK925.out 1).trans rfl, (blk_cell BK925.out 2).trans rfl, (blk_cell BK925.out 3).trans rfl, (blk_cell BK926.out 0).trans rfl, (blk_cell BK926.out 1).trans rfl, (blk_cell BK926.out 2).trans rfl, (blk_cell BK926.out 3).trans rfl, (bcell HB.out hw927_0), (bcell HB.out hw927_1), (bcell HB.out hw927_2), (bcell HB.out hw927_3), (bcell HB.out hw928_0), (bcell HB.out hw928_1), (bcell HB.out hw928_2), (bcell HB.out hw928_3)⟩ (fun hHeld => ?_)
     clear hK K
     refine nm 51 ?_
     refine pT 11 52 (bl 12 4095) HT_ rfl rfl ?_
     refine done_ (done_of HT_.out (by kernel_rfl)) ?_
     try go_wp2
     go_roundg k2
     case measure => have := HJ2.out; have := HK2.out; omega
     case rel => exact ⟨(wrap64 (x5_2 + 1)), rs, H', ⟨by have := HJ2.out; have := HK2.out; omega⟩, ⟨kk BK925⟩, ⟨kk BK926⟩, ⟨bb HB⟩⟩
theorem sameE : (∀ x, goodE x → Tells (fun k => r2_Same.f k x.f0 x.f1 x.f2 x.f3 x.f0 x.f1 x.f2 x.f3) true) ∧
    (∀ suf, ∀ (pre : List S52) (a b c : Int), goodEs suf → (pre ++ suf).length ≤ 9223372036854775807 → Tells (fun k => r2_Same.l0 k (pre.length : Int) a b c (pre ++ suf) a b c (pre ++ suf)) true) := by
  refine E_ind (fun a b c l ih => ?_) ?_ (fun x r ih1 ih2 => ?_)
  · intro hg
    refine Tells.succ ?_
    simp only [r2_Same.f, if_true, bne_self_eq_false]
    refine Tells.succ ?_
    simp only [r2_Same.j0, Bool.false_eq_true, if_false]
    exact ih [] a b c hg.2 hg.1
  · intro pre a b c _ _
    refine Tells.succ ?_
    simp only [r2_Same.l0, pre_nlt, if_false]
    exact Tells.pure _
  · intro pre a b c hg hl
    refine Tells.succ ?_
    simp only [r2_Same.l0, pre_lt, pre_pos, if_true, rdE_mid]
    refine Tells.bind (ih1 hg.1) (Tells.ifT rfl ?_)
    rw [pre_next pre x r hl]
    have := ih2 (pre ++ [x]) a b c hg.2 (by rw [← pre_app]; exact hl)
    rw [← pre_app] at this
    exact this
def r3_exprs.l0 : Nat → List (S52) → List (S52) → Int → Option (Bool)
 | 0, _, _, _ => none
 | k + 1, x0, x1, x5 => if x5 < (x0.length : Int) then (if 0 ≤ x5 then (if x5 < (x1.length : Int) then ((r2_Same.f k ((rd_T52 x0 x5).f0) ((rd_T52 x0 x5).f1) ((rd_T52 x0 x5).f2) ((rd_T52 x0 x5).f3) ((rd_T52 x1 x5).f0) ((rd_T52 x1 x5).f1) ((rd_T52 x1 x5).f2) ((rd_T52 x1 x5).f3)).bind fun t932 => (if t932 = true then (r3_exprs.l0 k x0 x1 (wrap64 (x5 + 1))) else (some false))) else (none)) else (none)) else (some true)
def r3_exprs.f (k : Nat) (l0 : List (S52)) (l1 : List (S52)) : Option (Bool) := if (l0.length : Int) = (l1.length : Int) then (r3_exprs.l0 k l0 l1 0) else (some false)
def r3_exprs.T6 : Bool × List (List Nat × List Nat) := (true, [([], []), ([], []), ([0, 1], [0, 1]), ([2], [2]), ([], []), ([], []), ([4, 5], [4, 5]), ([6], [6]), ([3, 7], [3, 7]), ([8], [8])])
def r3_exprs.B6 : List Nat := [0, 0, 3, 7, 0, 0, 48, 112, 255, 511]
theorem r3_exprs.tab6 : rtab .any (opsOf Try.f64 6) = r3_exprs.T6 := by kernel_rfl
theorem r3_exprs.bits6 : waitsOk r3_exprs.T6.2 r3_exprs.B6 = true := by kernel_rfl
theorem r3_exprs.calls (k : Nat) (A0 : Option Addr) (c0 : Nat) (l0 : List (S52)) (A1 : Option Addr) (c1 : Nat) (l1 : List (S52)) (r : Bool) (w : World) (hr0 : Kd.C k52 w A0 l0.length l0) (hc0 : l0.length ≤ c0) (hr1 : Kd.C k52 w A1 l1.length l1) (hc1 : l1.length ≤ c1) (h : r3_exprs.f k l0 l1 = some r) :
  Calls Try.prog 64 #[.slice A0 l0.length c0, .slice A1 l1.length c1] w fun e w' => e = .returned (.bool r) ∧ Below w.heap.size w w' := by
 have hu52 := Try.underlying52
 have HR0 := Aside0.mk hr0
 have HC0 := Aside0.mk hc0
 clear hr0 hc0
 have HR1 := Aside0.mk hr1
 have HC1 := Aside0.mk hc1
 clear hr1 hc1
 have HB := Aside0.mk (Below.refl w.heap.size w)
 have H : (if (l0.length : Int) = (l1.length : Int) then (r3_exprs.l0 k l0 l1 0) else (some false)) = some r := h
 clear h
 by_cases c3 : (l0.length : Int) = (l1.length : Int)
 rotate_left
 ·rw [if_neg c3] at H
  have c3b0 : ((l0.length : Int) == (l1.length : Int)) = false := beq_eq_false_iff_ne.mpr c3
  have c3b1 : ((l0.length : Int) != (l1.length : Int)) = true := bne_iff_ne.mpr c3
  have c3b2 : (l0.length == l1.length) = false := by first | simpa using c3 | (simp at c3 ⊢; omega)
  obtain rfl := Option.some.inj H
  go_enter Try.func64, Try.ntmps64
  go_wp2
  go_ret
  exact ⟨rr, bb HB⟩
 rw [if_pos c3] at H
 have c3b0 : ((l0.length : Int) == (l1.length : Int)) = true := beq_iff_eq.mpr c3
 have c3b1 : ((l0.length : Int) != (l1.length : Int)) = false := bne_eq_false_iff_eq.mpr c3
 have c3b2 : (l0.length == l1.length) = true := by first | simpa using c3 | (simp at c3 ⊢; omega)
 clear c3
 have H' := Aside0.mk H
 clear H
 go_enter Try.func64, Try.ntmps64
 go_wp2
 go_loopg [5] k (fun kq v5 w' => ∃ (x5_1 : Int), v5 = .int .i64 x5_1 ∧ Aside0 (r3_exprs.l0 kq l0 l1 x5_1 = some r) ∧ Aside0 (kq ≤ k) ∧ Aside0 (Below w.heap.size w w'))
 case atStart => exact ⟨(0), rs, H', ⟨Nat.le_refl _⟩, ⟨bb HB⟩⟩
 case round =>
  clear H'
  try clear c1
  try clear p2
  try clear c3
  try clear c3b0
  try clear c3b1
  try clear c3b2
  obtain ⟨x5_1, rfl, HA, HK1, HB⟩ := hrel
  cases gk with
  | zero => exact absurd HA.out (by simp [r3_exprs.l0])
  | succ k1 =>
   have H := HA.out
   clear HA
   simp only [r3_exprs.l0] at H
   by_cases c4 : x5_1 < (l0.length : Int)
   rotate_left
   ·rw [if_neg c4] at H
    have c4b0 : decide (x5_1 < (l0.length : Int)) = false := decide_eq_false c4
    clear c4
    obtain rfl := Option.some.inj H
    go_wp2
    go_ret
    exact ⟨rr, bb HB⟩
   rw [if_pos c4] at H
   have c4b0 : decide (x5_1 < (l0.length : Int)) = true := decide_eq_true c4
   clear c4
   by_cases c5 : 0 ≤ x5_1
   rotate_left
   ·rw [if_neg c5] at H
    exact absurd H (by simp)
   rw [if_pos c5] at H
   have c5b0 : decide (0 ≤ x5_1) = true := decide_eq_true c5
   clear c5
   by_cases c6 : x5_1 < (l1.length : Int)
   rotate_left
   ·rw [if_neg c6] at H
    exact absurd H (by simp)
   rw [if_pos c6] at H
   have c6b0 : decide (x5_1 < (l1.length : Int)) = true := decide_eq_true c6
   clear c6
   obtain ⟨t932, A7, H⟩ := be H
   by_cases c8 : t932 = true
   rotate_left
   ·replace c8 := Bool.eq_false_iff.mpr c8
    subst c8
    replace H := fi H
    obtain rfl := Option.some.inj H
    try go_wp2
    replace HB := Aside0.mk (bd1 HB.out)
    have p930 : 0 ≤ (x5_1 : Int) := od
    have q930 : x5_1 < (l0.length : Int) := od
    obtain ⟨ad930, A930_3, c930_3, e930, hx930_0, hx930_1, hx930_2, hx930_3, hl930_3, hi930_3⟩ := at_T52 HR0.out x5_1 p930 q930
    have hw930_3 := hx930_3
    have hw930_2 := hx930_2
    have hw930_1 := hx930_1
    have hw930_0 := hx930_0
    cases e930
    replace hx930_0 := bcell HB.out hx930_0
    replace hx930_1 := bcell HB.out hx930_1
    replace hx930_2 := bcell HB.out hx930_2
    replace hx930_3 := bcell HB.out hx930_3
    have HR930_3 := Aside0.mk hi930_3
    have HC930_3 := Aside0.mk hl930_3
    clear hi930_3 hl930_3
    replace p930 := eq_true p930
    replace q930 := eq_true q930
    have p931 : 0 ≤ (x5_1 : Int) := od
    have q931 : x5_1 < (l1.length : Int) := od
    obtain ⟨ad931, A931_3, c931_3, e931, hx931_0, hx931_1, hx931_2, hx931_3, hl931_3, hi931_3⟩ := at_T52 HR1.out x5_1 p931 q931
    have hw931_3 := hx931_3
    have hw931_2 := hx931_2
    have hw931_1 := hx931_1
    have hw931_0 := hx931_0
    cases e931
    replace hx931_0 := bcell HB.out hx931_0
    replace hx931_1 := bcell HB.out hx931_1
    replace hx931_2 := bcell HB.out hx931_2
    replace hx931_3 := bcell HB.out hx931_3
    have HR931_3 := Aside0.mk hi931_3
    have HC931_3 := Aside0.mk hl931_3
    clear hi931_3 hl931_3
    replace p931 := eq_true p931
    replace q931 := eq_true q931
    refine start_ (n := 10) (S := fun w' => w'.cell? (ad930.add ((x5_1).toNat * 4)) = some (.int .i64 ((rd_T52 l0 x5_1).f0)) ∧ w'.cell? ⟨(ad930.add ((x5_1).toNat * 4)).block, (ad930.add ((x5_1).toNat * 4)).off + 1, none⟩ = some (.int .i64 ((rd_T52 l0 x5_1).f1)) ∧ w'.cell? ⟨(ad930.add ((x5_1).toNat * 4)).block, (ad930.add ((x5_1).toNat * 4)).off + 2, none⟩ = some (.int .i64 ((rd_T52 l0 x5_1).f2)) ∧ w'.cell? ⟨(ad930.add ((x5_1).toNat * 4)).block, (ad930.add ((x5_1).toNat * 4)).off + 3, none⟩ = some (.slice A930_3 ((rd_T52 l0 x5_1).f3).length c930_3) ∧ w'.cell? (ad931.add ((x5_1).toNat * 4)) = some (.int .i64 ((rd_T52 l1 x5_1).f0)) ∧ w'.cell? ⟨(ad931.add ((x5_1).toNat * 4)).block, (ad931.add ((x5_1).toNat * 4)).off + 1, none⟩ = some (.int .i64 ((rd_T52 l1 x5_1).f1)) ∧ w'.cell? ⟨(ad931.add ((x5_1).toNat * 4)).block, (ad931.add ((x5_1).toNat * 4)).off + 2, none⟩ = some (.int .i64 ((rd_T52 l1 x5_1).f2)) ∧ w'.cell? ⟨(ad931.add ((x5_1).toNat * 4)).block, (ad931.add ((x5_1).toNat * 4)).off + 3, none⟩ = some (.slice A931_3 ((rd_T52 l1 x5_1).f3).length c931_3)) (ds := []) #[false, false, false, false, false, false, false, false, false, false] (by kernel_rfl) rfl rfl ⟨(bcell HB.out hw930_0), (bcell HB.out hw930_1), (bcell HB.out hw930_2), (bcell HB.out hw930_3), (bcell HB.out hw931_0), (bcell HB.out hw931_1), (bcell HB.out hw931_2), (bcell HB.out hw931_3)⟩ (fun hHeld => ?_); refine with_tabW r3_exprs.tab6 r3_exprs.bits6 (fun HT_ HW_ => ?_)
    generalize wr.drew = w11 at HB HR930_3 HR931_3 hx930_0 hx930_1 hx930_2 hx930_3 hx931_0 hx931_1 hx931_2 hx931_3 hHeld ⊢
    refine pT 0 17 (bl 10 1) HT_ rfl rfl ?_
    refine pT 1 18 (bl 10 3) HT_ rfl rfl ?_
    refine pT 2 19 (bl 10 7) HT_ rfl rfl ?_
    refine pT 4 21 (bl 10 23) HT_ rfl rfl ?_
    refine pT 5 22 (bl 10 55) HT_ rfl rfl ?_
    refine pT 6 23 (bl 10 119) HT_ rfl rfl ?_
    refine tk (i := 3) (N := some 20) (bl 10 127) rfl rfl (take_ofW HT_.out HW_.out (by kernel_rfl)) hHeld ?_
    refine tk (i := 7) (N := some 24) (bl 10 255) rfl rfl (take_ofW HT_.out HW_.out (by kernel_rfl)) hHeld ?_
    refine one_ (i := 8) (N := some 25) (bl 10 511) rfl rfl (one_of HT_.out (by kernel_rfl)) (by decide) (fun K hK => ?_)
    refine gO Try.func78 #[.agg #[.int .i64 ((rd_T52 l0 x5_1).f0), .int .i64 ((rd_T52 l0 x5_1).f1), .int .i64 ((rd_T52 l0 x5_1).f2), .slice A930_3 ((rd_T52 l0 x5_1).f3).length c930_3], .agg #[.int .i64 ((rd_T52 l1 x5_1).f0), .int .i64 ((rd_T52 l1 x5_1).f1), .int .i64 ((rd_T52 l1 x5_1).f2), .slice A931_3 ((rd_T52 l1 x5_1).f3).length c931_3]] (by rfl) rfl rfl ?_
    with_reducible refine (r2_Same.calls k1 ((rd_T52 l0 x5_1).f0) ((rd_T52 l0 x5_1).f1) ((rd_T52 l0 x5_1).f2) _ _ ((rd_T52 l0 x5_1).f3) ((rd_T52 l1 x5_1).f0) ((rd_T52 l1 x5_1).f1) ((rd_T52 l1 x5_1).f2) _ _ ((rd_T52 l1 x5_1).f3) false _ ?side1 ?side2 ?side3 ?side4 A7.out).mono ?_
    (case side1 => exact cb HR930_3 HB)
    (case side2 => exact HC930_3.out)
    (case side3 => exact cb HR931_3 HB)
    (case side4 => exact HC931_3.out)
    rintro e w12 ⟨rfl, hb⟩
    refine ⟨_, rfl, ?_⟩
    replace HB := sb HB hb
    (try clear hb)
    (try clear hb2)
    (try clear hk)
    (try clear hi)
    refine hK.out _ _ ⟨(bcell HB.out hw930_0), (bcell HB.out hw930_1), (bcell HB.out hw930_2), (bcell HB.out hw930_3), (bcell HB.out hw931_0), (bcell HB.out hw931_1), (bcell HB.out hw931_2), (bcell HB.out hw931_3)⟩ (fun hHeld => ?_)
    clear hK K
    refine nm 25 ?_
    refine pT 9 26 (bl 10 1023) HT_ rfl rfl ?_
    refine done_ (done_of HT_.out (by kernel_rfl)) ?_
    try go_wp2
    go_ret
    exact ⟨rr, bb HB⟩
   subst c8
   replace H := it H
   have H' := Aside0.mk H
   clear H
   try go_wp2
   replace HB := Aside0.mk (bd1 HB.out)
   have p930 : 0 ≤ (x5_1 : Int) := od
   have q930 : x5_1 < (l0.length : Int) := od
   obtain ⟨ad930, A930_3, c930_3, e930, hx930_0, hx930_1, hx930_2, hx930_3, hl930_3, hi930_3⟩ := at_T52 HR0.out x5_1 p930 q930
   have hw930_3 := hx930_3
   have hw930_2 := hx930_2
   have hw930_1 := hx930_1
   have hw930_0 := hx930_0
   cases e930
   replace hx930_0 := bcell HB.out hx930_0
   replace hx930_1 := bcell HB.out hx930_1
   replace hx930_2 := bcell HB.out hx930_2
   replace hx930_3 := bcell HB.out hx930_3
   have HR930_3 := Aside0.mk hi930_3
   have HC930_3 := Aside0.mk hl930_3
   clear hi930_3 hl930_3
   replace p930 := eq_true p930
   replace q930 := eq_true q930
   have p931 : 0 ≤ (x5_1 : Int) := od
   have q931 : x5_1 < (l1.length : Int) := od
   obtain ⟨ad931, A931_3, c931_3, e931, hx931_0, hx931_1, hx931_2, hx931_3, hl931_3, hi931_3⟩ := at_T52 HR1.out x5_1 p931 q931
   have hw931_3 := hx931_3
   have hw931_2 := hx931_2
   have hw931_1 := hx931_1
   have hw931_0 := hx931_0
   cases e931
   replace hx931_0 := bcell HB.out hx931_0
   replace hx931_1 := bcell HB.out hx931_1
   replace hx931_2 := bcell HB.out hx931_2
   replace hx931_3 := bcell HB.out hx931_3
   have HR931_3 := Aside0.mk hi931_3
   have HC931_3 := Aside0.mk hl931_3
   clear hi931_3 hl931_3
   replace p931 := eq_true p931
   replace q931 := eq_true q931
   refine start_ (n := 10) (S := fun w' => w'.cell? (ad930.add ((x5_1).toNat * 4)) = some (.int .i64 ((rd_T52 l0 x5_1).f0)) ∧ w'.cell? ⟨(ad930.add ((x5_1).toNat * 4)).block, (ad930.add ((x5_1).toNat * 4)).off + 1, none⟩ = some (.int .i64 ((rd_T52 l0 x5_1).f1)) ∧ w'.cell? ⟨(ad930.add ((x5_1).toNat * 4)).block, (ad930.add ((x5_1).toNat * 4)).off + 2, none⟩ = some (.int .i64 ((rd_T52 l0 x5_1).f2)) ∧ w'.cell? ⟨(ad930.add ((x5_1).toNat * 4)).block, (ad930.add ((x5_1).toNat * 4)).off + 3, none⟩ = some (.slice A930_3 ((rd_T52 l0 x5_1).f3).length c930_3) ∧ w'.cell? (ad931.add ((x5_1).toNat * 4)) = some (.int .i64 ((rd_T52 l1 x5_1).f0)) ∧ w'.cell? ⟨(ad931.add ((x5_1).toNat * 4)).block, (ad931.add ((x5_1).toNat * 4)).off + 1, none⟩ = some (.int .i64 ((rd_T52 l1 x5_1).f1)) ∧ w'.cell? ⟨(ad931.add ((x5_1).toNat * 4)).block, (ad931.add ((x5_1).toNat * 4)).off + 2, none⟩ = some (.int .i64 ((rd_T52 l1 x5_1).f2)) ∧ w'.cell? ⟨(ad931.add ((x5_1).toNat * 4)).block, (ad931.add ((x5_1).toNat * 4)).off + 3, none⟩ = some (.slice A931_3 ((rd_T52 l1 x5_1).f3).length c931_3)) (ds := []) #[false, false, false, false, false, false, false, false, false, false] (by kernel_rfl) rfl rfl ⟨(bcell HB.out hw930_0), (bcell HB.out hw930_1), (bcell HB.out hw930_2), (bcell HB.out hw930_3), (bcell HB.out hw931_0), (bcell HB.out hw931_1), (bcell HB.out hw931_2), (bcell HB.out hw931_3)⟩ (fun hHeld => ?_); refine with_tabW r3_exprs.tab6 r3_exprs.bits6 (fun HT_ HW_ => ?_)
   generalize wr.drew = w9 at HB HR930_3 HR931_3 hx930_0 hx930_1 hx930_2 hx930_3 hx931_0 hx931_1 hx931_2 hx931_3 hHeld ⊢
   refine pT 0 17 (bl 10 1) HT_ rfl rfl ?_
   refine pT 1 18 (bl 10 3) HT_ rfl rfl ?_
   refine pT 2 19 (bl 10 7) HT_ rfl rfl ?_
   refine pT 4 21 (bl 10 23) HT_ rfl rfl ?_
   refine pT 5 22 (bl 10 55) HT_ rfl rfl ?_
   refine pT 6 23 (bl 10 119) HT_ rfl rfl ?_
   refine tk (i := 3) (N := some 20) (bl 10 127) rfl rfl (take_ofW HT_.out HW_.out (by kernel_rfl)) hHeld ?_
   refine tk (i := 7) (N := some 24) (bl 10 255) rfl rfl (take_ofW HT_.out HW_.out (by kernel_rfl)) hHeld ?_
   refine one_ (i := 8) (N := some 25) (bl 10 511) rfl rfl (one_of HT_.out (by kernel_rfl)) (by decide) (fun K hK => ?_)
   refine gO Try.func78 #[.agg #[.int .i64 ((rd_T52 l0 x5_1).f0), .int .i64 ((rd_T52 l0 x5_1).f1), .int .i64 ((rd_T52 l0 x5_1).f2), .slice A930_3 ((rd_T52 l0 x5_1).f3).length c930_3], .agg #[.int .i64 ((rd_T52 l1 x5_1).f0), .int .i64 ((rd_T52 l1 x5_1).f1), .int .i64 ((rd_T52 l1 x5_1).f2), .slice A931_3 ((rd_T52 l1 x5_1).f3).length c931_3]] (by rfl) rfl rfl ?_
   with_reducible refine (r2_Same.calls k1 ((rd_T52 l0 x5_1).f0) ((rd_T52 l0 x5_1).f1) ((rd_T52 l0 x5_1).f2) _ _ ((rd_T52 l0 x5_1).f3) ((rd_T52 l1 x5_1).f0) ((rd_T52 l1 x5_1).f1) ((rd_T52 l1 x5_1).f2) _ _ ((rd_T52 l1 x5_1).f3) true _ ?side1 ?side2 ?side3 ?side4 A7.out).mono ?_
   (case side1 => exact cb HR930_3 HB)
   (case side2 => exact HC930_3.out)
   (case side3 => exact cb HR931_3 HB)
   (case side4 => exact HC931_3.out)
   rintro e w10 ⟨rfl, hb⟩
   refine ⟨_, rfl, ?_⟩
   replace HB := sb HB hb
   (try clear hb)
   (try clear hb2)
   (try clear hk)
   (try clear hi)
   refine hK.out _ _ ⟨(bcell HB.out hw930_0), (bcell HB.out hw930_1), (bcell HB.out hw930_2), (bcell HB.out hw930_3), (bcell HB.out hw931_0), (bcell HB.out hw931_1), (bcell HB.out hw931_2), (bcell HB.out hw931_3)⟩ (fun hHeld => ?_)
   clear hK K
   refine nm 25 ?_
   refine pT 9 26 (bl 10 1023) HT_ rfl rfl ?_
   refine done_ (done_of HT_.out (by kernel_rfl)) ?_
   try go_wp2
   go_roundg k1
   case measure => have := HK1.out; omega
   case rel => exact ⟨(wrap64 (x5_1 + 1)), rs, H', ⟨by have := HK1.out; omega⟩, ⟨bb HB⟩⟩
end Go.Proofs.Ytnlekgadadifdaa.Print
