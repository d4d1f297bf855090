/- For any program and any number, prog.At, prog.Inside and prog.All give the statements, the numbers or the error that the document's answer tells; a program of more than 600 nodes is passed over. -/
import Derived.Test.YtffcpbgbhkbplaaZ5
import Derived.LoopNIn
import Derived.OrdersIn
set_option maxRecDepth 100000
set_option maxHeartbeats 16000000
namespace Go.Proofs.Ytffcpbgbhkbplaa.Print
open Go.RowKit Go.Proofs.YtffcpbgbhkbplaaW.PrintWords Go.Proofs.YtffcpbgbhkbplaaW.PrintLast Go.Proofs.YtffcpbgbhkbplaaW.PrintMore
attribute [local go_sem] max2_int min2_int max_two min_two max_three min_three max_four min_four
set_option linter.unusedVariables false
set_option linter.unusedSimpArgs false
def prog_Index.l0 : Nat → List Int → Int → Int → Int → List (S82) → List (S47) → Option (Int × Int)
 | 0, _, _, _, _, _, _ => none
 | k + 1, x1, x8, x9, x157000, x157001, x157002 => if x9 ≥ 0 then (if 0 ≤ x9 then (if x9 < (x1.length : Int) then (if (rd x1 x9) < 0 then (some (0, 1)) else (if 0 ≤ (IntKind.u64.wrap (x157000)) then (if (rd x1 x9) ≥ (shl .i64 1 (IntKind.u64.wrap (x157000))) then (some (0, 1)) else (prog_Index.l0 k x1 (Go.bits .or .i64 (shl .i64 x8 (IntKind.u64.wrap (x157000))) (rd x1 x9)) (wrap64 (x9 - 1)) x157000 x157001 x157002)) else (none))) else (none)) else (none)) else (some (x8, 0))
def prog_Index.f (k : Nat) (a0_0 : Int) (l0_1 : List (S82)) (l0_2 : List (S47)) (l1 : List Int) : Option (Int × Int) := (prog_Space.f k a0_0 l0_1 l0_2).bind fun bt157 => (if bt157.2 = 0 then ((prog_cells.f k a0_0 l0_1 l0_2).bind fun t159 => (if (l1.length : Int) = t159 then (prog_Index.l0 k l1 0 (wrap64 ((l1.length : Int) - 1)) a0_0 l0_1 l0_2) else (some (0, 1)))) else (some (0, bt157.2)))
theorem prog_Index.calls (k : Nat) (a0_0 : Int) (A0_1 : Option Addr) (c0_1 : Nat) (l0_1 : List (S82)) (A0_2 : Option Addr) (c0_2 : Nat) (l0_2 : List (S47)) (A1 : Option Addr) (c1 : Nat) (l1 : List Int) (r1 : Int) (r2 : Int) (w : World) (hr0_1 : Kd.C k82 w A0_1 l0_1.length l0_1) (hc0_1 : l0_1.length ≤ c0_1) (hr0_2 : Kd.C k47 w A0_2 l0_2.length l0_2) (hc0_2 : l0_2.length ≤ c0_2) (hr1 : Kd.C (Kd.int .i64) w A1 l1.length l1) (hc1 : l1.length ≤ c1) (h : prog_Index.f k a0_0 l0_1 l0_2 l1 = some (r1, r2)) :
  Calls Try.prog 15 #[.agg #[.int .i64 a0_0, .slice A0_1 l0_1.length c0_1, .slice A0_2 l0_2.length c0_2], .slice A1 l1.length c1] w fun e w' => e = .returned (.tuple #[.int .i64 r1, .int .i64 r2]) ∧ Below w.heap.size w w' := by
 have hu25 := Try.underlying25
 have HR0_1 := Aside0.mk hr0_1
 have HC0_1 := Aside0.mk hc0_1
 clear hr0_1 hc0_1
 have HR0_2 := Aside0.mk hr0_2
 have HC0_2 := Aside0.mk hc0_2
 clear hr0_2 hc0_2
 have HR1 := Aside0.mk hr1
 have HC1 := Aside0.mk hc1
 clear hr1 hc1
 have HB := Aside0.mk (Below.refl w.heap.size w)
 have H : ((prog_Space.f k a0_0 l0_1 l0_2).bind fun bt157 => (if bt157.2 = 0 then ((prog_cells.f k a0_0 l0_1 l0_2).bind fun t159 => (if (l1.length : Int) = t159 then (prog_Index.l0 k l1 0 (wrap64 ((l1.length : Int) - 1)) a0_0 l0_1 l0_2) else (some (0, 1)))) else (some (0, bt157.2)))) = some (r1, r2) := h
 clear h
 replace H := Option.bind_eq_some_iff.mp H
 obtain ⟨⟨t157, t158⟩, A30, H⟩ := H
 replace H : (if t158 = 0 then ((prog_cells.f k a0_0 l0_1 l0_2).bind fun t159 => (if (l1.length : Int) = t159 then (prog_Index.l0 k l1 0 (wrap64 ((l1.length : Int) - 1)) a0_0 l0_1 l0_2) else (some (0, 1)))) else (some (0, t158))) = some (r1, r2) := H
 have A3 := Aside0.mk A30
 clear A30
 by_cases c4 : t158 = 0
 rotate_left
 ·rw [if_neg c4] at H
  have c4b0 : (t158 == 0) = false := beq_eq_false_iff_ne.mpr c4
  have c4b1 : (t158 != 0) = true := bne_iff_ne.mpr c4
  simp only [Option.some.injEq, Prod.mk.injEq] at H
  obtain ⟨rfl, rfl⟩ := H
  go_enter Try.func15, Try.ntmps15
  go_wp2_with (first | ((with_reducible refine gate_dst (N := 2) rfl ?_); refine bx 2 rfl rfl #[.int .i64 a0_0, .slice A0_1 l0_1.length c0_1, .slice A0_2 l0_2.length c0_2] 25 ?_; intro gb156 hg w29 hbox hb; have BK156 := Aside0.mk (hbox); have GE156 := ge HB hg; replace HB := sb HB hb; clear hb hbox hg; obtain ⟨hcz30_0, hcz30_1, hcz30_2, hfz30_0, hfz30_1, hfz30_2⟩ := cf3 BK156.out) | (go_at_call 13; (with_reducible refine (prog_Space.calls k a0_0 _ _ l0_1 _ _ l0_2 t157 t158 _ ?side1 ?side2 ?side3 ?side4 A3.out).mono ?_); (case side1 => exact cb HR0_1 HB); (case side2 => exact HC0_1.out); (case side3 => exact cb HR0_2 HB); (case side4 => exact HC0_2.out); rintro e w31 ⟨rfl, hb⟩; replace BK156 := kb BK156 hb; replace HB := sb HB hb; (try clear hb)))
  repeat (go_quiet (first | ((with_reducible refine gate_dst (N := 2) rfl ?_); refine bx 2 rfl rfl #[.int .i64 a0_0, .slice A0_1 l0_1.length c0_1, .slice A0_2 l0_2.length c0_2] 25 ?_; intro gb156 hg w29 hbox hb; have BK156 := Aside0.mk (hbox); have GE156 := ge HB hg; replace HB := sb HB hb; clear hb hbox hg; obtain ⟨hcz30_0, hcz30_1, hcz30_2, hfz30_0, hfz30_1, hfz30_2⟩ := cf3 BK156.out) | (go_at_call 13; (with_reducible refine (prog_Space.calls k a0_0 _ _ l0_1 _ _ l0_2 t157 t158 _ ?side1 ?side2 ?side3 ?side4 A3.out).mono ?_); (case side1 => exact cb HR0_1 HB); (case side2 => exact HC0_1.out); (case side3 => exact cb HR0_2 HB); (case side4 => exact HC0_2.out); rintro e w31 ⟨rfl, hb⟩; replace BK156 := kb BK156 hb; replace HB := sb HB hb; (try clear hb))); try go_wp2_with (first | ((with_reducible refine gate_dst (N := 2) rfl ?_); refine bx 2 rfl rfl #[.int .i64 a0_0, .slice A0_1 l0_1.length c0_1, .slice A0_2 l0_2.length c0_2] 25 ?_; intro gb156 hg w29 hbox hb; have BK156 := Aside0.mk (hbox); have GE156 := ge HB hg; replace HB := sb HB hb; clear hb hbox hg; obtain ⟨hcz30_0, hcz30_1, hcz30_2, hfz30_0, hfz30_1, hfz30_2⟩ := cf3 BK156.out) | (go_at_call 13; (with_reducible refine (prog_Space.calls k a0_0 _ _ l0_1 _ _ l0_2 t157 t158 _ ?side1 ?side2 ?side3 ?side4 A3.out).mono ?_); (case side1 => exact cb HR0_1 HB); (case side2 => exact HC0_1.out); (case side3 => exact cb HR0_2 HB); (case side4 => exact HC0_2.out); rintro e w31 ⟨rfl, hb⟩; replace BK156 := kb BK156 hb; replace HB := sb HB hb; (try clear hb))))
  go_ret2
  exact ⟨rr, bb HB⟩
 rw [if_pos c4] at H
 have c4b0 : (t158 == 0) = true := beq_iff_eq.mpr c4
 have c4b1 : (t158 != 0) = false := bne_eq_false_iff_eq.mpr c4
 clear c4
 obtain ⟨t159, A5, H⟩ := be H
 by_cases c6 : (l1.length : Int) = t159
 rotate_left
 ·rw [if_neg c6] at H
  have c6b0 : ((l1.length : Int) == t159) = false := beq_eq_false_iff_ne.mpr c6
  have c6b1 : ((l1.length : Int) != t159) = true := bne_iff_ne.mpr c6
  simp only [Option.some.injEq, Prod.mk.injEq] at H
  obtain ⟨rfl, rfl⟩ := H
  go_enter Try.func15, Try.ntmps15
  go_wp2_with (first | ((with_reducible refine gate_dst (N := 2) rfl ?_); refine bx 2 rfl rfl #[.int .i64 a0_0, .slice A0_1 l0_1.length c0_1, .slice A0_2 l0_2.length c0_2] 25 ?_; intro gb156 hg w24 hbox hb; have BK156 := Aside0.mk (hbox); have GE156 := ge HB hg; replace HB := sb HB hb; clear hb hbox hg; obtain ⟨hcz25_0, hcz25_1, hcz25_2, hfz25_0, hfz25_1, hfz25_2⟩ := cf3 BK156.out) | (go_at_call 13; (with_reducible refine (prog_Space.calls k a0_0 _ _ l0_1 _ _ l0_2 t157 t158 _ ?side1 ?side2 ?side3 ?side4 A3.out).mono ?_); (case side1 => exact cb HR0_1 HB); (case side2 => exact HC0_1.out); (case side3 => exact cb HR0_2 HB); (case side4 => exact HC0_2.out); rintro e w26 ⟨rfl, hb⟩; replace BK156 := kb BK156 hb; replace HB := sb HB hb; (try clear hb); obtain ⟨hcz27_0, hcz27_1, hcz27_2, hfz27_0, hfz27_1, hfz27_2⟩ := cf3 BK156.out) | (go_at_call 45; (with_reducible refine (prog_cells.calls k a0_0 _ _ l0_1 _ _ l0_2 t159 _ ?side1 ?side2 ?side3 ?side4 A5.out).mono ?_); (case side1 => exact cb HR0_1 HB); (case side2 => exact HC0_1.out); (case side3 => exact cb HR0_2 HB); (case side4 => exact HC0_2.out); rintro e w28 ⟨rfl, hb⟩; replace BK156 := kb BK156 hb; replace HB := sb HB hb; (try clear hb)))
  repeat (go_quiet (first | ((with_reducible refine gate_dst (N := 2) rfl ?_); refine bx 2 rfl rfl #[.int .i64 a0_0, .slice A0_1 l0_1.length c0_1, .slice A0_2 l0_2.length c0_2] 25 ?_; intro gb156 hg w24 hbox hb; have BK156 := Aside0.mk (hbox); have GE156 := ge HB hg; replace HB := sb HB hb; clear hb hbox hg; obtain ⟨hcz25_0, hcz25_1, hcz25_2, hfz25_0, hfz25_1, hfz25_2⟩ := cf3 BK156.out) | (go_at_call 13; (with_reducible refine (prog_Space.calls k a0_0 _ _ l0_1 _ _ l0_2 t157 t158 _ ?side1 ?side2 ?side3 ?side4 A3.out).mono ?_); (case side1 => exact cb HR0_1 HB); (case side2 => exact HC0_1.out); (case side3 => exact cb HR0_2 HB); (case side4 => exact HC0_2.out); rintro e w26 ⟨rfl, hb⟩; replace BK156 := kb BK156 hb; replace HB := sb HB hb; (try clear hb); obtain ⟨hcz27_0, hcz27_1, hcz27_2, hfz27_0, hfz27_1, hfz27_2⟩ := cf3 BK156.out) | (go_at_call 45; (with_reducible refine (prog_cells.calls k a0_0 _ _ l0_1 _ _ l0_2 t159 _ ?side1 ?side2 ?side3 ?side4 A5.out).mono ?_); (case side1 => exact cb HR0_1 HB); (case side2 => exact HC0_1.out); (case side3 => exact cb HR0_2 HB); (case side4 => exact HC0_2.out); rintro e w28 ⟨rfl, hb⟩; replace BK156 := kb BK156 hb; replace HB := sb HB hb; (try clear hb))); try go_wp2_with (first | ((with_reducible refine gate_dst (N := 2) rfl ?_); refine bx 2 rfl rfl #[.int .i64 a0_0, .slice A0_1 l0_1.length c0_1, .slice A0_2 l0_2.length c0_2] 25 ?_; intro gb156 hg w24 hbox hb; have BK156 := Aside0.mk (hbox); have GE156 := ge HB hg; replace HB := sb HB hb; clear hb hbox hg; obtain ⟨hcz25_0, hcz25_1, hcz25_2, hfz25_0, hfz25_1, hfz25_2⟩ := cf3 BK156.out) | (go_at_call 13; (with_reducible refine (prog_Space.calls k a0_0 _ _ l0_1 _ _ l0_2 t157 t158 _ ?side1 ?side2 ?side3 ?side4 A3.out).mono ?_); (case side1 => exact cb HR0_1 HB); (case side2 => exact HC0_1.out); (case side3 => exact cb HR0_2 HB); (case side4 => exact HC0_2.out); rintro e w26 ⟨rfl, hb⟩; replace BK156 := kb BK156 hb; replace HB := sb HB hb; (try clear hb); obtain ⟨hcz27_0, hcz27_1, hcz27_2, hfz27_0, hfz27_1, hfz27_2⟩ := cf3 BK156.out) | (go_at_call 45; (with_reducible refine (prog_cells.calls k a0_0 _ _ l0_1 _ _ l0_2 t159 _ ?side1 ?side2 ?side3 ?side4 A5.out).mono ?_); (case side1 => exact cb HR0_1 HB); (case side2 => exact HC0_1.out); (case side3 => exact cb HR0_2 HB); (case side4 => exact HC0_2.out); rintro e w28 ⟨rfl, hb⟩; replace BK156 := kb BK156 hb; replace HB := sb HB hb; (try clear hb))))
  go_ret2
  exact ⟨rr, bb HB⟩
 rw [if_pos c6] at H
 have c6b0 : ((l1.length : Int) == t159) = true := beq_iff_eq.mpr c6
 have c6b1 : ((l1.length : Int) != t159) = false := bne_eq_false_iff_eq.mpr c6
 clear c6
 have H' := Aside0.mk H
 clear H
 go_enter Try.func15, Try.ntmps15
 go_wp2_with (first | ((with_reducible refine gate_dst (N := 2) rfl ?_); refine bx 2 rfl rfl #[.int .i64 a0_0, .slice A0_1 l0_1.length c0_1, .slice A0_2 l0_2.length c0_2] 25 ?_; intro gb156 hg w7 hbox hb; have BK156 := Aside0.mk (hbox); have GE156 := ge HB hg; replace HB := sb HB hb; clear hb hbox hg; obtain ⟨hcz8_0, hcz8_1, hcz8_2, hfz8_0, hfz8_1, hfz8_2⟩ := cf3 BK156.out) | (go_at_call 13; (with_reducible refine (prog_Space.calls k a0_0 _ _ l0_1 _ _ l0_2 t157 t158 _ ?side1 ?side2 ?side3 ?side4 A3.out).mono ?_); (case side1 => exact cb HR0_1 HB); (case side2 => exact HC0_1.out); (case side3 => exact cb HR0_2 HB); (case side4 => exact HC0_2.out); rintro e w9 ⟨rfl, hb⟩; replace BK156 := kb BK156 hb; replace HB := sb HB hb; (try clear hb); obtain ⟨hcz10_0, hcz10_1, hcz10_2, hfz10_0, hfz10_1, hfz10_2⟩ := cf3 BK156.out) | (go_at_call 45; (with_reducible refine (prog_cells.calls k a0_0 _ _ l0_1 _ _ l0_2 t159 _ ?side1 ?side2 ?side3 ?side4 A5.out).mono ?_); (case side1 => exact cb HR0_1 HB); (case side2 => exact HC0_1.out); (case side3 => exact cb HR0_2 HB); (case side4 => exact HC0_2.out); rintro e w11 ⟨rfl, hb⟩; replace BK156 := kb BK156 hb; replace HB := sb HB hb; (try clear hb)))
 repeat (go_quiet (first | ((with_reducible refine gate_dst (N := 2) rfl ?_); refine bx 2 rfl rfl #[.int .i64 a0_0, .slice A0_1 l0_1.length c0_1, .slice A0_2 l0_2.length c0_2] 25 ?_; intro gb156 hg w7 hbox hb; have BK156 := Aside0.mk (hbox); have GE156 := ge HB hg; replace HB := sb HB hb; clear hb hbox hg; obtain ⟨hcz8_0, hcz8_1, hcz8_2, hfz8_0, hfz8_1, hfz8_2⟩ := cf3 BK156.out) | (go_at_call 13; (with_reducible refine (prog_Space.calls k a0_0 _ _ l0_1 _ _ l0_2 t157 t158 _ ?side1 ?side2 ?side3 ?side4 A3.out).mono ?_); (case side1 => exact cb HR0_1 HB); (case side2 => exact HC0_1.out); (case side3 => exact cb HR0_2 HB); (case side4 => exact HC0_2.out); rintro e w9 ⟨rfl, hb⟩; replace BK156 := kb BK156 hb; replace HB := sb HB hb; (try clear hb); obtain ⟨hcz10_0, hcz10_1, hcz10_2, hfz10_0, hfz10_1, hfz10_2⟩ := cf3 BK156.out) | (go_at_call 45; (with_reducible refine (prog_cells.calls k a0_0 _ _ l0_1 _ _ l0_2 t159 _ ?side1 ?side2 ?side3 ?side4 A5.out).mono ?_); (case side1 => exact cb HR0_1 HB); (case side2 => exact HC0_1.out); (case side3 => exact cb HR0_2 HB); (case side4 => exact HC0_2.out); rintro e w11 ⟨rfl, hb⟩; replace BK156 := kb BK156 hb; replace HB := sb HB hb; (try clear hb))); try go_wp2_with (first | ((with_reducible refine gate_dst (N := 2) rfl ?_); refine bx 2 rfl rfl #[.int .i64 a0_0, .slice A0_1 l0_1.length c0_1, .slice A0_2 l0_2.length c0_2] 25 ?_; intro gb156 hg w7 hbox hb; have BK156 := Aside0.mk (hbox); have GE156 := ge HB hg; replace HB := sb HB hb; clear hb hbox hg; obtain ⟨hcz8_0, hcz8_1, hcz8_2, hfz8_0, hfz8_1, hfz8_2⟩ := cf3 BK156.out) | (go_at_call 13; (with_reducible refine (prog_Space.calls k a0_0 _ _ l0_1 _ _ l0_2 t157 t158 _ ?side1 ?side2 ?side3 ?side4 A3.out).mono ?_); (case side1 => exact cb HR0_1 HB); (case side2 => exact HC0_1.out); (case side3 => exact cb HR0_2 HB); (case side4 => exact HC0_2.out); rintro e w9 ⟨rfl, hb⟩; replace BK156 := kb BK156 hb; replace HB := sb HB hb; (try clear hb); obtain ⟨hcz10_0, hcz10_1, hcz10_2, hfz10_0, hfz10_1, hfz10_2⟩ := cf3 BK156.out) | (go_at_call 45; (with_reducible refine (prog_cells.calls k a0_0 _ _ l0_1 _ _ l0_2 t159 _ ?side1 ?side2 ?side3 ?side4 A5.out).mono ?_); (case side1 => exact cb HR0_1 HB); (case side2 => exact HC0_1.out); (case side3 => exact cb HR0_2 HB); (case side4 => exact HC0_2.out); rintro e w11 ⟨rfl, hb⟩; replace BK156 := kb BK156 hb; replace HB := sb HB hb; (try clear hb))))
 go_loopg [8, 9] k (fun kq v8 v9 w' => ∃ (x8_1 : Int) (x9_1 : Int), v8 = .int .i64 x8_1 ∧ v9 = .int .i64 x9_1 ∧ Aside0 (prog_Index.l0 kq l1 x8_1 x9_1 a0_0 l0_1 l0_2 = some (r1, r2)) ∧ Aside0 (kq ≤ k) ∧ Aside0 (w'.heap[gb156]? = some (.cells #[.int .i64 a0_0, (.slice A0_1 l0_1.length c0_1), (.slice A0_2 l0_2.length c0_2)] 25 (0, 0))) ∧ Aside0 (Below w.heap.size w w'))
 case atStart => exact ⟨(0), (wrap64 ((l1.length : Int) - 1)), rs, rs, H', ⟨Nat.le_refl _⟩, ⟨kk BK156⟩, ⟨bb HB⟩⟩
 case round =>
  clear H'
  try clear c1
  try clear p2
  try clear c4
  try clear c4b0
  try clear c4b1
  try clear c6
  try clear c6b0
  try clear c6b1
  try clear p6
  try clear hcz10_0 hcz10_1 hcz10_2
  try clear hcz8_0 hcz8_1 hcz8_2
  try clear hfz10_0 hfz10_1 hfz10_2
  try clear hfz8_0 hfz8_1 hfz8_2
  obtain ⟨x8_1, x9_1, rfl, rfl, HA, HK1, BK156, HB⟩ := hrel
  cases gk with
  | zero => exact absurd HA.out (by simp [prog_Index.l0])
  | succ k1 =>
   have H := HA.out
   clear HA
   simp only [prog_Index.l0] at H
   by_cases c12 : x9_1 ≥ 0
   rotate_left
   ·rw [if_neg c12] at H
    have c12b0 : decide (0 ≤ x9_1) = false := decide_eq_false c12
    clear c12
    simp only [Option.some.injEq, Prod.mk.injEq] at H
    obtain ⟨rfl, rfl⟩ := H
    go_wp2
    repeat (go_quiet (fail); try go_wp2)
    go_ret2
    exact ⟨rr, bb HB⟩
   rw [if_pos c12] at H
   have c12b0 : decide (0 ≤ x9_1) = true := decide_eq_true c12
   clear c12
   by_cases c13 : 0 ≤ x9_1
   rotate_left
   ·rw [if_neg c13] at H
    exact absurd H (by simp)
   rw [if_pos c13] at H
   have c13b0 : decide (0 ≤ x9_1) = true := decide_eq_true c13
   clear c13
   by_cases c14 : x9_1 < (l1.length : Int)
   rotate_left
   ·rw [if_neg c14] at H
    exact absurd H (by simp)
   rw [if_pos c14] at H
   have c14b0 : decide (x9_1 < (l1.length : Int)) = true := decide_eq_true c14
   clear c14
   by_cases c15 : (rd l1 x9_1) < 0
   ·rw [if_pos c15] at H
    have c15b0 : decide ((rd l1 x9_1) < 0) = true := decide_eq_true c15
    clear c15
    simp only [Option.some.injEq, Prod.mk.injEq] at H
    obtain ⟨rfl, rfl⟩ := H
    have p160 : 0 ≤ (x9_1 : Int) := od
    have q160 : x9_1 < (l1.length : Int) := od
    obtain ⟨ad160, e160, hx160_0⟩ := Kd.at_int HR1.out x9_1 p160 q160
    cases e160
    replace hx160_0 := bcell HB.out hx160_0
    replace p160 := eq_true p160
    replace q160 := eq_true q160
    go_wp2
    repeat (go_quiet (fail); try go_wp2)
    go_ret2
    exact ⟨rr, bb HB⟩
   rw [if_neg c15] at H
   have c15b0 : decide ((rd l1 x9_1) < 0) = false := decide_eq_false c15
   clear c15
   obtain ⟨ji16, hji16⟩ : ∃ j_ : Int, (IntKind.u64.wrap (a0_0)) = j_ := ⟨_, rfl⟩
   replace H : (if 0 ≤ (ji16) then (if (rd l1 x9_1) ≥ (shl .i64 1 (ji16)) then (some (0, 1)) else (prog_Index.l0 k1 l1 (Go.bits .or .i64 (shl .i64 x8_1 (ji16)) (rd l1 x9_1)) (wrap64 (x9_1 - 1)) a0_0 l0_1 l0_2)) else (none)) = some (r1, r2) := by first | (rw [hji16] at H; exact H) | (simp only [hji16] at H ⊢; exact H)
   by_cases c17 : 0 ≤ (ji16)
   rotate_left
   ·rw [if_neg c17] at H
    exact absurd H (by simp)
   rw [if_pos c17] at H
   have c17b0 := eq_true c17
   have c17b1 : decide (0 ≤ (ji16)) = true := decide_eq_true c17
   clear c17
   obtain ⟨ji18, hji18⟩ : ∃ j_ : Int, (shl .i64 1 (ji16)) = j_ := ⟨_, rfl⟩
   replace H : (if (rd l1 x9_1) ≥ (ji18) then (some (0, 1)) else (prog_Index.l0 k1 l1 (Go.bits .or .i64 (shl .i64 x8_1 (ji16)) (rd l1 x9_1)) (wrap64 (x9_1 - 1)) a0_0 l0_1 l0_2)) = some (r1, r2) := by first | (rw [hji18] at H; exact H) | (simp only [hji18] at H ⊢; exact H)
   have hji18_ : (IntKind.i64.wrap (1 * 2 ^ min (ji16).toNat 64)) = ji18 := hji18
   have hji18z : (ji16) ≤ 64 → (IntKind.i64.wrap (1 * 2 ^ (ji16).toNat)) = ji18 := shl_small hji18
   have hji18u : (IntKind.i64.wrap (2 ^ min (ji16).toNat 64)) = ji18 := by have h_ := hji18_; rw [Int.one_mul] at h_; exact h_
   have hji18v : (ji16) ≤ 64 → (IntKind.i64.wrap (2 ^ (ji16).toNat)) = ji18 := fun hle_ => by have h_ := hji18z hle_; rw [Int.one_mul] at h_; exact h_
   have hji18y : (wrap64 (1 * 2 ^ min (ji16).toNat 64)) = ji18 := (i64_w _).symm.trans hji18_
   have hji18x : (ji16) ≤ 64 → (wrap64 (1 * 2 ^ (ji16).toNat)) = ji18 := fun h_ => (i64_w _).symm.trans (hji18z h_)
   by_cases c19 : (rd l1 x9_1) ≥ (ji18)
   ·rw [if_pos c19] at H
    have c19b0 : decide ((ji18) ≤ (rd l1 x9_1)) = true := decide_eq_true c19
    clear c19
    simp only [Option.some.injEq, Prod.mk.injEq] at H
    obtain ⟨rfl, rfl⟩ := H
    have p160 : 0 ≤ (x9_1 : Int) := od
    have q160 : x9_1 < (l1.length : Int) := od
    obtain ⟨ad160, e160, hx160_0⟩ := Kd.at_int HR1.out x9_1 p160 q160
    cases e160
    replace hx160_0 := bcell HB.out hx160_0
    replace p160 := eq_true p160
    replace q160 := eq_true q160
    have p161 : 0 ≤ (x9_1 : Int) := od
    have q161 : x9_1 < (l1.length : Int) := od
    obtain ⟨ad161, e161, hx161_0⟩ := Kd.at_int HR1.out x9_1 p161 q161
    obtain rfl : ad160 = ad161 := (by injection e161)
    replace hx161_0 := bcell HB.out hx161_0
    replace p161 := eq_true p161
    replace q161 := eq_true q161
    obtain ⟨hcz20_0, hcz20_1, hcz20_2, hfz20_0, hfz20_1, hfz20_2⟩ := cf3 BK156.out
    go_wp2
    repeat (go_quiet (fail); try go_wp2)
    go_ret2
    exact ⟨by first | rfl | (simp [errW_none, errW_some] <;> rfl) | (simp only [← hji16, ← hji18]; first | rfl | (simp [errW_none, errW_some] <;> rfl)) | (simp [*, errW_none, errW_some] <;> rfl), bb HB⟩
   rw [if_neg c19] at H
   have c19b0 : decide ((ji18) ≤ (rd l1 x9_1)) = false := decide_eq_false c19
   clear c19
   have c21b0 := eq_true (od : 0 ≤ (ji16))
   obtain ⟨ji22, hji22⟩ : ∃ j_ : Int, (shl .i64 x8_1 (ji16)) = j_ := ⟨_, rfl⟩
   replace H : (prog_Index.l0 k1 l1 (Go.bits .or .i64 (ji22) (rd l1 x9_1)) (wrap64 (x9_1 - 1)) a0_0 l0_1 l0_2) = some (r1, r2) := by first | (rw [hji22] at H; exact H) | (simp only [hji22] at H ⊢; exact H)
   have hji22_ : (IntKind.i64.wrap (x8_1 * 2 ^ min (ji16).toNat 64)) = ji22 := hji22
   have hji22z : (ji16) ≤ 64 → (IntKind.i64.wrap (x8_1 * 2 ^ (ji16).toNat)) = ji22 := shl_small hji22
   have hji22y : (wrap64 (x8_1 * 2 ^ min (ji16).toNat 64)) = ji22 := (i64_w _).symm.trans hji22_
   have hji22x : (ji16) ≤ 64 → (wrap64 (x8_1 * 2 ^ (ji16).toNat)) = ji22 := fun h_ => (i64_w _).symm.trans (hji22z h_)
   have H' := Aside0.mk H
   clear H
   have p160 : 0 ≤ (x9_1 : Int) := od
   have q160 : x9_1 < (l1.length : Int) := od
   obtain ⟨ad160, e160, hx160_0⟩ := Kd.at_int HR1.out x9_1 p160 q160
   cases e160
   replace hx160_0 := bcell HB.out hx160_0
   replace p160 := eq_true p160
   replace q160 := eq_true q160
   have p161 : 0 ≤ (x9_1 : Int) := od
   have q161 : x9_1 < (l1.length : Int) := od
   obtain ⟨ad161, e161, hx161_0⟩ := Kd.at_int HR1.out x9_1 p161 q161
   obtain rfl : ad160 = ad161 := (by injection e161)
   replace hx161_0 := bcell HB.out hx161_0
   replace p161 := eq_true p161
   replace q161 := eq_true q161
   obtain ⟨hcz23_0, hcz23_1, hcz23_2, hfz23_0, hfz23_1, hfz23_2⟩ := cf3 BK156.out
   have p162 : 0 ≤ (x9_1 : Int) := od
   have q162 : x9_1 < (l1.length : Int) := od
   obtain ⟨ad162, e162, hx162_0⟩ := Kd.at_int HR1.out x9_1 p162 q162
   obtain rfl : ad160 = ad162 := (by injection e162)
   replace hx162_0 := bcell HB.out hx162_0
   replace p162 := eq_true p162
   replace q162 := eq_true q162
   go_wp2
   repeat (go_quiet (fail); try go_wp2)
   go_roundg k1
   case measure => have := HK1.out; omega
   case rel => exact ⟨(Go.bits .or .i64 (ji22) (rd l1 x9_1)), (wrap64 (x9_1 - 1)), (by first | rfl | (simp; done) | (simp only [← hji22] <;> (first | rfl | simp)) | (simp [*]; done)), rs, H', ⟨by have := HK1.out; omega⟩, ⟨kk BK156⟩, ⟨bb HB⟩⟩
theorem aw_check : prog_Check.f 60 2 one_vars one_body = some 0 := by kernel_rfl
theorem aw_count : prog_Count.f 60 2 one_vars one_body = some (6, 12, 0) := by kernel_rfl
theorem aw_inside : prog_Inside.f 60 2 one_vars one_body 1 = some ([2, 3], [4], 0) := by kernel_rfl
theorem aw_space : prog_Space.f 60 2 one_vars one_body = some (16, 0) := by kernel_rfl
theorem aw_store : prog_Store.f 60 2 one_vars one_body 6 = some ([2, 1], 0) := by kernel_rfl
theorem aw_index : prog_Index.f 60 2 one_vars one_body [2, 1] = some (6, 0) := by kernel_rfl
theorem aw_same : r1_Same.f 60 [2, 3] [2, 3] = some true := by kernel_rfl
def one_bad : List S47 := [⟨0, 2, [one_c1], [], []⟩, one_s19, one_s22]
theorem aw_bad : prog_Check.f 60 2 one_vars one_bad = some 30 := by kernel_rfl
end Go.Proofs.Ytffcpbgbhkbplaa.Print
namespace Go.Proofs.Ytffcpbgbhkbplaa.Print
open Go.RowKit Go.Proofs.YtffcpbgbhkbplaaW.PrintWords Go.Proofs.YtffcpbgbhkbplaaW.PrintLast Go.Proofs.YtffcpbgbhkbplaaW.PrintMore
attribute [local go_sem] max2_int min2_int max_two min_two max_three min_three max_four min_four
set_option linter.unusedVariables false
set_option linter.unusedSimpArgs false
open Go.RowKit
theorem one_spoil {B : Nat} {W : World} {v : Value} (h : IsRow k47 B 47 W v one_body) :
    ∃ b : Nat, v = .slice (some ⟨b, 0, none⟩) 3 3 ∧ B ≤ b ∧ b < W.heap.size ∧ W.cell? ⟨b, 1, none⟩ = some (.int .i64 0) ∧ W.frozen? ⟨b, 1, none⟩ = false ∧ IsRow k47 B 47 (W.setCell ⟨b, 1, none⟩ (.int .i64 2)) v one_bad := by
  obtain ⟨b, css, rfl, h1, h0, h2, h3, h4⟩ := h
  obtain ⟨x0, x1, x2, rfl⟩ : ∃ x0 x1 x2, css = [x0, x1, x2] := by
    match css, h2 with
    | [x0, x1, x2], _ => exact ⟨x0, x1, x2, rfl⟩
  obtain ⟨A2, z2, A3, z3, A4, z4, rfl, l2, f2, l3, f3, l4, f4⟩ := k47_openF (h4 0 one_s5 x0 rfl rfl)
  have hne : ∀ k, B ≤ k ∧ k < b → k ≠ b := fun k hk => by omega
  have hc : W.cell? ⟨b, 1, none⟩ = some (.int .i64 0) := (blk_cell h1 1).trans rfl
  have hs := blk_set h1 1 (.int .i64 2)
  refine ⟨b, rfl, h0, blk_lt h1, hc, blk_frozen h1 1, b, [[.int .i64 0, .int .i64 2, .slice A2 one_s5.f2.length z2, .slice A3 one_s5.f3.length z3, .slice A4 one_s5.f4.length z4], x1, x2], rfl, ?_, h0, rfl, h3, ?_⟩
  · rw [hs]
    simp
    rfl
  · have far : ∀ {α : Type} {d : Kd α} {x : α} {c : List Value}, Kd.FK d W (fun k => B ≤ k ∧ k < b) x c → Kd.FK d (W.setCell ⟨b, 1, none⟩ (.int .i64 2)) (fun k => B ≤ k ∧ k < b) x c := fun h => Kd.FK_step h (fun k hk _ => Below.heap_setCell _ _ _ _ (hne k hk))
    exact each3 (k47_mkF _ _ ⟨0, 2, [one_c1], [], []⟩ (A2 := A2) (c2 := z2) l2 (Kd.F_far f2 hne _) (A3 := A3) (c3 := z3) l3 (Kd.F_far f3 hne _) (A4 := A4) (c4 := z4) l4 (Kd.F_far f4 hne _)) (far (h4 1 one_s19 x1 rfl rfl)) (far (h4 2 one_s22 x2 rfl rfl))
theorem aw_same2 : r1_Same.f 60 [4] [4] = some true := by kernel_rfl
theorem aw_same3 : r1_Same.f 60 [2, 1] [2, 1] = some true := by kernel_rfl
theorem vars_far {B : Nat} {W : World} {v : Value} {l : List S82} {b i t : Nat} {cs : Array Value} (h : IsRow k82 B 82 W v l) (hb : W.heap[b]? = some (.cells cs t (0, 0))) (ht : t ≠ 82) (u : Value) : IsRow k82 B 82 (W.setCell ⟨b, i, none⟩ u) v l := by
  obtain ⟨b2, css, e1, h1, h0, h2, h3, h4⟩ := h
  have hne : b2 ≠ b := by
    intro e
    subst e
    rw [h1] at hb
    cases hb
    exact ht rfl
  refine ⟨b2, css, e1, (Below.heap_setCell _ _ _ _ hne).trans h1, h0, h2, h3, fun j x c hj hc => ?_⟩
  obtain rfl := k82_open (Kd.FK_now (h4 j x c hj hc))
  exact k82_mkF _ _ _
theorem int2 (W : World) (a b : Int) : Kd.C (Kd.int .i64) (W.alloc (.cells #[.int .i64 a, .int .i64 b] 3)) (some ⟨W.heap.size, 0, none⟩) 2 [a, b] := by
  obtain ⟨A, e, h⟩ := (IsRow.new (d := Kd.int .i64) (e := 3) (l := [a, b]) (Nat.zero_le W.heap.size) [[.int .i64 a], [.int .i64 b]] (cs := #[.int .i64 a, .int .i64 b]) rfl rfl (by simp) (each2 (fun _ _ => rfl) (fun _ _ => rfl))).C
  cases e
  exact h
theorem int1 (W : World) (a : Int) : Kd.C (Kd.int .i64) (W.alloc (.cells #[.int .i64 a] 3)) (some ⟨W.heap.size, 0, none⟩) 1 [a] := by
  obtain ⟨A, e, h⟩ := (IsRow.new (d := Kd.int .i64) (e := 3) (l := [a]) (Nat.zero_le W.heap.size) [[.int .i64 a]] (cs := #[.int .i64 a]) rfl rfl (by simp) (each1 (fun _ _ => rfl))).C
  cases e
  exact h
def w3_awake.f (_ : Nat) : Option Bool := some true
theorem w3_awake.calls (k : Nat) (r : Bool) (w : World) (h : w3_awake.f k = some r) : Calls Try.prog 12 #[] w fun e w' => e = .returned (.bool r) ∧ Below w.heap.size w w' := by
  obtain rfl := Option.some.inj h
  clear h
  have huP := Try.underlying25
  have huS := Try.underlying47
  refine callsIn_wide.1 (?_ : CallsIn Fence.wide 9 _ _ _ _ _)
  refine callsIn_of_wp Try.func12 rfl trivial ?_ rfl
  simp only [Try.ntmps12, List.size_toArray, List.length_cons, List.length_nil, Nat.reduceAdd, Nat.reduceSub, Array.replicate_succ, Array.replicate_zero, List.push_toArray, List.append_toArray, List.nil_append, List.cons_append]
  gi_wp2
  refine ⟨trivial, ?_⟩
  refine (callsIn_wide.2 (w3_one.lit w)).mono ?_
  rintro e w1 ⟨v2, v3, rfl, r2, r3, hb1⟩
  obtain ⟨A2, rfl, c2⟩ := IsRow.C r2
  obtain ⟨A3, rfl, c3⟩ := IsRow.C r3
  have C2 := Aside0.mk c2
  have C3 := Aside0.mk c3
  have B1 := Aside0.mk hb1
  clear c2 c3 r2 r3 hb1
  have P2 := Aside0.mk (heap_alloc_new w1 (.cells #[.int .i64 2, .slice A2 one_vars.length one_vars.length, .slice A3 one_body.length one_body.length] 25))
  gi_wp2
  have L2 := Aside0.mk (bal (Below.refl _ w1) (.cells #[.int .i64 2, .slice A2 one_vars.length one_vars.length, .slice A3 one_body.length one_body.length] 25))
  generalize w1.alloc (.cells #[.int .i64 2, .slice A2 one_vars.length one_vars.length, .slice A3 one_body.length one_body.length] 25) = w2 at P2 L2 ⊢
  refine ⟨trivial, ?_⟩
  refine (callsIn_wide.2 (prog_Count.calls 60 2 A2 _ one_vars A3 _ one_body 6 12 0 w2 (Kd.C_below C2.out L2.out) (Nat.le_refl _) (Kd.C_below C3.out L2.out) (Nat.le_refl _) aw_count)).mono ?_
  rintro e w3 ⟨rfl, hb⟩
  have L3 := Aside0.mk (L2.out.trans (hb.mono L2.out.size))
  have P3 := Aside0.mk (blk_below P2.out hb)
  clear hb P2
  have k0 : w3.cell? ⟨w1.heap.size, 0, none⟩ = some (.int .i64 2) := (blk_cell P3.out 0).trans rfl
  have k1 : w3.cell? ⟨w1.heap.size, 1, none⟩ = some (.slice A2 one_vars.length one_vars.length) := (blk_cell P3.out 1).trans rfl
  have k2 : w3.cell? ⟨w1.heap.size, 2, none⟩ = some (.slice A3 one_body.length one_body.length) := (blk_cell P3.out 2).trans rfl
  gi_wp2
  clear k0 k1 k2
  refine ⟨trivial, ?_⟩
  refine (callsIn_wide.2 (prog_Inside.calls 60 2 A2 _ one_vars A3 _ one_body 1 [2, 3] [4] 0 w3 (Kd.C_below C2.out L3.out) (Nat.le_refl _) (Kd.C_below C3.out L3.out) (Nat.le_refl _) aw_inside)).mono ?_
  rintro e w4 ⟨vt, ve, rfl, ot, oe, hb⟩
  obtain ⟨At, zt, rfl, lt, ct⟩ := Kd.R_reads ot
  obtain ⟨Ae, ze, rfl, le, ce⟩ := Kd.R_reads oe
  have CT := Aside0.mk ct
  have CE := Aside0.mk ce
  have L4 := Aside0.mk (L3.out.trans (hb.mono L3.out.size))
  have P4 := Aside0.mk (blk_below P3.out hb)
  clear hb P3 ot oe ct ce
  have k0 : w4.cell? ⟨w1.heap.size, 0, none⟩ = some (.int .i64 2) := (blk_cell P4.out 0).trans rfl
  have k1 : w4.cell? ⟨w1.heap.size, 1, none⟩ = some (.slice A2 one_vars.length one_vars.length) := (blk_cell P4.out 1).trans rfl
  have k2 : w4.cell? ⟨w1.heap.size, 2, none⟩ = some (.slice A3 one_body.length one_body.length) := (blk_cell P4.out 2).trans rfl
  gi_wp2
  clear k0 k1 k2
  have X4 := Aside0.mk (Below.refl w4.heap.size w4)
  refine ⟨trivial, ?_⟩
  refine (callsIn_wide.2 (prog_Space.calls 60 2 A2 _ one_vars A3 _ one_body 16 0 w4 (Kd.C_below C2.out L4.out) (Nat.le_refl _) (Kd.C_below C3.out L4.out) (Nat.le_refl _) aw_space)).mono ?_
  rintro e w5 ⟨rfl, hb⟩
  have L5 := Aside0.mk (L4.out.trans (hb.mono L4.out.size))
  have P5 := Aside0.mk (blk_below P4.out hb)
  have X5 := Aside0.mk (X4.out.trans (hb.mono X4.out.size))
  clear hb P4
  have k0 : w5.cell? ⟨w1.heap.size, 0, none⟩ = some (.int .i64 2) := (blk_cell P5.out 0).trans rfl
  have k1 : w5.cell? ⟨w1.heap.size, 1, none⟩ = some (.slice A2 one_vars.length one_vars.length) := (blk_cell P5.out 1).trans rfl
  have k2 : w5.cell? ⟨w1.heap.size, 2, none⟩ = some (.slice A3 one_body.length one_body.length) := (blk_cell P5.out 2).trans rfl
  gi_wp2
  clear k0 k1 k2
  refine ⟨trivial, ?_⟩
  refine (callsIn_wide.2 (prog_Store.calls 60 2 A2 _ one_vars A3 _ one_body 6 [2, 1] 0 w5 (Kd.C_below C2.out L5.out) (Nat.le_refl _) (Kd.C_below C3.out L5.out) (Nat.le_refl _) aw_store)).mono ?_
  rintro e w6 ⟨vs, rfl, os, hb⟩
  obtain ⟨As, zs, rfl, ls, cs⟩ := Kd.R_reads os
  have CS := Aside0.mk cs
  have L6 := Aside0.mk (L5.out.trans (hb.mono L5.out.size))
  have P6 := Aside0.mk (blk_below P5.out hb)
  have X6 := Aside0.mk (X5.out.trans (hb.mono X5.out.size))
  clear hb P5 os cs
  have k0 : w6.cell? ⟨w1.heap.size, 0, none⟩ = some (.int .i64 2) := (blk_cell P6.out 0).trans rfl
  have k1 : w6.cell? ⟨w1.heap.size, 1, none⟩ = some (.slice A2 one_vars.length one_vars.length) := (blk_cell P6.out 1).trans rfl
  have k2 : w6.cell? ⟨w1.heap.size, 2, none⟩ = some (.slice A3 one_body.length one_body.length) := (blk_cell P6.out 2).trans rfl
  have I7 := Aside0.mk (int2 w6 2 1)
  have b67 := bal (Below.refl w6.heap.size w6) (.cells #[.int .i64 2, .int .i64 1] 3)
  gi_wp2
  clear k0 k1 k2
  generalize w6.alloc (.cells #[.int .i64 2, .int .i64 1] 3) = w7 at I7 b67 ⊢
  have hb := b67
  have L7 := Aside0.mk (L6.out.trans (hb.mono L6.out.size))
  have P7 := Aside0.mk (blk_below P6.out hb)
  have X7 := Aside0.mk (X6.out.trans (hb.mono X6.out.size))
  have Y7 := Aside0.mk b67
  clear hb P6 b67
  refine ⟨trivial, ?_⟩
  refine (callsIn_wide.2 (prog_Index.calls 60 2 A2 _ one_vars A3 _ one_body _ _ [2, 1] 6 0 w7 (Kd.C_below C2.out L7.out) (Nat.le_refl _) (Kd.C_below C3.out L7.out) (Nat.le_refl _) I7.out (Nat.le_refl _) aw_index)).mono ?_
  rintro e w8 ⟨rfl, hb⟩
  have L8 := Aside0.mk (L7.out.trans (hb.mono L7.out.size))
  have P8 := Aside0.mk (blk_below P7.out hb)
  have X8 := Aside0.mk (X7.out.trans (hb.mono X7.out.size))
  have Y8 := Aside0.mk (Y7.out.trans (hb.mono Y7.out.size))
  clear hb P7
  gi_wp2
  refine ⟨trivial, ?_⟩
  refine (callsIn_wide.2 (w3_one.lit w8)).mono ?_
  rintro e w9 ⟨v2, v3, rfl, r2, r3, hb⟩
  have L9 := Aside0.mk (L8.out.trans (hb.mono L8.out.size))
  have P9 := Aside0.mk (blk_below P8.out hb)
  have X9 := Aside0.mk (X8.out.trans (hb.mono X8.out.size))
  have Y9 := Aside0.mk (Y8.out.trans (hb.mono Y8.out.size))
  clear hb P8
  obtain ⟨D2, rfl, d2⟩ := IsRow.C r2
  obtain ⟨b, eb, hb8, hb9, _, _, r4⟩ := one_spoil r3
  have Q10 := heap_alloc_new w9 (.cells #[.int .i64 2, .slice D2 one_vars.length one_vars.length, .slice (some ⟨b, 0, none⟩) 3 3] 25)
  have b910 := bal (Below.refl w9.heap.size w9) (.cells #[.int .i64 2, .slice D2 one_vars.length one_vars.length, .slice (some ⟨b, 0, none⟩) 3 3] 25)
  obtain ⟨b', eb', _, _, hc, hf, _⟩ := one_spoil (r3.below b910)
  subst eb
  cases eb'
  have b8w1 := L8.out.size
  have b8w4 := X8.out.size
  have b8w6 := Y8.out.size
  have lw1 := blk_lt P9.out
  have L11 := Aside0.mk (bal (L9.out.trans (lit_below (i := 1) w9 (.int .i64 2) (by omega : w1.heap.size ≤ b))) (.cells #[.int .i64 2, .slice D2 one_vars.length one_vars.length, .slice (some ⟨b, 0, none⟩) 3 3] 25))
  have X11 := Aside0.mk (bal (X9.out.trans (lit_below (i := 1) w9 (.int .i64 2) (by omega : w4.heap.size ≤ b))) (.cells #[.int .i64 2, .slice D2 one_vars.length one_vars.length, .slice (some ⟨b, 0, none⟩) 3 3] 25))
  have Y11 := Aside0.mk (bal (Y9.out.trans (lit_below (i := 1) w9 (.int .i64 2) (by omega : w6.heap.size ≤ b))) (.cells #[.int .i64 2, .slice D2 one_vars.length one_vars.length, .slice (some ⟨b, 0, none⟩) 3 3] 25))
  have P11 := Aside0.mk (kal (blk_far P9.out (p := ⟨b, 1, none⟩) (by show w1.heap.size ≠ b; omega) (.int .i64 2)) (.cells #[.int .i64 2, .slice D2 one_vars.length one_vars.length, .slice (some ⟨b, 0, none⟩) 3 3] 25))
  have R11 := Aside0.mk (r4.below (bal (Below.refl _ _) (.cells #[.int .i64 2, .slice D2 one_vars.length one_vars.length, .slice (some ⟨b, 0, none⟩) 3 3] 25)))
  obtain ⟨b3, cs3, eb3, hb3, _⟩ := r3
  cases eb3
  have RV11 := Aside0.mk ((vars_far (i := 1) r2 hb3 (by decide) (.int .i64 2)).below (bal (Below.refl _ _) (.cells #[.int .i64 2, .slice D2 one_vars.length one_vars.length, .slice (some ⟨b, 0, none⟩) 3 3] 25)))
  have Q11 : Aside0 (((w9.setCell ⟨b, 1, none⟩ (.int .i64 2)).alloc (.cells #[.int .i64 2, .slice D2 one_vars.length one_vars.length, .slice (some ⟨b, 0, none⟩) 3 3] 25)).heap[w9.heap.size]? = some (.cells #[.int .i64 2, .slice D2 one_vars.length one_vars.length, .slice (some ⟨b, 0, none⟩) 3 3] 25)) := ⟨by
    have := heap_alloc_new (w9.setCell ⟨b, 1, none⟩ (.int .i64 2)) (.cells #[.int .i64 2, .slice D2 one_vars.length one_vars.length, .slice (some ⟨b, 0, none⟩) 3 3] 25)
    simpa [World.setCell] using this⟩
  clear r2 r4 b910 P9 hb3
  have q0 : (w9.alloc (.cells #[.int .i64 2, .slice D2 one_vars.length one_vars.length, .slice (some ⟨b, 0, none⟩) 3 3] 25)).cell? ⟨w9.heap.size, 0, none⟩ = some (.int .i64 2) := (blk_cell Q10 0).trans rfl
  have q1 : (w9.alloc (.cells #[.int .i64 2, .slice D2 one_vars.length one_vars.length, .slice (some ⟨b, 0, none⟩) 3 3] 25)).cell? ⟨w9.heap.size, 1, none⟩ = some (.slice D2 one_vars.length one_vars.length) := (blk_cell Q10 1).trans rfl
  have q2 : (w9.alloc (.cells #[.int .i64 2, .slice D2 one_vars.length one_vars.length, .slice (some ⟨b, 0, none⟩) 3 3] 25)).cell? ⟨w9.heap.size, 2, none⟩ = some (.slice (some ⟨b, 0, none⟩) 3 3) := (blk_cell Q10 2).trans rfl
  have k0 : ((w9.setCell ⟨b, 1, none⟩ (.int .i64 2)).alloc (.cells #[.int .i64 2, .slice D2 one_vars.length one_vars.length, .slice (some ⟨b, 0, none⟩) 3 3] 25)).cell? ⟨w1.heap.size, 0, none⟩ = some (.int .i64 2) := (blk_cell P11.out 0).trans rfl
  have k1 : ((w9.setCell ⟨b, 1, none⟩ (.int .i64 2)).alloc (.cells #[.int .i64 2, .slice D2 one_vars.length one_vars.length, .slice (some ⟨b, 0, none⟩) 3 3] 25)).cell? ⟨w1.heap.size, 1, none⟩ = some (.slice A2 one_vars.length one_vars.length) := (blk_cell P11.out 1).trans rfl
  have k2 : ((w9.setCell ⟨b, 1, none⟩ (.int .i64 2)).alloc (.cells #[.int .i64 2, .slice D2 one_vars.length one_vars.length, .slice (some ⟨b, 0, none⟩) 3 3] 25)).cell? ⟨w1.heap.size, 2, none⟩ = some (.slice A3 one_body.length one_body.length) := (blk_cell P11.out 2).trans rfl
  gi_wp2
  clear k0 k1 k2 q0 q1 q2 hc hf Q10
  generalize ((w9.setCell ⟨b, 1, none⟩ (.int .i64 2)).alloc (.cells #[.int .i64 2, .slice D2 one_vars.length one_vars.length, .slice (some ⟨b, 0, none⟩) 3 3] 25)) = w11 at L11 X11 Y11 P11 R11 RV11 Q11 ⊢
  refine ⟨trivial, ?_⟩
  refine (callsIn_wide.2 (prog_Check.calls 60 2 A2 _ one_vars A3 _ one_body 0 w11 (Kd.C_below C2.out L11.out) (Nat.le_refl _) (Kd.C_below C3.out L11.out) (Nat.le_refl _) aw_check)).mono ?_
  rintro e w12 ⟨rfl, hb⟩
  have Q12 := Aside0.mk (blk_below Q11.out hb)
  have R12 := Aside0.mk (R11.out.below hb)
  have RV12 := Aside0.mk (RV11.out.below hb)
  have L12 := Aside0.mk (L11.out.trans (hb.mono L11.out.size))
  have P12 := Aside0.mk (blk_below P11.out hb)
  have X12 := Aside0.mk (X11.out.trans (hb.mono X11.out.size))
  have Y12 := Aside0.mk (Y11.out.trans (hb.mono Y11.out.size))
  clear hb P11 Q11 R11 RV11
  gi_wp2
  refine ⟨trivial, ?_⟩
  refine (callsIn_wide.2 (r1_Same.calls 60 At _ [2, 3] (some ⟨w12.heap.size, 0, none⟩) _ [2, 3] true (w12.alloc (.cells #[.int .i64 2, .int .i64 3] 3)) (Kd.C_below CT.out (bal X12.out _)) lt (int2 w12 2 3) (Nat.le_refl _) aw_same)).mono ?_
  rintro e w13 ⟨rfl, hd⟩
  have hb : Below w12.heap.size w12 w13 := by
    obtain ⟨nd, rfl⟩ := hd
    exact bdN (bal (Below.refl _ _) _) nd
  clear hd
  have Q13 := Aside0.mk (blk_below Q12.out hb)
  have R13 := Aside0.mk (R12.out.below hb)
  have RV13 := Aside0.mk (RV12.out.below hb)
  have L13 := Aside0.mk (L12.out.trans (hb.mono L12.out.size))
  have P13 := Aside0.mk (blk_below P12.out hb)
  have X13 := Aside0.mk (X12.out.trans (hb.mono X12.out.size))
  have Y13 := Aside0.mk (Y12.out.trans (hb.mono Y12.out.size))
  clear hb P12 Q12 R12 RV12
  gi_wp2
  refine ⟨trivial, ?_⟩
  refine (callsIn_wide.2 (r1_Same.calls 60 Ae _ [4] (some ⟨w13.heap.size, 0, none⟩) _ [4] true (w13.alloc (.cells #[.int .i64 4] 3)) (Kd.C_below CE.out (bal X13.out _)) le (int1 w13 4) (Nat.le_refl _) aw_same2)).mono ?_
  rintro e w14 ⟨rfl, hd⟩
  have hb : Below w13.heap.size w13 w14 := by
    obtain ⟨nd, rfl⟩ := hd
    exact bdN (bal (Below.refl _ _) _) nd
  clear hd
  have Q14 := Aside0.mk (blk_below Q13.out hb)
  have R14 := Aside0.mk (R13.out.below hb)
  have RV14 := Aside0.mk (RV13.out.below hb)
  have L14 := Aside0.mk (L13.out.trans (hb.mono L13.out.size))
  have P14 := Aside0.mk (blk_below P13.out hb)
  have X14 := Aside0.mk (X13.out.trans (hb.mono X13.out.size))
  have Y14 := Aside0.mk (Y13.out.trans (hb.mono Y13.out.size))
  clear hb P13 Q13 R13 RV13
  gi_wp2
  refine ⟨trivial, ?_⟩
  refine (callsIn_wide.2 (r1_Same.calls 60 As _ [2, 1] (some ⟨w14.heap.size, 0, none⟩) _ [2, 1] true (w14.alloc (.cells #[.int .i64 2, .int .i64 1] 3)) (Kd.C_below CS.out (bal Y14.out _)) ls (int2 w14 2 1) (Nat.le_refl _) aw_same3)).mono ?_
  rintro e w15 ⟨rfl, hd⟩
  have hb : Below w14.heap.size w14 w15 := by
    obtain ⟨nd, rfl⟩ := hd
    exact bdN (bal (Below.refl _ _) _) nd
  clear hd
  have Q15 := Aside0.mk (blk_below Q14.out hb)
  have R15 := Aside0.mk (R14.out.below hb)
  have RV15 := Aside0.mk (RV14.out.below hb)
  have L15 := Aside0.mk (L14.out.trans (hb.mono L14.out.size))
  have P15 := Aside0.mk (blk_below P14.out hb)
  have X15 := Aside0.mk (X14.out.trans (hb.mono X14.out.size))
  have Y15 := Aside0.mk (Y14.out.trans (hb.mono Y14.out.size))
  clear hb P14 Q14 R14 RV14
  have k0 : w15.cell? ⟨w9.heap.size, 0, none⟩ = some (.int .i64 2) := (blk_cell Q15.out 0).trans rfl
  have k1 : w15.cell? ⟨w9.heap.size, 1, none⟩ = some (.slice D2 one_vars.length one_vars.length) := (blk_cell Q15.out 1).trans rfl
  have k2 : w15.cell? ⟨w9.heap.size, 2, none⟩ = some (.slice (some ⟨b, 0, none⟩) 3 3) := (blk_cell Q15.out 2).trans rfl
  gi_wp2
  clear k0 k1 k2
  obtain ⟨D3, eD, dv⟩ := IsRow.C RV15.out
  cases eD
  obtain ⟨D4, eD, db⟩ := IsRow.C R15.out
  cases eD
  refine ⟨trivial, ?_⟩
  refine (callsIn_wide.2 (prog_Check.calls 60 2 _ _ one_vars _ _ one_bad 30 w15 dv (Nat.le_refl _) db (Nat.le_refl _) aw_bad)).mono ?_
  rintro e w16 ⟨rfl, hb⟩
  gi_wp2
  go_ret
  exact ⟨rfl, B1.out.trans ((L15.out.mono B1.out.size).trans (hb.mono (Nat.le_trans B1.out.size L15.out.size)))⟩
end Go.Proofs.Ytffcpbgbhkbplaa.Print
namespace Go.Proofs.Ytffcpbgbhkbplaa.Print
open Go.RowKit Go.Proofs.YtffcpbgbhkbplaaW.PrintWords Go.Proofs.YtffcpbgbhkbplaaW.PrintLast Go.Proofs.YtffcpbgbhkbplaaW.PrintMore
attribute [local go_sem] max2_int min2_int max_two min_two max_three min_three max_four min_four
set_option linter.unusedVariables false
set_option linter.unusedSimpArgs false
open Go.Shelf Go.RowKit
attribute [local go_sem] Oper.semAt_some
theorem three_boxes (w : World) (a b c : Obj) : Below w.heap.size w (((w.alloc a).alloc b).alloc c) ∧ (((w.alloc a).alloc b).alloc c).heap[w.heap.size]? = some a ∧ (((w.alloc a).alloc b).alloc c).heap[w.heap.size + 1]? = some b ∧
    (((w.alloc a).alloc b).alloc c).heap[w.heap.size + 1 + 1]? = some c ∧ (((w.alloc a).alloc b).alloc c).heap.size = w.heap.size + 1 + 1 + 1 := by
  refine ⟨bal (bal (bal (Below.refl _ _) _) _) _, kal (kal (blk_new _ _) _) _, ?_, ?_, by simp⟩
  · have := blk_new (w.alloc a) b
    exact kal (by simpa using this) _
  · have := blk_new ((w.alloc a).alloc b) c
    simpa using this
theorem results_bool {P : Program} {fn : Func} {p : Tmp} {tB : TypeId} (h : fn.results = #[.cell p tB]) (tmps : Array Value) (w : World) (g : Nat) (v : Bool) (hp : tmps.getD p undef = .pointer (some ⟨g, 0, none⟩))
    (hg : w.heap[g]? = some (.cells #[.bool v] tB (0, 0))) (hu : P.underlying tB = some .bool) : (results fn tmps).run P w = .ok (.bool v) w := by
  have hp' : tmps[p]?.getD undef = .pointer (some ⟨g, 0, none⟩) := by simpa using hp
  have hc : w.cell? ⟨g, 0, none⟩ = some (.bool v) := (blk_cell hg 0).trans rfl
  have hagg : (isAgg tB).run P w = .ok false w := by
    unfold isAgg
    rw [Sem.run_bind, run_underlying hu w]
    simp
  have h2 : (loadVar tB ⟨g, 0, none⟩).run P w = .ok (.bool v) w := by simp [loadVar, Sem.run_bind, hagg, go_sem, hc, Result.andThen]
  generalize hL2 : loadVar tB ⟨g, 0, none⟩ = L2 at h2
  simp [results, h, Sem.run_bind, hp', asAddr, Result.andThen, hL2, h2]
end Go.Proofs.Ytffcpbgbhkbplaa.Print
namespace Go.Proofs.Ytffcpbgbhkbplaa.Print
open Go.RowKit Go.Proofs.YtffcpbgbhkbplaaW.PrintWords Go.Proofs.YtffcpbgbhkbplaaW.PrintLast Go.Proofs.YtffcpbgbhkbplaaW.PrintMore
attribute [local go_sem] max2_int min2_int max_two min_two max_three min_three max_four min_four
set_option linter.unusedVariables false
set_option linter.unusedSimpArgs false
section
variable {F : Fence} {n : Nat} {P : Program} {ops : Array Oper} {Q : Exit → Act → World → Prop} {md : Region.Mode}
theorem wpAnyIn_inv (hb : backward ops = true) (Inv : Array Bool → Act → World → Prop)
    (hend : ∀ listed a w, Inv listed a w → (∀ j, j < ops.size → listed.getD j true = true) → Q .normal a w)
    (step : ∀ listed a w i o, Inv listed a w → ops[i]? = some o → listed.getD i true = false → (∀ e ∈ o.after, Region.binds md e = true → listed.getD e.on false = true) →
      wpOpIn F n P ops Q i (fun a' w' => Inv (listed.setIfInBounds i true) a' w') a w) :
    ∀ (fuel : Nat) (listed : Array Bool) (a : Act) (w : World), unlisted ops.size listed ≤ fuel → Inv listed a w → wpAnyIn F n P md ops Q fuel listed a w := by
  intro fuel
  induction fuel with
  | zero =>
    intro listed a w hu hI
    have hr : Region.ready md ops listed = [] := by
      rw [List.eq_nil_iff_forall_not_mem]
      intro j hj
      obtain ⟨h0, o, ho, _⟩ := mem_ready.1 hj
      have hlt := (Array.getElem?_eq_some_iff.1 ho).1
      have := unlisted_set hlt h0
      omega
    exact ⟨hr, hend _ _ _ hI (all_listed hb hr)⟩
  | succ fuel ih =>
    intro listed a w hu hI
    refine ⟨fun hr => hend _ _ _ hI (all_listed hb hr), fun i hi => ?_⟩
    obtain ⟨h0, o, ho, hall⟩ := mem_ready.1 hi
    have hlt := (Array.getElem?_eq_some_iff.1 ho).1
    have hu2 := unlisted_set hlt h0
    exact wpOpIn_mono (fun a' w' h' => ih _ a' w' (by omega) h') (step listed a w i o hI ho h0 hall)
theorem wanted_free {o : Oper} {y : Nat → Option Bool} (h : o.guard = none) : Region.wanted o y = true := by simp [Region.wanted, h]
theorem wanted_at {o og : Oper} {a : Act} {g t : Nat} {b : Bool} (h : o.guard = some (g, b)) (hg : ops[g]? = some og) (ht : og.dst = some t) (hv : a.tmps[t]? = some (.bool b)) : Region.wanted o (yielded ops a.tmps) = true := by
  simp [Region.wanted, h, yielded, hg, ht, hv]
theorem stepIn_value {i : Nat} {K : Act → World → Prop} {a : Act} {W W1 : World} {o : Oper} {v : Value} (ho : ops[i]? = some o) (hF : ∀ f, F.fn f) (hw : Region.wanted o (yielded ops a.tmps) = true) (hd : ∀ c, o.op ≠ .defer c)
    (hrun : (execOp a.eval o).run P W = .ok (.value v) W1) (hK : K (a.put o.dst v) W1) : wpOpIn F n P ops Q i K a W := by
  unfold wpOpIn
  rw [ho]
  simp only [hw, if_true]
  unfold Oper.wpIn
  rw [Oper.semAt_eq _ _ _ hd, hrun]
  exact ⟨fun f _ => hF f, hK⟩
theorem stepIn_enter {i : Nat} {K : Act → World → Prop} {a : Act} {W W1 : World} {o : Oper} {f : FuncId} {args : Array Value} (ho : ops[i]? = some o) (hF : ∀ f, F.fn f) (hn : F.depth.isSome = true → 1 ≤ n) (hw : Region.wanted o (yielded ops a.tmps) = true) (hd : ∀ c, o.op ≠ .defer c)
    (hrun : (execOp a.eval o).run P W = .ok (.enter f args) W1)
    (hc : CallsIn F (n - 1) P f args W1 fun e w' => ∃ v, e = .returned v ∧ K (a.put o.dst v) w') : wpOpIn F n P ops Q i K a W := by
  unfold wpOpIn
  rw [ho]
  simp only [hw, if_true]
  unfold Oper.wpIn
  rw [Oper.semAt_eq _ _ _ hd, hrun]
  refine ⟨fun f _ => hF f, hn, hc.mono ?_⟩
  rintro e w' ⟨v, rfl, hk⟩
  exact hk
end
end Go.Proofs.Ytffcpbgbhkbplaa.Print
namespace Go.Proofs.Ytffcpbgbhkbplaa.Print
open Go.RowKit Go.Proofs.YtffcpbgbhkbplaaW.PrintWords Go.Proofs.YtffcpbgbhkbplaaW.PrintLast Go.Proofs.YtffcpbgbhkbplaaW.PrintMore
attribute [local go_sem] max2_int min2_int max_two min_two max_three min_three max_four min_four
set_option linter.unusedVariables false
set_option linter.unusedSimpArgs false
open Go.Shelf Go.RowKit
attribute [local go_sem] Oper.semAt_some
theorem boxes4 (w : World) (a b c d : Obj) : Below w.heap.size w ((((w.alloc a).alloc b).alloc c).alloc d) ∧ ((((w.alloc a).alloc b).alloc c).alloc d).heap[w.heap.size]? = some a ∧ ((((w.alloc a).alloc b).alloc c).alloc d).heap[w.heap.size + 1]? = some b ∧
    ((((w.alloc a).alloc b).alloc c).alloc d).heap[w.heap.size + 1 + 1]? = some c ∧ ((((w.alloc a).alloc b).alloc c).alloc d).heap[w.heap.size + 1 + 1 + 1]? = some d ∧ ((((w.alloc a).alloc b).alloc c).alloc d).heap.size = w.heap.size + 1 + 1 + 1 + 1 := by
  obtain ⟨h1, h2, h3, h4, h5⟩ := three_boxes w a b c
  refine ⟨bal h1 _, kal h2 _, kal h3 _, kal h4 _, ?_, by simp⟩
  have := blk_new (((w.alloc a).alloc b).alloc c) d
  rw [h5] at this
  exact this
structure LInv (W0 : World) (g3 g5 g7 : Nat) (x1 : Int) (vals : Nat → Value) (S : S47) (L : Array Bool) (a : Act) (W : World) : Prop where
  len : L.size = 29
  size : a.tmps.size = 47
  defers : a.defers = []
  t3 : a.tmps.getD 3 undef = .pointer (some ⟨g3, 0, none⟩)
  t5 : a.tmps.getD 5 undef = .pointer (some ⟨g5, 0, none⟩)
  t6 : a.tmps.getD 6 undef = .int .i64 x1
  t7 : a.tmps.getD 7 undef = .pointer (some ⟨g7, 0, none⟩)
  below : Below W0.heap.size W0 W
  facts : ∀ j, j < 29 → j ≠ 15 → L.getD j false = true → a.tmps.getD (12 + j) undef = vals j
  row : L.getD 15 false = true → ∃ A, a.tmps.getD 27 undef = .slice A 1 1 ∧ Kd.C k47 W A 1 [S]
theorem set_getD {α : Type} (A : Array α) (i j : Nat) (x d : α) (hi : i < A.size) : (A.setIfInBounds i x).getD j d = if j = i then x else A.getD j d := by
  by_cases h : j = i
  · subst h
    simp [Array.getD, hi]
  · rw [if_neg h]
    simp only [Array.getD_eq_getD_getElem?, Array.getElem?_setIfInBounds]
    rw [if_neg (Ne.symm h)]
theorem LInv.put {W0 W W1 : World} {g3 g5 g7 : Nat} {x1 : Int} {vals : Nat → Value} {S : S47} {L : Array Bool} {a : Act} {v : Value} {i d : Nat} (h : LInv W0 g3 g5 g7 x1 vals S L a W) (hi : i < 29) (hd : d = 12 + i) (hb : Below W.heap.size W W1) (hv : i ≠ 15 → v = vals i) (hr : i = 15 → ∃ A, v = .slice A 1 1 ∧ Kd.C k47 W1 A 1 [S]) :
    LInv W0 g3 g5 g7 x1 vals S (L.setIfInBounds i true) (a.put (some d) v) W1 := by
  subst hd
  have hs : 12 + i < a.tmps.size := by rw [h.size]; omega
  have g : ∀ j, (a.put (some (12 + i)) v).tmps.getD j undef = if j = 12 + i then v else a.tmps.getD j undef := fun j => set_getD _ _ _ _ _ hs
  have hl : ∀ j, (L.setIfInBounds i true).getD j false = if j = i then true else L.getD j false := fun j => set_getD _ _ _ _ _ (by rw [h.len]; exact hi)
  refine ⟨by simp [h.len], by simp [Act.put, h.size], h.defers, ?_, ?_, ?_, ?_, h.below.trans (hb.mono h.below.size), ?_, ?_⟩
  · rw [g, if_neg (by omega)]; exact h.t3
  · rw [g, if_neg (by omega)]; exact h.t5
  · rw [g, if_neg (by omega)]; exact h.t6
  · rw [g, if_neg (by omega)]; exact h.t7
  · intro j hj h15 hm
    rw [g]
    rw [hl] at hm
    by_cases e : j = i
    · subst e
      rw [if_pos rfl]
      exact hv h15
    · rw [if_neg (by omega)]
      rw [if_neg e] at hm
      exact h.facts j hj h15 hm
  · intro hm
    rw [g]
    rw [hl] at hm
    by_cases e : 15 = i
    · subst e
      rw [if_pos rfl]
      exact hr rfl
    · rw [if_neg (by omega)]
      rw [if_neg e] at hm
      obtain ⟨A, e1, hc⟩ := h.row hm
      exact ⟨A, e1, Kd.C_below hc hb⟩
theorem LInv.got {W0 W : World} {g3 g5 g7 : Nat} {x1 : Int} {vals : Nat → Value} {S : S47} {L : Array Bool} {a : Act} (h : LInv W0 g3 g5 g7 x1 vals S L a W) (j : Nat) (hj : j < 29) (h15 : j ≠ 15) (hl : L.getD j false = true) : a.tmps[12 + j]? = some (vals j) := by
  have h1 := h.facts j hj h15 hl
  have hs : 12 + j < a.tmps.size := by rw [h.size]; omega
  rw [Array.getElem?_eq_getElem hs]
  simp only [Array.getD, hs, dif_pos] at h1
  rw [← h1]
  rfl
theorem tmp_r {a : Act} {n : Nat} {v : Value} (h : a.tmps.getD n undef = v) : a.tmps[n]?.getD undef = v := by simpa using h
theorem tmp_s {a : Act} {n : Nat} {v : Value} (h : a.tmps[n]? = some v) : a.tmps[n]?.getD undef = v := by rw [h]; rfl
theorem up {α : Type} {d : Kd α} {W : World} {A : Option Addr} {n : Nat} {xs : List α} (h : Kd.F d W (fun k => k < W.heap.size) A n xs) : Kd.F d W (fun k => 0 ≤ k ∧ k < W.heap.size) A n xs := Kd.F_mono h (fun _ hk => ⟨Nat.zero_le _, hk⟩)
def lisVals (at_ x1 len : Int) (L sv tv : Value) (p q : Addr) : Nat → Value
  | 0 => .int .i64 at_ | 1 => L | 2 => .int .i64 len | 3 => .bool false | 4 => .bool false | 5 => .int .i64 x1 | 6 => L | 7 => .int .i64 at_ | 8 => .pointer (some p) | 9 => .pointer (some p)
  | 10 => .int .i64 x1 | 11 => .bool false | 12 => .bool false | 13 => .bool false | 14 => sv | 16 => .bool true | 17 => .bool false | 18 => .bool false | 19 => .bool false | 20 => sv | 21 => L
  | 22 => .int .i64 at_ | 23 => .pointer (some p) | 24 => .pointer (some q) | 25 => tv | 26 => .bool true | 27 => .bool false | 28 => .bool false | _ => undef
theorem w3_listed.walk (k : Nat) (a0 : Int) (A1 : Option Addr) (c1 : Nat) (l1 : List S82) (A2 : Option Addr) (c2 : Nat) (l2 : List S47) (tc : Int) (its : List (Int × S47)) (n' : Int) (A3 : Option Addr) (c3 : Nat) (l3 : List S57) (w : World)
    (hr1 : Kd.C k82 w A1 l1.length l1) (hc1 : l1.length ≤ c1) (hr2 : Kd.C k47 w A2 l2.length l2) (hc2 : l2.length ≤ c2) (hr3 : Kd.C k57 w A3 l3.length l3) (hc3 : l3.length ≤ c3) (hl3 : l3.length ≤ 1000)
    (hck : prog_Check.f k a0 l1 l2 = some tc) (hwk : prog_walk.f k l2 0 = some (its, n')) (hcp : ∀ x ∈ its, prog_Copied.f k x.2.f0 x.2.f1 x.2.f2 x.2.f3 x.2.f4 = some (x.2.f0, x.2.f1, x.2.f2, x.2.f3, x.2.f4) ∧ r3_Fits.f k [x.2] 600 = some true ∧ r3_SameStmt.f k x.2.f0 x.2.f1 x.2.f2 x.2.f3 x.2.f4 x.2.f0 x.2.f1 x.2.f2 x.2.f3 x.2.f4 = some true)
    (hm : l3 = (if tc = 0 then its else []).map (fun x => (⟨x.1, x.2⟩ : S57))) :
    Calls Try.prog 28 #[.agg #[.int .i64 a0, .slice A1 l1.length c1, .slice A2 l2.length c2], .slice A3 l3.length c3] w fun e w' => e = .returned (.bool true) ∧ Below w.heap.size w w' := by
  refine callsIn_wide.1 (?_ : CallsIn Fence.wide 9 _ _ _ _ _)
  have huP := Try.underlying25
  have huI := Try.underlying57
  have huR := Try.underlying54
  have huS := Try.underlying47
  have huSs := Try.underlying23
  refine callsIn_of_wp_marks Try.func28 rfl trivial ?_ rfl
  simp only [Try.ntmps28, List.size_toArray, List.length_cons, List.length_nil, Nat.reduceAdd, Nat.reduceSub, Array.replicate_succ, Array.replicate_zero, List.push_toArray, List.append_toArray, List.nil_append, List.cons_append]
  have HR1 := Aside0.mk hr1
  have HC1 := Aside0.mk hc1
  have HR2 := Aside0.mk hr2
  have HC2 := Aside0.mk hc2
  have HR3 := Aside0.mk hr3
  have HC3 := Aside0.mk hc3
  have HL3 := Aside0.mk hl3
  have HCP := Aside0.mk hcp
  have HM := Aside0.mk hm
  clear hr1 hc1 hr2 hc2 hr3 hc3 hl3 hcp hm
  have FB := boxes4 w (.cells #[.int .i64 a0, .slice A1 l1.length c1, .slice A2 l2.length c2] 25) (.cells #[.slice A3 l3.length c3] 54) (.cells #[.bool false] 4) (.cells #[.int .i64 0] 3)
  gi_wp2
  generalize (((w.alloc (.cells #[.int .i64 a0, .slice A1 l1.length c1, .slice A2 l2.length c2] 25)).alloc (.cells #[.slice A3 l3.length c3] 54)).alloc (.cells #[.bool false] 4)).alloc (.cells #[.int .i64 0] 3) = W1 at FB ⊢
  obtain ⟨b1, p1, m1, t1, s1, z1⟩ := FB
  refine ⟨trivial, ?_⟩
  refine (callsIn_wide.2 (prog_All.fn _ _ _ W1)).mono ?_
  rintro e W2 ⟨rfl, hb2, q2⟩
  have hs2 := hb2.size
  have b2 := b1.trans (hb2.mono b1.size)
  have p2 := (hb2.block _ (by omega)).trans p1
  have m2 := (hb2.block _ (by omega)).trans m1
  have t2 := (hb2.block _ (by omega)).trans t1
  have s2 := (hb2.block _ (by omega)).trans s1
  have hlq := blk_lt q2
  have Z1 := Aside0.mk z1
  clear p1 m1 t1 s1 hb2 b1 z1
  gi_wp2
  have z1 := Z1.out
  refine wpIn_rangeM (gf := 62) (lb := #[.pointer (some ⟨W1.heap.size, 0, none⟩)]) rfl (enters_of Try.func62 (by kernel_rfl) rfl)
    (prog_All.seqOwn w W1.heap.size a0 A1 c1 l1 A2 c2 l2 tc its n' k HR1.out HC1.out HR2.out HC2.out hck hwk (fun x hx => ⟨_, (HCP.out x hx).1⟩)) (fun W6 h6 => (h6.block _ hlq).trans q2) b2 (by rintro x av A M ⟨_, _, _, _, _, _, _, _, _, _, _, _, rfl, _⟩; rfl)
    (fun _ _ => true)
    (fun pre A => A.heap[w.heap.size]? = some (.cells #[.int .i64 a0, .slice A1 l1.length c1, .slice A2 l2.length c2] 25 (0, 0)) ∧ A.heap[w.heap.size + 1]? = some (.cells #[.slice A3 l3.length c3] 54 (0, 0)) ∧ A.heap[w.heap.size + 1 + 1]? = some (.cells #[.bool false] 4 (0, 0)) ∧ A.heap[w.heap.size + 1 + 1 + 1]? = some (.cells #[.int .i64 (pre.length : Int)] 3 (0, 0)))
    (fun _ _ _ => False)
    (fun pre A B h hb => ⟨(hb.block _ (by omega)).trans h.1, (hb.block _ (by omega)).trans h.2.1, (hb.block _ (by omega)).trans h.2.2.1, (hb.block _ (by omega)).trans h.2.2.2⟩)
    (fun c pre A j o o' hj h hA ho => h.elim)
    ⟨p2, m2, t2, s2⟩ ?round ?done (fun c q X hst h => h.elim)
  case round =>
    rintro l pre x av X M ⟨pa, ma, ta, sa⟩ ⟨r1, r2, r3, r4, r5, D3, d3, D4, d4, D5, d5, CP, rfl, wx3, wx4, wx5⟩ hpre hbX hM hMX
    have hxm := hpre.subset (show x ∈ pre ++ [x] by simp)
    obtain ⟨htc, hxm⟩ : tc = 0 ∧ x ∈ its := by
      by_cases h : tc = 0
      · rw [if_pos h] at hxm; exact ⟨h, hxm⟩
      · rw [if_neg h] at hxm; cases hxm
    rw [if_pos htc] at hpre
    obtain ⟨CP0, FT, SM⟩ := HCP.out x hxm
    rw [CP0] at CP
    cases CP
    have hpl := hpre.length_le
    rw [List.length_append, List.length_singleton] at hpl
    have hm := HM.out
    rw [if_pos htc] at hm
    have hl3 : l3.length = its.length := by rw [hm, List.length_map]
    have hget : rd_T57 l3 (pre.length : Int) = ⟨x.1, x.2⟩ := by
      obtain ⟨r, hr⟩ := hpre
      unfold rd_T57
      rw [hm, ← hr]
      simp
    obtain ⟨ad, B3, e3, B4, e4, B5, e5, rfl, y0, y1, y2, y3, y4, y5, yl3, yc3, yl4, yc4, yl5, yc5⟩ := at_T57 HR3.out (pre.length : Int) (by omega) (by omega)
    rw [hget] at y0 y1 y2 y3 y4 y5 yl3 yc3 yl4 yc4 yl5 yc5
    simp only at y0 y1 y2 y3 y4 y5 yl3 yc3 yl4 yc4 yl5 yc5
    gi_wp2
    refine ⟨World.grownBy_alloc _ _ _, ?_⟩
    intro V hg2 hs2' hi2 hb2'
    obtain ⟨pv, mv, tv, sv⟩ := hi2
    have hsa : (X.alloc (.cells #[.int .i64 x.2.f0, .int .i64 x.2.f1, .slice D3 x.2.f2.length d3, .slice D4 x.2.f3.length d4, .slice D5 x.2.f4.length d5] 47)).heap.size = X.heap.size + 1 := by simp
    have x4 : V.heap[X.heap.size]? = some (.cells #[.int .i64 x.2.f0, .int .i64 x.2.f1, .slice D3 x.2.f2.length d3, .slice D4 x.2.f3.length d4, .slice D5 x.2.f4.length d5] 47 (0, 0)) :=
      (hg2.block X.heap.size (by simp) (by intro e; injection e; omega)).trans (heap_alloc_new _ _)
    have mvv : ∀ (b : Nat), M ≤ b → b < X.heap.size → V.heap[b]? = X.heap[b]? := fun b hb1 hb2 => (hg2.block b (by rw [hsa]; omega) (by intro e; injection e; omega)).trans (Below.heap_alloc _ _ _ hb2)
    have u3 := Kd.F_now (wx3.moveB mvv).2.2
    have u4 := Kd.F_now (wx4.moveB mvv).2.2
    have u5 := Kd.F_now (wx5.moveB mvv).2.2
    have v3 := wx3.2.1
    have v4 := wx4.2.1
    have v5 := wx5.2.1
    have wrap_i : IntKind.i64.wrap ((pre.length : Int) + 1) = (pre.length : Int) + 1 := by rw [i64_w]; unfold wrap64; have := HL3.out; omega
    obtain ⟨i, hi⟩ : ∃ i : Int, i = (pre.length : Int) := ⟨_, rfl⟩
    have hi0 : (0 ≤ i) = True := eq_true (by omega)
    have hi1 : (i < (l3.length : Int)) = True := eq_true (by omega)
    have hi2' : ((l3.length : Int) ≤ i) = False := eq_false (by omega)
    have hnext : ((pre ++ [x]).length : Int) = i + 1 := by rw [List.length_append, List.length_singleton, hi]; rfl
    rw [← hi] at sv y0 y1 y2 y3 y4 y5 wrap_i
    have HNEXT := Aside0.mk hnext
    clear hnext hi hm hget hl3 hpl hpre
    gi_wp2
    refine wpIn_region_any (by kernel_rfl) ?_
    change wpAnyIn _ _ _ _ _ _ _ _ _ (World.drew _)
    refine wpAnyIn_inv (by kernel_rfl) (LInv V (w.heap.size + 1) (w.heap.size + 1 + 1 + 1) X.heap.size x.1 (lisVals i x.1 (l3.length : Int) (.slice (some ad) l3.length c3) (.agg #[.int .i64 x.2.f0, .int .i64 x.2.f1, .slice D3 x.2.f2.length d3, .slice D4 x.2.f3.length d4, .slice D5 x.2.f4.length d5]) (.agg #[.int .i64 x.2.f0, .int .i64 x.2.f1, .slice B3 x.2.f2.length e3, .slice B4 x.2.f3.length e4, .slice B5 x.2.f4.length e5]) (ad.add (i.toNat * 6)) ⟨(ad.add (i.toNat * 6)).block, (ad.add (i.toNat * 6)).off + 1, none⟩) x.2) ?hend ?step _ _ _ _ (by decide) ?start
    case start =>
      refine ⟨rfl, rfl, rfl, rfl, rfl, rfl, rfl, bd1 (Below.refl _ _), fun j hj h15 h => ?_, fun h => ?_⟩
      · exact absurd h (by simp [Array.getD])
      · exact absurd h (by simp [Array.getD])
    case hend =>
      intro L a W hI hL
      have hv := hI.below
      have q28 : a.tmps[40]?.getD undef = .bool false := tmp_s (hI.got 28 (by omega) (by decide) (by
        have h1 := hL 28 (by decide)
        cases h2 : L.getD 28 false with
        | true => rfl
        | false => simp [Array.getD, hI.len] at h1 h2; rw [h1] at h2; cases h2))
      have r5 := tmp_r hI.t5
      have s9 := (hv.block _ (blk_lt sv)).trans sv
      have f9 := blk_frozen s9 0
      have c9 : W.cell? ⟨w.heap.size + 1 + 1 + 1, 0, none⟩ = some (.int .i64 i) := (blk_cell s9 0).trans rfl
      have s8 := blk_put s9 0 (.int .i64 (i + 1)) (cs' := #[.int .i64 (i + 1)]) rfl
      have h41 : (41 < a.tmps.size) = True := eq_true (by rw [hI.size]; decide)
      have h42 : (42 < a.tmps.size) = True := eq_true (by rw [hI.size]; decide)
      gi_wp2
      refine wpIn_cond_false ((show a.eval (.tmp 40) = a.tmps[40]?.getD undef by first | rfl | simp [Act.eval]).trans q28) ?_
      gi_wp2
      exact ⟨rfl, by simp; exact hv.size, fun k h1 h2 => (Below.heap_setCell _ _ _ _ (by simp; omega)).trans (hv.block k (by omega)), (hb2'.trans (hv.mono hb2'.size)).trans (below_cell _ _ (by omega)),
        blk_far ((hv.block _ (blk_lt pv)).trans pv) (by simp <;> omega) _, blk_far ((hv.block _ (blk_lt mv)).trans mv) (by simp <;> omega) _, blk_far ((hv.block _ (blk_lt tv)).trans tv) (by simp <;> omega) _, by rw [HNEXT.out]; exact s8⟩
    case step =>
      intro L a W j o hI ho hl hall
      have hj : j < 29 := (Array.getElem?_eq_some_iff.1 ho).1
      have hv := hI.below
      match j, hj with
      | 0, _ =>
        cases ho
        have r5 := tmp_r hI.t5
        have c5 : W.cell? ⟨w.heap.size + 1 + 1 + 1, 0, none⟩ = some (.int .i64 i) := (blk_cell ((hv.block _ (blk_lt sv)).trans sv) 0).trans rfl
        refine stepIn_value (v := .int .i64 i) (W1 := W) rfl (fun _ => trivial) (wanted_free rfl) (fun c h => by cases h) (by go_simp; done) ?_
        exact hI.put (i := 0) (by omega) rfl (Below.refl _ _) (fun _ => rfl) (fun h => by cases h)
      | 1, _ =>
        cases ho
        have r3 := tmp_r hI.t3
        have cc3 : W.cell? ⟨w.heap.size + 1, 0, none⟩ = some (.slice (some ad) l3.length c3) := (blk_cell ((hv.block _ (blk_lt mv)).trans mv) 0).trans rfl
        refine stepIn_value (v := .slice (some ad) l3.length c3) (W1 := W) rfl (fun _ => trivial) (wanted_free rfl) (fun c h => by cases h) (by go_simp; done) ?_
        exact hI.put (i := 1) (by omega) rfl (Below.refl _ _) (fun _ => rfl) (fun h => by cases h)
      | 2, _ =>
        cases ho
        have q1 : a.tmps[13]?.getD undef = .slice (some ad) l3.length c3 := tmp_s (hI.got 1 (by omega) (by decide) (hall ⟨1, .data⟩ (by simp) rfl))
        refine stepIn_value (v := .int .i64 (l3.length : Int)) (W1 := W) rfl (fun _ => trivial) (wanted_free rfl) (fun c h => by cases h) (by go_simp; done) ?_
        exact hI.put (i := 2) (by omega) rfl (Below.refl _ _) (fun _ => rfl) (fun h => by cases h)
      | 3, _ =>
        cases ho
        have q0 : a.tmps[12]?.getD undef = .int .i64 i := tmp_s (hI.got 0 (by omega) (by decide) (hall ⟨0, .data⟩ (by simp) rfl))
        have q2 : a.tmps[14]?.getD undef = .int .i64 (l3.length : Int) := tmp_s (hI.got 2 (by omega) (by decide) (hall ⟨2, .data⟩ (by simp) rfl))
        refine stepIn_value (v := .bool false) (W1 := W) rfl (fun _ => trivial) (wanted_free rfl) (fun c h => by cases h) (by go_simp; done) ?_
        exact hI.put (i := 3) (by omega) rfl (Below.refl _ _) (fun _ => rfl) (fun h => by cases h)
      | 4, _ =>
        cases ho
        have q3 : a.tmps[15]?.getD undef = .bool false := tmp_s (hI.got 3 (by omega) (by decide) (hall ⟨3, .data⟩ (by simp) rfl))
        refine stepIn_value (v := .bool false) (W1 := W) rfl (fun _ => trivial) (wanted_free rfl) (fun c h => by cases h) (by go_simp; done) ?_
        exact hI.put (i := 4) (by omega) rfl (Below.refl _ _) (fun _ => rfl) (fun h => by cases h)
      | 5, _ =>
        cases ho
        have r6 := tmp_r hI.t6
        refine stepIn_value (v := .int .i64 x.1) (W1 := W) rfl (fun _ => trivial) (wanted_at (g := 4) (t := 16) (b := false) rfl rfl rfl (hI.got 4 (by omega) (by decide) (hall ⟨4, .guard⟩ (by simp) rfl))) (fun c h => by cases h) (by go_simp; done) ?_
        exact hI.put (i := 5) (by omega) rfl (Below.refl _ _) (fun _ => rfl) (fun h => by cases h)
      | 6, _ =>
        cases ho
        have r3 := tmp_r hI.t3
        have cc3 : W.cell? ⟨w.heap.size + 1, 0, none⟩ = some (.slice (some ad) l3.length c3) := (blk_cell ((hv.block _ (blk_lt mv)).trans mv) 0).trans rfl
        refine stepIn_value (v := .slice (some ad) l3.length c3) (W1 := W) rfl (fun _ => trivial) (wanted_at (g := 4) (t := 16) (b := false) rfl rfl rfl (hI.got 4 (by omega) (by decide) (hall ⟨4, .guard⟩ (by simp) rfl))) (fun c h => by cases h) (by go_simp; done) ?_
        exact hI.put (i := 6) (by omega) rfl (Below.refl _ _) (fun _ => rfl) (fun h => by cases h)
      | 7, _ =>
        cases ho
        have r5 := tmp_r hI.t5
        have c5 : W.cell? ⟨w.heap.size + 1 + 1 + 1, 0, none⟩ = some (.int .i64 i) := (blk_cell ((hv.block _ (blk_lt sv)).trans sv) 0).trans rfl
        refine stepIn_value (v := .int .i64 i) (W1 := W) rfl (fun _ => trivial) (wanted_at (g := 4) (t := 16) (b := false) rfl rfl rfl (hI.got 4 (by omega) (by decide) (hall ⟨4, .guard⟩ (by simp) rfl))) (fun c h => by cases h) (by go_simp; done) ?_
        exact hI.put (i := 7) (by omega) rfl (Below.refl _ _) (fun _ => rfl) (fun h => by cases h)
      | 8, _ =>
        cases ho
        have q6 : a.tmps[18]?.getD undef = .slice (some ad) l3.length c3 := tmp_s (hI.got 6 (by omega) (by decide) (hall ⟨6, .data⟩ (by simp) rfl))
        have q7 : a.tmps[19]?.getD undef = .int .i64 i := tmp_s (hI.got 7 (by omega) (by decide) (hall ⟨7, .data⟩ (by simp) rfl))
        refine stepIn_value (v := .pointer (some (ad.add (i.toNat * 6)))) (W1 := W) rfl (fun _ => trivial) (wanted_at (g := 4) (t := 16) (b := false) rfl rfl rfl (hI.got 4 (by omega) (by decide) (hall ⟨4, .guard⟩ (by simp) rfl))) (fun c h => by cases h) (by go_simp; done) ?_
        exact hI.put (i := 8) (by omega) rfl (Below.refl _ _) (fun _ => rfl) (fun h => by cases h)
      | 9, _ =>
        cases ho
        have q8 : a.tmps[20]?.getD undef = .pointer (some (ad.add (i.toNat * 6))) := tmp_s (hI.got 8 (by omega) (by decide) (hall ⟨8, .data⟩ (by simp) rfl))
        refine stepIn_value (v := .pointer (some (ad.add (i.toNat * 6)))) (W1 := W) rfl (fun _ => trivial) (wanted_at (g := 4) (t := 16) (b := false) rfl rfl rfl (hI.got 4 (by omega) (by decide) (hall ⟨4, .guard⟩ (by simp) rfl))) (fun c h => by cases h) (by go_simp; done) ?_
        exact hI.put (i := 9) (by omega) rfl (Below.refl _ _) (fun _ => rfl) (fun h => by cases h)
      | 10, _ =>
        cases ho
        have q9 : a.tmps[21]?.getD undef = .pointer (some (ad.add (i.toNat * 6))) := tmp_s (hI.got 9 (by omega) (by decide) (hall ⟨9, .data⟩ (by simp) rfl))
        have cy0 := ((hb2'.trans (hv.mono hb2'.size)).cell (World.block_lt_of_cell? w _ y0)).trans y0
        refine stepIn_value (v := .int .i64 x.1) (W1 := W) rfl (fun _ => trivial) (wanted_at (g := 4) (t := 16) (b := false) rfl rfl rfl (hI.got 4 (by omega) (by decide) (hall ⟨4, .guard⟩ (by simp) rfl))) (fun c h => by cases h) (by go_simp; done) ?_
        exact hI.put (i := 10) (by omega) rfl (Below.refl _ _) (fun _ => rfl) (fun h => by cases h)
      | 11, _ =>
        cases ho
        have q5 : a.tmps[17]?.getD undef = .int .i64 x.1 := tmp_s (hI.got 5 (by omega) (by decide) (hall ⟨5, .data⟩ (by simp) rfl))
        have q10 : a.tmps[22]?.getD undef = .int .i64 x.1 := tmp_s (hI.got 10 (by omega) (by decide) (hall ⟨10, .data⟩ (by simp) rfl))
        refine stepIn_value (v := .bool false) (W1 := W) rfl (fun _ => trivial) (wanted_at (g := 4) (t := 16) (b := false) rfl rfl rfl (hI.got 4 (by omega) (by decide) (hall ⟨4, .guard⟩ (by simp) rfl))) (fun c h => by cases h) (by go_simp; done) ?_
        exact hI.put (i := 11) (by omega) rfl (Below.refl _ _) (fun _ => rfl) (fun h => by cases h)
      | 12, _ =>
        cases ho
        have q4 : a.tmps[16]?.getD undef = .bool false := tmp_s (hI.got 4 (by omega) (by decide) (hall ⟨4, .data⟩ (by simp) rfl))
        have q11 : a.tmps[23]?.getD undef = .bool false := tmp_s (hI.got 11 (by omega) (by decide) (hall ⟨11, .data⟩ (by simp) rfl))
        refine stepIn_value (v := .bool false) (W1 := W) rfl (fun _ => trivial) (wanted_free rfl) (fun c h => by cases h) (by go_simp; done) ?_
        exact hI.put (i := 12) (by omega) rfl (Below.refl _ _) (fun _ => rfl) (fun h => by cases h)
      | 13, _ =>
        cases ho
        have q12 : a.tmps[24]?.getD undef = .bool false := tmp_s (hI.got 12 (by omega) (by decide) (hall ⟨12, .data⟩ (by simp) rfl))
        refine stepIn_value (v := .bool false) (W1 := W) rfl (fun _ => trivial) (wanted_free rfl) (fun c h => by cases h) (by go_simp; done) ?_
        exact hI.put (i := 13) (by omega) rfl (Below.refl _ _) (fun _ => rfl) (fun h => by cases h)
      | 14, _ =>
        cases ho
        have r7 := tmp_r hI.t7
        obtain ⟨m0, m1, m2, m3, m4⟩ := cells5 ((hv.block _ (blk_lt x4)).trans x4)
        refine stepIn_value (v := .agg #[.int .i64 x.2.f0, .int .i64 x.2.f1, .slice D3 x.2.f2.length d3, .slice D4 x.2.f3.length d4, .slice D5 x.2.f4.length d5]) (W1 := W) rfl (fun _ => trivial) (wanted_at (g := 13) (t := 25) (b := false) rfl rfl rfl (hI.got 13 (by omega) (by decide) (hall ⟨13, .guard⟩ (by simp) rfl))) (fun c h => by cases h) (by go_simp; done) ?_
        exact hI.put (i := 14) (by omega) rfl (Below.refl _ _) (fun _ => rfl) (fun h => by cases h)
      | 15, _ =>
        cases ho
        have q14 : a.tmps[26]?.getD undef = .agg #[.int .i64 x.2.f0, .int .i64 x.2.f1, .slice D3 x.2.f2.length d3, .slice D4 x.2.f3.length d4, .slice D5 x.2.f4.length d5] := tmp_s (hI.got 14 (by omega) (by decide) (hall ⟨14, .data⟩ (by simp) rfl))
        refine stepIn_value (v := .slice (some ⟨W.heap.size, 0, none⟩) 1 1) (W1 := W.alloc (.cells #[.int .i64 x.2.f0, .int .i64 x.2.f1, .slice D3 x.2.f2.length d3, .slice D4 x.2.f3.length d4, .slice D5 x.2.f4.length d5] 47)) rfl (fun _ => trivial) (wanted_at (g := 13) (t := 25) (b := false) rfl rfl rfl (hI.got 13 (by omega) (by decide) (hall ⟨13, .guard⟩ (by simp) rfl))) (fun c h => by cases h) (by go_simp; done) ?_
        refine hI.put (by omega) rfl (bal (Below.refl _ _) _) (fun h => absurd rfl h) (fun _ => ⟨_, rfl, ?_⟩)
        obtain ⟨A, eA, hA⟩ := (IsRow.new (B := 0) (e := 47) (Nat.zero_le _) (l := [x.2]) [[.int .i64 x.2.f0, .int .i64 x.2.f1, .slice D3 x.2.f2.length d3, .slice D4 x.2.f3.length d4, .slice D5 x.2.f4.length d5]] rfl rfl (show (1 : Nat) ≤ 9223372036854775807 by decide) (each1 (k47_mkF _ _ x.2 v3 (up (Kd.C_F k96_heap (Kd.C_below u3 hv))) v4 (up (Kd.C_F k47_heap (Kd.C_below u4 hv))) v5 (up (Kd.C_F k47_heap (Kd.C_below u5 hv))))) : IsRow k47 0 47 _ _ _).C
        cases eA
        exact hA
      | 16, _ =>
        cases ho
        obtain ⟨A, ra, ca⟩ := hI.row (hall ⟨15, .data⟩ (by simp) rfl)
        have qa := tmp_r ra
        refine stepIn_enter (f := 11) (args := #[.slice A 1 1, .int .i64 600]) (W1 := W) rfl (fun _ => trivial) wide_depth (wanted_at (g := 13) (t := 25) (b := false) rfl rfl rfl (hI.got 13 (by omega) (by decide) (hall ⟨13, .guard⟩ (by simp) rfl))) (fun c h => by cases h) (by go_simp; done) ?_
        refine CallsIn.inRound l ((callsIn_wide.2 (r3_Fits.calls k A 1 [x.2] 600 true W ca (Nat.le_refl _) FT)).mono ?_)
        rintro e w' ⟨rfl, hb⟩
        exact ⟨_, rfl, hI.put (i := 16) (by omega) rfl hb (fun _ => rfl) (fun h => by cases h)⟩
      | 17, _ =>
        cases ho
        have q16 : a.tmps[28]?.getD undef = .bool true := tmp_s (hI.got 16 (by omega) (by decide) (hall ⟨16, .data⟩ (by simp) rfl))
        refine stepIn_value (v := .bool false) (W1 := W) rfl (fun _ => trivial) (wanted_at (g := 13) (t := 25) (b := false) rfl rfl rfl (hI.got 13 (by omega) (by decide) (hall ⟨13, .guard⟩ (by simp) rfl))) (fun c h => by cases h) (by go_simp; done) ?_
        exact hI.put (i := 17) (by omega) rfl (Below.refl _ _) (fun _ => rfl) (fun h => by cases h)
      | 18, _ =>
        cases ho
        have q13 : a.tmps[25]?.getD undef = .bool false := tmp_s (hI.got 13 (by omega) (by decide) (hall ⟨13, .data⟩ (by simp) rfl))
        have q17 : a.tmps[29]?.getD undef = .bool false := tmp_s (hI.got 17 (by omega) (by decide) (hall ⟨17, .data⟩ (by simp) rfl))
        refine stepIn_value (v := .bool false) (W1 := W) rfl (fun _ => trivial) (wanted_free rfl) (fun c h => by cases h) (by go_simp; done) ?_
        exact hI.put (i := 18) (by omega) rfl (Below.refl _ _) (fun _ => rfl) (fun h => by cases h)
      | 19, _ =>
        cases ho
        have q18 : a.tmps[30]?.getD undef = .bool false := tmp_s (hI.got 18 (by omega) (by decide) (hall ⟨18, .data⟩ (by simp) rfl))
        refine stepIn_value (v := .bool false) (W1 := W) rfl (fun _ => trivial) (wanted_free rfl) (fun c h => by cases h) (by go_simp; done) ?_
        exact hI.put (i := 19) (by omega) rfl (Below.refl _ _) (fun _ => rfl) (fun h => by cases h)
      | 20, _ =>
        cases ho
        have r7 := tmp_r hI.t7
        obtain ⟨m0, m1, m2, m3, m4⟩ := cells5 ((hv.block _ (blk_lt x4)).trans x4)
        refine stepIn_value (v := .agg #[.int .i64 x.2.f0, .int .i64 x.2.f1, .slice D3 x.2.f2.length d3, .slice D4 x.2.f3.length d4, .slice D5 x.2.f4.length d5]) (W1 := W) rfl (fun _ => trivial) (wanted_at (g := 19) (t := 31) (b := false) rfl rfl rfl (hI.got 19 (by omega) (by decide) (hall ⟨19, .guard⟩ (by simp) rfl))) (fun c h => by cases h) (by go_simp; done) ?_
        exact hI.put (i := 20) (by omega) rfl (Below.refl _ _) (fun _ => rfl) (fun h => by cases h)
      | 21, _ =>
        cases ho
        have r3 := tmp_r hI.t3
        have cc3 : W.cell? ⟨w.heap.size + 1, 0, none⟩ = some (.slice (some ad) l3.length c3) := (blk_cell ((hv.block _ (blk_lt mv)).trans mv) 0).trans rfl
        refine stepIn_value (v := .slice (some ad) l3.length c3) (W1 := W) rfl (fun _ => trivial) (wanted_at (g := 19) (t := 31) (b := false) rfl rfl rfl (hI.got 19 (by omega) (by decide) (hall ⟨19, .guard⟩ (by simp) rfl))) (fun c h => by cases h) (by go_simp; done) ?_
        exact hI.put (i := 21) (by omega) rfl (Below.refl _ _) (fun _ => rfl) (fun h => by cases h)
      | 22, _ =>
        cases ho
        have r5 := tmp_r hI.t5
        have c5 : W.cell? ⟨w.heap.size + 1 + 1 + 1, 0, none⟩ = some (.int .i64 i) := (blk_cell ((hv.block _ (blk_lt sv)).trans sv) 0).trans rfl
        refine stepIn_value (v := .int .i64 i) (W1 := W) rfl (fun _ => trivial) (wanted_at (g := 19) (t := 31) (b := false) rfl rfl rfl (hI.got 19 (by omega) (by decide) (hall ⟨19, .guard⟩ (by simp) rfl))) (fun c h => by cases h) (by go_simp; done) ?_
        exact hI.put (i := 22) (by omega) rfl (Below.refl _ _) (fun _ => rfl) (fun h => by cases h)
      | 23, _ =>
        cases ho
        have q21 : a.tmps[33]?.getD undef = .slice (some ad) l3.length c3 := tmp_s (hI.got 21 (by omega) (by decide) (hall ⟨21, .data⟩ (by simp) rfl))
        have q22 : a.tmps[34]?.getD undef = .int .i64 i := tmp_s (hI.got 22 (by omega) (by decide) (hall ⟨22, .data⟩ (by simp) rfl))
        refine stepIn_value (v := .pointer (some (ad.add (i.toNat * 6)))) (W1 := W) rfl (fun _ => trivial) (wanted_at (g := 19) (t := 31) (b := false) rfl rfl rfl (hI.got 19 (by omega) (by decide) (hall ⟨19, .guard⟩ (by simp) rfl))) (fun c h => by cases h) (by go_simp; done) ?_
        exact hI.put (i := 23) (by omega) rfl (Below.refl _ _) (fun _ => rfl) (fun h => by cases h)
      | 24, _ =>
        cases ho
        have q23 : a.tmps[35]?.getD undef = .pointer (some (ad.add (i.toNat * 6))) := tmp_s (hI.got 23 (by omega) (by decide) (hall ⟨23, .data⟩ (by simp) rfl))
        refine stepIn_value (v := .pointer (some ⟨(ad.add (i.toNat * 6)).block, (ad.add (i.toNat * 6)).off + 1, none⟩)) (W1 := W) rfl (fun _ => trivial) (wanted_at (g := 19) (t := 31) (b := false) rfl rfl rfl (hI.got 19 (by omega) (by decide) (hall ⟨19, .guard⟩ (by simp) rfl))) (fun c h => by cases h) (by go_simp; done) ?_
        exact hI.put (i := 24) (by omega) rfl (Below.refl _ _) (fun _ => rfl) (fun h => by cases h)
      | 25, _ =>
        cases ho
        have q24 : a.tmps[36]?.getD undef = .pointer (some ⟨(ad.add (i.toNat * 6)).block, (ad.add (i.toNat * 6)).off + 1, none⟩) := tmp_s (hI.got 24 (by omega) (by decide) (hall ⟨24, .data⟩ (by simp) rfl))
        have cy1 := ((hb2'.trans (hv.mono hb2'.size)).cell (World.block_lt_of_cell? w _ y1)).trans y1
        have cy2 := ((hb2'.trans (hv.mono hb2'.size)).cell (World.block_lt_of_cell? w _ y2)).trans y2
        have cy3 := ((hb2'.trans (hv.mono hb2'.size)).cell (World.block_lt_of_cell? w _ y3)).trans y3
        have cy4 := ((hb2'.trans (hv.mono hb2'.size)).cell (World.block_lt_of_cell? w _ y4)).trans y4
        have cy5 := ((hb2'.trans (hv.mono hb2'.size)).cell (World.block_lt_of_cell? w _ y5)).trans y5
        refine stepIn_value (v := .agg #[.int .i64 x.2.f0, .int .i64 x.2.f1, .slice B3 x.2.f2.length e3, .slice B4 x.2.f3.length e4, .slice B5 x.2.f4.length e5]) (W1 := W) rfl (fun _ => trivial) (wanted_at (g := 19) (t := 31) (b := false) rfl rfl rfl (hI.got 19 (by omega) (by decide) (hall ⟨19, .guard⟩ (by simp) rfl))) (fun c h => by cases h) (by go_simp; done) ?_
        exact hI.put (i := 25) (by omega) rfl (Below.refl _ _) (fun _ => rfl) (fun h => by cases h)
      | 26, _ =>
        cases ho
        have q20 : a.tmps[32]?.getD undef = .agg #[.int .i64 x.2.f0, .int .i64 x.2.f1, .slice D3 x.2.f2.length d3, .slice D4 x.2.f3.length d4, .slice D5 x.2.f4.length d5] := tmp_s (hI.got 20 (by omega) (by decide) (hall ⟨20, .data⟩ (by simp) rfl))
        have q25 : a.tmps[37]?.getD undef = .agg #[.int .i64 x.2.f0, .int .i64 x.2.f1, .slice B3 x.2.f2.length e3, .slice B4 x.2.f3.length e4, .slice B5 x.2.f4.length e5] := tmp_s (hI.got 25 (by omega) (by decide) (hall ⟨25, .data⟩ (by simp) rfl))
        refine stepIn_enter (f := 27) (args := #[.agg #[.int .i64 x.2.f0, .int .i64 x.2.f1, .slice D3 x.2.f2.length d3, .slice D4 x.2.f3.length d4, .slice D5 x.2.f4.length d5], .agg #[.int .i64 x.2.f0, .int .i64 x.2.f1, .slice B3 x.2.f2.length e3, .slice B4 x.2.f3.length e4, .slice B5 x.2.f4.length e5]]) (W1 := W) rfl (fun _ => trivial) wide_depth (wanted_at (g := 19) (t := 31) (b := false) rfl rfl rfl (hI.got 19 (by omega) (by decide) (hall ⟨19, .guard⟩ (by simp) rfl))) (fun c h => by cases h) (by go_simp; done) ?_
        refine CallsIn.inRound l ((callsIn_wide.2 (r3_SameStmt.calls k _ _ D3 d3 x.2.f2 D4 d4 x.2.f3 D5 d5 x.2.f4 _ _ B3 e3 x.2.f2 B4 e4 x.2.f3 B5 e5 x.2.f4 true W (Kd.C_below u3 hv) v3 (Kd.C_below u4 hv) v4 (Kd.C_below u5 hv) v5 (Kd.C_below yc3 (hb2'.trans (hv.mono hb2'.size))) yl3 (Kd.C_below yc4 (hb2'.trans (hv.mono hb2'.size))) yl4 (Kd.C_below yc5 (hb2'.trans (hv.mono hb2'.size))) yl5 SM)).mono ?_)
        rintro e w' ⟨rfl, hb⟩
        exact ⟨_, rfl, hI.put (i := 26) (by omega) rfl hb (fun _ => rfl) (fun h => by cases h)⟩
      | 27, _ =>
        cases ho
        have q26 : a.tmps[38]?.getD undef = .bool true := tmp_s (hI.got 26 (by omega) (by decide) (hall ⟨26, .data⟩ (by simp) rfl))
        refine stepIn_value (v := .bool false) (W1 := W) rfl (fun _ => trivial) (wanted_at (g := 19) (t := 31) (b := false) rfl rfl rfl (hI.got 19 (by omega) (by decide) (hall ⟨19, .guard⟩ (by simp) rfl))) (fun c h => by cases h) (by go_simp; done) ?_
        exact hI.put (i := 27) (by omega) rfl (Below.refl _ _) (fun _ => rfl) (fun h => by cases h)
      | 28, _ =>
        cases ho
        have q19 : a.tmps[31]?.getD undef = .bool false := tmp_s (hI.got 19 (by omega) (by decide) (hall ⟨19, .data⟩ (by simp) rfl))
        have q27 : a.tmps[39]?.getD undef = .bool false := tmp_s (hI.got 27 (by omega) (by decide) (hall ⟨27, .data⟩ (by simp) rfl))
        refine stepIn_value (v := .bool false) (W1 := W) rfl (fun _ => trivial) (wanted_free rfl) (fun c h => by cases h) (by go_simp; done) ?_
        exact hI.put (i := 28) (by omega) rfl (Below.refl _ _) (fun _ => rfl) (fun h => by cases h)
  case done =>
    rintro A hst ⟨pa, ma, ta, sa⟩ ba hD
    simp only [Exit.inBlock, Exit.then]
    have hlen : (((if tc = 0 then its else []).length : Nat) : Int) = (l3.length : Int) := by rw [HM.out, List.length_map]
    rw [hlen] at sa
    have hlA := ba.size
    have hlD := blk_lt hD
    have g3 : A.cell? ⟨w.heap.size + 1, 0, none⟩ = some (.slice A3 l3.length c3) := (blk_cell ma 0).trans rfl
    have g4 : A.cell? ⟨w.heap.size + 1 + 1, 0, none⟩ = some (.bool false) := (blk_cell ta 0).trans rfl
    have f4 := blk_frozen ta 0
    have g5 : A.cell? ⟨w.heap.size + 1 + 1 + 1, 0, none⟩ = some (.int .i64 (l3.length : Int)) := (blk_cell sa 0).trans rfl
    have t9 := blk_put ta 0 (.bool true) (cs' := #[.bool true]) rfl
    gi_wp2
    have bf : Below w.heap.size w (A.setCell ⟨w.heap.size + 1 + 1, 0, none⟩ (.bool true)) := ba.trans (below_cell _ _ (by omega))
    refine ⟨by simp, .inl ⟨_, _, rfl, run_takeDeferred ((Below.heap_setCell _ _ _ _ (by simp; omega)).trans hD), ?_⟩⟩
    exact ⟨_, results_bool rfl _ _ (w.heap.size + 1 + 1) true rfl ((World.putObj_heap_other (by omega)).trans t9) Try.underlying4, rfl, bf.trans (below_put _ _ _ (by omega))⟩
def NumOut (k : Nat) (a0 : Int) (l1 : List S82) (l2 : List S47) (n : Int) (b : Bool) (r6 i3 tc : Int) (its : List (Int × S47)) (items : List S57) : Prop :=
  if b = true then tc = 0 ∧ r6 = 1 ∧ i3 = 1 ∧ (n < 0 ∨ (items.length : Int) ≤ n) ∧ r3_Every.f k a0 l1 l2 = some items else tc ≠ 0 ∧ r6 = 30 ∧ i3 = 30
def NumIn (k : Nat) (a0 : Int) (l1 : List S82) (l2 : List S47) (n : Int) (b : Bool) (r1 r2 : Int) (r3 : List S96) (r4 r5 : List S47) (r6 i3 tc : Int) (i1 i2 : List Int) (its : List (Int × S47)) (items t1 t2 : List S57) : Prop :=
  b = true ∧ tc = 0 ∧ r6 = 0 ∧ i3 = 0 ∧ 0 ≤ n ∧ n < (items.length : Int) ∧ r3_Every.f k a0 l1 l2 = some items ∧ (rd_T57 items n).f1 = ⟨r1, r2, r3, r4, r5⟩ ∧ r3_Fits.f k [⟨r1, r2, r3, r4, r5⟩] 600 = some true ∧ r3_SameStmt.f k r1 r2 r3 r4 r5 r1 r2 r3 r4 r5 = some true ∧
  r3_Then.f k (rd_T57 items n).f0 r1 r2 r3 r4 r5 = some t1 ∧ r3_Numbers.f k t1 = some i1 ∧ r3_Else.f k (rd_T57 items n).f0 r1 r2 r3 r4 r5 = some t2 ∧ r3_Numbers.f k t2 = some i2 ∧ r1_Same.f k i1 i1 = some true ∧ r1_Same.f k i2 i2 = some true
theorem box1 (w : World) (o : Obj) : Below w.heap.size w (w.alloc o) ∧ (w.alloc o).heap[w.heap.size]? = some o := ⟨(Below.refl _ _).alloc (Nat.le_refl _) _, heap_alloc_new _ _⟩
theorem none_row {α : Type} {d : Kd α} (w : World) : d.C w none ([] : List α).length [] := Kd.C_nil d w
theorem num_boxes (W : World) (q r1 r2 : Int) (r3 : List S96) (r4 r5 : List S47) (B3 : Option Addr) (e3 : Nat) (B4 : Option Addr) (e4 : Nat) (B5 : Option Addr) (e5 : Nat) (D3 : Option Addr) (d3 : Nat) (D4 : Option Addr) (d4 : Nat) (D5 : Option Addr) (d5 : Nat)
    (h3 : Kd.C k96 W D3 r3.length r3) (l3 : r3.length ≤ d3) (h4 : Kd.C k47 W D4 r4.length r4) (l4 : r4.length ≤ d4) (h5 : Kd.C k47 W D5 r5.length r5) (l5 : r5.length ≤ d5) :
    Below W.heap.size W ((W.alloc (.cells #[.int .i64 q, .int .i64 r1, .int .i64 r2, .slice B3 r3.length e3, .slice B4 r4.length e4, .slice B5 r5.length e5] 57)).alloc (.cells #[.int .i64 r1, .int .i64 r2, .slice D3 r3.length d3, .slice D4 r4.length d4, .slice D5 r5.length d5] 47)) ∧
    ((W.alloc (.cells #[.int .i64 q, .int .i64 r1, .int .i64 r2, .slice B3 r3.length e3, .slice B4 r4.length e4, .slice B5 r5.length e5] 57)).alloc (.cells #[.int .i64 r1, .int .i64 r2, .slice D3 r3.length d3, .slice D4 r4.length d4, .slice D5 r5.length d5] 47)).heap[W.heap.size]? = some (.cells #[.int .i64 q, .int .i64 r1, .int .i64 r2, .slice B3 r3.length e3, .slice B4 r4.length e4, .slice B5 r5.length e5] 57 (0, 0)) ∧
    Kd.C k47 ((W.alloc (.cells #[.int .i64 q, .int .i64 r1, .int .i64 r2, .slice B3 r3.length e3, .slice B4 r4.length e4, .slice B5 r5.length e5] 57)).alloc (.cells #[.int .i64 r1, .int .i64 r2, .slice D3 r3.length d3, .slice D4 r4.length d4, .slice D5 r5.length d5] 47)) (some ⟨W.heap.size + 1, 0, none⟩) 1 [⟨r1, r2, r3, r4, r5⟩] := by
  have hb := bal (Below.refl W.heap.size W) (.cells #[.int .i64 q, .int .i64 r1, .int .i64 r2, .slice B3 r3.length e3, .slice B4 r4.length e4, .slice B5 r5.length e5] 57)
  refine ⟨bal hb _, kal (blk_new _ _) _, ?_⟩
  obtain ⟨A, eA, hA⟩ := (IsRow.new (B := 0) (e := 47) (Nat.zero_le _) (l := [(⟨r1, r2, r3, r4, r5⟩ : S47)]) [[.int .i64 r1, .int .i64 r2, .slice D3 r3.length d3, .slice D4 r4.length d4, .slice D5 r5.length d5]] rfl rfl (show (1 : Nat) ≤ 9223372036854775807 by decide) (each1 (k47_mkF _ _ ⟨r1, r2, r3, r4, r5⟩ l3 (up (Kd.C_F k96_heap (Kd.C_below h3 hb))) l4 (up (Kd.C_F k47_heap (Kd.C_below h4 hb))) l5 (up (Kd.C_F k47_heap (Kd.C_below h5 hb))))) : IsRow k47 0 47 _ _ _).C
  rw [World.size_alloc] at eA
  cases eA
  exact hA
theorem w3_ProgNumbers.walk (k : Nat) (a0 : Int) (A1 : Option Addr) (c1 : Nat) (l1 : List S82) (A2 : Option Addr) (c2 : Nat) (l2 : List S47) (n : Int) (fit b z : Bool) (r1 r2 : Int) (r3 : List S96) (r4 r5 : List S47) (r6 : Int) (i1 i2 : List Int) (i3 tc : Int) (its : List (Int × S47)) (n' : Int) (items t1 t2 : List S57) (w : World)
    (hr1 : Kd.C k82 w A1 l1.length l1) (hc1 : l1.length ≤ c1) (hr2 : Kd.C k47 w A2 l2.length l2) (hc2 : l2.length ≤ c2) (hft : r3_Fits.f k l2 600 = some fit)
    (hf : fit = true → prog_At.f k a0 l1 l2 n = some (r1, r2, r3, r4, r5, r6) ∧ prog_Inside.f k a0 l1 l2 n = some (i1, i2, i3) ∧ r3_SameStmt.f k r1 r2 r3 r4 r5 0 0 [] [] [] = some z ∧ r3_Is.f k a0 l1 l2 = some b ∧
      prog_Check.f k a0 l1 l2 = some tc ∧ prog_walk.f k l2 0 = some (its, n') ∧ its.length ≤ 1000 ∧ items = (if tc = 0 then its else []).map (fun x => (⟨x.1, x.2⟩ : S57)) ∧
      (∀ x ∈ its, prog_Copied.f k x.2.f0 x.2.f1 x.2.f2 x.2.f3 x.2.f4 = some (x.2.f0, x.2.f1, x.2.f2, x.2.f3, x.2.f4) ∧ r3_Fits.f k [x.2] 600 = some true ∧ r3_SameStmt.f k x.2.f0 x.2.f1 x.2.f2 x.2.f3 x.2.f4 x.2.f0 x.2.f1 x.2.f2 x.2.f3 x.2.f4 = some true) ∧
      (z = true → i1 = [] ∧ i2 = [] ∧ NumOut k a0 l1 l2 n b r6 i3 tc its items) ∧ (z = false → NumIn k a0 l1 l2 n b r1 r2 r3 r4 r5 r6 i3 tc i1 i2 its items t1 t2)) :
    Calls Try.prog 6 #[.agg #[.int .i64 a0, .slice A1 l1.length c1, .slice A2 l2.length c2], .int .i64 n] w fun e w' => e = .returned (.bool true) ∧ Below w.heap.size w w' := by
  refine callsIn_wide.1 (?_ : CallsIn Fence.wide 9 _ _ _ _ _)
  have huP := Try.underlying25
  have huS := Try.underlying47
  have huI := Try.underlying57
  have huR := Try.underlying54
  have huSs := Try.underlying23
  refine callsIn_of_wp_marks Try.func6 rfl trivial ?_ rfl
  simp only [Try.ntmps6, List.size_toArray, List.length_cons, List.length_nil, Nat.reduceAdd, Nat.reduceSub, Array.replicate_succ, Array.replicate_zero, List.push_toArray, List.append_toArray, List.nil_append, List.cons_append]
  have HR1 := Aside0.mk hr1
  have HC1 := Aside0.mk hc1
  have HR2 := Aside0.mk hr2
  have HC2 := Aside0.mk hc2
  clear hr1 hc1 hr2 hc2
  have FB := box1 w (.cells #[.int .i64 a0, .slice A1 l1.length c1, .slice A2 l2.length c2] 25)
  have V0 : (w.alloc (.cells #[.int .i64 a0, .slice A1 l1.length c1, .slice A2 l2.length c2] 25)).cell? ⟨w.heap.size, 2, none⟩ = some (.slice A2 l2.length c2) := (blk_cell FB.2 2).trans rfl
  gi_wp2
  generalize w.alloc (.cells #[.int .i64 a0, .slice A1 l1.length c1, .slice A2 l2.length c2] 25) = W1 at FB V0 ⊢
  obtain ⟨b1, p1⟩ := FB
  refine ⟨trivial, ?_⟩
  refine (callsIn_wide.2 (r3_Fits.calls k A2 c2 l2 600 fit W1 (Kd.C_below HR2.out b1) HC2.out hft)).mono ?_
  rintro e W2 ⟨rfl, hb2⟩
  have b2 := b1.trans (hb2.mono b1.size)
  have hs2 := hb2.size
  have p2 := (hb2.block _ (blk_lt p1)).trans p1
  clear p1 hb2 b1 V0
  cases fit with
  | false =>
    gi_wp2_with (first | (refine ⟨trivial, ?_⟩; refine (callsIn_wide.2 (w3_awake.calls k true W2 rfl)).mono ?_; rintro e W3 ⟨rfl, hb3⟩))
    exact ⟨_, results_tmp rfl _ _ _, rfl, b2.trans (hb3.mono b2.size)⟩
  | true =>
    obtain ⟨hat, hin, hsz, his, hck, hwk, hlen, hit, hcp, hout, hinn⟩ := hf rfl
    clear hf
    have HCP := Aside0.mk hcp
    have HIT := Aside0.mk hit
    have HOUT := Aside0.mk hout
    have HINN := Aside0.mk hinn
    clear hcp hit hout hinn
    obtain ⟨q0, q1, q2⟩ := cells3 p2
    gi_wp2
    refine ⟨trivial, ?_⟩
    refine (callsIn_wide.2 (prog_At.calls k a0 _ _ l1 _ _ l2 n r1 r2 r3 r4 r5 r6 W2 (Kd.C_below HR1.out b2) HC1.out (Kd.C_below HR2.out b2) HC2.out hat)).mono ?_
    rintro e W3 ⟨v3, v4, v5, rfl, o3, o4, o5, hb3⟩
    obtain ⟨D3, d3, ev3, el3, oc3⟩ := Kd.R_reads o3
    obtain ⟨D4, d4, ev4, el4, oc4⟩ := Kd.R_reads o4
    obtain ⟨D5, d5, ev5, el5, oc5⟩ := Kd.R_reads o5
    subst ev3 ev4 ev5
    clear o3 o4 o5
    have b3 := b2.trans (hb3.mono b2.size)
    have hs3 := hb3.size
    have p3 := (hb3.block _ (blk_lt p2)).trans p2
    have l3 := blk_lt p3
    clear p2 hb3 q0 q1 q2
    obtain ⟨q0, q1, q2⟩ := cells3 p3
    have FB3 := box1 W3 (.cells #[.int .i64 r1, .int .i64 r2, .slice D3 r3.length d3, .slice D4 r4.length d4, .slice D5 r5.length d5] 47)
    gi_wp2
    generalize W3.alloc (.cells #[.int .i64 r1, .int .i64 r2, .slice D3 r3.length d3, .slice D4 r4.length d4, .slice D5 r5.length d5] 47) = W4 at FB3 ⊢
    obtain ⟨hb4, s4⟩ := FB3
    have b4 := b3.trans (hb4.mono b3.size)
    have hs4 := hb4.size
    have p4 := (hb4.block _ l3).trans p3
    have OD3 := Aside0.mk (Kd.C_below oc3 hb4)
    have OD4 := Aside0.mk (Kd.C_below oc4 hb4)
    have OD5 := Aside0.mk (Kd.C_below oc5 hb4)
    have OL3 := Aside0.mk el3
    have OL4 := Aside0.mk el4
    have OL5 := Aside0.mk el5
    clear p3 hb4 q0 q1 q2 oc3 oc4 oc5 el3 el4 el5
    refine ⟨trivial, ?_⟩
    refine (callsIn_wide.2 (prog_Inside.calls k a0 _ _ l1 _ _ l2 n i1 i2 i3 W4 (Kd.C_below HR1.out b4) HC1.out (Kd.C_below HR2.out b4) HC2.out hin)).mono ?_
    rintro e W5 ⟨v6, v7, rfl, o6, o7, hb5⟩
    obtain ⟨D6, d6, ev6, el6, oc6⟩ := Kd.R_reads o6
    obtain ⟨D7, d7, ev7, el7, oc7⟩ := Kd.R_reads o7
    subst ev6 ev7
    clear o6 o7
    have f5 := hb5
    have b5 := b4.trans (hb5.mono b4.size)
    have hs5 := hb5.size
    have p5 := (hb5.block _ (blk_lt p4)).trans p4
    have s5 := (hb5.block _ (blk_lt s4)).trans s4
    have OC6 := Aside0.mk oc6
    have OC7 := Aside0.mk oc7
    have OL6 := Aside0.mk el6
    have OL7 := Aside0.mk el7
    clear p4 s4 hb5 oc6 oc7 el6 el7
    obtain ⟨m0, m1, m2, m3, m4⟩ := cells5 s5
    gi_wp2
    refine ⟨trivial, ?_⟩
    refine (callsIn_wide.2 (r3_SameStmt.calls k r1 r2 D3 d3 r3 D4 d4 r4 D5 d5 r5 0 0 none 0 [] none 0 [] none 0 [] z W5 (Kd.C_below OD3.out f5) OL3.out (Kd.C_below OD4.out f5) OL4.out (Kd.C_below OD5.out f5) OL5.out (none_row W5) (Nat.zero_le _) (none_row W5) (Nat.zero_le _) (none_row W5) (Nat.zero_le _) hsz)).mono ?_
    rintro e W6 ⟨rfl, hb6⟩
    have b6 := b5.trans (hb6.mono b5.size)
    have f6 := f5.trans (hb6.mono f5.size)
    have e6 := hb6
    have hs6 := hb6.size
    have p6 := (hb6.block _ (blk_lt p5)).trans p5
    have s6 := (hb6.block _ (blk_lt s5)).trans s5
    clear p5 s5 hb6 m0 m1 m2 m3 m4 f5
    obtain ⟨q0, q1, q2⟩ := cells3 p6
    cases z with
    | true =>
      obtain ⟨rfl, rfl, hno⟩ := HOUT.out rfl
      gi_wp2
      refine ⟨trivial, ?_⟩
      refine (callsIn_wide.2 (r3_Is.calls k a0 _ _ l1 _ _ l2 b W6 (Kd.C_below HR1.out b6) HC1.out (Kd.C_below HR2.out b6) HC2.out his)).mono ?_
      rintro e W7 ⟨rfl, hb7⟩
      have b7 := b6.trans (hb7.mono b6.size)
      have f7 := f6.trans (hb7.mono f6.size)
      have e7 := e6.trans (hb7.mono e6.size)
      have hs7 := hb7.size
      have p7 := (hb7.block _ (blk_lt p6)).trans p6
      have s7 := (hb7.block _ (blk_lt s6)).trans s6
      clear p6 s6 hb7 q0 q1 q2
      obtain ⟨q0, q1, q2⟩ := cells3 p7
      cases b with
      | false =>
        obtain ⟨htc, rfl, rfl⟩ : tc ≠ 0 ∧ r6 = 30 ∧ i3 = 30 := by simpa [NumOut] using hno
        gi_wp2
        refine ⟨trivial, ?_⟩
        refine (callsIn_wide.2 (w3_listed.walk k a0 _ _ l1 _ _ l2 tc its n' none 0 [] W7 (Kd.C_below HR1.out b7) HC1.out (Kd.C_below HR2.out b7) HC2.out (none_row W7) (Nat.zero_le _) (Nat.zero_le _) hck hwk HCP.out (by rw [if_neg htc]; rfl))).mono ?_
        rintro e W9 ⟨rfl, hb9⟩
        have b9 := b7.trans (hb9.mono b7.size)
        gi_wp2
        refine ⟨trivial, ?_⟩
        refine (callsIn_wide.2 (w3_awake.calls k true W9 rfl)).mono ?_
        rintro e Z9 ⟨rfl, hz9⟩
        gi_wp2
        exact ⟨_, results_tmp rfl _ _ _, rfl, b9.trans (hz9.mono b9.size)⟩
      | true =>
        obtain ⟨rfl, rfl, rfl, hn, hev⟩ : tc = 0 ∧ r6 = 1 ∧ i3 = 1 ∧ (n < 0 ∨ (items.length : Int) ≤ n) ∧ r3_Every.f k a0 l1 l2 = some items := by simpa [NumOut] using hno
        gi_wp2
        refine ⟨trivial, ?_⟩
        refine (callsIn_wide.2 (r3_Every.calls k a0 _ _ l1 (fun k_ => k_ < W7.heap.size) _ _ l2 items W7 (Kd.C_below HR1.out b7) HC1.out (Kd.V_mk HC2.out (Kd.C_F k47_heap (Kd.C_below HR2.out b7))) hev)).mono ?_
        rintro e W8 ⟨v8, rfl, o8, hb8⟩
        obtain ⟨D8, d8, rfl⟩ := Kd.N_slice o8
        obtain ⟨_, el8, oc8⟩ := Kd.N_reads' o8
        have OC8 := Aside0.mk oc8
        have OL8 := Aside0.mk el8
        have b8 := b7.trans (hb8.mono b7.size)
        have f8 := f7.trans (hb8.mono f7.size)
        have e8 := e7.trans (hb8.mono e7.size)
        have hs8 := hb8.size
        have p8 := (hb8.block _ (blk_lt p7)).trans p7
        have s8 := (hb8.block _ (blk_lt s7)).trans s7
        clear p7 s7 hb8 q0 q1 q2 o8 oc8 el8
        obtain ⟨q0, q1, q2⟩ := cells3 p8
        have hil : items.length ≤ 1000 := by rw [HIT.out, List.length_map]; simpa using hlen
        have HIL := Aside0.mk hil
        clear hil
        gi_wp2
        refine ⟨trivial, ?_⟩
        refine (callsIn_wide.2 (w3_listed.walk k a0 _ _ l1 _ _ l2 0 its n' _ _ items W8 (Kd.C_below HR1.out b8) HC1.out (Kd.C_below HR2.out b8) HC2.out OC8.out OL8.out HIL.out hck hwk HCP.out (by have := HIT.out; simpa using this))).mono ?_
        rintro e W9 ⟨rfl, hb9⟩
        have b9 := b8.trans (hb9.mono b8.size)
        have f9 := f8.trans (hb9.mono f8.size)
        have e9 := e8.trans (hb9.mono e8.size)
        have g9 := hb9
        have hs9 := hb9.size
        have p9 := (hb9.block _ (blk_lt p8)).trans p8
        have s9 := (hb9.block _ (blk_lt s8)).trans s8
        clear p8 s8 hb9 q0 q1 q2
        by_cases h0 : n < 0
        · have g0 : decide (n < 0) = true := decide_eq_true h0
          clear hn h0
          gi_wp2
          refine ⟨trivial, ?_⟩
          refine (callsIn_wide.2 (w3_awake.calls k true W9 rfl)).mono ?_
          rintro e Z9 ⟨rfl, hz9⟩
          gi_wp2
          exact ⟨_, results_tmp rfl _ _ _, rfl, b9.trans (hz9.mono b9.size)⟩
        · have h1 : (items.length : Int) ≤ n := by omega
          have g0 : decide (n < 0) = false := decide_eq_false h0
          have g1 : decide (n ≥ (items.length : Int)) = true := decide_eq_true h1
          clear hn h0 h1
          gi_wp2
          refine ⟨trivial, ?_⟩
          refine (callsIn_wide.2 (w3_awake.calls k true W9 rfl)).mono ?_
          rintro e Z9 ⟨rfl, hz9⟩
          gi_wp2
          exact ⟨_, results_tmp rfl _ _ _, rfl, b9.trans (hz9.mono b9.size)⟩
    | false =>
      obtain ⟨rfl, rfl, rfl, rfl, hn0, hn1, hev, hrd, hfx, hsx, hth, hnt, hel, hne, hs1, hs2'⟩ := HINN.out rfl
      gi_wp2
      refine ⟨trivial, ?_⟩
      refine (callsIn_wide.2 (r3_Is.calls k a0 _ _ l1 _ _ l2 true W6 (Kd.C_below HR1.out b6) HC1.out (Kd.C_below HR2.out b6) HC2.out his)).mono ?_
      rintro e W7 ⟨rfl, hb7⟩
      have b7 := b6.trans (hb7.mono b6.size)
      have f7 := f6.trans (hb7.mono f6.size)
      have e7 := e6.trans (hb7.mono e6.size)
      have hs7 := hb7.size
      have p7 := (hb7.block _ (blk_lt p6)).trans p6
      have s7 := (hb7.block _ (blk_lt s6)).trans s6
      clear p6 s6 hb7 q0 q1 q2
      obtain ⟨q0, q1, q2⟩ := cells3 p7
      gi_wp2
      refine ⟨trivial, ?_⟩
      refine (callsIn_wide.2 (r3_Every.calls k a0 _ _ l1 (fun k_ => k_ < W7.heap.size) _ _ l2 items W7 (Kd.C_below HR1.out b7) HC1.out (Kd.V_mk HC2.out (Kd.C_F k47_heap (Kd.C_below HR2.out b7))) hev)).mono ?_
      rintro e W8 ⟨v8, rfl, o8, hb8⟩
      obtain ⟨D8, d8, rfl⟩ := Kd.N_slice o8
      obtain ⟨_, el8, oc8⟩ := Kd.N_reads' o8
      have OC8 := Aside0.mk oc8
      have OL8 := Aside0.mk el8
      have b8 := b7.trans (hb8.mono b7.size)
      have f8 := f7.trans (hb8.mono f7.size)
      have e8 := e7.trans (hb8.mono e7.size)
      have hs8 := hb8.size
      have p8 := (hb8.block _ (blk_lt p7)).trans p7
      have s8 := (hb8.block _ (blk_lt s7)).trans s7
      clear p7 s7 hb8 q0 q1 q2 o8 oc8 el8
      obtain ⟨q0, q1, q2⟩ := cells3 p8
      have hil : items.length ≤ 1000 := by rw [HIT.out, List.length_map]; simpa using hlen
      have HIL := Aside0.mk hil
      clear hil
      gi_wp2
      refine ⟨trivial, ?_⟩
      refine (callsIn_wide.2 (w3_listed.walk k a0 _ _ l1 _ _ l2 0 its n' _ _ items W8 (Kd.C_below HR1.out b8) HC1.out (Kd.C_below HR2.out b8) HC2.out OC8.out OL8.out HIL.out hck hwk HCP.out (by have := HIT.out; simpa using this))).mono ?_
      rintro e W9 ⟨rfl, hb9⟩
      have b9 := b8.trans (hb9.mono b8.size)
      have f9 := f8.trans (hb9.mono f8.size)
      have e9 := e8.trans (hb9.mono e8.size)
      have g9 := hb9
      have hs9 := hb9.size
      have p9 := (hb9.block _ (blk_lt p8)).trans p8
      have s9 := (hb9.block _ (blk_lt s8)).trans s8
      clear p8 s8 hb9 q0 q1 q2
      obtain ⟨ad, B3, e3, B4, e4, B5, e5, rfl, y0, y1, y2, y3, y4, y5, yl3, yc3, yl4, yc4, yl5, yc5⟩ := at_T57 OC8.out n hn0 hn1
      rw [hrd] at y1 y2 y3 y4 y5 yl3 yc3 yl4 yc4 yl5 yc5
      simp only at y1 y2 y3 y4 y5 yl3 yc3 yl4 yc4 yl5 yc5
      generalize hq0 : (rd_T57 items n).f0 = q00 at y0 hth hel
      have z0 := (g9.cell (World.block_lt_of_cell? W8 _ y0)).trans y0
      have z1 := (g9.cell (World.block_lt_of_cell? W8 _ y1)).trans y1
      have z2 := (g9.cell (World.block_lt_of_cell? W8 _ y2)).trans y2
      have z3 := (g9.cell (World.block_lt_of_cell? W8 _ y3)).trans y3
      have z4 := (g9.cell (World.block_lt_of_cell? W8 _ y4)).trans y4
      have z5 := (g9.cell (World.block_lt_of_cell? W8 _ y5)).trans y5
      have YC3 := Aside0.mk (Kd.C_below yc3 g9)
      have YC4 := Aside0.mk (Kd.C_below yc4 g9)
      have YC5 := Aside0.mk (Kd.C_below yc5 g9)
      have YL3 := Aside0.mk yl3
      have YL4 := Aside0.mk yl4
      have YL5 := Aside0.mk yl5
      clear y0 y1 y2 y3 y4 y5 yc3 yc4 yc5 yl3 yl4 yl5 hrd hq0
      have g0 : decide (n < 0) = false := decide_eq_false (by omega)
      have g1 : decide (n ≥ (items.length : Int)) = false := decide_eq_false (by omega)
      have p0 : (0 ≤ n) = True := eq_true hn0
      have pn : (n < (items.length : Int)) = True := eq_true hn1
      clear hn0 hn1
      have FBx := box1 W9 (.cells #[.int .i64 q00, .int .i64 r1, .int .i64 r2, .slice B3 r3.length e3, .slice B4 r4.length e4, .slice B5 r5.length e5] 57)
      obtain ⟨n0, n1, n2, n3, n4⟩ := cells5 ((FBx.1.block _ (blk_lt s9)).trans s9)
      gi_wp2
      have FA := num_boxes W9 q00 r1 r2 r3 r4 r5 B3 e3 B4 e4 B5 e5 D3 d3 D4 d4 D5 d5 (Kd.C_below OD3.out f9) OL3.out (Kd.C_below OD4.out f9) OL4.out (Kd.C_below OD5.out f9) OL5.out
      generalize (W9.alloc (.cells #[.int .i64 q00, .int .i64 r1, .int .i64 r2, .slice B3 r3.length e3, .slice B4 r4.length e4, .slice B5 r5.length e5] 57)).alloc (.cells #[.int .i64 r1, .int .i64 r2, .slice D3 r3.length d3, .slice D4 r4.length d4, .slice D5 r5.length d5] 47) = W10 at FA ⊢
      clear FBx n0 n1 n2 n3 n4 z0 z1 z2 z3 z4 z5
      obtain ⟨h10, x10, rc⟩ := FA
      have b10 := b9.trans (h10.mono b9.size)
      have f10 := f9.trans (h10.mono f9.size)
      have e10 := e9.trans (h10.mono e9.size)
      have s10 := (h10.block _ (blk_lt s9)).trans s9
      refine ⟨trivial, ?_⟩
      refine (callsIn_wide.2 (r3_Fits.calls k _ 1 [⟨r1, r2, r3, r4, r5⟩] 600 true W10 rc (Nat.le_refl _) hfx)).mono ?_
      rintro e W11 ⟨rfl, hb11⟩
      have b11 := b10.trans (hb11.mono b10.size)
      have f11 := f10.trans (hb11.mono f10.size)
      have e11 := e10.trans (hb11.mono e10.size)
      have h11 := h10.trans (hb11.mono h10.size)
      have x11 := (hb11.block _ (blk_lt x10)).trans x10
      have s11 := (hb11.block _ (blk_lt s10)).trans s10
      clear hb11 x10 s10
      have w0 : W11.cell? ⟨W9.heap.size, 0, none⟩ = _ := (blk_cell x11 0).trans rfl
      have w1 : W11.cell? ⟨W9.heap.size, 1, none⟩ = _ := (blk_cell x11 1).trans rfl
      have w2 : W11.cell? ⟨W9.heap.size, 2, none⟩ = _ := (blk_cell x11 2).trans rfl
      have w3 : W11.cell? ⟨W9.heap.size, 3, none⟩ = _ := (blk_cell x11 3).trans rfl
      have w4 : W11.cell? ⟨W9.heap.size, 4, none⟩ = _ := (blk_cell x11 4).trans rfl
      have w5 : W11.cell? ⟨W9.heap.size, 5, none⟩ = _ := (blk_cell x11 5).trans rfl
      obtain ⟨n0, n1, n2, n3, n4⟩ := cells5 s11
      gi_wp2
      refine ⟨trivial, ?_⟩
      refine (callsIn_wide.2 (r3_SameStmt.calls k r1 r2 D3 d3 r3 D4 d4 r4 D5 d5 r5 r1 r2 B3 e3 r3 B4 e4 r4 B5 e5 r5 true W11 (Kd.C_below OD3.out f11) OL3.out (Kd.C_below OD4.out f11) OL4.out (Kd.C_below OD5.out f11) OL5.out (Kd.C_below YC3.out h11) YL3.out (Kd.C_below YC4.out h11) YL4.out (Kd.C_below YC5.out h11) YL5.out hsx)).mono ?_
      rintro e W12 ⟨rfl, hb12⟩
      clear n0 n1 n2 n3 n4
      have b12 := b11.trans (hb12.mono b11.size)
      have f12 := f11.trans (hb12.mono f11.size)
      have e12 := e11.trans (hb12.mono e11.size)
      have h12 := h11.trans (hb12.mono h11.size)
      have x12 := (hb12.block _ (blk_lt x11)).trans x11
      clear hb12 x11 w0 w1 w2 w3 w4 w5
      have w0 : W12.cell? ⟨W9.heap.size, 0, none⟩ = _ := (blk_cell x12 0).trans rfl
      have w1 : W12.cell? ⟨W9.heap.size, 1, none⟩ = _ := (blk_cell x12 1).trans rfl
      have w2 : W12.cell? ⟨W9.heap.size, 2, none⟩ = _ := (blk_cell x12 2).trans rfl
      have w3 : W12.cell? ⟨W9.heap.size, 3, none⟩ = _ := (blk_cell x12 3).trans rfl
      have w4 : W12.cell? ⟨W9.heap.size, 4, none⟩ = _ := (blk_cell x12 4).trans rfl
      have w5 : W12.cell? ⟨W9.heap.size, 5, none⟩ = _ := (blk_cell x12 5).trans rfl
      gi_wp2
      refine ⟨trivial, ?_⟩
      refine (callsIn_wide.2 (r3_Then.calls k q00 r1 r2 B3 e3 r3 (fun k_ => k_ < W12.heap.size) B4 e4 r4 B5 e5 r5 t1 W12 (Kd.C_below YC3.out h12) YL3.out (Kd.V_mk YL4.out (Kd.C_F k47_heap (Kd.C_below YC4.out h12))) (Kd.C_below YC5.out h12) YL5.out hth)).mono ?_
      rintro e W13 ⟨v13, rfl, o13, hb13⟩
      obtain ⟨C13, u13, rfl⟩ := Kd.N_slice o13
      obtain ⟨_, ul13, uc13⟩ := Kd.N_reads' o13
      clear o13
      have b13 := b12.trans (hb13.mono b12.size)
      have f13 := f12.trans (hb13.mono f12.size)
      have e13 := e12.trans (hb13.mono e12.size)
      have h13 := h12.trans (hb13.mono h12.size)
      have x13 := (hb13.block _ (blk_lt x12)).trans x12
      clear hb13 x12 w0 w1 w2 w3 w4 w5
      have w0 : W13.cell? ⟨W9.heap.size, 0, none⟩ = _ := (blk_cell x13 0).trans rfl
      have w1 : W13.cell? ⟨W9.heap.size, 1, none⟩ = _ := (blk_cell x13 1).trans rfl
      have w2 : W13.cell? ⟨W9.heap.size, 2, none⟩ = _ := (blk_cell x13 2).trans rfl
      have w3 : W13.cell? ⟨W9.heap.size, 3, none⟩ = _ := (blk_cell x13 3).trans rfl
      have w4 : W13.cell? ⟨W9.heap.size, 4, none⟩ = _ := (blk_cell x13 4).trans rfl
      have w5 : W13.cell? ⟨W9.heap.size, 5, none⟩ = _ := (blk_cell x13 5).trans rfl
      gi_wp2
      refine ⟨trivial, ?_⟩
      refine (callsIn_wide.2 (r3_Numbers.calls k _ _ t1 i1 W13 uc13 ul13 hnt)).mono ?_
      rintro e W14 ⟨v14, rfl, o14, hb14⟩
      obtain ⟨C14, u14, ev14, ul14, uc14⟩ := Kd.R_reads o14
      subst ev14
      clear o14
      have b14 := b13.trans (hb14.mono b13.size)
      have f14 := f13.trans (hb14.mono f13.size)
      have e14 := e13.trans (hb14.mono e13.size)
      have h14 := h13.trans (hb14.mono h13.size)
      have x14 := (hb14.block _ (blk_lt x13)).trans x13
      clear hb14 x13 w0 w1 w2 w3 w4 w5
      have w0 : W14.cell? ⟨W9.heap.size, 0, none⟩ = _ := (blk_cell x14 0).trans rfl
      have w1 : W14.cell? ⟨W9.heap.size, 1, none⟩ = _ := (blk_cell x14 1).trans rfl
      have w2 : W14.cell? ⟨W9.heap.size, 2, none⟩ = _ := (blk_cell x14 2).trans rfl
      have w3 : W14.cell? ⟨W9.heap.size, 3, none⟩ = _ := (blk_cell x14 3).trans rfl
      have w4 : W14.cell? ⟨W9.heap.size, 4, none⟩ = _ := (blk_cell x14 4).trans rfl
      have w5 : W14.cell? ⟨W9.heap.size, 5, none⟩ = _ := (blk_cell x14 5).trans rfl
      gi_wp2
      refine ⟨trivial, ?_⟩
      refine (callsIn_wide.2 (r1_Same.calls k _ _ i1 _ _ i1 true W14 (Kd.C_below OC6.out e14) OL6.out uc14 ul14 hs1)).mono ?_
      rintro e W15 ⟨rfl, hd15⟩
      have hb15 := hd15.below
      clear hd15 uc14 ul14 uc13 ul13
      have b15 := b14.trans (hb15.mono b14.size)
      have f15 := f14.trans (hb15.mono f14.size)
      have e15 := e14.trans (hb15.mono e14.size)
      have h15 := h14.trans (hb15.mono h14.size)
      have x15 := (hb15.block _ (blk_lt x14)).trans x14
      clear hb15 x14 w0 w1 w2 w3 w4 w5
      have w0 : W15.cell? ⟨W9.heap.size, 0, none⟩ = _ := (blk_cell x15 0).trans rfl
      have w1 : W15.cell? ⟨W9.heap.size, 1, none⟩ = _ := (blk_cell x15 1).trans rfl
      have w2 : W15.cell? ⟨W9.heap.size, 2, none⟩ = _ := (blk_cell x15 2).trans rfl
      have w3 : W15.cell? ⟨W9.heap.size, 3, none⟩ = _ := (blk_cell x15 3).trans rfl
      have w4 : W15.cell? ⟨W9.heap.size, 4, none⟩ = _ := (blk_cell x15 4).trans rfl
      have w5 : W15.cell? ⟨W9.heap.size, 5, none⟩ = _ := (blk_cell x15 5).trans rfl
      gi_wp2
      refine ⟨trivial, ?_⟩
      refine (callsIn_wide.2 (r3_Else.calls k q00 r1 r2 B3 e3 r3 B4 e4 r4 (fun k_ => k_ < W15.heap.size) B5 e5 r5 t2 W15 (Kd.C_below YC3.out h15) YL3.out (Kd.C_below YC4.out h15) YL4.out (Kd.V_mk YL5.out (Kd.C_F k47_heap (Kd.C_below YC5.out h15))) hel)).mono ?_
      rintro e W16 ⟨v16, rfl, o16, hb16⟩
      obtain ⟨C16, u16, rfl⟩ := Kd.N_slice o16
      obtain ⟨_, ul16, uc16⟩ := Kd.N_reads' o16
      clear o16
      have b16 := b15.trans (hb16.mono b15.size)
      have f16 := f15.trans (hb16.mono f15.size)
      have e16 := e15.trans (hb16.mono e15.size)
      have h16 := h15.trans (hb16.mono h15.size)
      have x16 := (hb16.block _ (blk_lt x15)).trans x15
      clear hb16 x15 w0 w1 w2 w3 w4 w5
      have w0 : W16.cell? ⟨W9.heap.size, 0, none⟩ = _ := (blk_cell x16 0).trans rfl
      have w1 : W16.cell? ⟨W9.heap.size, 1, none⟩ = _ := (blk_cell x16 1).trans rfl
      have w2 : W16.cell? ⟨W9.heap.size, 2, none⟩ = _ := (blk_cell x16 2).trans rfl
      have w3 : W16.cell? ⟨W9.heap.size, 3, none⟩ = _ := (blk_cell x16 3).trans rfl
      have w4 : W16.cell? ⟨W9.heap.size, 4, none⟩ = _ := (blk_cell x16 4).trans rfl
      have w5 : W16.cell? ⟨W9.heap.size, 5, none⟩ = _ := (blk_cell x16 5).trans rfl
      gi_wp2
      refine ⟨trivial, ?_⟩
      refine (callsIn_wide.2 (r3_Numbers.calls k _ _ t2 i2 W16 uc16 ul16 hne)).mono ?_
      rintro e W17 ⟨v17, rfl, o17, hb17⟩
      obtain ⟨C17, u17, ev17, ul17, uc17⟩ := Kd.R_reads o17
      subst ev17
      clear o17
      have b17 := b16.trans (hb17.mono b16.size)
      have f17 := f16.trans (hb17.mono f16.size)
      have e17 := e16.trans (hb17.mono e16.size)
      have h17 := h16.trans (hb17.mono h16.size)
      have x17 := (hb17.block _ (blk_lt x16)).trans x16
      clear hb17 x16 w0 w1 w2 w3 w4 w5
      have w0 : W17.cell? ⟨W9.heap.size, 0, none⟩ = _ := (blk_cell x17 0).trans rfl
      have w1 : W17.cell? ⟨W9.heap.size, 1, none⟩ = _ := (blk_cell x17 1).trans rfl
      have w2 : W17.cell? ⟨W9.heap.size, 2, none⟩ = _ := (blk_cell x17 2).trans rfl
      have w3 : W17.cell? ⟨W9.heap.size, 3, none⟩ = _ := (blk_cell x17 3).trans rfl
      have w4 : W17.cell? ⟨W9.heap.size, 4, none⟩ = _ := (blk_cell x17 4).trans rfl
      have w5 : W17.cell? ⟨W9.heap.size, 5, none⟩ = _ := (blk_cell x17 5).trans rfl
      gi_wp2
      refine ⟨trivial, ?_⟩
      refine (callsIn_wide.2 (r1_Same.calls k _ _ i2 _ _ i2 true W17 (Kd.C_below OC7.out e17) OL7.out uc17 ul17 hs2')).mono ?_
      rintro e W18 ⟨rfl, hd18⟩
      have hb18 := hd18.below
      clear hd18 uc17 ul17 uc16 ul16
      have b18 := b17.trans (hb18.mono b17.size)
      have f18 := f17.trans (hb18.mono f17.size)
      have e18 := e17.trans (hb18.mono e17.size)
      have h18 := h17.trans (hb18.mono h17.size)
      have x18 := (hb18.block _ (blk_lt x17)).trans x17
      clear hb18 x17 w0 w1 w2 w3 w4 w5
      have w0 : W18.cell? ⟨W9.heap.size, 0, none⟩ = _ := (blk_cell x18 0).trans rfl
      have w1 : W18.cell? ⟨W9.heap.size, 1, none⟩ = _ := (blk_cell x18 1).trans rfl
      have w2 : W18.cell? ⟨W9.heap.size, 2, none⟩ = _ := (blk_cell x18 2).trans rfl
      have w3 : W18.cell? ⟨W9.heap.size, 3, none⟩ = _ := (blk_cell x18 3).trans rfl
      have w4 : W18.cell? ⟨W9.heap.size, 4, none⟩ = _ := (blk_cell x18 4).trans rfl
      have w5 : W18.cell? ⟨W9.heap.size, 5, none⟩ = _ := (blk_cell x18 5).trans rfl
      gi_wp2
      refine ⟨trivial, ?_⟩
      refine (callsIn_wide.2 (w3_awake.calls k true W18 rfl)).mono ?_
      rintro e Z9 ⟨rfl, hz9⟩
      gi_wp2
      exact ⟨_, results_tmp rfl _ _ _, rfl, b18.trans (hz9.mono b18.size)⟩
end Go.Proofs.Ytffcpbgbhkbplaa.Print
namespace Go.Proofs.Ytffcpbgbhkbplaa.Print
open Go.RowKit Go.Proofs.YtffcpbgbhkbplaaW.PrintWords Go.Proofs.YtffcpbgbhkbplaaW.PrintLast Go.Proofs.YtffcpbgbhkbplaaW.PrintMore
attribute [local go_sem] max2_int min2_int max_two min_two max_three min_three max_four min_four
set_option linter.unusedVariables false
set_option linter.unusedSimpArgs false
theorem heads_max (l : List S47) (n : Int) (h : sNs l ≤ 1000) : (heads n l).length ≤ 9223372036854775807 := by
  rw [heads_length]
  have := sNs_len l
  omega
theorem numbers_law (w : Int) (A1 : Option Addr) (c1 : Nat) (l1 : List S82) (A2 : Option Addr) (c2 : Nat) (l2 : List S47) (n : Int) (W : World) (hr1 : Kd.C k82 W A1 l1.length l1) (hc1 : l1.length ≤ c1) (hr2 : Kd.C k47 W A2 l2.length l2) (hc2 : l2.length ≤ c2) (hl : l2.length ≤ 9223372036854775807) (hg : goodSs l2) :
    Calls Try.prog 6 #[.agg #[.int .i64 w, .slice A1 l1.length c1, .slice A2 l2.length c2], .int .i64 n] W fun e W' => e = .returned (.bool true) ∧ Below W.heap.size W W' := by
  obtain ⟨kf, hkf⟩ := fitsS l2 600 hl hg (by decide) (by decide)
  by_cases hfit : (sNs l2 : Int) ≤ 600
  case neg =>
    rw [decide_eq_false hfit] at hkf
    exact w3_ProgNumbers.walk kf w A1 c1 l1 A2 c2 l2 n false false false 0 0 [] [] [] 0 [] [] 0 0 [] 0 [] [] [] W hr1 hc1 hr2 hc2 (hkf kf (Nat.le_refl _)) (fun h => by cases h)
  case pos =>
    rw [decide_eq_true hfit] at hkf
    have hle := (s_le.2 l2).1
    have hlen := wks_len.2 l2 0
    obtain ⟨ki, hki⟩ := pIs_tells w l1 l2 hl hg
    have tc := pCheck_tells w l1 l2 hl hg
    obtain ⟨kc, hkc⟩ := tc
    have tc := pCheck_tells w l1 l2 hl hg
    have tw : Tells (fun k => prog_walk.f k l2 0) (wks 0 l2, 0 + sCs l2) := by
      refine Tells.succ ?_
      simp only [prog_walk.f]
      exact walk_tells.2 l2 [] hg hl 0 (by decide) (by omega)
    obtain ⟨kw, hkw⟩ := tw
    have tw : Tells (fun k => prog_walk.f k l2 0) (wks 0 l2, 0 + sCs l2) := ⟨kw, hkw⟩
    have hx : ∀ x ∈ wks 0 l2, goodS x.2 ∧ sN x.2 ≤ 600 := fun x hx => by
      obtain ⟨gx, nx⟩ := wks_good.2 l2 hg 0 x hx
      exact ⟨gx, by omega⟩
    obtain ⟨kp, hkp⟩ := Tells.all (g := fun (x : Int × S47) k => prog_Copied.f k x.2.f0 x.2.f1 x.2.f2 x.2.f3 x.2.f4) (v := fun x => (x.2.f0, x.2.f1, x.2.f2, x.2.f3, x.2.f4)) (wks 0 l2) (fun x h => copyS.1 x.2 (hx x h).1 (by have := (hx x h).2; omega))
    obtain ⟨kq, hkq⟩ := Tells.all (g := fun (x : Int × S47) k => r3_Fits.f k [x.2] 600) (v := fun x => true) (wks 0 l2) (fun x h => by
      have := fitsS [x.2] 600 (by simp) (by rw [goodSs_cons]; exact ⟨(hx x h).1, trivial⟩) (by decide) (by decide)
      rwa [decide_eq_true (by rw [sNs_cons, sNs_nil]; have := (hx x h).2; omega)] at this)
    obtain ⟨ks, hks⟩ := Tells.all (g := fun (x : Int × S47) k => r3_SameStmt.f k x.2.f0 x.2.f1 x.2.f2 x.2.f3 x.2.f4 x.2.f0 x.2.f1 x.2.f2 x.2.f3 x.2.f4) (v := fun x => true) (wks 0 l2) (fun x h => sameS.1 x.2 (hx x h).1)
    obtain ⟨kz, hkz⟩ := sameS.1 (⟨0, 0, [], [], []⟩ : S47) (by rw [goodS_mk]; exact ⟨⟨Nat.zero_le _, trivial⟩, ⟨Nat.zero_le _, trivial⟩, ⟨Nat.zero_le _, trivial⟩⟩)
    have hkz : ∀ k, kz ≤ k → r3_SameStmt.f k 0 0 [] [] [] 0 0 [] [] [] = some true := hkz
    cases hp : pIs w l1 l2 with
    | false =>
      rw [hp] at hki hkc tc
      have ta : Tells (fun k => prog_At.f k w l1 l2 n) (0, 0, [], [], [], 30) := by
        unfold prog_At.f
        exact Tells.bind tc (Tells.ifF (show ¬ ((30 : Int) = 0) by decide) (Tells.pure _))
      have tn : Tells (fun k => prog_Inside.f k w l1 l2 n) ([], [], 30) := by
        unfold prog_Inside.f
        exact Tells.bind ta (Tells.ifF (show ¬ ((30 : Int) = 0) by decide) (Tells.pure _))
      obtain ⟨ka, hka⟩ := ta
      obtain ⟨kn, hkn⟩ := tn
      obtain ⟨K, hK⟩ : ∃ K, K = ki + kc + kw + ka + kn + kp + kq + ks + kz + kf := ⟨_, rfl⟩
      exact w3_ProgNumbers.walk K w A1 c1 l1 A2 c2 l2 n true false true 0 0 [] [] [] 30 [] [] 30 30 (wks 0 l2) (0 + sCs l2) [] [] [] W hr1 hc1 hr2 hc2 (hkf K (by omega))
        (fun _ => ⟨hka K (by omega), hkn K (by omega), hkz K (by omega), hki K (by omega), hkc K (by omega), hkw K (by omega), by omega, by rw [if_neg (by decide)]; rfl, fun x h => ⟨hkp K (by omega) x h, hkq K (by omega) x h, hks K (by omega) x h⟩, fun _ => ⟨rfl, rfl, by unfold NumOut; rw [if_neg (by decide)]; exact ⟨by decide, rfl, rfl⟩⟩, fun h => by cases h⟩)
    | true =>
      rw [hp] at hki hkc tc
      obtain ⟨ke, hke⟩ := every_tells w l1 l2 hg hl (by omega)
      have hil : ((wks 0 l2).map itm).length = (wks 0 l2).length := List.length_map _
      have hit : (wks 0 l2).map itm = (if (0 : Int) = 0 then wks 0 l2 else []).map (fun x => (⟨x.1, x.2⟩ : S57)) := by rw [if_pos rfl]; rfl
      cases hf : (wks 0 l2).find? (fun y => decide (y.1 = n)) with
      | none =>
        have ta : Tells (fun k => prog_At.f k w l1 l2 n) (0, 0, [], [], [], 1) := by
          unfold prog_At.f
          refine Tells.bind tc (Tells.ifT rfl (Tells.bind tw ?_))
          simp only [prog_At.pick, hf]
          exact Tells.pure _
        have tn : Tells (fun k => prog_Inside.f k w l1 l2 n) ([], [], 1) := by
          unfold prog_Inside.f
          exact Tells.bind ta (Tells.ifF (show ¬ ((1 : Int) = 0) by decide) (Tells.pure _))
        have hrange : n < 0 ∨ (((wks 0 l2).map itm).length : Int) ≤ n := by
          rw [hil]
          by_cases h : n < 0 ∨ ((wks 0 l2).length : Int) ≤ n
          · exact h
          · exfalso
            have hi : n.toNat < (wks 0 l2).length := by omega
            have h2 := List.getElem?_eq_getElem hi
            have h3 := wks_num.2 l2 0 n.toNat _ h2
            have h4 := List.find?_eq_none.1 hf _ (List.getElem_mem hi)
            rw [decide_eq_true_eq] at h4
            omega
        obtain ⟨ka, hka⟩ := ta
        obtain ⟨kn, hkn⟩ := tn
        obtain ⟨K, hK⟩ : ∃ K, K = ki + kc + kw + ka + kn + kp + kq + ks + kz + kf + ke := ⟨_, rfl⟩
        exact w3_ProgNumbers.walk K w A1 c1 l1 A2 c2 l2 n true true true 0 0 [] [] [] 1 [] [] 1 0 (wks 0 l2) (0 + sCs l2) ((wks 0 l2).map itm) [] [] W hr1 hc1 hr2 hc2 (hkf K (by omega))
          (fun _ => ⟨hka K (by omega), hkn K (by omega), hkz K (by omega), hki K (by omega), hkc K (by omega), hkw K (by omega), by omega, hit, fun x h => ⟨hkp K (by omega) x h, hkq K (by omega) x h, hks K (by omega) x h⟩, fun _ => ⟨rfl, rfl, by unfold NumOut; rw [if_pos rfl]; exact ⟨rfl, rfl, rfl, hrange, hke K (by omega)⟩⟩, fun h => by cases h⟩)
      | some x =>
        have hxn := List.find?_some hf
        have hmem := List.mem_of_find?_eq_some hf
        rw [decide_eq_true_eq] at hxn
        obtain ⟨i, hi, hxe⟩ := List.mem_iff_getElem.1 hmem
        have h2 : (wks 0 l2)[i]? = some x := by rw [← hxe, List.getElem?_eq_getElem hi]
        have hnum := wks_num.2 l2 0 i x h2
        have hni : n = (i : Int) := by omega
        obtain ⟨gx, nx⟩ := hx x hmem
        have nx' := sN_eq x.2
        have hok := (wks_ok w l1).2 l2 (by have := hp; unfold pIs at this; simp only [Bool.and_eq_true] at this; exact this.2.2.2) 0 x hmem
        have ta : Tells (fun k => prog_At.f k w l1 l2 n) (x.2.f0, x.2.f1, x.2.f2, x.2.f3, x.2.f4, 0) := by
          unfold prog_At.f
          refine Tells.bind tc (Tells.ifT rfl (Tells.bind tw ?_))
          simp only [prog_At.pick, hf]
          exact Tells.bind (copyS.1 x.2 gx (by omega)) (Tells.pure _)
        have tn := inside_tells w l1 l2 hl hg hp i x h2
        rw [← hni] at tn
        have hrd : rd_T57 ((wks 0 l2).map itm) n = ⟨x.1, x.2⟩ := by
          unfold rd_T57
          rw [hni, Int.toNat_natCast, List.getD_eq_getElem?_getD, List.getElem?_map, h2]
          rfl
        have hx1 : x.1 = n := hxn
        obtain ⟨ka, hka⟩ := ta
        obtain ⟨kn, hkn⟩ := tn
        obtain ⟨k0, hk0⟩ := not_zero w l1 x.2 hok
        obtain ⟨kt, hkt⟩ := then_tells x.2 n gx (by omega) (by omega) (by omega)
        obtain ⟨kl, hkl⟩ := else_tells x.2 n gx (by omega) (by omega) (by omega)
        obtain ⟨km, hkm⟩ := nums_tells x.2.f3 (n + 1) (by omega)
        obtain ⟨ko, hko⟩ := nums_tells x.2.f4 (n + 1 + sCs x.2.f3) (by omega)
        obtain ⟨ku, hku⟩ := same_tells (heads (n + 1) x.2.f3) (heads_max _ _ (by omega))
        obtain ⟨kv, hkv⟩ := same_tells (heads (n + 1 + sCs x.2.f3) x.2.f4) (heads_max _ _ (by omega))
        obtain ⟨K, hK⟩ : ∃ K, K = ki + kc + kw + ka + kn + kp + kq + ks + kz + kf + ke + k0 + kt + kl + km + ko + ku + kv := ⟨_, rfl⟩
        refine w3_ProgNumbers.walk K w A1 c1 l1 A2 c2 l2 n true true false x.2.f0 x.2.f1 x.2.f2 x.2.f3 x.2.f4 0 (heads (n + 1) x.2.f3) (heads (n + 1 + sCs x.2.f3) x.2.f4) 0 0 (wks 0 l2) (0 + sCs l2) ((wks 0 l2).map itm) (itemsOf (n + 1) x.2.f3) (itemsOf (n + 1 + sCs x.2.f3) x.2.f4) W hr1 hc1 hr2 hc2 (hkf K (by omega))
          (fun _ => ⟨hka K (by omega), hkn K (by omega), hk0 K (by omega), hki K (by omega), hkc K (by omega), hkw K (by omega), by omega, hit, fun x h => ⟨hkp K (by omega) x h, hkq K (by omega) x h, hks K (by omega) x h⟩, (fun h => by cases h), fun _ => ?_⟩)
        have e0 : (rd_T57 ((wks 0 l2).map itm) n).f0 = n := by rw [hrd]; exact hx1
        refine ⟨rfl, rfl, rfl, rfl, by omega, by rw [hil]; omega, hke K (by omega), by rw [hrd]; exact (s_eta x.2).symm, ?_, hks K (by omega) x hmem, ?_, hkm K (by omega), ?_, hko K (by omega), hku K (by omega), hkv K (by omega)⟩
        · rw [s_eta]; exact hkq K (by omega) x hmem
        · rw [e0]; exact hkt K (by omega)
        · rw [e0]; exact hkl K (by omega)
end Go.Proofs.Ytffcpbgbhkbplaa.Print
