/- For any program, number of copies and stores, no call of the product's functions changes what came in, and what they give is newly laid (programs of at most 600 nodes; else the law answers with its fixed calls). -/
import Derived.Test.YtilebfkehmecaaaO3
import Derived.Deep.DeepCutAuto
import Derived.Laws.BitsLemmas
import Derived.Laws.EntriesVeiled
import Derived.Lib.SliceRun
import Derived.Orders
import Derived.OrdersHeld
import Derived.Shelf.Abstract
import Derived.Shelf.RegionOpen
import Derived.WalkKit
import Derived.WalkSpells
set_option maxRecDepth 100000
set_option maxHeartbeats 16000000
namespace Go.Proofs.Ytilebfkehmecaaa.Print
open Go.RowKit Go.Proofs.YtilebfkehmecaaaW.PrintWords Go.Proofs.YtilebfkehmecaaaW.PrintLast Go.Proofs.YtilebfkehmecaaaW.PrintMore
attribute [local go_sem] max2_int min2_int max_two min_two max_three min_three max_four min_four
set_option linter.unusedVariables false
set_option linter.unusedSimpArgs false
def prod_single.f (k : Nat) (a0_0 : Int) (l0_1 : List (S66)) (l0_2 : List (S64)) : Option (Int) := (prog_Single.f k a0_0 l0_1 l0_2).bind fun bt145 => (if bt145.2 = 0 then (if bt145.1 = true then (some bt145.2) else (some 1)) else (some bt145.2))
theorem prod_single.calls (k : Nat) (a0_0 : Int) (A0_1 : Option Addr) (c0_1 : Nat) (l0_1 : List (S66)) (A0_2 : Option Addr) (c0_2 : Nat) (l0_2 : List (S64)) (r : Int) (w : World) (hr0_1 : Kd.C k66 w A0_1 l0_1.length l0_1) (hc0_1 : l0_1.length ≤ c0_1) (hr0_2 : Kd.C k64 w A0_2 l0_2.length l0_2) (hc0_2 : l0_2.length ≤ c0_2) (h : prod_single.f k a0_0 l0_1 l0_2 = some r) :
  Calls Try.prog 44 #[.agg #[.int .i64 a0_0, .slice A0_1 l0_1.length c0_1, .slice A0_2 l0_2.length c0_2]] w fun e w' => e = .returned (.int .i64 r) ∧ Below w.heap.size w w' := by
 have hu25 := Try.underlying25
 have HR0_1 := Aside0.mk hr0_1
 have HC0_1 := Aside0.mk hc0_1
 clear hr0_1 hc0_1
 have HR0_2 := Aside0.mk hr0_2
 have HC0_2 := Aside0.mk hc0_2
 clear hr0_2 hc0_2
 have HB := Aside0.mk (Below.refl w.heap.size w)
 have H : ((prog_Single.f k a0_0 l0_1 l0_2).bind fun bt145 => (if bt145.2 = 0 then (if bt145.1 = true then (some bt145.2) else (some 1)) else (some bt145.2))) = some r := h
 clear h
 replace H := Option.bind_eq_some_iff.mp H
 obtain ⟨⟨t145, t146⟩, A20, H⟩ := H
 replace H : (if t146 = 0 then (if t145 = true then (some t146) else (some 1)) else (some t146)) = some r := H
 have A2 := Aside0.mk A20
 clear A20
 by_cases c3 : t146 = 0
 rotate_left
 ·rw [if_neg c3] at H
  have c3b0 : (t146 == 0) = false := beq_eq_false_iff_ne.mpr c3
  have c3b1 : (t146 != 0) = true := bne_iff_ne.mpr c3
  obtain rfl := Option.some.inj H
  go_enter Try.func44, Try.ntmps44
  go_wp2_with (first | ((with_reducible refine gate_dst (N := 1) rfl ?_); refine bx 1 rfl rfl #[.int .i64 a0_0, .slice A0_1 l0_1.length c0_1, .slice A0_2 l0_2.length c0_2] 25 ?_; intro gb144 hg w11 hbox hb; have BK144 := Aside0.mk (hbox); have GE144 := ge HB hg; replace HB := sb HB hb; clear hb hbox hg; obtain ⟨hcz12_0, hcz12_1, hcz12_2, hfz12_0, hfz12_1, hfz12_2⟩ := cf3 BK144.out) | ((with_reducible refine gate_callee (f := 79) rfl ?_); refine gL (some 7) rfl rfl Try.func79 #[.agg #[.int .i64 a0_0, .slice A0_1 l0_1.length c0_1, .slice A0_2 l0_2.length c0_2]] rfl ?_; (with_reducible refine (prog_Single.calls k a0_0 _ _ l0_1 _ _ l0_2 t145 t146 _ ?side1 ?side2 ?side3 ?side4 A2.out).mono ?_); (case side1 => exact cb HR0_1 HB); (case side2 => exact HC0_1.out); (case side3 => exact cb HR0_2 HB); (case side4 => exact HC0_2.out); rintro e w13 ⟨rfl, hb⟩; refine ⟨_, rfl, ?_⟩; replace BK144 := kb BK144 hb; replace HB := sb HB hb; (try clear hb)))
  go_ret
  exact ⟨rr, bb HB⟩
 rw [if_pos c3] at H
 have c3b0 : (t146 == 0) = true := beq_iff_eq.mpr c3
 have c3b1 : (t146 != 0) = false := bne_eq_false_iff_eq.mpr c3
 clear c3
 by_cases c4 : t145 = true
 ·subst c4
  replace H := it H
  obtain rfl := Option.some.inj H
  go_enter Try.func44, Try.ntmps44
  go_wp2_with (first | ((with_reducible refine gate_dst (N := 1) rfl ?_); refine bx 1 rfl rfl #[.int .i64 a0_0, .slice A0_1 l0_1.length c0_1, .slice A0_2 l0_2.length c0_2] 25 ?_; intro gb144 hg w5 hbox hb; have BK144 := Aside0.mk (hbox); have GE144 := ge HB hg; replace HB := sb HB hb; clear hb hbox hg; obtain ⟨hcz6_0, hcz6_1, hcz6_2, hfz6_0, hfz6_1, hfz6_2⟩ := cf3 BK144.out) | ((with_reducible refine gate_callee (f := 79) rfl ?_); refine gL (some 7) rfl rfl Try.func79 #[.agg #[.int .i64 a0_0, .slice A0_1 l0_1.length c0_1, .slice A0_2 l0_2.length c0_2]] rfl ?_; (with_reducible refine (prog_Single.calls k a0_0 _ _ l0_1 _ _ l0_2 true t146 _ ?side1 ?side2 ?side3 ?side4 A2.out).mono ?_); (case side1 => exact cb HR0_1 HB); (case side2 => exact HC0_1.out); (case side3 => exact cb HR0_2 HB); (case side4 => exact HC0_2.out); rintro e w7 ⟨rfl, hb⟩; refine ⟨_, rfl, ?_⟩; replace BK144 := kb BK144 hb; replace HB := sb HB hb; (try clear hb)))
  go_ret
  exact ⟨rr, bb HB⟩
 replace c4 := Bool.eq_false_iff.mpr c4
 subst c4
 replace H := fi H
 obtain rfl := Option.some.inj H
 go_enter Try.func44, Try.ntmps44
 go_wp2_with (first | ((with_reducible refine gate_dst (N := 1) rfl ?_); refine bx 1 rfl rfl #[.int .i64 a0_0, .slice A0_1 l0_1.length c0_1, .slice A0_2 l0_2.length c0_2] 25 ?_; intro gb144 hg w8 hbox hb; have BK144 := Aside0.mk (hbox); have GE144 := ge HB hg; replace HB := sb HB hb; clear hb hbox hg; obtain ⟨hcz9_0, hcz9_1, hcz9_2, hfz9_0, hfz9_1, hfz9_2⟩ := cf3 BK144.out) | ((with_reducible refine gate_callee (f := 79) rfl ?_); refine gL (some 7) rfl rfl Try.func79 #[.agg #[.int .i64 a0_0, .slice A0_1 l0_1.length c0_1, .slice A0_2 l0_2.length c0_2]] rfl ?_; (with_reducible refine (prog_Single.calls k a0_0 _ _ l0_1 _ _ l0_2 false t146 _ ?side1 ?side2 ?side3 ?side4 A2.out).mono ?_); (case side1 => exact cb HR0_1 HB); (case side2 => exact HC0_1.out); (case side3 => exact cb HR0_2 HB); (case side4 => exact HC0_2.out); rintro e w10 ⟨rfl, hb⟩; refine ⟨_, rfl, ?_⟩; replace BK144 := kb BK144 hb; replace HB := sb HB hb; (try clear hb)))
 go_ret
 exact ⟨rr, bb HB⟩
mutual
def r3_low.l0 : Nat → List (S64) → Int → Option (Bool)
 | 0, _, _ => none
 | k + 1, x0, x3 => if x3 < (x0.length : Int) then (if 0 ≤ x3 then (if ((rd_T64 x0 x3).f0) = 3 then (if ((rd_T64 x0 x3).f1) > 15 then (some false) else ((r3_low.f k ((rd_T64 x0 x3).f3)).bind fun t306 => (if t306 = true then ((r3_low.f k ((rd_T64 x0 x3).f4)).bind fun t308 => (if t308 = true then (r3_low.l0 k x0 (wrap64 (x3 + 1))) else (some false))) else (some false)))) else ((r3_low.f k ((rd_T64 x0 x3).f3)).bind fun t310 => (if t310 = true then ((r3_low.f k ((rd_T64 x0 x3).f4)).bind fun t312 => (if t312 = true then (r3_low.l0 k x0 (wrap64 (x3 + 1))) else (some false))) else (some false)))) else (none)) else (some true)
def r3_low.f : Nat → List (S64) → Option (Bool)
 | 0, _ => none
 | k + 1, l0 => r3_low.l0 k l0 0
end
theorem r3_low.calls (k : Nat) : ∀ (A0 : Option Addr) (c0 : Nat) (l0 : List (S64)) (r : Bool) (w : World) (hr0 : Kd.C k64 w A0 l0.length l0) (hc0 : l0.length ≤ c0) (h : r3_low.f k l0 = some r),
  Calls Try.prog 110 #[.slice A0 l0.length c0] w fun e w' => e = .returned (.bool r) ∧ Drawn0 w w' := by
 induction k using Nat.strongRecOn with
 | _ k ih =>
 intro A0 c0 l0 r w hr0 hc0 h
 cases k with
 | zero => exact absurd h (by simp [r3_low.f])
 | succ k =>
 simp only [r3_low.f] at h
 have HR0 := Aside0.mk hr0
 have HC0 := Aside0.mk hc0
 clear hr0 hc0
 have H : (r3_low.l0 k l0 0) = some r := h
 clear h
 have H' := Aside0.mk H
 clear H
 go_enter Try.func110, Try.ntmps110
 go_wp2
 go_loopg [3] k (fun kq v3 w' => ∃ (x3_1 : Int), v3 = .int .i64 x3_1 ∧ Aside0 (r3_low.l0 kq l0 x3_1 = some r) ∧ Aside0 (kq ≤ k) ∧ Drawn0 w w')
 case atStart => exact ⟨(0), rs, H', ⟨Nat.le_refl _⟩, dr⟩
 case round =>
  clear H'
  try clear c1
  obtain ⟨x3_1, rfl, HA, HK1, ⟨m1, rfl⟩⟩ := hrel
  cases gk with
  | zero => exact absurd HA.out (by simp [r3_low.l0])
  | succ k1 =>
   have H := HA.out
   clear HA
   simp only [r3_low.l0] at H
   by_cases c2 : x3_1 < (l0.length : Int)
   rotate_left
   ·rw [if_neg c2] at H
    have c2b0 : decide (x3_1 < (l0.length : Int)) = false := decide_eq_false c2
    clear c2
    obtain rfl := Option.some.inj H
    go_wp2
    go_ret
    exact ⟨rs, dr⟩
   rw [if_pos c2] at H
   have c2b0 : decide (x3_1 < (l0.length : Int)) = true := decide_eq_true c2
   clear c2
   by_cases c3 : 0 ≤ x3_1
   rotate_left
   ·rw [if_neg c3] at H
    exact absurd H (by simp)
   rw [if_pos c3] at H
   have c3b0 : decide (0 ≤ x3_1) = true := decide_eq_true c3
   clear c3
   by_cases c4 : ((rd_T64 l0 x3_1).f0) = 3
   rotate_left
   ·rw [if_neg c4] at H
    have c4b0 : (((rd_T64 l0 x3_1).f0) == 3) = false := beq_eq_false_iff_ne.mpr c4
    have c4b1 : (((rd_T64 l0 x3_1).f0) != 3) = true := bne_iff_ne.mpr c4
    obtain ⟨t310, A10, H⟩ := be H
    by_cases c11 : t310 = true
    rotate_left
    ·replace c11 := Bool.eq_false_iff.mpr c11
     subst c11
     replace H := fi H
     obtain rfl := Option.some.inj H
     have p303 : 0 ≤ (x3_1 : Int) := od
     have q303 : x3_1 < (l0.length : Int) := od
     obtain ⟨ad303, A303_2, c303_2, A303_3, c303_3, A303_4, c303_4, e303, hx303_0, hx303_1, hx303_2, hx303_3, hx303_4, hl303_2, hi303_2, hl303_3, hi303_3, hl303_4, hi303_4⟩ := at_T64 HR0.out x3_1 p303 q303
     cases e303
     have HR303_2 := Aside0.mk hi303_2
     have HC303_2 := Aside0.mk hl303_2
     clear hi303_2 hl303_2
     have HR303_3 := Aside0.mk hi303_3
     have HC303_3 := Aside0.mk hl303_3
     clear hi303_3 hl303_3
     have HR303_4 := Aside0.mk hi303_4
     have HC303_4 := Aside0.mk hl303_4
     clear hi303_4 hl303_4
     replace p303 := eq_true p303
     replace q303 := eq_true q303
     go_wp2_with (first | (go_at_call 110; (with_reducible refine (ih k1 (by have := HK1.out; omega) _ _ ((rd_T64 l0 x3_1).f3) false _ ?side1 ?side2 A10.out).mono ?_); (case side1 => exact ca HR303_3); (case side2 => exact HC303_3.out); rintro e w' ⟨rfl, ⟨nd, rfl⟩⟩))
     go_ret
     exact ⟨rs, dr⟩
    subst c11
    replace H := it H
    obtain ⟨t312, A12, H⟩ := be H
    by_cases c13 : t312 = true
    rotate_left
    ·replace c13 := Bool.eq_false_iff.mpr c13
     subst c13
     replace H := fi H
     obtain rfl := Option.some.inj H
     have p303 : 0 ≤ (x3_1 : Int) := od
     have q303 : x3_1 < (l0.length : Int) := od
     obtain ⟨ad303, A303_2, c303_2, A303_3, c303_3, A303_4, c303_4, e303, hx303_0, hx303_1, hx303_2, hx303_3, hx303_4, hl303_2, hi303_2, hl303_3, hi303_3, hl303_4, hi303_4⟩ := at_T64 HR0.out x3_1 p303 q303
     cases e303
     have HR303_2 := Aside0.mk hi303_2
     have HC303_2 := Aside0.mk hl303_2
     clear hi303_2 hl303_2
     have HR303_3 := Aside0.mk hi303_3
     have HC303_3 := Aside0.mk hl303_3
     clear hi303_3 hl303_3
     have HR303_4 := Aside0.mk hi303_4
     have HC303_4 := Aside0.mk hl303_4
     clear hi303_4 hl303_4
     replace p303 := eq_true p303
     replace q303 := eq_true q303
     go_wp2_with (first | (go_at_call 110; (with_reducible refine (ih k1 (by have := HK1.out; omega) _ _ ((rd_T64 l0 x3_1).f3) true _ ?side1 ?side2 A10.out).mono ?_); (case side1 => exact ca HR303_3); (case side2 => exact HC303_3.out); rintro e w' ⟨rfl, ⟨nd, rfl⟩⟩; have p311 : 0 ≤ (x3_1 : Int) := od; have q311 : x3_1 < (l0.length : Int) := od; obtain ⟨ad311, A311_2, c311_2, A311_3, c311_3, A311_4, c311_4, e311, hx311_0, hx311_1, hx311_2, hx311_3, hx311_4, hl311_2, hi311_2, hl311_3, hi311_3, hl311_4, hi311_4⟩ := at_T64 HR0.out x3_1 p311 q311; obtain rfl : ad303 = ad311 := (by injection e311); have HR311_2 := Aside0.mk hi311_2; have HC311_2 := Aside0.mk hl311_2; clear hi311_2 hl311_2; have HR311_3 := Aside0.mk hi311_3; have HC311_3 := Aside0.mk hl311_3; clear hi311_3 hl311_3; have HR311_4 := Aside0.mk hi311_4; have HC311_4 := Aside0.mk hl311_4; clear hi311_4 hl311_4; replace p311 := eq_true p311; replace q311 := eq_true q311; have ea_ := Option.some.inj (hx303_2.symm.trans hx311_2); injection ea_ with ea_ en_ ec_; subst ea_; subst ec_; clear en_; have ea_ := Option.some.inj (hx303_3.symm.trans hx311_3); injection ea_ with ea_ en_ ec_; subst ea_; subst ec_; clear en_; have ea_ := Option.some.inj (hx303_4.symm.trans hx311_4); injection ea_ with ea_ en_ ec_; subst ea_; subst ec_; clear en_) | (go_at_call 110; (with_reducible refine (ih k1 (by have := HK1.out; omega) _ _ ((rd_T64 l0 x3_1).f4) false _ ?side1 ?side2 A12.out).mono ?_); (case side1 => exact ca HR311_4); (case side2 => exact HC311_4.out); rintro e w' ⟨rfl, ⟨nd, rfl⟩⟩))
     go_ret
     exact ⟨rs, dr⟩
    subst c13
    replace H := it H
    have H' := Aside0.mk H
    clear H
    have p303 : 0 ≤ (x3_1 : Int) := od
    have q303 : x3_1 < (l0.length : Int) := od
    obtain ⟨ad303, A303_2, c303_2, A303_3, c303_3, A303_4, c303_4, e303, hx303_0, hx303_1, hx303_2, hx303_3, hx303_4, hl303_2, hi303_2, hl303_3, hi303_3, hl303_4, hi303_4⟩ := at_T64 HR0.out x3_1 p303 q303
    cases e303
    have HR303_2 := Aside0.mk hi303_2
    have HC303_2 := Aside0.mk hl303_2
    clear hi303_2 hl303_2
    have HR303_3 := Aside0.mk hi303_3
    have HC303_3 := Aside0.mk hl303_3
    clear hi303_3 hl303_3
    have HR303_4 := Aside0.mk hi303_4
    have HC303_4 := Aside0.mk hl303_4
    clear hi303_4 hl303_4
    replace p303 := eq_true p303
    replace q303 := eq_true q303
    go_wp2_with (first | (go_at_call 110; (with_reducible refine (ih k1 (by have := HK1.out; omega) _ _ ((rd_T64 l0 x3_1).f3) true _ ?side1 ?side2 A10.out).mono ?_); (case side1 => exact ca HR303_3); (case side2 => exact HC303_3.out); rintro e w' ⟨rfl, ⟨nd, rfl⟩⟩; have p311 : 0 ≤ (x3_1 : Int) := od; have q311 : x3_1 < (l0.length : Int) := od; obtain ⟨ad311, A311_2, c311_2, A311_3, c311_3, A311_4, c311_4, e311, hx311_0, hx311_1, hx311_2, hx311_3, hx311_4, hl311_2, hi311_2, hl311_3, hi311_3, hl311_4, hi311_4⟩ := at_T64 HR0.out x3_1 p311 q311; obtain rfl : ad303 = ad311 := (by injection e311); have HR311_2 := Aside0.mk hi311_2; have HC311_2 := Aside0.mk hl311_2; clear hi311_2 hl311_2; have HR311_3 := Aside0.mk hi311_3; have HC311_3 := Aside0.mk hl311_3; clear hi311_3 hl311_3; have HR311_4 := Aside0.mk hi311_4; have HC311_4 := Aside0.mk hl311_4; clear hi311_4 hl311_4; replace p311 := eq_true p311; replace q311 := eq_true q311; have ea_ := Option.some.inj (hx303_2.symm.trans hx311_2); injection ea_ with ea_ en_ ec_; subst ea_; subst ec_; clear en_; have ea_ := Option.some.inj (hx303_3.symm.trans hx311_3); injection ea_ with ea_ en_ ec_; subst ea_; subst ec_; clear en_; have ea_ := Option.some.inj (hx303_4.symm.trans hx311_4); injection ea_ with ea_ en_ ec_; subst ea_; subst ec_; clear en_) | (go_at_call 110; (with_reducible refine (ih k1 (by have := HK1.out; omega) _ _ ((rd_T64 l0 x3_1).f4) true _ ?side1 ?side2 A12.out).mono ?_); (case side1 => exact ca HR311_4); (case side2 => exact HC311_4.out); rintro e w' ⟨rfl, ⟨nd, rfl⟩⟩))
    go_roundg k1
    case measure => have := HK1.out; omega
    case rel => exact ⟨(wrap64 (x3_1 + 1)), rs, H', ⟨by have := HK1.out; omega⟩, dr⟩
   rw [if_pos c4] at H
   have c4b0 : (((rd_T64 l0 x3_1).f0) == 3) = true := beq_iff_eq.mpr c4
   have c4b1 : (((rd_T64 l0 x3_1).f0) != 3) = false := bne_eq_false_iff_eq.mpr c4
   clear c4
   by_cases c5 : ((rd_T64 l0 x3_1).f1) > 15
   ·rw [if_pos c5] at H
    have c5b0 : decide (15 < ((rd_T64 l0 x3_1).f1)) = true := decide_eq_true c5
    clear c5
    obtain rfl := Option.some.inj H
    have p303 : 0 ≤ (x3_1 : Int) := od
    have q303 : x3_1 < (l0.length : Int) := od
    obtain ⟨ad303, A303_2, c303_2, A303_3, c303_3, A303_4, c303_4, e303, hx303_0, hx303_1, hx303_2, hx303_3, hx303_4, hl303_2, hi303_2, hl303_3, hi303_3, hl303_4, hi303_4⟩ := at_T64 HR0.out x3_1 p303 q303
    cases e303
    have HR303_2 := Aside0.mk hi303_2
    have HC303_2 := Aside0.mk hl303_2
    clear hi303_2 hl303_2
    have HR303_3 := Aside0.mk hi303_3
    have HC303_3 := Aside0.mk hl303_3
    clear hi303_3 hl303_3
    have HR303_4 := Aside0.mk hi303_4
    have HC303_4 := Aside0.mk hl303_4
    clear hi303_4 hl303_4
    replace p303 := eq_true p303
    replace q303 := eq_true q303
    go_wp2
    go_ret
    exact ⟨rs, dr⟩
   rw [if_neg c5] at H
   have c5b0 : decide (15 < ((rd_T64 l0 x3_1).f1)) = false := decide_eq_false c5
   clear c5
   obtain ⟨t306, A6, H⟩ := be H
   by_cases c7 : t306 = true
   rotate_left
   ·replace c7 := Bool.eq_false_iff.mpr c7
    subst c7
    replace H := fi H
    obtain rfl := Option.some.inj H
    have p303 : 0 ≤ (x3_1 : Int) := od
    have q303 : x3_1 < (l0.length : Int) := od
    obtain ⟨ad303, A303_2, c303_2, A303_3, c303_3, A303_4, c303_4, e303, hx303_0, hx303_1, hx303_2, hx303_3, hx303_4, hl303_2, hi303_2, hl303_3, hi303_3, hl303_4, hi303_4⟩ := at_T64 HR0.out x3_1 p303 q303
    cases e303
    have HR303_2 := Aside0.mk hi303_2
    have HC303_2 := Aside0.mk hl303_2
    clear hi303_2 hl303_2
    have HR303_3 := Aside0.mk hi303_3
    have HC303_3 := Aside0.mk hl303_3
    clear hi303_3 hl303_3
    have HR303_4 := Aside0.mk hi303_4
    have HC303_4 := Aside0.mk hl303_4
    clear hi303_4 hl303_4
    replace p303 := eq_true p303
    replace q303 := eq_true q303
    go_wp2_with (first | (go_at_call 110; (with_reducible refine (ih k1 (by have := HK1.out; omega) _ _ ((rd_T64 l0 x3_1).f3) false _ ?side1 ?side2 A6.out).mono ?_); (case side1 => exact ca HR303_3); (case side2 => exact HC303_3.out); rintro e w' ⟨rfl, ⟨nd, rfl⟩⟩))
    go_ret
    exact ⟨rs, dr⟩
   subst c7
   replace H := it H
   obtain ⟨t308, A8, H⟩ := be H
   by_cases c9 : t308 = true
   rotate_left
   ·replace c9 := Bool.eq_false_iff.mpr c9
    subst c9
    replace H := fi H
    obtain rfl := Option.some.inj H
    have p303 : 0 ≤ (x3_1 : Int) := od
    have q303 : x3_1 < (l0.length : Int) := od
    obtain ⟨ad303, A303_2, c303_2, A303_3, c303_3, A303_4, c303_4, e303, hx303_0, hx303_1, hx303_2, hx303_3, hx303_4, hl303_2, hi303_2, hl303_3, hi303_3, hl303_4, hi303_4⟩ := at_T64 HR0.out x3_1 p303 q303
    cases e303
    have HR303_2 := Aside0.mk hi303_2
    have HC303_2 := Aside0.mk hl303_2
    clear hi303_2 hl303_2
    have HR303_3 := Aside0.mk hi303_3
    have HC303_3 := Aside0.mk hl303_3
    clear hi303_3 hl303_3
    have HR303_4 := Aside0.mk hi303_4
    have HC303_4 := Aside0.mk hl303_4
    clear hi303_4 hl303_4
    replace p303 := eq_true p303
    replace q303 := eq_true q303
    go_wp2_with (first | (go_at_call 110; (with_reducible refine (ih k1 (by have := HK1.out; omega) _ _ ((rd_T64 l0 x3_1).f3) true _ ?side1 ?side2 A6.out).mono ?_); (case side1 => exact ca HR303_3); (case side2 => exact HC303_3.out); rintro e w' ⟨rfl, ⟨nd, rfl⟩⟩; have p307 : 0 ≤ (x3_1 : Int) := od; have q307 : x3_1 < (l0.length : Int) := od; obtain ⟨ad307, A307_2, c307_2, A307_3, c307_3, A307_4, c307_4, e307, hx307_0, hx307_1, hx307_2, hx307_3, hx307_4, hl307_2, hi307_2, hl307_3, hi307_3, hl307_4, hi307_4⟩ := at_T64 HR0.out x3_1 p307 q307; obtain rfl : ad303 = ad307 := (by injection e307); have HR307_2 := Aside0.mk hi307_2; have HC307_2 := Aside0.mk hl307_2; clear hi307_2 hl307_2; have HR307_3 := Aside0.mk hi307_3; have HC307_3 := Aside0.mk hl307_3; clear hi307_3 hl307_3; have HR307_4 := Aside0.mk hi307_4; have HC307_4 := Aside0.mk hl307_4; clear hi307_4 hl307_4; replace p307 := eq_true p307; replace q307 := eq_true q307; have ea_ := Option.some.inj (hx303_2.symm.trans hx307_2); injection ea_ with ea_ en_ ec_; subst ea_; subst ec_; clear en_; have ea_ := Option.some.inj (hx303_3.symm.trans hx307_3); injection ea_ with ea_ en_ ec_; subst ea_; subst ec_; clear en_; have ea_ := Option.some.inj (hx303_4.symm.trans hx307_4); injection ea_ with ea_ en_ ec_; subst ea_; subst ec_; clear en_) | (go_at_call 110; (with_reducible refine (ih k1 (by have := HK1.out; omega) _ _ ((rd_T64 l0 x3_1).f4) false _ ?side1 ?side2 A8.out).mono ?_); (case side1 => exact ca HR307_4); (case side2 => exact HC307_4.out); rintro e w' ⟨rfl, ⟨nd, rfl⟩⟩))
    go_ret
    exact ⟨rs, dr⟩
   subst c9
   replace H := it H
   have H' := Aside0.mk H
   clear H
   have p303 : 0 ≤ (x3_1 : Int) := od
   have q303 : x3_1 < (l0.length : Int) := od
   obtain ⟨ad303, A303_2, c303_2, A303_3, c303_3, A303_4, c303_4, e303, hx303_0, hx303_1, hx303_2, hx303_3, hx303_4, hl303_2, hi303_2, hl303_3, hi303_3, hl303_4, hi303_4⟩ := at_T64 HR0.out x3_1 p303 q303
   cases e303
   have HR303_2 := Aside0.mk hi303_2
   have HC303_2 := Aside0.mk hl303_2
   clear hi303_2 hl303_2
   have HR303_3 := Aside0.mk hi303_3
   have HC303_3 := Aside0.mk hl303_3
   clear hi303_3 hl303_3
   have HR303_4 := Aside0.mk hi303_4
   have HC303_4 := Aside0.mk hl303_4
   clear hi303_4 hl303_4
   replace p303 := eq_true p303
   replace q303 := eq_true q303
   go_wp2_with (first | (go_at_call 110; (with_reducible refine (ih k1 (by have := HK1.out; omega) _ _ ((rd_T64 l0 x3_1).f3) true _ ?side1 ?side2 A6.out).mono ?_); (case side1 => exact ca HR303_3); (case side2 => exact HC303_3.out); rintro e w' ⟨rfl, ⟨nd, rfl⟩⟩; have p307 : 0 ≤ (x3_1 : Int) := od; have q307 : x3_1 < (l0.length : Int) := od; obtain ⟨ad307, A307_2, c307_2, A307_3, c307_3, A307_4, c307_4, e307, hx307_0, hx307_1, hx307_2, hx307_3, hx307_4, hl307_2, hi307_2, hl307_3, hi307_3, hl307_4, hi307_4⟩ := at_T64 HR0.out x3_1 p307 q307; obtain rfl : ad303 = ad307 := (by injection e307); have HR307_2 := Aside0.mk hi307_2; have HC307_2 := Aside0.mk hl307_2; clear hi307_2 hl307_2; have HR307_3 := Aside0.mk hi307_3; have HC307_3 := Aside0.mk hl307_3; clear hi307_3 hl307_3; have HR307_4 := Aside0.mk hi307_4; have HC307_4 := Aside0.mk hl307_4; clear hi307_4 hl307_4; replace p307 := eq_true p307; replace q307 := eq_true q307; have ea_ := Option.some.inj (hx303_2.symm.trans hx307_2); injection ea_ with ea_ en_ ec_; subst ea_; subst ec_; clear en_; have ea_ := Option.some.inj (hx303_3.symm.trans hx307_3); injection ea_ with ea_ en_ ec_; subst ea_; subst ec_; clear en_; have ea_ := Option.some.inj (hx303_4.symm.trans hx307_4); injection ea_ with ea_ en_ ec_; subst ea_; subst ec_; clear en_) | (go_at_call 110; (with_reducible refine (ih k1 (by have := HK1.out; omega) _ _ ((rd_T64 l0 x3_1).f4) true _ ?side1 ?side2 A8.out).mono ?_); (case side1 => exact ca HR307_4); (case side2 => exact HC307_4.out); rintro e w' ⟨rfl, ⟨nd, rfl⟩⟩))
   go_roundg k1
   case measure => have := HK1.out; omega
   case rel => exact ⟨(wrap64 (x3_1 + 1)), rs, H', ⟨by have := HK1.out; omega⟩, dr⟩
def r3_Single.l0 : Nat → Int → Int → List (S66) → List (S64) → Option (Bool)
 | 0, _, _, _, _ => none
 | k + 1, x3, x314000, x314001, x314002 => if x3 < (x314001.length : Int) then (if 0 ≤ x3 then (if ((rd_T66 x314001 x3).f1) > 15 then (some false) else (r3_Single.l0 k (wrap64 (x3 + 1)) x314000 x314001 x314002)) else (none)) else ((r3_low.f k x314002).bind fun t315 => (some t315))
def r3_Single.f (k : Nat) (a0_0 : Int) (l0_1 : List (S66)) (l0_2 : List (S64)) : Option (Bool) := r3_Single.l0 k 0 a0_0 l0_1 l0_2
theorem r3_Single.calls (k : Nat) (a0_0 : Int) (A0_1 : Option Addr) (c0_1 : Nat) (l0_1 : List (S66)) (A0_2 : Option Addr) (c0_2 : Nat) (l0_2 : List (S64)) (r : Bool) (w : World) (hr0_1 : Kd.C k66 w A0_1 l0_1.length l0_1) (hc0_1 : l0_1.length ≤ c0_1) (hr0_2 : Kd.C k64 w A0_2 l0_2.length l0_2) (hc0_2 : l0_2.length ≤ c0_2) (h : r3_Single.f k a0_0 l0_1 l0_2 = some r) :
  Calls Try.prog 88 #[.agg #[.int .i64 a0_0, .slice A0_1 l0_1.length c0_1, .slice A0_2 l0_2.length c0_2]] w fun e w' => e = .returned (.bool r) ∧ Below w.heap.size w w' := by
 have hu25 := Try.underlying25
 have HR0_1 := Aside0.mk hr0_1
 have HC0_1 := Aside0.mk hc0_1
 clear hr0_1 hc0_1
 have HR0_2 := Aside0.mk hr0_2
 have HC0_2 := Aside0.mk hc0_2
 clear hr0_2 hc0_2
 have HB := Aside0.mk (Below.refl w.heap.size w)
 have H : (r3_Single.l0 k 0 a0_0 l0_1 l0_2) = some r := h
 clear h
 have H' := Aside0.mk H
 clear H
 go_enter Try.func88, Try.ntmps88
 go_wp2_with (first | ((with_reducible refine gate_dst (N := 1) rfl ?_); refine bx 1 rfl rfl #[.int .i64 a0_0, .slice A0_1 l0_1.length c0_1, .slice A0_2 l0_2.length c0_2] 25 ?_; intro gb313 hg w2 hbox hb; have BK313 := Aside0.mk (hbox); have GE313 := ge HB hg; replace HB := sb HB hb; clear hb hbox hg))
 go_loopg [3] k (fun kq v3 w' => ∃ (x3_1 : Int), v3 = .int .i64 x3_1 ∧ Aside0 (r3_Single.l0 kq x3_1 a0_0 l0_1 l0_2 = some r) ∧ Aside0 (kq ≤ k) ∧ Aside0 (w'.heap[gb313]? = some (.cells #[.int .i64 a0_0, (.slice A0_1 l0_1.length c0_1), (.slice A0_2 l0_2.length c0_2)] 25 (0, 0))) ∧ Aside0 (Below w.heap.size w w'))
 case atStart => exact ⟨(0), rs, H', ⟨Nat.le_refl _⟩, ⟨kk BK313⟩, ⟨bb HB⟩⟩
 case round =>
  clear H'
  try clear p2
  obtain ⟨x3_1, rfl, HA, HK1, BK313, HB⟩ := hrel
  cases gk with
  | zero => exact absurd HA.out (by simp [r3_Single.l0])
  | succ k1 =>
   have H := HA.out
   clear HA
   simp only [r3_Single.l0] at H
   by_cases c3 : x3_1 < (l0_1.length : Int)
   rotate_left
   ·rw [if_neg c3] at H
    have c3b0 : decide (x3_1 < (l0_1.length : Int)) = false := decide_eq_false c3
    clear c3
    obtain ⟨t315, A8, H⟩ := be H
    obtain rfl := Option.some.inj H
    obtain ⟨hcz9_0, hcz9_1, hcz9_2, hfz9_0, hfz9_1, hfz9_2⟩ := cf3 BK313.out
    go_wp2_with (first | ((with_reducible refine gate_callee (f := 110) rfl ?_); refine gL (some 20) rfl rfl Try.func110 #[.slice A0_2 l0_2.length c0_2] rfl ?_; (with_reducible refine (r3_low.calls k1 _ _ l0_2 t315 _ ?side1 ?side2 A8.out).mono ?_); (case side1 => exact cb HR0_2 HB); (case side2 => exact HC0_2.out); rintro e w' ⟨rfl, ⟨nd, rfl⟩⟩; refine ⟨_, rfl, ?_⟩))
    go_ret
    exact ⟨rr, bb HB⟩
   rw [if_pos c3] at H
   have c3b0 : decide (x3_1 < (l0_1.length : Int)) = true := decide_eq_true c3
   clear c3
   by_cases c4 : 0 ≤ x3_1
   rotate_left
   ·rw [if_neg c4] at H
    exact absurd H (by simp)
   rw [if_pos c4] at H
   have c4b0 : decide (0 ≤ x3_1) = true := decide_eq_true c4
   clear c4
   by_cases c5 : ((rd_T66 l0_1 x3_1).f1) > 15
   ·rw [if_pos c5] at H
    have c5b0 : decide (15 < ((rd_T66 l0_1 x3_1).f1)) = true := decide_eq_true c5
    clear c5
    obtain rfl := Option.some.inj H
    obtain ⟨hcz6_0, hcz6_1, hcz6_2, hfz6_0, hfz6_1, hfz6_2⟩ := cf3 BK313.out
    have p314 : 0 ≤ (x3_1 : Int) := od
    have q314 : x3_1 < (l0_1.length : Int) := od
    obtain ⟨ad314, e314, hx314_0, hx314_1, hx314_2⟩ := at_T66 HR0_1.out x3_1 p314 q314
    cases e314
    replace hx314_0 := bcell HB.out hx314_0
    replace hx314_1 := bcell HB.out hx314_1
    replace hx314_2 := bcell HB.out hx314_2
    replace p314 := eq_true p314
    replace q314 := eq_true q314
    go_wp2
    go_ret
    exact ⟨rr, bb HB⟩
   rw [if_neg c5] at H
   have c5b0 : decide (15 < ((rd_T66 l0_1 x3_1).f1)) = false := decide_eq_false c5
   clear c5
   have H' := Aside0.mk H
   clear H
   obtain ⟨hcz7_0, hcz7_1, hcz7_2, hfz7_0, hfz7_1, hfz7_2⟩ := cf3 BK313.out
   have p314 : 0 ≤ (x3_1 : Int) := od
   have q314 : x3_1 < (l0_1.length : Int) := od
   obtain ⟨ad314, e314, hx314_0, hx314_1, hx314_2⟩ := at_T66 HR0_1.out x3_1 p314 q314
   cases e314
   replace hx314_0 := bcell HB.out hx314_0
   replace hx314_1 := bcell HB.out hx314_1
   replace hx314_2 := bcell HB.out hx314_2
   replace p314 := eq_true p314
   replace q314 := eq_true q314
   go_wp2
   go_roundg k1
   case measure => have := HK1.out; omega
   case rel => exact ⟨(wrap64 (x3_1 + 1)), rs, H', ⟨by have := HK1.out; omega⟩, ⟨kk BK313⟩, ⟨bb HB⟩⟩
def r12_Single.f (k : Nat) (a0_0 : Int) (l0_1 : List (S66)) (l0_2 : List (S64)) : Option (Int) := (r3_Is.f k a0_0 l0_1 l0_2).bind fun t317 => (if t317 = true then ((r3_Single.f k a0_0 l0_1 l0_2).bind fun t318 => (if t318 = true then (some 0) else (some 1))) else (some 30))
theorem r12_Single.calls (k : Nat) (a0_0 : Int) (A0_1 : Option Addr) (c0_1 : Nat) (l0_1 : List (S66)) (A0_2 : Option Addr) (c0_2 : Nat) (l0_2 : List (S64)) (r : Int) (w : World) (hr0_1 : Kd.C k66 w A0_1 l0_1.length l0_1) (hc0_1 : l0_1.length ≤ c0_1) (hr0_2 : Kd.C k64 w A0_2 l0_2.length l0_2) (hc0_2 : l0_2.length ≤ c0_2) (h : r12_Single.f k a0_0 l0_1 l0_2 = some r) :
  Calls Try.prog 52 #[.agg #[.int .i64 a0_0, .slice A0_1 l0_1.length c0_1, .slice A0_2 l0_2.length c0_2]] w fun e w' => e = .returned (.int .i64 r) ∧ Below w.heap.size w w' := by
 have hu25 := Try.underlying25
 have HR0_1 := Aside0.mk hr0_1
 have HC0_1 := Aside0.mk hc0_1
 clear hr0_1 hc0_1
 have HR0_2 := Aside0.mk hr0_2
 have HC0_2 := Aside0.mk hc0_2
 clear hr0_2 hc0_2
 have HB := Aside0.mk (Below.refl w.heap.size w)
 have H : ((r3_Is.f k a0_0 l0_1 l0_2).bind fun t317 => (if t317 = true then ((r3_Single.f k a0_0 l0_1 l0_2).bind fun t318 => (if t318 = true then (some 0) else (some 1))) else (some 30))) = some r := h
 clear h
 obtain ⟨t317, A2, H⟩ := be H
 by_cases c3 : t317 = true
 rotate_left
 ·replace c3 := Bool.eq_false_iff.mpr c3
  subst c3
  replace H := fi H
  obtain rfl := Option.some.inj H
  go_enter Try.func52, Try.ntmps52
  go_wp2_with (first | ((with_reducible refine gate_dst (N := 1) rfl ?_); refine bx 1 rfl rfl #[.int .i64 a0_0, .slice A0_1 l0_1.length c0_1, .slice A0_2 l0_2.length c0_2] 25 ?_; intro gb316 hg w16 hbox hb; have BK316 := Aside0.mk (hbox); have GE316 := ge HB hg; replace HB := sb HB hb; clear hb hbox hg; obtain ⟨hcz17_0, hcz17_1, hcz17_2, hfz17_0, hfz17_1, hfz17_2⟩ := cf3 BK316.out) | ((with_reducible refine gate_callee (f := 87) rfl ?_); refine gL (some 4) rfl rfl Try.func87 #[.agg #[.int .i64 a0_0, .slice A0_1 l0_1.length c0_1, .slice A0_2 l0_2.length c0_2]] rfl ?_; (with_reducible refine (r3_Is.calls k a0_0 _ _ l0_1 _ _ l0_2 false _ ?side1 ?side2 ?side3 ?side4 A2.out).mono ?_); (case side1 => exact cb HR0_1 HB); (case side2 => exact HC0_1.out); (case side3 => exact cb HR0_2 HB); (case side4 => exact HC0_2.out); rintro e w18 ⟨rfl, hb⟩; refine ⟨_, rfl, ?_⟩; replace BK316 := kb BK316 hb; replace HB := sb HB hb; (try clear hb)))
  go_ret
  exact ⟨rr, bb HB⟩
 subst c3
 replace H := it H
 obtain ⟨t318, A4, H⟩ := be H
 by_cases c5 : t318 = true
 ·subst c5
  replace H := it H
  obtain rfl := Option.some.inj H
  go_enter Try.func52, Try.ntmps52
  go_wp2_with (first | ((with_reducible refine gate_dst (N := 1) rfl ?_); refine bx 1 rfl rfl #[.int .i64 a0_0, .slice A0_1 l0_1.length c0_1, .slice A0_2 l0_2.length c0_2] 25 ?_; intro gb316 hg w6 hbox hb; have BK316 := Aside0.mk (hbox); have GE316 := ge HB hg; replace HB := sb HB hb; clear hb hbox hg; obtain ⟨hcz7_0, hcz7_1, hcz7_2, hfz7_0, hfz7_1, hfz7_2⟩ := cf3 BK316.out) | ((with_reducible refine gate_callee (f := 87) rfl ?_); refine gL (some 4) rfl rfl Try.func87 #[.agg #[.int .i64 a0_0, .slice A0_1 l0_1.length c0_1, .slice A0_2 l0_2.length c0_2]] rfl ?_; (with_reducible refine (r3_Is.calls k a0_0 _ _ l0_1 _ _ l0_2 true _ ?side1 ?side2 ?side3 ?side4 A2.out).mono ?_); (case side1 => exact cb HR0_1 HB); (case side2 => exact HC0_1.out); (case side3 => exact cb HR0_2 HB); (case side4 => exact HC0_2.out); rintro e w8 ⟨rfl, hb⟩; refine ⟨_, rfl, ?_⟩; replace BK316 := kb BK316 hb; replace HB := sb HB hb; (try clear hb); obtain ⟨hcz9_0, hcz9_1, hcz9_2, hfz9_0, hfz9_1, hfz9_2⟩ := cf3 BK316.out) | ((with_reducible refine gate_callee (f := 88) rfl ?_); refine gL (some 7) rfl rfl Try.func88 #[.agg #[.int .i64 a0_0, .slice A0_1 l0_1.length c0_1, .slice A0_2 l0_2.length c0_2]] rfl ?_; (with_reducible refine (r3_Single.calls k a0_0 _ _ l0_1 _ _ l0_2 true _ ?side1 ?side2 ?side3 ?side4 A4.out).mono ?_); (case side1 => exact cb HR0_1 HB); (case side2 => exact HC0_1.out); (case side3 => exact cb HR0_2 HB); (case side4 => exact HC0_2.out); rintro e w10 ⟨rfl, hb⟩; refine ⟨_, rfl, ?_⟩; replace BK316 := kb BK316 hb; replace HB := sb HB hb; (try clear hb)))
  go_ret
  exact ⟨rr, bb HB⟩
 replace c5 := Bool.eq_false_iff.mpr c5
 subst c5
 replace H := fi H
 obtain rfl := Option.some.inj H
 go_enter Try.func52, Try.ntmps52
 go_wp2_with (first | ((with_reducible refine gate_dst (N := 1) rfl ?_); refine bx 1 rfl rfl #[.int .i64 a0_0, .slice A0_1 l0_1.length c0_1, .slice A0_2 l0_2.length c0_2] 25 ?_; intro gb316 hg w11 hbox hb; have BK316 := Aside0.mk (hbox); have GE316 := ge HB hg; replace HB := sb HB hb; clear hb hbox hg; obtain ⟨hcz12_0, hcz12_1, hcz12_2, hfz12_0, hfz12_1, hfz12_2⟩ := cf3 BK316.out) | ((with_reducible refine gate_callee (f := 87) rfl ?_); refine gL (some 4) rfl rfl Try.func87 #[.agg #[.int .i64 a0_0, .slice A0_1 l0_1.length c0_1, .slice A0_2 l0_2.length c0_2]] rfl ?_; (with_reducible refine (r3_Is.calls k a0_0 _ _ l0_1 _ _ l0_2 true _ ?side1 ?side2 ?side3 ?side4 A2.out).mono ?_); (case side1 => exact cb HR0_1 HB); (case side2 => exact HC0_1.out); (case side3 => exact cb HR0_2 HB); (case side4 => exact HC0_2.out); rintro e w13 ⟨rfl, hb⟩; refine ⟨_, rfl, ?_⟩; replace BK316 := kb BK316 hb; replace HB := sb HB hb; (try clear hb); obtain ⟨hcz14_0, hcz14_1, hcz14_2, hfz14_0, hfz14_1, hfz14_2⟩ := cf3 BK316.out) | ((with_reducible refine gate_callee (f := 88) rfl ?_); refine gL (some 7) rfl rfl Try.func88 #[.agg #[.int .i64 a0_0, .slice A0_1 l0_1.length c0_1, .slice A0_2 l0_2.length c0_2]] rfl ?_; (with_reducible refine (r3_Single.calls k a0_0 _ _ l0_1 _ _ l0_2 false _ ?side1 ?side2 ?side3 ?side4 A4.out).mono ?_); (case side1 => exact cb HR0_1 HB); (case side2 => exact HC0_1.out); (case side3 => exact cb HR0_2 HB); (case side4 => exact HC0_2.out); rintro e w15 ⟨rfl, hb⟩; refine ⟨_, rfl, ?_⟩; replace BK316 := kb BK316 hb; replace HB := sb HB hb; (try clear hb)))
 go_ret
 exact ⟨rr, bb HB⟩
def r12_Copies.f (k : Nat) (a0_0 : Int) (l0_1 : List (S66)) (l0_2 : List (S64)) (a1 : Int) : Option (Int) := (r12_Single.f k a0_0 l0_1 l0_2).bind fun t320 => (if t320 = 0 then (if a1 < 1 then (some 1) else (if a1 > 3 then (some 1) else (some 0))) else (some t320))
theorem r12_Copies.calls (k : Nat) (a0_0 : Int) (A0_1 : Option Addr) (c0_1 : Nat) (l0_1 : List (S66)) (A0_2 : Option Addr) (c0_2 : Nat) (l0_2 : List (S64)) (a1 : Int) (r : Int) (w : World) (hr0_1 : Kd.C k66 w A0_1 l0_1.length l0_1) (hc0_1 : l0_1.length ≤ c0_1) (hr0_2 : Kd.C k64 w A0_2 l0_2.length l0_2) (hc0_2 : l0_2.length ≤ c0_2) (h : r12_Copies.f k a0_0 l0_1 l0_2 a1 = some r) :
  Calls Try.prog 18 #[.agg #[.int .i64 a0_0, .slice A0_1 l0_1.length c0_1, .slice A0_2 l0_2.length c0_2], .int .i64 a1] w fun e w' => e = .returned (.int .i64 r) ∧ Below w.heap.size w w' := by
 have hu25 := Try.underlying25
 have HR0_1 := Aside0.mk hr0_1
 have HC0_1 := Aside0.mk hc0_1
 clear hr0_1 hc0_1
 have HR0_2 := Aside0.mk hr0_2
 have HC0_2 := Aside0.mk hc0_2
 clear hr0_2 hc0_2
 have HB := Aside0.mk (Below.refl w.heap.size w)
 have H : ((r12_Single.f k a0_0 l0_1 l0_2).bind fun t320 => (if t320 = 0 then (if a1 < 1 then (some 1) else (if a1 > 3 then (some 1) else (some 0))) else (some t320))) = some r := h
 clear h
 obtain ⟨t320, A3, H⟩ := be H
 by_cases c4 : t320 = 0
 rotate_left
 ·rw [if_neg c4] at H
  have c4b0 : (t320 == 0) = false := beq_eq_false_iff_ne.mpr c4
  have c4b1 : (t320 != 0) = true := bne_iff_ne.mpr c4
  obtain rfl := Option.some.inj H
  go_enter Try.func18, Try.ntmps18
  go_wp2_with (first | ((with_reducible refine gate_dst (N := 2) rfl ?_); refine bx 2 rfl rfl #[.int .i64 a0_0, .slice A0_1 l0_1.length c0_1, .slice A0_2 l0_2.length c0_2] 25 ?_; intro gb319 hg w16 hbox hb; have BK319 := Aside0.mk (hbox); have GE319 := ge HB hg; replace HB := sb HB hb; clear hb hbox hg; obtain ⟨hcz17_0, hcz17_1, hcz17_2, hfz17_0, hfz17_1, hfz17_2⟩ := cf3 BK319.out) | ((with_reducible refine gate_callee (f := 52) rfl ?_); refine gL (some 7) rfl rfl Try.func52 #[.agg #[.int .i64 a0_0, .slice A0_1 l0_1.length c0_1, .slice A0_2 l0_2.length c0_2]] rfl ?_; (with_reducible refine (r12_Single.calls k a0_0 _ _ l0_1 _ _ l0_2 t320 _ ?side1 ?side2 ?side3 ?side4 A3.out).mono ?_); (case side1 => exact cb HR0_1 HB); (case side2 => exact HC0_1.out); (case side3 => exact cb HR0_2 HB); (case side4 => exact HC0_2.out); rintro e w18 ⟨rfl, hb⟩; refine ⟨_, rfl, ?_⟩; replace BK319 := kb BK319 hb; replace HB := sb HB hb; (try clear hb)))
  go_ret
  exact ⟨rr, bb HB⟩
 rw [if_pos c4] at H
 have c4b0 : (t320 == 0) = true := beq_iff_eq.mpr c4
 have c4b1 : (t320 != 0) = false := bne_eq_false_iff_eq.mpr c4
 clear c4
 by_cases c5 : a1 < 1
 ·rw [if_pos c5] at H
  have c5b0 : decide (a1 < 1) = true := decide_eq_true c5
  clear c5
  obtain rfl := Option.some.inj H
  go_enter Try.func18, Try.ntmps18
  go_wp2_with (first | ((with_reducible refine gate_dst (N := 2) rfl ?_); refine bx 2 rfl rfl #[.int .i64 a0_0, .slice A0_1 l0_1.length c0_1, .slice A0_2 l0_2.length c0_2] 25 ?_; intro gb319 hg w6 hbox hb; have BK319 := Aside0.mk (hbox); have GE319 := ge HB hg; replace HB := sb HB hb; clear hb hbox hg; obtain ⟨hcz7_0, hcz7_1, hcz7_2, hfz7_0, hfz7_1, hfz7_2⟩ := cf3 BK319.out) | ((with_reducible refine gate_callee (f := 52) rfl ?_); refine gL (some 7) rfl rfl Try.func52 #[.agg #[.int .i64 a0_0, .slice A0_1 l0_1.length c0_1, .slice A0_2 l0_2.length c0_2]] rfl ?_; (with_reducible refine (r12_Single.calls k a0_0 _ _ l0_1 _ _ l0_2 t320 _ ?side1 ?side2 ?side3 ?side4 A3.out).mono ?_); (case side1 => exact cb HR0_1 HB); (case side2 => exact HC0_1.out); (case side3 => exact cb HR0_2 HB); (case side4 => exact HC0_2.out); rintro e w8 ⟨rfl, hb⟩; refine ⟨_, rfl, ?_⟩; replace BK319 := kb BK319 hb; replace HB := sb HB hb; (try clear hb)))
  go_ret
  exact ⟨rr, bb HB⟩
 rw [if_neg c5] at H
 have c5b0 : decide (a1 < 1) = false := decide_eq_false c5
 clear c5
 by_cases c9 : a1 > 3
 ·rw [if_pos c9] at H
  have c9b0 : decide (3 < a1) = true := decide_eq_true c9
  clear c9
  obtain rfl := Option.some.inj H
  go_enter Try.func18, Try.ntmps18
  go_wp2_with (first | ((with_reducible refine gate_dst (N := 2) rfl ?_); refine bx 2 rfl rfl #[.int .i64 a0_0, .slice A0_1 l0_1.length c0_1, .slice A0_2 l0_2.length c0_2] 25 ?_; intro gb319 hg w10 hbox hb; have BK319 := Aside0.mk (hbox); have GE319 := ge HB hg; replace HB := sb HB hb; clear hb hbox hg; obtain ⟨hcz11_0, hcz11_1, hcz11_2, hfz11_0, hfz11_1, hfz11_2⟩ := cf3 BK319.out) | ((with_reducible refine gate_callee (f := 52) rfl ?_); refine gL (some 7) rfl rfl Try.func52 #[.agg #[.int .i64 a0_0, .slice A0_1 l0_1.length c0_1, .slice A0_2 l0_2.length c0_2]] rfl ?_; (with_reducible refine (r12_Single.calls k a0_0 _ _ l0_1 _ _ l0_2 t320 _ ?side1 ?side2 ?side3 ?side4 A3.out).mono ?_); (case side1 => exact cb HR0_1 HB); (case side2 => exact HC0_1.out); (case side3 => exact cb HR0_2 HB); (case side4 => exact HC0_2.out); rintro e w12 ⟨rfl, hb⟩; refine ⟨_, rfl, ?_⟩; replace BK319 := kb BK319 hb; replace HB := sb HB hb; (try clear hb)))
  go_ret
  exact ⟨rr, bb HB⟩
 rw [if_neg c9] at H
 have c9b0 : decide (3 < a1) = false := decide_eq_false c9
 clear c9
 obtain rfl := Option.some.inj H
 go_enter Try.func18, Try.ntmps18
 go_wp2_with (first | ((with_reducible refine gate_dst (N := 2) rfl ?_); refine bx 2 rfl rfl #[.int .i64 a0_0, .slice A0_1 l0_1.length c0_1, .slice A0_2 l0_2.length c0_2] 25 ?_; intro gb319 hg w13 hbox hb; have BK319 := Aside0.mk (hbox); have GE319 := ge HB hg; replace HB := sb HB hb; clear hb hbox hg; obtain ⟨hcz14_0, hcz14_1, hcz14_2, hfz14_0, hfz14_1, hfz14_2⟩ := cf3 BK319.out) | ((with_reducible refine gate_callee (f := 52) rfl ?_); refine gL (some 7) rfl rfl Try.func52 #[.agg #[.int .i64 a0_0, .slice A0_1 l0_1.length c0_1, .slice A0_2 l0_2.length c0_2]] rfl ?_; (with_reducible refine (r12_Single.calls k a0_0 _ _ l0_1 _ _ l0_2 t320 _ ?side1 ?side2 ?side3 ?side4 A3.out).mono ?_); (case side1 => exact cb HR0_1 HB); (case side2 => exact HC0_1.out); (case side3 => exact cb HR0_2 HB); (case side4 => exact HC0_2.out); rintro e w15 ⟨rfl, hb⟩; refine ⟨_, rfl, ?_⟩; replace BK319 := kb BK319 hb; replace HB := sb HB hb; (try clear hb)))
 go_ret
 exact ⟨rr, bb HB⟩
mutual
def lowS : S64 → Bool
  | ⟨op, m, _, t, e⟩ => !(decide (op = 3) && decide (m > 15)) && (lowB t && lowB e)
def lowB : List S64 → Bool
  | [] => true
  | x :: r => lowS x && lowB r
end
theorem lowS_eq (x : S64) : lowS x = (!(decide (x.f0 = 3) && decide (x.f1 > 15)) && (lowB x.f3 && lowB x.f4)) := by cases x; simp only [lowS]
theorem lowB_nil : lowB [] = true := by simp only [lowB]
theorem lowB_cons (x : S64) (r : List S64) : lowB (x :: r) = (lowS x && lowB r) := by simp only [lowB]
theorem wks_low : (∀ x : S64, (∀ n, (wks n x.f3).any (fun x => decide (x.2.f0 = 3) && decide (x.2.f1 > 15)) = !lowB x.f3) ∧ (∀ n, (wks n x.f4).any (fun x => decide (x.2.f0 = 3) && decide (x.2.f1 > 15)) = !lowB x.f4)) ∧
    (∀ l, ∀ n, (wks n l).any (fun x => decide (x.2.f0 = 3) && decide (x.2.f1 > 15)) = !lowB l) := by
  refine S_ind (fun a b l t e h1 h2 => ⟨h1, h2⟩) ?_ (fun x r ih1 ih2 => ?_)
  · intro n
    rw [wks_nil, lowB_nil]
    rfl
  · intro n
    rw [wks_cons, wkS_eq, lowB_cons, lowS_eq, List.any_append, List.any_cons, List.any_append, ih1.1, ih1.2, ih2]
    cases decide (x.f0 = 3) && decide (x.f1 > 15) <;> cases lowB x.f3 <;> cases lowB x.f4 <;> cases lowB r <;> rfl
theorem low_tells : (∀ x, goodS x → Tells (fun k => r3_low.f k x.f3) (lowB x.f3) ∧ Tells (fun k => r3_low.f k x.f4) (lowB x.f4)) ∧
    (∀ suf, ∀ (pre : List S64), goodSs suf → (pre ++ suf).length ≤ 9223372036854775807 → Tells (fun k => r3_low.l0 k (pre ++ suf) (pre.length : Int)) (lowB suf)) := by
  refine S_ind (fun a b l t e h1 h2 => ?_) ?_ (fun x r ih1 ih2 => ?_)
  · intro hg
    rw [goodS_mk] at hg
    constructor
    · refine Tells.succ ?_
      simp only [r3_low.f]
      exact h1 [] hg.2.1.2 hg.2.1.1
    · refine Tells.succ ?_
      simp only [r3_low.f]
      exact h2 [] hg.2.2.2 hg.2.2.1
  · intro pre _ _
    refine Tells.succ ?_
    simp only [r3_low.l0, pre_nlt, if_false]
    rw [lowB_nil]
    exact Tells.pure _
  · intro pre hg hl
    rw [goodSs_cons] at hg
    obtain ⟨t1, t2⟩ := ih1 hg.1
    have t3 := ih2 (pre ++ [x]) hg.2 (by rw [← pre_app]; exact hl)
    rw [← pre_app] at t3
    refine Tells.succ ?_
    simp only [r3_low.l0, pre_lt, pre_pos, if_true, rdS_mid]
    rw [pre_next pre x r hl, lowB_cons, lowS_eq, Bool.and_assoc, Bool.and_assoc]
    by_cases h3 : x.f0 = 3
    · refine Tells.ifT h3 ?_
      rw [decide_eq_true h3, Bool.true_and]
      by_cases h15 : x.f1 > 15
      · rw [decide_eq_true h15, Bool.not_true, Bool.false_and]
        exact Tells.ifT h15 (Tells.pure _)
      · rw [decide_eq_false h15, Bool.not_false, Bool.true_and]
        exact Tells.ifF h15 (Tells.bind t1 (Tells.ifB (Tells.bind t2 (Tells.ifB t3))))
    · refine Tells.ifF h3 ?_
      rw [decide_eq_false h3, Bool.false_and, Bool.not_false, Bool.true_and]
      exact Tells.bind t1 (Tells.ifB (Tells.bind t2 (Tells.ifB t3)))
theorem single_loop (w : Int) (body : List S64) (hl : body.length ≤ 9223372036854775807) (hg : goodSs body) : ∀ (suf pre : List S66), (pre ++ suf).length ≤ 18 →
    Tells (fun k => r3_Single.l0 k (pre.length : Int) w (pre ++ suf) body) (!(suf.any (fun v => decide (v.f1 > 15))) && lowB body)
  | [], pre, _ => by
    refine Tells.succ ?_
    simp only [r3_Single.l0, pre_nlt, if_false, List.any_nil, Bool.not_false, Bool.true_and]
    refine Tells.id' (Tells.succ ?_)
    simp only [r3_low.f]
    exact low_tells.2 body [] hg hl
  | v :: r, pre, h => by
    refine Tells.succ ?_
    simp only [r3_Single.l0, pre_lt, pre_pos, if_true, rdV_mid, List.any_cons]
    by_cases h15 : v.f1 > 15
    · rw [decide_eq_true h15, Bool.true_or, Bool.not_true, Bool.false_and]
      exact Tells.ifT h15 (Tells.pure _)
    · rw [decide_eq_false h15, Bool.false_or]
      refine Tells.ifF h15 ?_
      rw [pre_next pre v r (by omega)]
      have := single_loop w body hl hg r (pre ++ [v]) (by rw [← pre_app]; exact h)
      rw [← pre_app] at this
      exact this
def sgB (vars : List S66) (body : List S64) : Bool := !(vars.any (fun v => decide (v.f1 > 15))) && lowB body
theorem single_tells (w : Int) (vars : List S66) (body : List S64) (hl : body.length ≤ 9223372036854775807) (hg : goodSs body) (hp : pIs w vars body = true) :
    Tells (fun k => prog_Single.f k w vars body) (sgB vars body, 0) ∧ Tells (fun k => r3_Single.f k w vars body) (sgB vars body) := by
  have tc := pCheck_tells w vars body hl hg
  rw [hp] at tc
  obtain ⟨hh, hn4⟩ := pIs_all hp
  obtain ⟨h1, h8, _, h18, hv0, _⟩ := hIs_all hh
  have hle := (s_le.2 body).1
  unfold sgB
  constructor
  · unfold prog_Single.f
    refine Tells.bind tc (Tells.ifT rfl ?_)
    cases vars.any (fun v => decide (v.f1 > 15))
    · refine Tells.ifF (by decide) ?_
      have tw : Tells (fun k => prog_walk.f k body 0) (wks 0 body, 0 + sCs body) := by
        refine Tells.succ ?_
        simp only [prog_walk.f]
        exact walk_tells.2 body [] hg hl 0 (by decide) (by omega)
      refine Tells.bind tw ?_
      have e := wks_low.2 body 0
      simp only [e, Bool.not_not, Bool.not_false, Bool.true_and]
      exact Tells.pure _
    · exact Tells.ifT rfl (Tells.pure _)
  · unfold r3_Single.f
    exact single_loop w body hl hg vars [] h18
def sgE (w : Int) (vars : List S66) (body : List S64) : Int := if pIs w vars body = true then (if sgB vars body = true then 0 else 1) else 30
theorem prodSingle_tells (w : Int) (vars : List S66) (body : List S64) (hl : body.length ≤ 9223372036854775807) (hg : goodSs body) : Tells (fun k => prod_single.f k w vars body) (sgE w vars body) := by
  unfold prod_single.f sgE
  cases hp : pIs w vars body
  · have tc := pCheck_tells w vars body hl hg
    rw [hp] at tc
    have t : Tells (fun k => prog_Single.f k w vars body) (false, 30) := by
      unfold prog_Single.f
      exact Tells.bind tc (Tells.ifF (by decide) (Tells.pure _))
    exact Tells.bind t (Tells.ifF (by decide) (Tells.pure _))
  · refine Tells.bind (single_tells w vars body hl hg hp).1 (Tells.ifT rfl ?_)
    cases sgB vars body
    · exact Tells.ifF (by decide) (Tells.pure _)
    · exact Tells.ifT rfl (Tells.pure _)
theorem refSingle_tells (w : Int) (vars : List S66) (body : List S64) (hl : body.length ≤ 9223372036854775807) (hg : goodSs body) : Tells (fun k => r12_Single.f k w vars body) (sgE w vars body) := by
  unfold r12_Single.f sgE
  have ti := pIs_tells w vars body hl hg
  cases hp : pIs w vars body
  · rw [hp] at ti
    exact Tells.bind ti (Tells.ifF (by decide) (Tells.pure _))
  · rw [hp] at ti
    refine Tells.bind ti (Tells.ifT rfl (Tells.bind (single_tells w vars body hl hg hp).2 ?_))
    cases sgB vars body
    · exact Tells.ifF (by decide) (Tells.pure _)
    · exact Tells.ifT rfl (Tells.pure _)
def cpE (w : Int) (vars : List S66) (body : List S64) (n : Int) : Int := if sgE w vars body = 0 then (if n < 1 then 1 else if n > 3 then 1 else 0) else sgE w vars body
theorem Copies_tells (w : Int) (vars : List S66) (body : List S64) (hl : body.length ≤ 9223372036854775807) (hg : goodSs body) (n : Int) : Tells (fun k => r12_Copies.f k w vars body n) (cpE w vars body n) := by
  unfold r12_Copies.f cpE
  refine Tells.bind (refSingle_tells w vars body hl hg) ?_
  by_cases h : sgE w vars body = 0
  · refine Tells.ifT h ?_
    rw [if_pos h]
    by_cases h1 : n < 1
    · refine Tells.ifT h1 ?_
      rw [if_pos h1]
      exact Tells.pure _
    · refine Tells.ifF h1 ?_
      rw [if_neg h1]
      by_cases h3 : n > 3
      · refine Tells.ifT h3 ?_
        rw [if_pos h3]
        exact Tells.pure _
      · refine Tells.ifF h3 ?_
        rw [if_neg h3]
        exact Tells.pure _
  · refine Tells.ifF h ?_
    rw [if_neg h]
    exact Tells.pure _
theorem eNs_len : ∀ l : List S28, l.length ≤ eNs l
  | [] => Nat.zero_le _
  | x :: r => by
    have := eNs_len r
    have := eN_pos x
    rw [eNs_cons, List.length_cons]
    omega
theorem E_eta (x : S28) : (⟨x.f0, x.f1, x.f2, x.f3⟩ : S28) = x := by cases x; rfl
theorem S_eta (x : S64) : (⟨x.f0, x.f1, x.f2, x.f3, x.f4⟩ : S64) = x := by cases x; rfl
theorem sN_pos (x : S64) : 1 ≤ sN x := by rw [sN_eq]; omega
theorem sNs_len : ∀ l : List S64, l.length ≤ sNs l
  | [] => Nat.zero_le _
  | x :: r => by
    have := sNs_len r
    have := sN_pos x
    rw [sNs_cons, List.length_cons]
    omega
end Go.Proofs.Ytilebfkehmecaaa.Print
namespace Go.Proofs.Ytilebfkehmecaaa.Print
open Go.RowKit Go.Proofs.YtilebfkehmecaaaW.PrintWords Go.Proofs.YtilebfkehmecaaaW.PrintLast Go.Proofs.YtilebfkehmecaaaW.PrintMore
attribute [local go_sem] max2_int min2_int max_two min_two max_three min_three max_four min_four
set_option linter.unusedVariables false
set_option linter.unusedSimpArgs false
open Go.RowKit
def prod_tag.f (_ : Nat) (a0 : Int) : Option ByteArray := if a0 = 0 then some ⟨#[95, 48]⟩ else if a0 = 1 then some ⟨#[95, 49]⟩ else if a0 = 2 then some ⟨#[95, 50]⟩ else none
theorem prod_tag.calls (k : Nat) (a0 : Int) (r : ByteArray) (w : World) (h : prod_tag.f k a0 = some r) : Calls Try.prog 80 #[.int .i64 a0] w fun e w' => e = .returned (.string r) ∧ Below w.heap.size w w' := by
  unfold prod_tag.f at h
  have hc : (a0 = 0 ∧ r = ⟨#[95, 48]⟩) ∨ (a0 = 1 ∧ r = ⟨#[95, 49]⟩) ∨ (a0 = 2 ∧ r = ⟨#[95, 50]⟩) := by
    by_cases h0 : a0 = 0
    · rw [if_pos h0] at h; exact .inl ⟨h0, (Option.some.inj h).symm⟩
    · rw [if_neg h0] at h
      by_cases h1 : a0 = 1
      · rw [if_pos h1] at h; exact .inr (.inl ⟨h1, (Option.some.inj h).symm⟩)
      · rw [if_neg h1] at h
        by_cases h2 : a0 = 2
        · rw [if_pos h2] at h; exact .inr (.inr ⟨h2, (Option.some.inj h).symm⟩)
        · rw [if_neg h2] at h; cases h
  clear h
  rcases hc with ⟨rfl, rfl⟩ | ⟨rfl, rfl⟩ | ⟨rfl, rfl⟩
  all_goals
    go_enter Try.func80, Try.ntmps80
    go_wp2
    go_ret
    exact ⟨rfl, Below.refl _ _⟩
end Go.Proofs.Ytilebfkehmecaaa.Print
namespace Go.Proofs.Ytilebfkehmecaaa.Print
open Go.RowKit Go.Proofs.YtilebfkehmecaaaW.PrintWords Go.Proofs.YtilebfkehmecaaaW.PrintLast Go.Proofs.YtilebfkehmecaaaW.PrintMore
attribute [local go_sem] max2_int min2_int max_two min_two max_three min_three max_four min_four
set_option linter.unusedVariables false
set_option linter.unusedSimpArgs false
def prod_variables.l0 : Nat → Int → List (S66) → List (S66) → Int → Int → Option ((List (S66)))
 | 0, _, _, _, _, _ => none
 | k + 1, x1, x5, x8, x9, x10 => if x10 < x9 then (if 0 ≤ x10 then (if x10 < (x8.length : Int) then ((prod_tag.f k x1).bind fun t149 => (if ((rd_T66 x8 x10).f0).size + t149.size ≤ 9223372036854775807 then (if x5.length < 4398046511104 then (prod_variables.l0 k x1 (x5 ++ [(⟨((rd_T66 x8 x10).f0) ++ t149, wrap64 (((rd_T66 x8 x10).f1) + (wrap64 (16 * x1))), (rd_T66 x8 x10).f2⟩ : S66)]) x8 x9 (wrap64 (x10 + 1))) else (none)) else (none))) else (none)) else (none)) else (some x5)
def prod_variables.f (k : Nat) (l0 : List (S66)) (a1 : Int) : Option ((List (S66))) := prod_variables.l0 k a1 ([] : List (S66)) l0 (l0.length : Int) 0
def prod_variables.T5 : Bool × List (List Nat × List Nat) := (true, [([], []), ([], []), ([1], [1]), ([], []), ([3], [3]), ([2, 4], [2, 4]), ([], []), ([6], [6]), ([], []), ([8], [8]), ([7, 9], [7, 9]), ([], []), ([11], [11]), ([5, 10, 12], [5, 10, 12]), ([13], [13]), ([0, 14, 4], [0, 14]), ([15, 15, 0, 1, 2, 3, 4, 5, 6, 7, 8, 9, 10, 11, 12, 13, 14, 15], [0, 15])])
def prod_variables.B5 : List Nat := [0, 0, 2, 0, 8, 30, 0, 64, 0, 256, 960, 0, 2048, 8190, 16382, 32767, 65535]
theorem prod_variables.tab5 : rtab .any (opsOf Try.f45 5) = prod_variables.T5 := by kernel_rfl
theorem prod_variables.bits5 : waitsOk prod_variables.T5.2 prod_variables.B5 = true := by kernel_rfl
theorem prod_variables.calls (k : Nat) (A0 : Option Addr) (c0 : Nat) (l0 : List (S66)) (a1 : Int) (r : List (S66)) (w : World) (hr0 : Kd.C k66 w A0 l0.length l0) (hc0 : l0.length ≤ c0) (h : prod_variables.f k l0 a1 = some r) :
  Calls Try.prog 45 #[.slice A0 l0.length c0, .int .i64 a1] w fun e w' => ∃ v0_ : Value, e = .returned (v0_) ∧ Kd.R k66 66 w' w.heap.size (fun _ => True) v0_ r ∧ Below w.heap.size w w' := by
 have hu66 := Try.underlying66
 have HR0 := Aside0.mk hr0
 have HC0 := Aside0.mk hc0
 clear hr0 hc0
 have HB := Aside0.mk (Below.refl w.heap.size w)
 have H : (prod_variables.l0 k a1 ([] : List (S66)) l0 (l0.length : Int) 0) = some r := h
 clear h
 have H' := Aside0.mk H
 clear H
 go_enter Try.func45, Try.ntmps45
 go_wp2
 go_loopg [5, 10] k (fun kq v5 v10 w' => ∃ (x5_1 : List (S66)) (x10_1 : Int), v10 = .int .i64 x10_1 ∧ Aside0 (prod_variables.l0 kq a1 x5_1 l0 (l0.length : Int) x10_1 = some r) ∧ Aside0 (kq ≤ k) ∧ Aside0 (Kd.R k66 66 w' w.heap.size (fun _ => True) v5 x5_1) ∧ Aside0 (Below w.heap.size w w'))
 case atStart => exact ⟨(([] : List (S66))), (0), rs, H', ⟨Nat.le_refl _⟩, ⟨by first | exact Kd.R_nil _ _ _ _ _ | exact Kd.N_nil _ _ _ _ _ | exact Kd.V_nil _ _ _ _ _ | exact Kd.Q_nil _ _ _ _ _ | exact Kd.S_nil _ _ _ _ _⟩, ⟨bb HB⟩⟩
 case round =>
  clear H'
  try clear p2
  obtain ⟨x5_1, x10_1, rfl, HA, HK1, HO_5, HB⟩ := hrel
  cases gk with
  | zero => exact absurd HA.out (by simp [prod_variables.l0])
  | succ k1 =>
   have H := HA.out
   clear HA
   simp only [prod_variables.l0] at H
   by_cases c3 : x10_1 < (l0.length : Int)
   rotate_left
   ·rw [if_neg c3] at H
    have c3b0 : decide (x10_1 < (l0.length : Int)) = false := decide_eq_false c3
    clear c3
    obtain rfl := Option.some.inj H
    go_wp2
    go_ret
    exact ⟨_, rr, iR HO_5, bb HB⟩
   rw [if_pos c3] at H
   have c3b0 : decide (x10_1 < (l0.length : Int)) = true := decide_eq_true c3
   clear c3
   by_cases c4 : 0 ≤ x10_1
   rotate_left
   ·rw [if_neg c4] at H
    exact absurd H (by simp)
   rw [if_pos c4] at H
   have c4b0 : decide (0 ≤ x10_1) = true := decide_eq_true c4
   clear c4
   by_cases c5 : x10_1 < (l0.length : Int)
   rotate_left
   ·rw [if_neg c5] at H
    exact absurd H (by simp)
   rw [if_pos c5] at H
   have c5b0 : decide (x10_1 < (l0.length : Int)) = true := decide_eq_true c5
   clear c5
   obtain ⟨t149, A6, H⟩ := be H
   by_cases c7 : ((rd_T66 l0 x10_1).f0).size + t149.size ≤ 9223372036854775807
   rotate_left
   ·rw [if_neg c7] at H
    exact absurd H (by simp)
   rw [if_pos c7] at H
   have c7b0 := eq_true c7
   have c7b1 : decide (((rd_T66 l0 x10_1).f0).size + t149.size ≤ 9223372036854775807) = true := decide_eq_true c7
   try have c7b2 : (9223372036854775807 < ((rd_T66 l0 x10_1).f0).size + t149.size) = False := eq_false (Nat.not_lt.2 c7)
   by_cases c8 : x5_1.length < 4398046511104
   rotate_left
   ·rw [if_neg c8] at H
    exact absurd H (by simp)
   rw [if_pos c8] at H
   have LMc8 := Aside0.mk c8
   clear c8
   obtain ⟨y150, hy150⟩ : ∃ y_ : List (S66), y_ = (x5_1 ++ [(⟨((rd_T66 l0 x10_1).f0) ++ t149, wrap64 (((rd_T66 l0 x10_1).f1) + (wrap64 (16 * a1))), (rd_T66 l0 x10_1).f2⟩ : S66)]) := ⟨_, rfl⟩
   replace H : (prod_variables.l0 k1 a1 y150 l0 (l0.length : Int) (wrap64 (x10_1 + 1))) = some r := by first | (rw [hy150]; with_reducible exact H) | (have H2_ := (Option.bind_some _ _).symm.trans H; rw [hy150]; with_reducible exact H2_) | (have H2_ := (Option.bind_some _ _).symm.trans H; with_reducible exact H2_) | with_reducible exact H | (rw [hy150]; exact H) | exact H
   have Ny150 := Aside0.mk hy150
   clear hy150
   have H' := Aside0.mk H
   clear H
   have p147 : 0 ≤ (x10_1 : Int) := od
   have q147 : x10_1 < (l0.length : Int) := od
   obtain ⟨ad147, e147, hx147_0, hx147_1, hx147_2⟩ := at_T66 HR0.out x10_1 p147 q147
   cases e147
   replace hx147_0 := bcell HB.out hx147_0
   replace hx147_1 := bcell HB.out hx147_1
   replace hx147_2 := bcell HB.out hx147_2
   replace p147 := eq_true p147
   replace q147 := eq_true q147
   try go_wp2_with (first | ((with_reducible refine gate_dst (N := 7) rfl ?_); refine bx 7 rfl rfl #[.string (⟨#[]⟩ : ByteArray), .int .i64 0, .int .i64 0] 66 ?_; intro gb148 hg w9 hbox hb; have BK148 := Aside0.mk (hbox); have GE148 := ge HB hg; replace HO_5 := Aside0.mk (Kd.R_below (Kd.R_elderB (iR HO_5) gb148 (Nat.le_of_eq hg.symm)) hb); replace HB := sb HB hb; clear hb hbox hg; obtain ⟨hcz10_0, hcz10_1, hcz10_2, hfz10_0, hfz10_1, hfz10_2⟩ := cf3 BK148.out))
   have n0_ : Aside0 (Kd.R k66 66 (((w9.setCell ⟨gb148, 0, none⟩ (.string ((rd_T66 l0 x10_1).f0))).setCell ⟨gb148, 1, none⟩ (.int .i64 ((rd_T66 l0 x10_1).f1))).setCell ⟨gb148, 2, none⟩ (.int .i64 ((rd_T66 l0 x10_1).f2))) w.heap.size (fun k_ => k_ ≠ gb148) u5 x5_1) := ⟨by (with_reducible repeat (first | apply Kd.R_alloc | apply Kd.R_drewN | apply Kd.R_drew)); exact Kd.R_mono (Kd.R_far (p := ⟨gb148, 2, none⟩) (Kd.R_far (p := ⟨gb148, 1, none⟩) (Kd.R_far (p := ⟨gb148, 0, none⟩) (Kd.R_mono HO_5.out (fun k_ hk => (⟨hk, hk.2⟩ : _ ∧ k_ ≠ gb148))) (fun _ hk => hk.2) (.string ((rd_T66 l0 x10_1).f0))) (fun _ hk => hk.2) (.int .i64 ((rd_T66 l0 x10_1).f1))) (fun _ hk => hk.2) (.int .i64 ((rd_T66 l0 x10_1).f2))) (fun _ hk => hk.1.2)⟩
   have n1_ : Aside0 ((((w9.setCell ⟨gb148, 0, none⟩ (.string ((rd_T66 l0 x10_1).f0))).setCell ⟨gb148, 1, none⟩ (.int .i64 ((rd_T66 l0 x10_1).f1))).setCell ⟨gb148, 2, none⟩ (.int .i64 ((rd_T66 l0 x10_1).f2))).heap[gb148]? = some (.cells #[.string ((rd_T66 l0 x10_1).f0), .int .i64 ((rd_T66 l0 x10_1).f1), .int .i64 ((rd_T66 l0 x10_1).f2)] 66 (0, 0))) := ⟨by (with_reducible repeat (first | refine kdN ?_ _ | refine kdr ?_ | refine kal ?_ _)); refine blk_put (cs := #[.string ((rd_T66 l0 x10_1).f0), .int .i64 ((rd_T66 l0 x10_1).f1), .int .i64 0]) ?_ 2 _ rfl; (with_reducible repeat (first | refine kdN ?_ _ | refine kdr ?_ | refine kal ?_ _)); refine blk_put (cs := #[.string ((rd_T66 l0 x10_1).f0), .int .i64 0, .int .i64 0]) ?_ 1 _ rfl; (with_reducible repeat (first | refine kdN ?_ _ | refine kdr ?_ | refine kal ?_ _)); refine blk_put (cs := #[.string (⟨#[]⟩ : ByteArray), .int .i64 0, .int .i64 0]) ?_ 0 _ rfl; (with_reducible repeat (first | refine kdN ?_ _ | refine kdr ?_ | refine kal ?_ _)); exact BK148.out⟩
   have n2_ : Aside0 (Below w.heap.size w (((w9.setCell ⟨gb148, 0, none⟩ (.string ((rd_T66 l0 x10_1).f0))).setCell ⟨gb148, 1, none⟩ (.int .i64 ((rd_T66 l0 x10_1).f1))).setCell ⟨gb148, 2, none⟩ (.int .i64 ((rd_T66 l0 x10_1).f2)))) := ⟨bb HB⟩
   (try clear HO_5)
   (try clear BK148)
   (try clear HB)
   generalize (((w9.setCell ⟨gb148, 0, none⟩ (.string ((rd_T66 l0 x10_1).f0))).setCell ⟨gb148, 1, none⟩ (.int .i64 ((rd_T66 l0 x10_1).f1))).setCell ⟨gb148, 2, none⟩ (.int .i64 ((rd_T66 l0 x10_1).f2))) = w11 at n0_ n1_ n2_ ⊢
   have HO_5 := n0_
   have BK148 := n1_
   have HB := n2_
   clear n0_ n1_ n2_
   replace HO_5 := Aside0.mk (Kd.R_drew HO_5.out)
   replace BK148 := Aside0.mk (kdr BK148.out)
   replace HB := Aside0.mk (bd1 HB.out)
   refine start_ (n := 17) (S := fun w' => w'.cell? ⟨gb148, 0, none⟩ = some (.string ((rd_T66 l0 x10_1).f0)) ∧ w'.cell? ⟨gb148, 1, none⟩ = some (.int .i64 ((rd_T66 l0 x10_1).f1)) ∧ w'.cell? ⟨gb148, 2, none⟩ = some (.int .i64 ((rd_T66 l0 x10_1).f2))) (ds := []) #[false, false, false, false, false, false, false, false, false, false, false, false, false, false, false, false, false] (by kernel_rfl) rfl rfl ⟨(blk_cell BK148.out 0).trans rfl, (blk_cell BK148.out 1).trans rfl, (blk_cell BK148.out 2).trans rfl⟩ (fun hHeld => ?_); refine with_tabW prod_variables.tab5 prod_variables.bits5 (fun HT_ HW_ => ?_)
   generalize w11.drew = w12 at HO_5 BK148 HB hHeld ⊢
   refine pT 0 14 (bl 17 1) HT_ rfl rfl ?_
   refine pT 1 15 (bl 17 3) HT_ rfl rfl ?_
   refine pT 3 17 (bl 17 11) HT_ rfl rfl ?_
   refine pT 6 20 (bl 17 75) HT_ rfl rfl ?_
   refine pT 8 22 (bl 17 331) HT_ rfl rfl ?_
   refine pT 9 23 (bl 17 843) HT_ rfl rfl ?_
   refine pT 11 25 (bl 17 2891) HT_ rfl rfl ?_
   refine tk (i := 2) (N := some 16) (bl 17 2895) rfl rfl (take_ofW HT_.out HW_.out (by kernel_rfl)) hHeld ?_
   refine tk (i := 7) (N := some 21) (bl 17 3023) rfl rfl (take_ofW HT_.out HW_.out (by kernel_rfl)) hHeld ?_
   refine pT 10 24 (bl 17 4047) HT_ rfl rfl ?_
   refine tk (i := 12) (N := some 26) (bl 17 8143) rfl rfl (take_ofW HT_.out HW_.out (by kernel_rfl)) hHeld ?_
   refine one_ (i := 4) (N := some 18) (bl 17 8159) rfl rfl (one_of HT_.out (by kernel_rfl)) (by decide) (fun K hK => ?_)
   refine gO Try.func80 #[.int .i64 a1] (by rfl) rfl rfl ?_
   with_reducible refine (prod_tag.calls k1 a1 t149 _ A6.out).mono ?_
   rintro e w13 ⟨rfl, hb⟩
   refine ⟨_, rfl, ?_⟩
   replace HO_5 := Aside0.mk (Kd.R_below (iR HO_5) hb)
   replace BK148 := kb BK148 hb
   replace HB := sb HB hb
   (try clear hb)
   (try clear hb2)
   (try clear hk)
   (try clear hi)
   refine hK.out _ _ ⟨(blk_cell BK148.out 0).trans rfl, (blk_cell BK148.out 1).trans rfl, (blk_cell BK148.out 2).trans rfl⟩ (fun hHeld => ?_)
   clear hK K
   refine nm 18 ?_
   refine pT 5 19 (bl 17 8191) HT_ rfl rfl ?_
   refine pT 13 27 (bl 17 16383) HT_ rfl rfl ?_
   refine one_ (i := 14) (N := some 28) (bl 17 32767) rfl rfl (one_of HT_.out (by kernel_rfl)) (by decide) (fun K hK => ?_)
   refine value_ (w1 := ?_) (v := ?_) (by rfl) rfl ?_ ?_
   rotate_left 2
   ·go_simp
    constructor
    ·rfl
    ·rfl
   refine hK.out _ _ ⟨(blk_cell (kal BK148.out _) 0).trans rfl, (blk_cell (kal BK148.out _) 1).trans rfl, (blk_cell (kal BK148.out _) 2).trans rfl⟩ (fun hHeld => ?_)
   clear hK K
   refine nm 28 ?_
   refine one_ (i := 15) (N := some 29) (bl 17 65535) rfl rfl (one_of HT_.out (by kernel_rfl)) (by decide) (fun K hK => ?_)
   refine Kd.R_append_step k66 (w0 := w) w.heap.size (by rfl) (.tmp 14) (.tmp 28) 22 66 (.agg #[(.string ⟨#[]⟩), (.int .i64 0), (.int .i64 0)]) 32 rfl Try.underlying22 info66 rfl (by decide) (by omega) u5 x5_1 (⟨((rd_T66 l0 x10_1).f0) ++ t149, wrap64 (((rd_T66 l0 x10_1).f1) + (wrap64 (16 * a1))), (rd_T66 l0 x10_1).f2⟩ : S66) [.string (((rd_T66 l0 x10_1).f0) ++ t149), .int .i64 (wrap64 (((rd_T66 l0 x10_1).f1) + (wrap64 (16 * a1)))), .int .i64 ((rd_T66 l0 x10_1).f2)] (fun k_ => k_ ≠ gb148) (fun _ => False) rfl rfl ?aP (fun _ hk => hk.elim) ?aF ?aO ?aB ?aS ?aL ?_
   (case aP => exact k66_mkM _ _ _ (⟨((rd_T66 l0 x10_1).f0) ++ t149, wrap64 (((rd_T66 l0 x10_1).f1) + (wrap64 (16 * a1))), (rd_T66 l0 x10_1).f2⟩ : S66))
   (case aB => exact (bb HB))
   (case aF => exact (fun k_ hk => Kd.freshB (kk BK148) k_ hk))
   (case aO => exact (iR HO_5))
   (case aS => exact (bsz (bb HB)))
   (case aL => have := LMc8.out; omega)
   intro v151 w14 ho hb hg hat
   rw [← Ny150.out] at ho
   have HO152 := Aside0.mk (ho)
   replace BK148 := Aside0.mk (blk_grown (kk BK148) hg (Kd.R_away HO_5.out (fun _ hk => hk)))
   replace HB := Aside0.mk (hb)
   clear HO_5
   clear ho hb hg hat
   refine hK.out _ _ ⟨(blk_cell BK148.out 0).trans rfl, (blk_cell BK148.out 1).trans rfl, (blk_cell BK148.out 2).trans rfl⟩ (fun hHeld => ?_)
   clear hK K
   refine nm 29 ?_
   refine pT 16 5 (bl 17 131071) HT_ rfl rfl ?_
   refine done_ (done_of HT_.out (by kernel_rfl)) ?_
   try go_wp2
   go_roundg k1
   case measure => have := HK1.out; omega
   case rel => exact ⟨(y150), (wrap64 (x10_1 + 1)), rs, H', ⟨by have := HK1.out; omega⟩, ⟨by (with_reducible repeat (first | apply Kd.R_alloc | apply Kd.R_drewN | apply Kd.R_drew)); exact Kd.R_mono HO152.out (fun _ hk => trivial)⟩, ⟨bb HB⟩⟩
def r12_Named.T5 : Bool × List (List Nat × List Nat) := (true, [([], []), ([], []), ([], []), ([1, 2], [1, 2]), ([3], [3]), ([4], [4]), ([5], [5]), ([], []), ([7], [7]), ([6, 8], [6, 8]), ([], []), ([], []), ([10, 11], [10, 11]), ([12], [12]), ([13], [13]), ([], []), ([15], [15]), ([14, 16], [14, 16]), ([], []), ([], []), ([18, 19], [18, 19]), ([20], [20]), ([21], [21]), ([9, 17, 22], [9, 17, 22]), ([23], [23]), ([0, 24, 8], [0, 24]), ([25, 25, 0, 1, 2, 3, 4, 5, 6, 7, 8, 9, 10, 11, 12, 13, 14, 15, 16, 17, 18, 19, 20, 21, 22, 23, 24, 25], [0, 25])])
def r12_Named.B5 : List Nat := [0, 0, 0, 6, 14, 30, 62, 0, 128, 510, 0, 0, 3072, 7168, 15360, 0, 32768, 130048, 0, 0, 786432, 1835008, 3932160, 8388606, 16777214, 33554431, 67108863]
theorem r12_Named.tab5 : rtab .any (opsOf Try.f57 5) = r12_Named.T5 := by kernel_rfl
theorem r12_Named.bits5 : waitsOk r12_Named.T5.2 r12_Named.B5 = true := by kernel_rfl
def tg (i : Int) : ByteArray := if i = 0 then ⟨#[95, 48]⟩ else if i = 1 then ⟨#[95, 49]⟩ else ⟨#[95, 50]⟩
theorem tg_size (i : Int) : (tg i).size = 2 := by unfold tg; split; rfl; split <;> rfl
theorem tag_tells {i : Int} (h0 : 0 ≤ i) (h3 : i < 3) : Tells (fun k => prod_tag.f k i) (tg i) := by
  refine ⟨0, fun k _ => ?_⟩
  unfold prod_tag.f tg
  by_cases a : i = 0
  · rw [if_pos a, if_pos a]
  · rw [if_neg a, if_neg a]
    by_cases b : i = 1
    · rw [if_pos b, if_pos b]
    · rw [if_neg b, if_neg b, if_pos (by omega)]
def nmd (i : Int) (v : S66) : S66 := ⟨v.f0 ++ tg i, wrap64 (v.f1 + wrap64 (16 * i)), v.f2⟩
theorem variables_loop (i : Int) (h0 : 0 ≤ i) (h3 : i < 3) : ∀ (suf pre acc : List S66), (pre ++ suf).length ≤ 1000 → (∀ v ∈ suf, v.f0.size ≤ 1000) → acc.length + suf.length ≤ 1000 →
    Tells (fun k => prod_variables.l0 k i acc (pre ++ suf) ((pre ++ suf).length : Int) (pre.length : Int)) (acc ++ suf.map (nmd i))
  | [], pre, acc, _, _, _ => by
    refine Tells.succ ?_
    simp only [prod_variables.l0, pre_nlt, if_false]
    rw [List.map_nil, List.append_nil]
    exact Tells.pure _
  | v :: r, pre, acc, hl, hv, ha => by
    refine Tells.succ ?_
    simp only [prod_variables.l0, pre_lt, pre_pos, if_true, rdV_mid]
    refine Tells.bind (tag_tells h0 h3) ?_
    have hs := hv v (by simp)
    refine Tells.ifT (by rw [tg_size]; omega) (Tells.ifT (by simp only [List.length_cons] at ha; omega) ?_)
    rw [pre_next pre v r (by omega)]
    have := variables_loop i h0 h3 r (pre ++ [v]) (acc ++ [nmd i v]) (by rw [← pre_app]; exact hl) (fun u hu => hv u (by simp [hu])) (by simp only [List.length_append, List.length_cons, List.length_nil] at ha ⊢; omega)
    rw [← pre_app, List.append_assoc, List.singleton_append] at this
    rw [List.map_cons]
    exact this
theorem variables_tells (i : Int) (h0 : 0 ≤ i) (h3 : i < 3) (vars : List S66) (hl : vars.length ≤ 1000) (hv : ∀ v ∈ vars, v.f0.size ≤ 1000) : Tells (fun k => prod_variables.f k vars i) (vars.map (nmd i)) := by
  unfold prod_variables.f
  exact variables_loop i h0 h3 vars [] [] hl hv (by simp only [List.length_nil]; omega)
theorem pIs_names {w : Int} {vars : List S66} {body : List S64} (hp : pIs w vars body = true) : vars.length ≤ 1000 ∧ (∀ v ∈ vars, v.f0.size ≤ 1000) := by
  obtain ⟨hh, _⟩ := pIs_all hp
  obtain ⟨_, _, _, h18, _, _⟩ := hIs_all hh
  refine ⟨by omega, fun v hv => ?_⟩
  unfold hIs at hh
  rw [Bool.and_eq_true, Bool.and_eq_true] at hh
  have := (hOK_all vars [] 0 hh.2.2).1 v hv
  unfold varOK nameOK at this
  rw [Bool.and_eq_true, Bool.and_eq_true, decide_eq_true_eq] at this
  omega
end Go.Proofs.Ytilebfkehmecaaa.Print
namespace Go.Proofs.Ytilebfkehmecaaa.Print
open Go.RowKit Go.Proofs.YtilebfkehmecaaaW.PrintWords Go.Proofs.YtilebfkehmecaaaW.PrintLast Go.Proofs.YtilebfkehmecaaaW.PrintMore
attribute [local go_sem] max2_int min2_int max_two min_two max_three min_three max_four min_four
set_option linter.unusedVariables false
set_option linter.unusedSimpArgs false
open Go.Shelf Go.RowKit
attribute [local go_sem] Oper.semAt_some
mutual
def mvE (g : Int → Option Int) : S28 → Option S28
  | ⟨op, n, c, l⟩ => if op = 1 then (g c).bind fun r => (mvEs g l).bind fun l' => some ⟨op, wrap64 (n + r), 0, l'⟩ else (mvEs g l).bind fun l' => some ⟨op, n, c, l'⟩
def mvEs (g : Int → Option Int) : List S28 → Option (List S28)
  | [] => some []
  | x :: r => (mvE g x).bind fun y => (mvEs g r).bind fun s => if r.length < 1000000 then some (y :: s) else none
end
theorem mvEs_get {g : Int → Option Int} : ∀ {l l' : List S28}, mvEs g l = some l' → l'.length = l.length ∧ l.length ≤ 1000000 ∧ ∀ (j : Nat) (x : S28), l[j]? = some x → ∃ y, mvE g x = some y ∧ l'[j]? = some y
  | [], l', h => by
    rw [mvEs] at h
    obtain rfl := Option.some.inj h
    exact ⟨rfl, by simp, fun j x hj => by simp at hj⟩
  | x :: r, l', h => by
    rw [mvEs] at h
    obtain ⟨y, h1, h⟩ := Option.bind_eq_some_iff.mp h
    obtain ⟨s, h2, h⟩ := Option.bind_eq_some_iff.mp h
    obtain ⟨e1, e2, e3⟩ := mvEs_get h2
    by_cases hl : r.length < 1000000
    · rw [if_pos hl] at h
      obtain rfl := Option.some.inj h
      refine ⟨by simp [e1], by simp; omega, fun j z hj => ?_⟩
      cases j with
      | zero => obtain rfl : x = z := by simpa using hj
                exact ⟨y, h1, rfl⟩
      | succ j => exact e3 j z (by simpa using hj)
    · rw [if_neg hl] at h; cases h
theorem tree_ind {P : S28 → Prop} (node : ∀ a b c l, (∀ x ∈ l, P x) → P ⟨a, b, c, l⟩) : ∀ x, P x :=
  fun x => S28.rec (motive_1 := P) (motive_2 := fun l => ∀ x ∈ l, P x) node (fun _ h => by simp at h) (fun x r h1 h2 y hy => by rcases List.mem_cons.1 hy with rfl | h; exact h1; exact h2 y h) x
def FnAt (w : World) (v : Value) (g : Int → Option Int) : Prop := ∃ gf lb, v = .func (.func gf) #[] lb ∧ (∀ args w, (callFunc gf args).run Try.prog w = .ok (.enter gf args) w) ∧
  ∀ W n r, Below w.heap.size w W → g n = some r → Calls Try.prog gf (#[.int .i64 n] ++ lb) W fun e W' => e = .returned (.int .i64 r) ∧ Below W.heap.size W W'
theorem FnAt.below {w w1 : World} {v : Value} {g : Int → Option Int} (h : FnAt w v g) (hb : Below w.heap.size w w1) : FnAt w1 v g := by
  obtain ⟨gf, lb, e1, e2, h⟩ := h
  exact ⟨gf, lb, e1, e2, fun W n r hW hg => h W n r (hb.trans (hW.mono hb.size)) hg⟩
def MvAt (w : World) (b : Nat) (g : Int → Option Int) : Prop := ∃ v, FnAt w v g ∧ w.heap[b]? = some (.cells #[v] 80 (0, 0)) ∧ w.heap[b + 1]? = some (.cells #[.func (.func 83) #[] #[.pointer (some ⟨b, 0, none⟩), .pointer (some ⟨b + 1, 0, none⟩)]] 78 (0, 0))
theorem MvAt.below {w w1 : World} {b : Nat} {g : Int → Option Int} (h : MvAt w b g) (hb : Below w.heap.size w w1) : MvAt w1 b g := by
  obtain ⟨v, h1, h2, h3⟩ := h
  exact ⟨v, h1.below hb, (hb.block _ (blk_lt h2)).trans h2, (hb.block _ (blk_lt h3)).trans h3⟩
theorem prod_moving.fn (v : Value) (g : Int → Option Int) (w : World) (h : FnAt w v g) :
    Calls Try.prog 48 #[v] w fun e w' => e = .returned (.func (.func 83) #[] #[.pointer (some ⟨w.heap.size, 0, none⟩), .pointer (some ⟨w.heap.size + 1, 0, none⟩)]) ∧ MvAt w' w.heap.size g ∧ Below w.heap.size w w' := by
  obtain ⟨gf, lb, rfl, e2, h⟩ := h
  have q0 : ((w.alloc (.cells #[.func (.func gf) #[] lb] 80)).alloc (.cells #[.func (.func 83) #[] #[.pointer (some ⟨w.heap.size, 0, none⟩), .pointer (some ⟨w.heap.size + 1, 0, none⟩)]] 78)).heap[w.heap.size]? = some (.cells #[.func (.func gf) #[] lb] 80 (0, 0)) := kal (blk_new _ _) _
  have q1 : ((w.alloc (.cells #[.func (.func gf) #[] lb] 80)).alloc (.cells #[.func (.func 83) #[] #[.pointer (some ⟨w.heap.size, 0, none⟩), .pointer (some ⟨w.heap.size + 1, 0, none⟩)]] 78)).heap[w.heap.size + 1]? = some (.cells #[.func (.func 83) #[] #[.pointer (some ⟨w.heap.size, 0, none⟩), .pointer (some ⟨w.heap.size + 1, 0, none⟩)]] 78 (0, 0)) := by
    have := blk_new (w.alloc (.cells #[.func (.func gf) #[] lb] 80)) (.cells #[.func (.func 83) #[] #[.pointer (some ⟨w.heap.size, 0, none⟩), .pointer (some ⟨w.heap.size + 1, 0, none⟩)]] 78)
    simpa using this
  have hb : Below w.heap.size w ((w.alloc (.cells #[.func (.func gf) #[] lb] 80)).alloc (.cells #[.func (.func 83) #[] #[.pointer (some ⟨w.heap.size, 0, none⟩), .pointer (some ⟨w.heap.size + 1, 0, none⟩)]] 78)) := bal (bal (Below.refl _ _) _) _
  go_enter Try.func48, Try.ntmps48
  go_wp2
  go_ret
  exact ⟨rfl, ⟨_, FnAt.below ⟨gf, lb, rfl, e2, h⟩ hb, q0, q1⟩, hb⟩
theorem mv_take {l' : List S28} {i : Nat} {y : S28} (h : l'[i]? = some y) : l'.take (i + 1) = l'.take i ++ [y] := by
  rw [List.take_add_one, h]; rfl
theorem mv_stores {W : World} {B : Nat} (hz : W.heap[B + 1]? = some (.cells #[.int .i64 0, .int .i64 0, .int .i64 0, .slice none 0 0] 28 (0, 0))) (u a b c : Value) :
    (((((W.setCell ⟨B, 3, none⟩ u).setCell ⟨B + 1, 0, none⟩ a).setCell ⟨B + 1, 1, none⟩ b).setCell ⟨B + 1, 2, none⟩ c).setCell ⟨B + 1, 3, none⟩ u).heap[B + 1]? = some (.cells #[a, b, c, u] 28 (0, 0)) ∧
    (∀ k, B + 2 ≤ k → (((((W.setCell ⟨B, 3, none⟩ u).setCell ⟨B + 1, 0, none⟩ a).setCell ⟨B + 1, 1, none⟩ b).setCell ⟨B + 1, 2, none⟩ c).setCell ⟨B + 1, 3, none⟩ u).heap[k]? = W.heap[k]?) ∧
    Below B W (((((W.setCell ⟨B, 3, none⟩ u).setCell ⟨B + 1, 0, none⟩ a).setCell ⟨B + 1, 1, none⟩ b).setCell ⟨B + 1, 2, none⟩ c).setCell ⟨B + 1, 3, none⟩ u) := by
  have h0 := blk_far hz (p := ⟨B, 3, none⟩) (by simp) u
  have h1 := blk_put h0 0 a (cs' := #[a, .int .i64 0, .int .i64 0, .slice none 0 0]) rfl
  have h2 := blk_put h1 1 b (cs' := #[a, b, .int .i64 0, .slice none 0 0]) rfl
  have h3 := blk_put h2 2 c (cs' := #[a, b, c, .slice none 0 0]) rfl
  refine ⟨blk_put h3 3 u (cs' := #[a, b, c, u]) rfl, fun k hk => ?_, ?_⟩
  · rw [Below.heap_setCell _ _ _ _ (by simp; omega), Below.heap_setCell _ _ _ _ (by simp; omega), Below.heap_setCell _ _ _ _ (by simp; omega), Below.heap_setCell _ _ _ _ (by simp; omega), Below.heap_setCell _ _ _ _ (by simp; omega)]
  · exact ((((below_cell _ _ (Nat.le_refl _)).trans (below_cell _ _ (by omega))).trans (below_cell _ _ (by omega))).trans (below_cell _ _ (by omega))).trans (below_cell _ _ (by omega))
theorem prod_moving1.calls (g : Int → Option Int) : ∀ (e e1 : S28) (A : Option Addr) (c b : Nat) (w : World), mvE g e = some e1 → MvAt w b g → Kd.C k28 w A e.f3.length e.f3 → e.f3.length ≤ c →
    Calls Try.prog 83 #[.agg #[.int .i64 e.f0, .int .i64 e.f1, .int .i64 e.f2, .slice A e.f3.length c], .pointer (some ⟨b, 0, none⟩), .pointer (some ⟨b + 1, 0, none⟩)] w fun en w' =>
      ∃ v : Value, en = .returned (.agg #[.int .i64 e1.f0, .int .i64 e1.f1, .int .i64 e1.f2, v]) ∧ Kd.R k28 28 w' w.heap.size (fun _ => True) v e1.f3 ∧ Below w.heap.size w w' := by
  refine tree_ind fun op n cp l ih => ?_
  intro e1 A c b w h hm hr hc
  have huE := Try.underlying28
  rw [mvE] at h
  have HR := Aside0.mk hr
  have HC := Aside0.mk hc
  have HM := Aside0.mk hm
  have IH := Aside0.mk ih
  have H := Aside0.mk h
  clear hr hc hm ih h
  obtain ⟨fv, hf, hm1, hm2⟩ := HM.out
  obtain ⟨gf, lb, rfl, en, hg⟩ := hf
  have l1 := blk_lt hm1
  have l2 := blk_lt hm2
  obtain ⟨W0, hW0⟩ : ∃ W0, ((w.alloc (.cells #[.int .i64 op, .int .i64 n, .int .i64 cp, .slice A l.length c] 28)).alloc (.cells #[.int .i64 0, .int .i64 0, .int .i64 0, .slice none 0 0] 28)) = W0 := ⟨_, rfl⟩
  have b0 : Below w.heap.size w W0 := by rw [← hW0]; exact bal (bal (Below.refl _ _) _) _
  have s0 : W0.heap.size = w.heap.size + 1 + 1 := by rw [← hW0]; simp
  have p0 : W0.heap[w.heap.size]? = some (.cells #[.int .i64 op, .int .i64 n, .int .i64 cp, .slice A l.length c] 28 (0, 0)) := by rw [← hW0]; exact kal (blk_new _ _) _
  have z0 : W0.heap[w.heap.size + 1]? = some (.cells #[.int .i64 0, .int .i64 0, .int .i64 0, .slice none 0 0] 28 (0, 0)) := by
    rw [← hW0]
    have := blk_new (w.alloc (.cells #[.int .i64 op, .int .i64 n, .int .i64 cp, .slice A l.length c] 28)) (.cells #[.int .i64 0, .int .i64 0, .int .i64 0, .slice none 0 0] 28)
    simpa using this
  have c0 : W0.cell? ⟨w.heap.size, 0, none⟩ = some (.int .i64 op) := (blk_cell p0 0).trans rfl
  have c1 : W0.cell? ⟨w.heap.size, 1, none⟩ = some (.int .i64 n) := (blk_cell p0 1).trans rfl
  have c2 : W0.cell? ⟨w.heap.size, 2, none⟩ = some (.int .i64 cp) := (blk_cell p0 2).trans rfl
  have c3 : W0.cell? ⟨w.heap.size, 3, none⟩ = some (.slice A l.length c) := (blk_cell p0 3).trans rfl
  have m0 : W0.cell? ⟨b, 0, none⟩ = some (.func (.func gf) #[] lb) := (blk_cell ((b0.block _ l1).trans hm1) 0).trans rfl
  go_enter Try.func83, Try.ntmps83
  go_upto_if 10 with (fail)
  (try simp only [Act.put, List.setIfInBounds_toArray, List.set_cons_zero, List.set_cons_succ])
  go_cut [] (fun wc => ∃ (n2 c2 : Int) (l' : List S28), Aside0 (e1 = ⟨op, n2, c2, l'⟩) ∧ Aside0 (mvEs g l = some l') ∧ Aside0 (wc.heap[w.heap.size]? = some (.cells #[.int .i64 op, .int .i64 n2, .int .i64 c2, .slice A l.length c] 28 (0, 0))) ∧ Aside0 (wc.heap[w.heap.size + 1]? = some (.cells #[.int .i64 0, .int .i64 0, .int .i64 0, .slice none 0 0] 28 (0, 0))) ∧ Aside0 (Below w.heap.size w wc) ∧ Aside0 (w.heap.size + 2 ≤ wc.heap.size))
  case first =>
    by_cases hop : op = 1
    · have hq : (op == 1) = true := beq_iff_eq.mpr hop
      have h := H.out
      rw [if_pos hop] at h
      obtain ⟨r, hgr, h⟩ := Option.bind_eq_some_iff.mp h
      obtain ⟨l', hl', h⟩ := Option.bind_eq_some_iff.mp h
      have he := Aside0.mk (Option.some.inj h).symm
      have HL := Aside0.mk hl'
      clear h H hl' hop
      have p1 : W0.drew.heap[w.heap.size]? = some (.cells #[.int .i64 op, .int .i64 n, .int .i64 cp, .slice A l.length c] 28 (0, 0)) := kdr p0
      have z1 : W0.drew.heap[w.heap.size + 1]? = some (.cells #[.int .i64 0, .int .i64 0, .int .i64 0, .slice none 0 0] 28 (0, 0)) := kdr z0
      have b1 : Below w.heap.size w W0.drew := below_drew b0
      go_wp2
      refine start_ (n := 9) (S := fun w' => w'.cell? ⟨w.heap.size, 1, none⟩ = some (.int .i64 n) ∧ w'.cell? ⟨w.heap.size, 2, none⟩ = some (.int .i64 cp) ∧ w'.cell? ⟨b, 0, none⟩ = some (.func (.func gf) #[] lb)) (ds := [8]) #[false, false, false, false, false, false, false, false, false] (by kernel_rfl) rfl rfl ⟨c1, c2, m0⟩ (fun hHeld => ?_)
      generalize W0.drew = W1 at p1 z1 b1 hHeld ⊢
      refine pu (i := 0) (N := some 11) (bl 9 1) rfl rfl (by kernel_rfl) ?_
      refine tk (i := 1) (N := some 12) (bl 9 3) rfl rfl (by kernel_rfl) hHeld ?_
      refine tk (i := 2) (N := some 13) (bl 9 7) rfl rfl (by kernel_rfl) hHeld ?_
      refine pu (i := 3) (N := some 14) (bl 9 15) rfl rfl (by kernel_rfl) ?_
      refine tk (i := 4) (N := some 15) (bl 9 31) rfl rfl (by kernel_rfl) hHeld ?_
      refine one_ (i := 5) (N := (some 16)) (bl 9 63) rfl rfl (by kernel_rfl) (by decide) (fun K hK => ?_)
      refine call_ gf (#[.int .i64 cp] ++ lb) (by rfl) rfl ?run ?_
      case run =>
        unfold execOp
        simp [resolve, Deferred.ofValue, invoke, Act.eval, en]
      refine (hg W1 cp r b1 hgr).mono ?_
      rintro e W2 ⟨rfl, b2⟩
      have p2 := blk_below p1 b2
      have z2 := blk_below z1 b2
      have bb := b1.trans (b2.mono b1.size)
      refine ⟨_, rfl, ?_⟩
      refine hK.out _ _ ⟨(blk_cell p2 1).trans rfl, (blk_cell p2 2).trans rfl, (blk_cell ((bb.block _ l1).trans hm1) 0).trans rfl⟩ (fun hHeld => ?_)
      clear hK K
      refine nm 16 ?_
      refine pu (i := 6) (N := some 17) (bl 9 127) rfl rfl (by kernel_rfl) ?_
      refine pu (i := 7) (N := some 18) (bl 9 255) rfl rfl (by kernel_rfl) ?_
      refine last_ (i := 8) (N := none) (bl 9 511) rfl rfl (by kernel_rfl) (by decide) (fun K hK => ?_)
      have q1 : W2.cell? ⟨w.heap.size, 1, none⟩ = some (.int .i64 n) := (blk_cell p2 1).trans rfl
      have q2 : W2.frozen? ⟨w.heap.size, 1, none⟩ = false := blk_frozen p2 1
      refine skip_ (w1 := W2.setCell ⟨w.heap.size, 1, none⟩ (.int .i64 (wrap64 (n + r)))) (by rfl) rfl ?st ?_
      case st =>
        go_simp
      refine hK.out _ _ ?_
      clear hK K
      refine done_ (by kernel_rfl) ?_
      have p3 := blk_put p2 1 (.int .i64 (wrap64 (n + r))) (cs' := #[.int .i64 op, .int .i64 (wrap64 (n + r)), .int .i64 cp, .slice A l.length c]) rfl
      have z3 := blk_far z2 (p := ⟨w.heap.size, 1, none⟩) (by simp) (.int .i64 (wrap64 (n + r)))
      have b3 := bb.trans (below_cell W2 (B := w.heap.size) (i := 1) (.int .i64 (wrap64 (n + r))) (Nat.le_refl _))
      generalize W2.setCell ⟨w.heap.size, 1, none⟩ (.int .i64 (wrap64 (n + r))) = W3 at p3 z3 b3 ⊢
      have x0 : W3.cell? ⟨w.heap.size, 2, none⟩ = some (.int .i64 cp) := (blk_cell p3 2).trans rfl
      have x1 : W3.frozen? ⟨w.heap.size, 2, none⟩ = false := blk_frozen p3 2
      go_wp2
      go_meet
      case rel =>
        refine ⟨_, _, l', he, HL, ⟨blk_put p3 2 (.int .i64 0) (cs' := #[.int .i64 op, .int .i64 (wrap64 (n + r)), .int .i64 0, .slice A l.length c]) rfl⟩, ⟨blk_far z3 (p := ⟨w.heap.size, 2, none⟩) (by simp) _⟩, ⟨b3.trans (below_cell _ _ (Nat.le_refl _))⟩, ⟨?_⟩⟩
        rw [size_cell]
        have := blk_lt z3
        omega
    · have hq : (op == 1) = false := beq_eq_false_iff_ne.mpr hop
      have h := H.out
      rw [if_neg hop] at h
      obtain ⟨l', hl', h⟩ := Option.bind_eq_some_iff.mp h
      have he := Aside0.mk (Option.some.inj h).symm
      go_wp2
      go_meet
      case rel => exact ⟨_, _, l', he, ⟨hl'⟩, ⟨p0⟩, ⟨z0⟩, ⟨b0⟩, ⟨by omega⟩⟩
  case rest =>
    clear c0 c1 c2 c3 m0 p0 z0 s0 b0 hW0 H
    obtain ⟨n2, c2, l', he, HL, PB, ZB, BB, SB⟩ := hcut
    have HR := Aside0.mk (show Kd.C k28 w A l.length l from HR.out)
    have HC := Aside0.mk (show l.length ≤ c from HC.out)
    obtain ⟨hll, hl6, hget⟩ := mvEs_get HL.out
    have GET := Aside0.mk hget
    clear hget HL
    have x3 : wc.cell? ⟨w.heap.size, 3, none⟩ = some (.slice A l.length c) := (blk_cell PB.out 3).trans rfl
    go_wp2
    clear x3
    go_loopg [5, 23] l.length (fun kq v5 v23 X => ∃ (i : Nat) (A5 : Option Addr) (c5 : Nat), v23 = .int .i64 (i : Int) ∧ v5 = .slice A5 i c5 ∧ Aside0 (i + kq = l.length) ∧ Aside0 (Kd.R k28 28 X (w.heap.size + 2) (fun _ => True) (.slice A5 i c5) (l'.take i)) ∧ Aside0 (X.heap[w.heap.size]? = some (.cells #[.int .i64 op, .int .i64 n2, .int .i64 c2, .slice A l.length c] 28 (0, 0))) ∧ Aside0 (X.heap[w.heap.size + 1]? = some (.cells #[.int .i64 0, .int .i64 0, .int .i64 0, .slice none 0 0] 28 (0, 0))) ∧ Aside0 (Below w.heap.size w X) ∧ Aside0 (w.heap.size + 2 ≤ X.heap.size))
    case atStart => exact ⟨0, none, 0, rfl, rfl, ⟨by omega⟩, ⟨Kd.R_nil _ _ _ _ _⟩, PB, ZB, BB, SB⟩
    case round =>
      clear PB ZB BB SB
      obtain ⟨i, A5, c5, rfl, rfl, HI, HO, PB, ZB, BB, SB⟩ := hrel
      cases gk with
      | zero =>
        have hi : i = l.length := by have := HI.out; omega
        subst hi
        have hd : decide ((l.length : Int) < (l.length : Int)) = false := decide_eq_false (by omega)
        have o1 : Kd.R k28 28 wr (w.heap.size + 2) (fun _ => True) (.slice A5 l.length c5) l' := by
          have := HO.out
          rwa [List.take_of_length_le (by omega)] at this
        have x0 : wr.cell? ⟨w.heap.size, 0, none⟩ = some (.int .i64 op) := (blk_cell PB.out 0).trans rfl
        have x1 : wr.cell? ⟨w.heap.size, 1, none⟩ = some (.int .i64 n2) := (blk_cell PB.out 1).trans rfl
        have x2 : wr.cell? ⟨w.heap.size, 2, none⟩ = some (.int .i64 c2) := (blk_cell PB.out 2).trans rfl
        have x3 : wr.cell? ⟨w.heap.size, 3, none⟩ = some (.slice A l.length c) := (blk_cell PB.out 3).trans rfl
        have x4 := blk_frozen PB.out 3
        have y0 : wr.cell? ⟨w.heap.size + 1, 0, none⟩ = some (.int .i64 0) := (blk_cell ZB.out 0).trans rfl
        have y1 : wr.cell? ⟨w.heap.size + 1, 1, none⟩ = some (.int .i64 0) := (blk_cell ZB.out 1).trans rfl
        have y2 : wr.cell? ⟨w.heap.size + 1, 2, none⟩ = some (.int .i64 0) := (blk_cell ZB.out 2).trans rfl
        have y3 : wr.cell? ⟨w.heap.size + 1, 3, none⟩ = some (.slice none 0 0) := (blk_cell ZB.out 3).trans rfl
        have y4 := blk_frozen ZB.out 0
        have y5 := blk_frozen ZB.out 1
        have y6 := blk_frozen ZB.out 2
        have y7 := blk_frozen ZB.out 3
        go_wp2
        obtain ⟨zc, zk, zb⟩ := mv_stores (W := wr) (B := w.heap.size) ZB.out (.slice A5 l.length c5) (.int .i64 op) (.int .i64 n2) (.int .i64 c2)
        refine bodyPost_ret (results_cell_row rfl _ _ (w.heap.size + 1) 28 #[.int .i64 op, .int .i64 n2, .int .i64 c2, .slice A5 l.length c5] (0, 0) _ rfl zc huE rfl (by kernel_rfl)) rfl ?_
        rw [he.out]
        exact ⟨_, rfl, Kd.R_lower (Kd.R_mono (Kd.R_step (Kd.R_bound o1) (fun k hk _ => zk k hk.2.1)) (fun _ hk => trivial)) (by omega), BB.out.trans zb⟩
      | succ k1 =>
        have hi : i < l.length := by have := HI.out; omega
        have hd : decide ((i : Int) < (l.length : Int)) = true := decide_eq_true (by omega)
        obtain ⟨ad, A3, c3, e3, q0, q1, q2, q3, ql3, qr3⟩ := at_T28 HR.out (i : Int) (by omega) (by omega)
        subst e3
        have hxi : l[i]? = some (rd_T28 l (i : Int)) := by unfold rd_T28; rw [Int.toNat_natCast, List.getD_eq_getElem?_getD, List.getElem?_eq_getElem hi]; rfl
        generalize rd_T28 l (i : Int) = x at q0 q1 q2 q3 ql3 qr3 hxi
        obtain ⟨y, hy, hyi⟩ := GET.out i x hxi
        have hxm : x ∈ l := List.mem_of_getElem? hxi
        replace q0 := (BB.out.cell (World.block_lt_of_cell? w _ q0)).trans q0
        replace q1 := (BB.out.cell (World.block_lt_of_cell? w _ q1)).trans q1
        replace q2 := (BB.out.cell (World.block_lt_of_cell? w _ q2)).trans q2
        replace q3 := (BB.out.cell (World.block_lt_of_cell? w _ q3)).trans q3
        simp only [Int.toNat_natCast] at q0 q1 q2 q3
        have m1 : wr.cell? ⟨b + 1, 0, none⟩ = some (.func (.func 83) #[] #[.pointer (some ⟨b, 0, none⟩), .pointer (some ⟨b + 1, 0, none⟩)]) := (blk_cell ((BB.out.block _ l2).trans hm2) 0).trans rfl
        have l3 : b + 1 < wr.heap.size := Nat.lt_of_lt_of_le l2 BB.out.size
        have hw1 : IntKind.i64.wrap ((i : Int) + 1) = (i : Int) + 1 := by rw [i64_w]; unfold wrap64; omega
        have W1B := bal (Below.refl wr.heap.size wr) (.cells #[.int .i64 x.f0, .int .i64 x.f1, .int .i64 x.f2, .slice A3 x.f3.length c3] 28)
        have hSB := SB.out
        have hob := Kd.R_base HO.out
        have hol := Kd.R_lt HO.out
        have htk : (l'.take i).length = i := by rw [List.length_take]; omega
        go_wp2_with (first | (go_at_call 83; refine (IH.out x hxm y A3 c3 b _ hy ((HM.out.below BB.out).below W1B) (Kd.C_below (Kd.C_below qr3 BB.out) W1B) ql3).mono ?_; rintro e W2 ⟨v, rfl, o2, hb2⟩) | ((with_reducible refine gate_builtin (b := .append) (xs := #[.tmp 27, .tmp 31]) rfl ?_); at_builtin; refine Kd.R_append k28 (w0 := wr) (W := W2) (w.heap.size + 2) rfl (.tmp 27) (.tmp 31) 26 28 (.agg #[(.int .i64 0), (.int .i64 0), (.int .i64 0), (.slice none 0 0)]) 48 rfl Try.underlying26 info28 rfl (by decide) (by omega) (.slice A5 i c5) (l'.take i) y [.int .i64 y.f0, .int .i64 y.f1, .int .i64 y.f2, v] (fun _ => True) (fun k => wr.heap.size ≤ k) rfl rfl ?aP ?aK (fun _ _ => trivial) ?aO ?aB ?aS ?aL ?_; (case aP => exact k28_mkM _ _ _ y (Kd.R_lower (Kd.R_mono (Kd.R_bound o2) (fun k hk => Nat.le_trans W1B.size hk.2.1)) (Nat.le_trans hSB W1B.size))); (case aK => exact fun k hk => ⟨trivial, fun e => by have h9 := hol _ e.symm; omega⟩); (case aO => exact Kd.R_below (Kd.R_below HO.out W1B) hb2); (case aB => exact (W1B.trans (hb2.mono W1B.size)).mono hSB); (case aS => exact Nat.le_trans hSB (Nat.le_trans W1B.size hb2.size)); (case aL => rw [htk]; omega); intro v1 W3 o3 b3 g3 t3))
        obtain ⟨A6, c6, e6⟩ := Kd.R_slice o3
        subst e6
        have hWW := W1B.trans (hb2.mono W1B.size)
        have hne : ∀ k, k < w.heap.size + 2 → some k ≠ (Value.slice A5 i c5).ownBlock := fun k hk e => by have h9 := hob _ e.symm; omega
        have pf := Aside0.mk (blk_grown (blk_below PB.out hWW) g3 (hne _ (by omega)))
        have zf := Aside0.mk (blk_grown (blk_below ZB.out hWW) g3 (hne _ (by omega)))
        have bf := Aside0.mk (BB.out.trans (b3.mono (show w.heap.size ≤ w.heap.size + 2 by omega)))
        have sf := Aside0.mk (Nat.le_trans (Nat.le_trans hSB hWW.size) g3.size)
        have of := Aside0.mk o3
        clear o3 b3 g3 t3 hWW PB ZB BB SB HO W1B hb2 o2
        go_roundg k1
        case measure => omega
        case rel =>
          refine ⟨i + 1, A6, c6, by simp, by simp; omega, ⟨by have := HI.out; omega⟩, ⟨?_⟩, pf, zf, bf, sf⟩
          have := of.out
          rw [mv_take hyi]
          have e7 : (List.take i l' ++ [y]).length = i + 1 := by simp; omega
          rw [e7] at this
          exact this
def prod_Plain.vs (k : Nat) (l : List S66) : Nat → Option (List S66)
  | 0 => some []
  | n + 1 => (prod_Plain.vs k l n).bind fun a => (prod_variables.f k l (n : Int)).bind fun b => if a.length + b.length ≤ 1000000 then some (a ++ b) else none
def prod_Plain.f (k : Nat) (a0_0 : Int) (l0_1 : List S66) (l0_2 : List S64) (a1 : Int) (e0 e1 e2 : Int) (l : List S28) : Option (Int × Int × Int × List S28 × Int) :=
  (prog_Check.f k a0_0 l0_1 l0_2).bind fun t => if t = 0 then (if a1 < 1 then some (0, 0, 0, [], 1) else if a1 > 3 then some (0, 0, 0, [], 1) else
    (prod_single.f k a0_0 l0_1 l0_2).bind fun s => if s = 0 then ((prod_Plain.vs k l0_1 a1.toNat).bind fun v => (expr_Heading.f k a0_0 v).bind fun hd => if hd = 0 then
      ((expr_Check.f k a0_0 l0_1 a1 e0 e1 e2 l).bind fun c => if c = 0 then ((mvE (fun c => some (wrap64 (c * (l0_1.length : Int)))) ⟨e0, e1, e2, l⟩).bind fun y => some (y.f0, y.f1, y.f2, y.f3, 0)) else some (0, 0, 0, [], 20)) else some (0, 0, 0, [], 2))
      else some (0, 0, 0, [], 1)) else some (0, 0, 0, [], 30)
theorem prod_Plain.vs_pre {k : Nat} {l : List S66} : ∀ {n : Nat} {v : List S66}, prod_Plain.vs k l n = some v → ∀ j, j ≤ n → ∃ a, prod_Plain.vs k l j = some a
  | 0, v, h, j, hj => by
    obtain rfl : j = 0 := by omega
    exact ⟨v, h⟩
  | n + 1, v, h, j, hj => by
    by_cases e : j = n + 1
    · subst e
      exact ⟨v, h⟩
    · rw [prod_Plain.vs] at h
      obtain ⟨a, ha, _⟩ := Option.bind_eq_some_iff.mp h
      exact prod_Plain.vs_pre ha j (by omega)
theorem row4_put {W : World} {B t : Nat} {x0 x1 x2 x3 : Value} (hz : W.heap[B]? = some (.cells #[x0, x1, x2, x3] t (0, 0))) (a b c u : Value) :
    ((((W.setCell ⟨B, 0, none⟩ a).setCell ⟨B, 1, none⟩ b).setCell ⟨B, 2, none⟩ c).setCell ⟨B, 3, none⟩ u).heap[B]? = some (.cells #[a, b, c, u] t (0, 0)) ∧
    (∀ k, k ≠ B → ((((W.setCell ⟨B, 0, none⟩ a).setCell ⟨B, 1, none⟩ b).setCell ⟨B, 2, none⟩ c).setCell ⟨B, 3, none⟩ u).heap[k]? = W.heap[k]?) ∧
    (∀ n, n ≤ B → Below n W ((((W.setCell ⟨B, 0, none⟩ a).setCell ⟨B, 1, none⟩ b).setCell ⟨B, 2, none⟩ c).setCell ⟨B, 3, none⟩ u)) := by
  have h0 := blk_put hz 0 a (cs' := #[a, x1, x2, x3]) rfl
  have h1 := blk_put h0 1 b (cs' := #[a, b, x2, x3]) rfl
  have h2 := blk_put h1 2 c (cs' := #[a, b, c, x3]) rfl
  refine ⟨blk_put h2 3 u (cs' := #[a, b, c, u]) rfl, fun k hk => ?_, fun n hn => ?_⟩
  · rw [Below.heap_setCell _ _ _ _ hk, Below.heap_setCell _ _ _ _ hk, Below.heap_setCell _ _ _ _ hk, Below.heap_setCell _ _ _ _ hk]
  · exact (((below_cell _ _ hn).trans (below_cell _ _ hn)).trans (below_cell _ _ hn)).trans (below_cell _ _ hn)
theorem prod_Plain1.fn (w : World) (b : Nat) (a v : Value) (A : Option Addr) (n c : Nat) (h : w.heap[b]? = some (.cells #[a, .slice A n c, v] 25 (0, 0))) : FnAt w (.func (.func 49) #[] #[.pointer (some ⟨b, 0, none⟩)]) (fun c => some (wrap64 (c * (n : Int)))) := by
  refine ⟨_, _, rfl, enters_of Try.func49 (by kernel_rfl) rfl, fun W m r hW hr => ?_⟩
  obtain rfl : wrap64 (m * (n : Int)) = r := Option.some.inj hr
  show Calls Try.prog 49 #[.int .i64 m, .pointer (some ⟨b, 0, none⟩)] W _
  have c0 : W.cell? ⟨b, 1, none⟩ = some (.slice A n c) := (blk_cell ((hW.block _ (blk_lt h)).trans h) 1).trans rfl
  go_enter Try.func49, Try.ntmps49
  go_wp2
  go_ret
  exact ⟨rfl, Below.refl _ _⟩
theorem prod_Plain.calls (k : Nat) (a0_0 : Int) (A0_1 : Option Addr) (c0_1 : Nat) (l0_1 : List S66) (A0_2 : Option Addr) (c0_2 : Nat) (l0_2 : List S64) (a1 : Int) (e0 e1 e2 : Int) (A2 : Option Addr) (c2 : Nat) (l : List S28) (r1 r2 r3 : Int) (r4 : List S28) (r5 : Int) (w : World)
    (hr1 : Kd.C k66 w A0_1 l0_1.length l0_1) (hc1 : l0_1.length ≤ c0_1) (hr2 : Kd.C k64 w A0_2 l0_2.length l0_2) (hc2 : l0_2.length ≤ c0_2) (hr3 : Kd.C k28 w A2 l.length l) (hc3 : l.length ≤ c2) (h : prod_Plain.f k a0_0 l0_1 l0_2 a1 e0 e1 e2 l = some (r1, r2, r3, r4, r5)) :
    Calls Try.prog 12 #[.agg #[.int .i64 a0_0, .slice A0_1 l0_1.length c0_1, .slice A0_2 l0_2.length c0_2], .int .i64 a1, .agg #[.int .i64 e0, .int .i64 e1, .int .i64 e2, .slice A2 l.length c2]] w fun en w' => ∃ v4_ : Value, en = .returned (.tuple #[.agg #[.int .i64 r1, .int .i64 r2, .int .i64 r3, v4_], .int .i64 r5]) ∧ Kd.R k28 28 w' w.heap.size (fun _ => True) v4_ r4 ∧ Below w.heap.size w w' := by
  have huE := Try.underlying28
  have huP := Try.underlying25
  have HR1 := Aside0.mk hr1
  have HC1 := Aside0.mk hc1
  have HR2 := Aside0.mk hr2
  have HC2 := Aside0.mk hc2
  have HR3 := Aside0.mk hr3
  have HC3 := Aside0.mk hc3
  clear hr1 hc1 hr2 hc2 hr3 hc3
  unfold prod_Plain.f at h
  obtain ⟨tc, ac, h⟩ := Option.bind_eq_some_iff.mp h
  have AC := Aside0.mk ac
  clear ac
  obtain ⟨W0, hW0⟩ : ∃ X, (((w.alloc (.cells #[.int .i64 a0_0, .slice A0_1 l0_1.length c0_1, .slice A0_2 l0_2.length c0_2] 25)).alloc (.cells #[.int .i64 e0, .int .i64 e1, .int .i64 e2, .slice A2 l.length c2] 28)).alloc (.cells #[.int .i64 0, .int .i64 0, .int .i64 0, .slice none 0 0] 28)) = X := ⟨_, rfl⟩
  have b0 : Below w.heap.size w W0 := by rw [← hW0]; exact bal (bal (bal (Below.refl _ _) _) _) _
  have p0 : W0.heap[w.heap.size]? = some (.cells #[.int .i64 a0_0, .slice A0_1 l0_1.length c0_1, .slice A0_2 l0_2.length c0_2] 25 (0, 0)) := by rw [← hW0]; exact kal (kal (blk_new _ _) _) _
  have q0 : W0.heap[w.heap.size + 1]? = some (.cells #[.int .i64 e0, .int .i64 e1, .int .i64 e2, .slice A2 l.length c2] 28 (0, 0)) := by
    rw [← hW0]
    have := blk_new (w.alloc (.cells #[.int .i64 a0_0, .slice A0_1 l0_1.length c0_1, .slice A0_2 l0_2.length c0_2] 25)) (.cells #[.int .i64 e0, .int .i64 e1, .int .i64 e2, .slice A2 l.length c2] 28)
    exact kal (by simpa using this) _
  have z0 : W0.heap[w.heap.size + 1 + 1]? = some (.cells #[.int .i64 0, .int .i64 0, .int .i64 0, .slice none 0 0] 28 (0, 0)) := by
    rw [← hW0]
    have := blk_new ((w.alloc (.cells #[.int .i64 a0_0, .slice A0_1 l0_1.length c0_1, .slice A0_2 l0_2.length c0_2] 25)).alloc (.cells #[.int .i64 e0, .int .i64 e1, .int .i64 e2, .slice A2 l.length c2] 28)) (.cells #[.int .i64 0, .int .i64 0, .int .i64 0, .slice none 0 0] 28)
    simpa using this
  have x0 : W0.cell? ⟨w.heap.size, 0, none⟩ = some (.int .i64 a0_0) := (blk_cell p0 0).trans rfl
  have x1 : W0.cell? ⟨w.heap.size, 1, none⟩ = some (.slice A0_1 l0_1.length c0_1) := (blk_cell p0 1).trans rfl
  have x2 : W0.cell? ⟨w.heap.size, 2, none⟩ = some (.slice A0_2 l0_2.length c0_2) := (blk_cell p0 2).trans rfl
  have bad : ∀ (W : World) (ec : Int), Below w.heap.size w W → W.heap[w.heap.size + 1 + 1]? = some (.cells #[.int .i64 0, .int .i64 0, .int .i64 0, .slice none 0 0] 28 (0, 0)) → some (r1, r2, r3, r4, r5) = some (0, 0, 0, [], ec) → True := fun _ _ _ _ _ => trivial
  clear bad
  by_cases htc : tc = 0
  case neg =>
    rw [if_neg htc] at h
    have H := Aside0.mk h
    have g2 : (tc != 0) = true := bne_iff_ne.mpr htc
    clear h
    go_enter Try.func12, Try.ntmps12
    go_wp2_with (first | (go_at_call 43; refine (prog_Check.calls k a0_0 _ _ l0_1 _ _ l0_2 _ W0 (Kd.C_below HR1.out b0) HC1.out (Kd.C_below HR2.out b0) HC2.out AC.out).mono ?_; rintro e W1 ⟨rfl, hb1⟩; have b1 := b0.trans (hb1.mono b0.size); have p1 := blk_below p0 hb1; have q1 := blk_below q0 hb1; have z1 := blk_below z0 hb1; have y0 : W1.cell? ⟨w.heap.size, 0, none⟩ = some (.int .i64 a0_0) := (blk_cell p1 0).trans rfl; have y1 : W1.cell? ⟨w.heap.size, 1, none⟩ = some (.slice A0_1 l0_1.length c0_1) := (blk_cell p1 1).trans rfl; have y2 : W1.cell? ⟨w.heap.size, 2, none⟩ = some (.slice A0_2 l0_2.length c0_2) := (blk_cell p1 2).trans rfl; have z_0 : W1.cell? ⟨w.heap.size + 1 + 1, 0, none⟩ = some (.int .i64 0) := (blk_cell z1 0).trans rfl; have z_1 : W1.cell? ⟨w.heap.size + 1 + 1, 1, none⟩ = some (.int .i64 0) := (blk_cell z1 1).trans rfl; have z_2 : W1.cell? ⟨w.heap.size + 1 + 1, 2, none⟩ = some (.int .i64 0) := (blk_cell z1 2).trans rfl; have z_3 : W1.cell? ⟨w.heap.size + 1 + 1, 3, none⟩ = some (.slice none 0 0) := (blk_cell z1 3).trans rfl; have f_0 := blk_frozen z1 0; have f_1 := blk_frozen z1 1; have f_2 := blk_frozen z1 2; have f_3 := blk_frozen z1 3))
    obtain ⟨zc, zk, zb⟩ := row4_put z1 (.int .i64 0) (.int .i64 0) (.int .i64 0) (.slice none 0 0)
    refine bodyPost_ret (results_ct rfl _ _ (w.heap.size + 1 + 1) 28 #[.int .i64 0, .int .i64 0, .int .i64 0, .slice none 0 0] (0, 0) _ rfl zc huE rfl (by kernel_rfl)) rfl ?_
    obtain ⟨rfl, rfl, rfl, rfl, rfl⟩ : r1 = 0 ∧ r2 = 0 ∧ r3 = 0 ∧ r4 = [] ∧ r5 = 30 := by
      injection (Option.some.inj H.out) with g1 g2; injection g2 with g2 g3; injection g3 with g3 g4; injection g4 with g4 g5
      exact ⟨g1.symm, g2.symm, g3.symm, g4.symm, g5.symm⟩
    exact ⟨_, rfl, Kd.R_nil _ _ _ _ _, b1.trans (zb _ (by omega))⟩
  subst htc
  rw [if_pos rfl] at h
  by_cases h1 : a1 < 1
  case pos =>
    rw [if_pos h1] at h
    have H := Aside0.mk h
    have g2 : decide (a1 < 1) = true := decide_eq_true h1
    clear h h1
    go_enter Try.func12, Try.ntmps12
    go_wp2_with (first | (go_at_call 43; refine (prog_Check.calls k a0_0 _ _ l0_1 _ _ l0_2 _ W0 (Kd.C_below HR1.out b0) HC1.out (Kd.C_below HR2.out b0) HC2.out AC.out).mono ?_; rintro e W1 ⟨rfl, hb1⟩; have b1 := b0.trans (hb1.mono b0.size); have p1 := blk_below p0 hb1; have q1 := blk_below q0 hb1; have z1 := blk_below z0 hb1; have y0 : W1.cell? ⟨w.heap.size, 0, none⟩ = some (.int .i64 a0_0) := (blk_cell p1 0).trans rfl; have y1 : W1.cell? ⟨w.heap.size, 1, none⟩ = some (.slice A0_1 l0_1.length c0_1) := (blk_cell p1 1).trans rfl; have y2 : W1.cell? ⟨w.heap.size, 2, none⟩ = some (.slice A0_2 l0_2.length c0_2) := (blk_cell p1 2).trans rfl; have z_0 : W1.cell? ⟨w.heap.size + 1 + 1, 0, none⟩ = some (.int .i64 0) := (blk_cell z1 0).trans rfl; have z_1 : W1.cell? ⟨w.heap.size + 1 + 1, 1, none⟩ = some (.int .i64 0) := (blk_cell z1 1).trans rfl; have z_2 : W1.cell? ⟨w.heap.size + 1 + 1, 2, none⟩ = some (.int .i64 0) := (blk_cell z1 2).trans rfl; have z_3 : W1.cell? ⟨w.heap.size + 1 + 1, 3, none⟩ = some (.slice none 0 0) := (blk_cell z1 3).trans rfl; have f_0 := blk_frozen z1 0; have f_1 := blk_frozen z1 1; have f_2 := blk_frozen z1 2; have f_3 := blk_frozen z1 3))
    obtain ⟨zc, zk, zb⟩ := row4_put z1 (.int .i64 0) (.int .i64 0) (.int .i64 0) (.slice none 0 0)
    refine bodyPost_ret (results_ct rfl _ _ (w.heap.size + 1 + 1) 28 #[.int .i64 0, .int .i64 0, .int .i64 0, .slice none 0 0] (0, 0) _ rfl zc huE rfl (by kernel_rfl)) rfl ?_
    obtain ⟨rfl, rfl, rfl, rfl, rfl⟩ : r1 = 0 ∧ r2 = 0 ∧ r3 = 0 ∧ r4 = [] ∧ r5 = 1 := by
      injection (Option.some.inj H.out) with g1 g2; injection g2 with g2 g3; injection g3 with g3 g4; injection g4 with g4 g5
      exact ⟨g1.symm, g2.symm, g3.symm, g4.symm, g5.symm⟩
    exact ⟨_, rfl, Kd.R_nil _ _ _ _ _, b1.trans (zb _ (by omega))⟩
  rw [if_neg h1] at h
  have g1 : decide (a1 < 1) = false := decide_eq_false h1
  by_cases h3 : a1 > 3
  case pos =>
    rw [if_pos h3] at h
    have H := Aside0.mk h
    have g2 : decide (3 < a1) = true := decide_eq_true h3
    have g3 : decide (a1 > 3) = true := decide_eq_true h3
    clear h h1 h3
    go_enter Try.func12, Try.ntmps12
    go_wp2_with (first | (go_at_call 43; refine (prog_Check.calls k a0_0 _ _ l0_1 _ _ l0_2 _ W0 (Kd.C_below HR1.out b0) HC1.out (Kd.C_below HR2.out b0) HC2.out AC.out).mono ?_; rintro e W1 ⟨rfl, hb1⟩; have b1 := b0.trans (hb1.mono b0.size); have p1 := blk_below p0 hb1; have q1 := blk_below q0 hb1; have z1 := blk_below z0 hb1; have y0 : W1.cell? ⟨w.heap.size, 0, none⟩ = some (.int .i64 a0_0) := (blk_cell p1 0).trans rfl; have y1 : W1.cell? ⟨w.heap.size, 1, none⟩ = some (.slice A0_1 l0_1.length c0_1) := (blk_cell p1 1).trans rfl; have y2 : W1.cell? ⟨w.heap.size, 2, none⟩ = some (.slice A0_2 l0_2.length c0_2) := (blk_cell p1 2).trans rfl; have z_0 : W1.cell? ⟨w.heap.size + 1 + 1, 0, none⟩ = some (.int .i64 0) := (blk_cell z1 0).trans rfl; have z_1 : W1.cell? ⟨w.heap.size + 1 + 1, 1, none⟩ = some (.int .i64 0) := (blk_cell z1 1).trans rfl; have z_2 : W1.cell? ⟨w.heap.size + 1 + 1, 2, none⟩ = some (.int .i64 0) := (blk_cell z1 2).trans rfl; have z_3 : W1.cell? ⟨w.heap.size + 1 + 1, 3, none⟩ = some (.slice none 0 0) := (blk_cell z1 3).trans rfl; have f_0 := blk_frozen z1 0; have f_1 := blk_frozen z1 1; have f_2 := blk_frozen z1 2; have f_3 := blk_frozen z1 3))
    obtain ⟨zc, zk, zb⟩ := row4_put z1 (.int .i64 0) (.int .i64 0) (.int .i64 0) (.slice none 0 0)
    refine bodyPost_ret (results_ct rfl _ _ (w.heap.size + 1 + 1) 28 #[.int .i64 0, .int .i64 0, .int .i64 0, .slice none 0 0] (0, 0) _ rfl zc huE rfl (by kernel_rfl)) rfl ?_
    obtain ⟨rfl, rfl, rfl, rfl, rfl⟩ : r1 = 0 ∧ r2 = 0 ∧ r3 = 0 ∧ r4 = [] ∧ r5 = 1 := by
      injection (Option.some.inj H.out) with g1 g2; injection g2 with g2 g3; injection g3 with g3 g4; injection g4 with g4 g5
      exact ⟨g1.symm, g2.symm, g3.symm, g4.symm, g5.symm⟩
    exact ⟨_, rfl, Kd.R_nil _ _ _ _ _, b1.trans (zb _ (by omega))⟩
  rw [if_neg h3] at h
  have g3 : decide (3 < a1) = false := decide_eq_false h3
  have g4 : decide (a1 > 3) = false := decide_eq_false h3
  obtain ⟨sc, as_, h⟩ := Option.bind_eq_some_iff.mp h
  have AS := Aside0.mk as_
  have RNG := Aside0.mk (And.intro h1 h3)
  clear as_ h1 h3
  by_cases hsc : sc = 0
  case neg =>
    rw [if_neg hsc] at h
    have H := Aside0.mk h
    have g5 : (sc != 0) = true := bne_iff_ne.mpr hsc
    clear h hsc
    go_enter Try.func12, Try.ntmps12
    go_wp2_with (first | (go_at_call 43; refine (prog_Check.calls k a0_0 _ _ l0_1 _ _ l0_2 _ W0 (Kd.C_below HR1.out b0) HC1.out (Kd.C_below HR2.out b0) HC2.out AC.out).mono ?_; rintro e W1 ⟨rfl, hb1⟩; have b1 := b0.trans (hb1.mono b0.size); have p1 := blk_below p0 hb1; have q1 := blk_below q0 hb1; have z1 := blk_below z0 hb1; have y0 : W1.cell? ⟨w.heap.size, 0, none⟩ = some (.int .i64 a0_0) := (blk_cell p1 0).trans rfl; have y1 : W1.cell? ⟨w.heap.size, 1, none⟩ = some (.slice A0_1 l0_1.length c0_1) := (blk_cell p1 1).trans rfl; have y2 : W1.cell? ⟨w.heap.size, 2, none⟩ = some (.slice A0_2 l0_2.length c0_2) := (blk_cell p1 2).trans rfl; have z_0 : W1.cell? ⟨w.heap.size + 1 + 1, 0, none⟩ = some (.int .i64 0) := (blk_cell z1 0).trans rfl; have z_1 : W1.cell? ⟨w.heap.size + 1 + 1, 1, none⟩ = some (.int .i64 0) := (blk_cell z1 1).trans rfl; have z_2 : W1.cell? ⟨w.heap.size + 1 + 1, 2, none⟩ = some (.int .i64 0) := (blk_cell z1 2).trans rfl; have z_3 : W1.cell? ⟨w.heap.size + 1 + 1, 3, none⟩ = some (.slice none 0 0) := (blk_cell z1 3).trans rfl; have f_0 := blk_frozen z1 0; have f_1 := blk_frozen z1 1; have f_2 := blk_frozen z1 2; have f_3 := blk_frozen z1 3) | (go_at_call 44; refine (prod_single.calls k a0_0 _ _ l0_1 _ _ l0_2 _ W1 (Kd.C_below HR1.out b1) HC1.out (Kd.C_below HR2.out b1) HC2.out AS.out).mono ?_; rintro e W2 ⟨rfl, hb2⟩; have b2 := b1.trans (hb2.mono b1.size); have p2 := blk_below p1 hb2; have q2 := blk_below q1 hb2; have z2 := blk_below z1 hb2; have y0 : W2.cell? ⟨w.heap.size, 0, none⟩ = some (.int .i64 a0_0) := (blk_cell p2 0).trans rfl; have y1 : W2.cell? ⟨w.heap.size, 1, none⟩ = some (.slice A0_1 l0_1.length c0_1) := (blk_cell p2 1).trans rfl; have y2 : W2.cell? ⟨w.heap.size, 2, none⟩ = some (.slice A0_2 l0_2.length c0_2) := (blk_cell p2 2).trans rfl; have z_0 : W2.cell? ⟨w.heap.size + 1 + 1, 0, none⟩ = some (.int .i64 0) := (blk_cell z2 0).trans rfl; have z_1 : W2.cell? ⟨w.heap.size + 1 + 1, 1, none⟩ = some (.int .i64 0) := (blk_cell z2 1).trans rfl; have z_2 : W2.cell? ⟨w.heap.size + 1 + 1, 2, none⟩ = some (.int .i64 0) := (blk_cell z2 2).trans rfl; have z_3 : W2.cell? ⟨w.heap.size + 1 + 1, 3, none⟩ = some (.slice none 0 0) := (blk_cell z2 3).trans rfl; have f_0 := blk_frozen z2 0; have f_1 := blk_frozen z2 1; have f_2 := blk_frozen z2 2; have f_3 := blk_frozen z2 3))
    obtain ⟨zc, zk, zb⟩ := row4_put z2 (.int .i64 0) (.int .i64 0) (.int .i64 0) (.slice none 0 0)
    refine bodyPost_ret (results_ct rfl _ _ (w.heap.size + 1 + 1) 28 #[.int .i64 0, .int .i64 0, .int .i64 0, .slice none 0 0] (0, 0) _ rfl zc huE rfl (by kernel_rfl)) rfl ?_
    obtain ⟨rfl, rfl, rfl, rfl, rfl⟩ : r1 = 0 ∧ r2 = 0 ∧ r3 = 0 ∧ r4 = [] ∧ r5 = 1 := by
      injection (Option.some.inj H.out) with g1 g2; injection g2 with g2 g3; injection g3 with g3 g4; injection g4 with g4 g5
      exact ⟨g1.symm, g2.symm, g3.symm, g4.symm, g5.symm⟩
    exact ⟨_, rfl, Kd.R_nil _ _ _ _ _, b2.trans (zb _ (by omega))⟩
  subst hsc
  rw [if_pos rfl] at h
  obtain ⟨vs, av, h⟩ := Option.bind_eq_some_iff.mp h
  obtain ⟨hc, ah, h⟩ := Option.bind_eq_some_iff.mp h
  have AV := Aside0.mk av
  have AH := Aside0.mk ah
  have H := Aside0.mk h
  clear av ah h
  go_enter Try.func12, Try.ntmps12
  go_wp2_with (first | (go_at_call 43; refine (prog_Check.calls k a0_0 _ _ l0_1 _ _ l0_2 _ W0 (Kd.C_below HR1.out b0) HC1.out (Kd.C_below HR2.out b0) HC2.out AC.out).mono ?_; rintro e W1 ⟨rfl, hb1⟩; have b1 := b0.trans (hb1.mono b0.size); have p1 := blk_below p0 hb1; have q1 := blk_below q0 hb1; have z1 := blk_below z0 hb1; have y0 : W1.cell? ⟨w.heap.size, 0, none⟩ = some (.int .i64 a0_0) := (blk_cell p1 0).trans rfl; have y1 : W1.cell? ⟨w.heap.size, 1, none⟩ = some (.slice A0_1 l0_1.length c0_1) := (blk_cell p1 1).trans rfl; have y2 : W1.cell? ⟨w.heap.size, 2, none⟩ = some (.slice A0_2 l0_2.length c0_2) := (blk_cell p1 2).trans rfl; have z_0 : W1.cell? ⟨w.heap.size + 1 + 1, 0, none⟩ = some (.int .i64 0) := (blk_cell z1 0).trans rfl; have z_1 : W1.cell? ⟨w.heap.size + 1 + 1, 1, none⟩ = some (.int .i64 0) := (blk_cell z1 1).trans rfl; have z_2 : W1.cell? ⟨w.heap.size + 1 + 1, 2, none⟩ = some (.int .i64 0) := (blk_cell z1 2).trans rfl; have z_3 : W1.cell? ⟨w.heap.size + 1 + 1, 3, none⟩ = some (.slice none 0 0) := (blk_cell z1 3).trans rfl; have f_0 := blk_frozen z1 0; have f_1 := blk_frozen z1 1; have f_2 := blk_frozen z1 2; have f_3 := blk_frozen z1 3) | (go_at_call 44; refine (prod_single.calls k a0_0 _ _ l0_1 _ _ l0_2 _ W1 (Kd.C_below HR1.out b1) HC1.out (Kd.C_below HR2.out b1) HC2.out AS.out).mono ?_; rintro e W2 ⟨rfl, hb2⟩; have b2 := b1.trans (hb2.mono b1.size); have p2 := blk_below p1 hb2; have q2 := blk_below q1 hb2; have z2 := blk_below z1 hb2; have y0 : W2.cell? ⟨w.heap.size, 0, none⟩ = some (.int .i64 a0_0) := (blk_cell p2 0).trans rfl; have y1 : W2.cell? ⟨w.heap.size, 1, none⟩ = some (.slice A0_1 l0_1.length c0_1) := (blk_cell p2 1).trans rfl; have y2 : W2.cell? ⟨w.heap.size, 2, none⟩ = some (.slice A0_2 l0_2.length c0_2) := (blk_cell p2 2).trans rfl; have z_0 : W2.cell? ⟨w.heap.size + 1 + 1, 0, none⟩ = some (.int .i64 0) := (blk_cell z2 0).trans rfl; have z_1 : W2.cell? ⟨w.heap.size + 1 + 1, 1, none⟩ = some (.int .i64 0) := (blk_cell z2 1).trans rfl; have z_2 : W2.cell? ⟨w.heap.size + 1 + 1, 2, none⟩ = some (.int .i64 0) := (blk_cell z2 2).trans rfl; have z_3 : W2.cell? ⟨w.heap.size + 1 + 1, 3, none⟩ = some (.slice none 0 0) := (blk_cell z2 3).trans rfl; have f_0 := blk_frozen z2 0; have f_1 := blk_frozen z2 1; have f_2 := blk_frozen z2 2; have f_3 := blk_frozen z2 3))
  have PB := Aside0.mk p2
  have QB := Aside0.mk q2
  have ZZ := Aside0.mk z2
  have BB := Aside0.mk b2
  have SB := Aside0.mk (show w.heap.size + 3 ≤ W2.heap.size from by have := blk_lt z2; omega)
  clear p0 q0 z0 b0 x0 x1 x2 hb1 b1 p1 q1 z1 hb2 b2 p2 q2 z2 y0 y1 y2 z_0 z_1 z_2 z_3 f_0 f_1 f_2 f_3 hW0
  go_loopg [8, 27] a1.toNat (fun kq v8 v27 X => ∃ (j : Nat) (A8 : Option Addr) (c8 : Nat) (acc : List S66), v27 = .int .i64 (j : Int) ∧ v8 = .slice A8 acc.length c8 ∧ Aside0 (j + kq = a1.toNat) ∧ Aside0 (prod_Plain.vs k l0_1 j = some acc) ∧ Aside0 (Kd.R k66 66 X (w.heap.size + 3) (fun _ => True) (.slice A8 acc.length c8) acc) ∧ Aside0 (X.heap[w.heap.size]? = some (.cells #[.int .i64 a0_0, .slice A0_1 l0_1.length c0_1, .slice A0_2 l0_2.length c0_2] 25 (0, 0))) ∧ Aside0 (X.heap[w.heap.size + 1]? = some (.cells #[.int .i64 e0, .int .i64 e1, .int .i64 e2, .slice A2 l.length c2] 28 (0, 0))) ∧ Aside0 (X.heap[w.heap.size + 1 + 1]? = some (.cells #[.int .i64 0, .int .i64 0, .int .i64 0, .slice none 0 0] 28 (0, 0))) ∧ Aside0 (Below w.heap.size w X) ∧ Aside0 (w.heap.size + 3 ≤ X.heap.size))
  case atStart => exact ⟨0, none, 0, [], rfl, rfl, ⟨by omega⟩, ⟨rfl⟩, ⟨Kd.R_nil _ _ _ _ _⟩, PB, QB, ZZ, BB, SB⟩
  case round =>
    clear PB QB ZZ BB SB
    obtain ⟨j, A8, c8, acc, rfl, rfl, HI, HV, HO, PB, QB, ZZ, BB, SB⟩ := hrel
    have hrng := RNG.out
    cases gk with
    | succ k1 =>
      have hj : j < a1.toNat := by have := HI.out; omega
      have hd : decide ((j : Int) < a1) = true := decide_eq_true (by omega)
      obtain ⟨nx, hnx⟩ := prod_Plain.vs_pre AV.out (j + 1) (by omega)
      have hnx2 := hnx
      rw [prod_Plain.vs] at hnx
      obtain ⟨a_, ha_, hnx⟩ := Option.bind_eq_some_iff.mp hnx
      obtain rfl : acc = a_ := Option.some.inj (HV.out.symm.trans ha_)
      obtain ⟨b_, hb_, hnx⟩ := Option.bind_eq_some_iff.mp hnx
      have hlen : acc.length + b_.length ≤ 1000000 := by
        rcases Nat.lt_or_ge 1000000 (acc.length + b_.length) with h1 | h1
        · rw [if_neg (by omega)] at hnx; cases hnx
        · exact h1
      rw [if_pos hlen] at hnx
      obtain rfl := Option.some.inj hnx
      have NX := Aside0.mk hnx2
      have HB_ := Aside0.mk hb_
      clear hnx hnx2 ha_ hb_
      have y1 : wr.cell? ⟨w.heap.size, 1, none⟩ = some (.slice A0_1 l0_1.length c0_1) := (blk_cell PB.out 1).trans rfl
      have hw1 : IntKind.i64.wrap ((j : Int) + 1) = (j : Int) + 1 := by rw [i64_w]; unfold wrap64; omega
      have hob := Kd.R_base HO.out
      have hSB := SB.out
      go_wp2_with (first | (go_at_call 45; refine (prod_variables.calls k _ _ l0_1 (j : Int) _ wr (Kd.C_below HR1.out BB.out) HC1.out HB_.out).mono ?_; rintro e Y ⟨v0, rfl, oY, hbY⟩; obtain ⟨D0, d0, eD0⟩ := Kd.R_slice oY; subst eD0) | ((with_reducible refine gate_builtin (b := .append) (xs := #[.tmp 30, .tmp 34]) rfl ?_); at_builtin; refine Kd.R_append_rows k66 (w0 := wr) (W := Y) (w.heap.size + 3) rfl (.tmp 30) (.tmp 34) 22 66 (.agg #[(.string ⟨#[]⟩), (.int .i64 0), (.int .i64 0)]) 32 rfl Try.underlying22 info66 rfl (by decide) (by omega) (.slice A8 acc.length c8) acc b_ _ _ _ (fun _ => True) (fun _ => False) rfl rfl ?aO ?aR (fun _ _ h => h) (fun _ h => h.elim) (fun _ _ => trivial) ?aB ?aS ?aL ?_; (case aO => exact Kd.R_below HO.out hbY); (case aR => exact (Kd.R_reads' oY).2.2); (case aB => exact hbY.mono hSB); (case aS => exact Nat.le_trans hSB hbY.size); (case aL => omega); intro v1 W3 o3 b3 g3 t3))
      obtain ⟨A6, c6, e6⟩ := Kd.R_slice o3
      subst e6
      have hne : ∀ q, q < w.heap.size + 3 → some q ≠ (Value.slice A8 acc.length c8).ownBlock := fun q hq e => by have h9 := hob _ e.symm; omega
      have pf := Aside0.mk (blk_grown (blk_below PB.out hbY) g3 (hne _ (by omega)))
      have qf := Aside0.mk (blk_grown (blk_below QB.out hbY) g3 (hne _ (by omega)))
      have zf := Aside0.mk (blk_grown (blk_below ZZ.out hbY) g3 (hne _ (by omega)))
      have bf := Aside0.mk (BB.out.trans (b3.mono (show w.heap.size ≤ w.heap.size + 3 by omega)))
      have sf := Aside0.mk (Nat.le_trans (Nat.le_trans hSB hbY.size) g3.size)
      have of := Aside0.mk o3
      clear o3 b3 g3 t3 PB QB ZZ BB SB HO hbY oY y1
      go_roundg k1
      case measure => omega
      case rel => exact ⟨j + 1, A6, c6, acc ++ b_, by simp, rfl, ⟨by have := HI.out; omega⟩, NX, of, pf, qf, zf, bf, sf⟩
    | zero =>
      have hj : j = a1.toNat := by have := HI.out; omega
      have hd : decide ((j : Int) < a1) = false := decide_eq_false (by omega)
      obtain rfl : acc = vs := Option.some.inj (HV.out.symm.trans (hj ▸ AV.out))
      obtain ⟨_, hlv, cv⟩ := Kd.R_reads' HO.out
      have CV := Aside0.mk cv
      clear cv
      have y0 : wr.cell? ⟨w.heap.size, 0, none⟩ = some (.int .i64 a0_0) := (blk_cell PB.out 0).trans rfl
      have y1 : wr.cell? ⟨w.heap.size, 1, none⟩ = some (.slice A0_1 l0_1.length c0_1) := (blk_cell PB.out 1).trans rfl
      have y2 : wr.cell? ⟨w.heap.size, 2, none⟩ = some (.slice A0_2 l0_2.length c0_2) := (blk_cell PB.out 2).trans rfl
      by_cases hhc : hc = 0
      case neg =>
        have h := H.out
        clear H
        rw [if_neg hhc] at h
        have H := Aside0.mk h
        have g6 : (hc != 0) = true := bne_iff_ne.mpr hhc
        clear h hhc
        go_wp2_with (first | (go_at_call 46; refine (expr_Heading.calls k a0_0 _ _ acc _ wr CV.out hlv AH.out).mono ?_; rintro e Y ⟨rfl, hbY⟩; have bY := BB.out.trans (hbY.mono BB.out.size); have pY := blk_below PB.out hbY; have qY := blk_below QB.out hbY; have zY := blk_below ZZ.out hbY; have s0 : Y.cell? ⟨w.heap.size, 0, none⟩ = some (.int .i64 a0_0) := (blk_cell pY 0).trans rfl; have s1 : Y.cell? ⟨w.heap.size, 1, none⟩ = some (.slice A0_1 l0_1.length c0_1) := (blk_cell pY 1).trans rfl; have s2 : Y.cell? ⟨w.heap.size, 2, none⟩ = some (.slice A0_2 l0_2.length c0_2) := (blk_cell pY 2).trans rfl; have t0 : Y.cell? ⟨w.heap.size + 1, 0, none⟩ = some (.int .i64 e0) := (blk_cell qY 0).trans rfl; have t1 : Y.cell? ⟨w.heap.size + 1, 1, none⟩ = some (.int .i64 e1) := (blk_cell qY 1).trans rfl; have t2 : Y.cell? ⟨w.heap.size + 1, 2, none⟩ = some (.int .i64 e2) := (blk_cell qY 2).trans rfl; have t3 : Y.cell? ⟨w.heap.size + 1, 3, none⟩ = some (.slice A2 l.length c2) := (blk_cell qY 3).trans rfl; have z_0 : Y.cell? ⟨w.heap.size + 1 + 1, 0, none⟩ = some (.int .i64 0) := (blk_cell zY 0).trans rfl; have z_1 : Y.cell? ⟨w.heap.size + 1 + 1, 1, none⟩ = some (.int .i64 0) := (blk_cell zY 1).trans rfl; have z_2 : Y.cell? ⟨w.heap.size + 1 + 1, 2, none⟩ = some (.int .i64 0) := (blk_cell zY 2).trans rfl; have z_3 : Y.cell? ⟨w.heap.size + 1 + 1, 3, none⟩ = some (.slice none 0 0) := (blk_cell zY 3).trans rfl; have f_0 := blk_frozen zY 0; have f_1 := blk_frozen zY 1; have f_2 := blk_frozen zY 2; have f_3 := blk_frozen zY 3))
        obtain ⟨zc, zk, zb⟩ := row4_put zY (.int .i64 0) (.int .i64 0) (.int .i64 0) (.slice none 0 0)
        refine bodyPost_ret (results_ct rfl _ _ (w.heap.size + 1 + 1) 28 #[.int .i64 0, .int .i64 0, .int .i64 0, .slice none 0 0] (0, 0) _ rfl zc huE rfl (by kernel_rfl)) rfl ?_
        obtain ⟨rfl, rfl, rfl, rfl, rfl⟩ : r1 = 0 ∧ r2 = 0 ∧ r3 = 0 ∧ r4 = [] ∧ r5 = 2 := by
          injection (Option.some.inj H.out) with g1 g2; injection g2 with g2 g3; injection g3 with g3 g4; injection g4 with g4 g5
          exact ⟨g1.symm, g2.symm, g3.symm, g4.symm, g5.symm⟩
        exact ⟨_, rfl, Kd.R_nil _ _ _ _ _, bY.trans (zb _ (by omega))⟩
      subst hhc
      have h := H.out
      clear H
      rw [if_pos rfl] at h
      obtain ⟨cc, ae, h⟩ := Option.bind_eq_some_iff.mp h
      have AE := Aside0.mk ae
      by_cases hcc : cc = 0
      case neg =>
        rw [if_neg hcc] at h
        have H := Aside0.mk h
        have g6 : (cc != 0) = true := bne_iff_ne.mpr hcc
        clear h hcc ae
        go_wp2_with (first | (go_at_call 46; refine (expr_Heading.calls k a0_0 _ _ acc _ wr CV.out hlv AH.out).mono ?_; rintro e Y ⟨rfl, hbY⟩; have bY := BB.out.trans (hbY.mono BB.out.size); have pY := blk_below PB.out hbY; have qY := blk_below QB.out hbY; have zY := blk_below ZZ.out hbY; have s0 : Y.cell? ⟨w.heap.size, 0, none⟩ = some (.int .i64 a0_0) := (blk_cell pY 0).trans rfl; have s1 : Y.cell? ⟨w.heap.size, 1, none⟩ = some (.slice A0_1 l0_1.length c0_1) := (blk_cell pY 1).trans rfl; have s2 : Y.cell? ⟨w.heap.size, 2, none⟩ = some (.slice A0_2 l0_2.length c0_2) := (blk_cell pY 2).trans rfl; have t0 : Y.cell? ⟨w.heap.size + 1, 0, none⟩ = some (.int .i64 e0) := (blk_cell qY 0).trans rfl; have t1 : Y.cell? ⟨w.heap.size + 1, 1, none⟩ = some (.int .i64 e1) := (blk_cell qY 1).trans rfl; have t2 : Y.cell? ⟨w.heap.size + 1, 2, none⟩ = some (.int .i64 e2) := (blk_cell qY 2).trans rfl; have t3 : Y.cell? ⟨w.heap.size + 1, 3, none⟩ = some (.slice A2 l.length c2) := (blk_cell qY 3).trans rfl; have z_0 : Y.cell? ⟨w.heap.size + 1 + 1, 0, none⟩ = some (.int .i64 0) := (blk_cell zY 0).trans rfl; have z_1 : Y.cell? ⟨w.heap.size + 1 + 1, 1, none⟩ = some (.int .i64 0) := (blk_cell zY 1).trans rfl; have z_2 : Y.cell? ⟨w.heap.size + 1 + 1, 2, none⟩ = some (.int .i64 0) := (blk_cell zY 2).trans rfl; have z_3 : Y.cell? ⟨w.heap.size + 1 + 1, 3, none⟩ = some (.slice none 0 0) := (blk_cell zY 3).trans rfl; have f_0 := blk_frozen zY 0; have f_1 := blk_frozen zY 1; have f_2 := blk_frozen zY 2; have f_3 := blk_frozen zY 3) | (go_at_call 47; refine (expr_Check.calls k a0_0 _ _ l0_1 a1 e0 e1 e2 _ _ l _ Y (Kd.C_below HR1.out bY) HC1.out (Kd.C_below HR3.out bY) HC3.out AE.out).mono ?_; rintro e V ⟨rfl, hbV⟩; have bV := bY.trans (hbV.mono bY.size); have pV := blk_below pY hbV; have qV := blk_below qY hbV; have zV := blk_below zY hbV; have z_0 : V.cell? ⟨w.heap.size + 1 + 1, 0, none⟩ = some (.int .i64 0) := (blk_cell zV 0).trans rfl; have z_1 : V.cell? ⟨w.heap.size + 1 + 1, 1, none⟩ = some (.int .i64 0) := (blk_cell zV 1).trans rfl; have z_2 : V.cell? ⟨w.heap.size + 1 + 1, 2, none⟩ = some (.int .i64 0) := (blk_cell zV 2).trans rfl; have z_3 : V.cell? ⟨w.heap.size + 1 + 1, 3, none⟩ = some (.slice none 0 0) := (blk_cell zV 3).trans rfl; have f_0 := blk_frozen zV 0; have f_1 := blk_frozen zV 1; have f_2 := blk_frozen zV 2; have f_3 := blk_frozen zV 3))
        obtain ⟨zc, zk, zb⟩ := row4_put zV (.int .i64 0) (.int .i64 0) (.int .i64 0) (.slice none 0 0)
        refine bodyPost_ret (results_ct rfl _ _ (w.heap.size + 1 + 1) 28 #[.int .i64 0, .int .i64 0, .int .i64 0, .slice none 0 0] (0, 0) _ rfl zc huE rfl (by kernel_rfl)) rfl ?_
        obtain ⟨rfl, rfl, rfl, rfl, rfl⟩ : r1 = 0 ∧ r2 = 0 ∧ r3 = 0 ∧ r4 = [] ∧ r5 = 20 := by
          injection (Option.some.inj H.out) with g1 g2; injection g2 with g2 g3; injection g3 with g3 g4; injection g4 with g4 g5
          exact ⟨g1.symm, g2.symm, g3.symm, g4.symm, g5.symm⟩
        exact ⟨_, rfl, Kd.R_nil _ _ _ _ _, bV.trans (zb _ (by omega))⟩
      subst hcc
      rw [if_pos rfl] at h
      obtain ⟨y, hy, h⟩ := Option.bind_eq_some_iff.mp h
      have HY := Aside0.mk hy
      have H := Aside0.mk h
      clear h hy ae
      go_wp2_with (first | (go_at_call 46; refine (expr_Heading.calls k a0_0 _ _ acc _ wr CV.out hlv AH.out).mono ?_; rintro e Y ⟨rfl, hbY⟩; have bY := BB.out.trans (hbY.mono BB.out.size); have pY := blk_below PB.out hbY; have qY := blk_below QB.out hbY; have zY := blk_below ZZ.out hbY; have s0 : Y.cell? ⟨w.heap.size, 0, none⟩ = some (.int .i64 a0_0) := (blk_cell pY 0).trans rfl; have s1 : Y.cell? ⟨w.heap.size, 1, none⟩ = some (.slice A0_1 l0_1.length c0_1) := (blk_cell pY 1).trans rfl; have s2 : Y.cell? ⟨w.heap.size, 2, none⟩ = some (.slice A0_2 l0_2.length c0_2) := (blk_cell pY 2).trans rfl; have t0 : Y.cell? ⟨w.heap.size + 1, 0, none⟩ = some (.int .i64 e0) := (blk_cell qY 0).trans rfl; have t1 : Y.cell? ⟨w.heap.size + 1, 1, none⟩ = some (.int .i64 e1) := (blk_cell qY 1).trans rfl; have t2 : Y.cell? ⟨w.heap.size + 1, 2, none⟩ = some (.int .i64 e2) := (blk_cell qY 2).trans rfl; have t3 : Y.cell? ⟨w.heap.size + 1, 3, none⟩ = some (.slice A2 l.length c2) := (blk_cell qY 3).trans rfl; have z_0 : Y.cell? ⟨w.heap.size + 1 + 1, 0, none⟩ = some (.int .i64 0) := (blk_cell zY 0).trans rfl; have z_1 : Y.cell? ⟨w.heap.size + 1 + 1, 1, none⟩ = some (.int .i64 0) := (blk_cell zY 1).trans rfl; have z_2 : Y.cell? ⟨w.heap.size + 1 + 1, 2, none⟩ = some (.int .i64 0) := (blk_cell zY 2).trans rfl; have z_3 : Y.cell? ⟨w.heap.size + 1 + 1, 3, none⟩ = some (.slice none 0 0) := (blk_cell zY 3).trans rfl; have f_0 := blk_frozen zY 0; have f_1 := blk_frozen zY 1; have f_2 := blk_frozen zY 2; have f_3 := blk_frozen zY 3) | (go_at_call 47; refine (expr_Check.calls k a0_0 _ _ l0_1 a1 e0 e1 e2 _ _ l _ Y (Kd.C_below HR1.out bY) HC1.out (Kd.C_below HR3.out bY) HC3.out AE.out).mono ?_; rintro e V ⟨rfl, hbV⟩; have bV := bY.trans (hbV.mono bY.size); have pV := blk_below pY hbV; have qV := blk_below qY hbV; have zV := blk_below zY hbV; have z_0 : V.cell? ⟨w.heap.size + 1 + 1, 0, none⟩ = some (.int .i64 0) := (blk_cell zV 0).trans rfl; have z_1 : V.cell? ⟨w.heap.size + 1 + 1, 1, none⟩ = some (.int .i64 0) := (blk_cell zV 1).trans rfl; have z_2 : V.cell? ⟨w.heap.size + 1 + 1, 2, none⟩ = some (.int .i64 0) := (blk_cell zV 2).trans rfl; have z_3 : V.cell? ⟨w.heap.size + 1 + 1, 3, none⟩ = some (.slice none 0 0) := (blk_cell zV 3).trans rfl; have f_0 := blk_frozen zV 0; have f_1 := blk_frozen zV 1; have f_2 := blk_frozen zV 2; have f_3 := blk_frozen zV 3))
      have hfn := prod_Plain1.fn V.drew w.heap.size _ _ _ _ _ (kdr pV)
      have bD := below_drew bV
      have qD := kdr qV
      have zD := kdr zV
      refine start_ (n := 6) (S := fun w' => w'.cell? ⟨w.heap.size + 1, 0, none⟩ = some (.int .i64 e0) ∧ w'.cell? ⟨w.heap.size + 1, 1, none⟩ = some (.int .i64 e1) ∧ w'.cell? ⟨w.heap.size + 1, 2, none⟩ = some (.int .i64 e2) ∧ w'.cell? ⟨w.heap.size + 1, 3, none⟩ = some (.slice A2 l.length c2)) (ds := [4]) #[false, false, false, false, false, false] (by kernel_rfl) rfl rfl ⟨(blk_cell qD 0).trans rfl, (blk_cell qD 1).trans rfl, (blk_cell qD 2).trans rfl, (blk_cell qD 3).trans rfl⟩ (fun hHeld => ?_)
      generalize V.drew = V1 at hfn bD qD zD hHeld ⊢
      refine pu (i := 0) (N := some 52) (bl 6 1) rfl rfl (by kernel_rfl) ?_
      refine tk (i := 2) (N := some 54) (bl 6 5) rfl rfl (by kernel_rfl) hHeld ?_
      refine one_ (i := 1) (N := (some 53)) (bl 6 7) rfl rfl (by kernel_rfl) (by decide) (fun K hK => ?_)
      refine goes_ Try.func48 (by kernel_rfl) rfl #[.func (.func 49) #[] #[.pointer (some ⟨w.heap.size, 0, none⟩)]] (by rfl) rfl rfl (by (try simp only [List.map_toArray, List.map_cons, List.map_nil]); rfl) ?_
      refine (prod_moving.fn _ _ V1 hfn).mono ?_
      rintro e V2 ⟨rfl, hm2, b2⟩
      have bE := bD.trans (b2.mono bD.size)
      have qE := blk_below qD b2
      have zE := blk_below zD b2
      refine ⟨_, rfl, ?_⟩
      refine hK.out _ _ ⟨(blk_cell qE 0).trans rfl, (blk_cell qE 1).trans rfl, (blk_cell qE 2).trans rfl, (blk_cell qE 3).trans rfl⟩ (fun hHeld => ?_)
      clear hK K
      refine nm 53 ?_
      refine one_ (i := 3) (N := (some 55)) (bl 6 15) rfl rfl (by kernel_rfl) (by decide) (fun K hK => ?_)
      refine call_ 83 #[.agg #[.int .i64 e0, .int .i64 e1, .int .i64 e2, .slice A2 l.length c2], .pointer (some ⟨V1.heap.size, 0, none⟩), .pointer (some ⟨V1.heap.size + 1, 0, none⟩)] (by rfl) rfl ?run ?_
      case run =>
        have en := fun args w => enters_of (P := Try.prog) Try.func83 (by kernel_rfl) rfl args w
        unfold execOp
        simp [resolve, Deferred.ofValue, invoke, Act.eval, en]
      refine (prod_moving1.calls _ (⟨e0, e1, e2, l⟩ : S28) y A2 c2 V1.heap.size V2 HY.out hm2 (Kd.C_below HR3.out bE) HC3.out).mono ?_
      rintro e V3 ⟨v, rfl, o3, b3⟩
      have bF := bE.trans (b3.mono bE.size)
      have qF := blk_below qE b3
      have zF := blk_below zE b3
      refine ⟨_, rfl, ?_⟩
      refine hK.out _ _ ⟨(blk_cell qF 0).trans rfl, (blk_cell qF 1).trans rfl, (blk_cell qF 2).trans rfl, (blk_cell qF 3).trans rfl⟩ (fun hHeld => ?_)
      clear hK K
      refine nm 55 ?_
      obtain ⟨D3, d3, e3⟩ := Kd.R_slice o3
      subst e3
      refine last_ (i := 4) (N := none) (bl 6 31) rfl rfl (by kernel_rfl) (by decide) (fun K hK => ?_)
      have sz := blk_lt zF
      obtain ⟨zc, zk, zb⟩ := row4_put zF (.int .i64 y.f0) (.int .i64 y.f1) (.int .i64 y.f2) (.slice D3 y.f3.length d3)
      refine skip_ (w1 := ((((V3.setCell ⟨w.heap.size + 1 + 1, 0, none⟩ (.int .i64 y.f0)).setCell ⟨w.heap.size + 1 + 1, 1, none⟩ (.int .i64 y.f1)).setCell ⟨w.heap.size + 1 + 1, 2, none⟩ (.int .i64 y.f2)).setCell ⟨w.heap.size + 1 + 1, 3, none⟩ (.slice D3 y.f3.length d3))) (by rfl) rfl ?st ?_
      case st =>
        have z_0 : V3.cell? ⟨w.heap.size + 1 + 1, 0, none⟩ = some (.int .i64 0) := (blk_cell zF 0).trans rfl
        have z_1 : V3.cell? ⟨w.heap.size + 1 + 1, 1, none⟩ = some (.int .i64 0) := (blk_cell zF 1).trans rfl
        have z_2 : V3.cell? ⟨w.heap.size + 1 + 1, 2, none⟩ = some (.int .i64 0) := (blk_cell zF 2).trans rfl
        have z_3 : V3.cell? ⟨w.heap.size + 1 + 1, 3, none⟩ = some (.slice none 0 0) := (blk_cell zF 3).trans rfl
        have f_0 := blk_frozen zF 0
        have f_1 := blk_frozen zF 1
        have f_2 := blk_frozen zF 2
        have f_3 := blk_frozen zF 3
        go_simp
      refine hK.out _ _ ?_
      clear hK K
      refine pu (i := 5) (N := some 7) (bl 6 63) rfl rfl (by kernel_rfl) ?_
      refine done_ (by kernel_rfl) ?_
      try simp only [Exit.then]
      go_wp2
      refine bodyPost_ret (results_ct rfl _ _ (w.heap.size + 1 + 1) 28 #[.int .i64 y.f0, .int .i64 y.f1, .int .i64 y.f2, .slice D3 y.f3.length d3] (0, 0) _ rfl zc huE rfl (by kernel_rfl)) rfl ?_
      obtain ⟨rfl, rfl, rfl, rfl, rfl⟩ : r1 = y.f0 ∧ r2 = y.f1 ∧ r3 = y.f2 ∧ r4 = y.f3 ∧ r5 = 0 := by
        injection (Option.some.inj H.out) with g1 g2; injection g2 with g2 g3; injection g3 with g3 g4; injection g4 with g4 g5
        exact ⟨g1.symm, g2.symm, g3.symm, g4.symm, g5.symm⟩
      have sE := bE.size
      have sV1 := blk_lt zD
      have sV2 := b2.size
      exact ⟨_, rfl, Kd.R_lower (Kd.R_mono (Kd.R_step (Kd.R_bound o3) (fun q hq _ => zk q (by have := hq.2.1; omega))) (fun _ _ => trivial)) sE, bF.trans (zb _ (by omega))⟩
end Go.Proofs.Ytilebfkehmecaaa.Print
namespace Go.Proofs.Ytilebfkehmecaaa.Print
open Go.RowKit Go.Proofs.YtilebfkehmecaaaW.PrintWords Go.Proofs.YtilebfkehmecaaaW.PrintLast Go.Proofs.YtilebfkehmecaaaW.PrintMore
attribute [local go_sem] max2_int min2_int max_two min_two max_three min_three max_four min_four
set_option linter.unusedVariables false
set_option linter.unusedSimpArgs false
mutual
def r2_Same.j0 : Nat → Bool → Int → Int → Int → List (S28) → Int → Int → Int → List (S28) → Option (Bool)
 | 0, _, _, _, _, _, _, _, _, _ => none
 | k + 1, x33, x154000, x154001, x154002, x154003, x155000, x155001, x155002, x155003 => if x33 = true then (some false) else (r2_Same.l0 k 0 x154000 x154001 x154002 x154003 x155000 x155001 x155002 x155003)
def r2_Same.l0 : Nat → Int → Int → Int → Int → List (S28) → Int → Int → Int → List (S28) → Option (Bool)
 | 0, _, _, _, _, _, _, _, _, _ => none
 | k + 1, x5, x154000, x154001, x154002, x154003, x155000, x155001, x155002, x155003 => if x5 < (x154003.length : Int) then (if 0 ≤ x5 then (if x5 < (x155003.length : Int) then ((r2_Same.f k ((rd_T28 x154003 x5).f0) ((rd_T28 x154003 x5).f1) ((rd_T28 x154003 x5).f2) ((rd_T28 x154003 x5).f3) ((rd_T28 x155003 x5).f0) ((rd_T28 x155003 x5).f1) ((rd_T28 x155003 x5).f2) ((rd_T28 x155003 x5).f3)).bind fun t157 => (if t157 = true then (r2_Same.l0 k (wrap64 (x5 + 1)) x154000 x154001 x154002 x154003 x155000 x155001 x155002 x155003) else (some false))) else (none)) else (none)) else (some true)
def r2_Same.f : Nat → Int → Int → Int → List (S28) → Int → Int → Int → List (S28) → Option (Bool)
 | 0, _, _, _, _, _, _, _, _ => none
 | k + 1, a0_0, a0_1, a0_2, l0_3, a1_0, a1_1, a1_2, l1_3 => if a0_0 = a1_0 then (if a0_1 = a1_1 then (if a0_2 = a1_2 then (r2_Same.j0 k ((l0_3.length : Int) != (l1_3.length : Int)) a0_0 a0_1 a0_2 l0_3 a1_0 a1_1 a1_2 l1_3) else (r2_Same.j0 k true a0_0 a0_1 a0_2 l0_3 a1_0 a1_1 a1_2 l1_3)) else (r2_Same.j0 k true a0_0 a0_1 a0_2 l0_3 a1_0 a1_1 a1_2 l1_3)) else (r2_Same.j0 k true a0_0 a0_1 a0_2 l0_3 a1_0 a1_1 a1_2 l1_3)
end
def r2_Same.T6 : Bool × List (List Nat × List Nat) := (true, [([], []), ([0], [0]), ([], []), ([1, 2], [1, 2]), ([3], [3]), ([], []), ([5], [5]), ([], []), ([6, 7], [6, 7]), ([8], [8]), ([4, 9], [4, 9]), ([10], [10])])
def r2_Same.B6 : List Nat := [0, 1, 0, 7, 15, 0, 32, 0, 224, 480, 1023, 2047]
theorem r2_Same.tab6 : rtab .any (opsOf Try.f14 6) = r2_Same.T6 := by kernel_rfl
theorem r2_Same.bits6 : waitsOk r2_Same.T6.2 r2_Same.B6 = true := by kernel_rfl
theorem r2_Same.calls (k : Nat) : ∀ (a0_0 : Int) (a0_1 : Int) (a0_2 : Int) (A0_3 : Option Addr) (c0_3 : Nat) (l0_3 : List (S28)) (a1_0 : Int) (a1_1 : Int) (a1_2 : Int) (A1_3 : Option Addr) (c1_3 : Nat) (l1_3 : List (S28)) (r : Bool) (w : World) (hr0_3 : Kd.C k28 w A0_3 l0_3.length l0_3) (hc0_3 : l0_3.length ≤ c0_3) (hr1_3 : Kd.C k28 w A1_3 l1_3.length l1_3) (hc1_3 : l1_3.length ≤ c1_3) (h : r2_Same.f k a0_0 a0_1 a0_2 l0_3 a1_0 a1_1 a1_2 l1_3 = some r),
  Calls Try.prog 14 #[.agg #[.int .i64 a0_0, .int .i64 a0_1, .int .i64 a0_2, .slice A0_3 l0_3.length c0_3], .agg #[.int .i64 a1_0, .int .i64 a1_1, .int .i64 a1_2, .slice A1_3 l1_3.length c1_3]] w fun e w' => e = .returned (.bool r) ∧ Below w.heap.size w w' := by
 induction k using Nat.strongRecOn with
 | _ k ih =>
 intro a0_0 a0_1 a0_2 A0_3 c0_3 l0_3 a1_0 a1_1 a1_2 A1_3 c1_3 l1_3 r w hr0_3 hc0_3 hr1_3 hc1_3 h
 cases k with
 | zero => exact absurd h (by simp [r2_Same.f])
 | succ k =>
 simp only [r2_Same.f] at h
 have hu28 := Try.underlying28
 have HR0_3 := Aside0.mk hr0_3
 have HC0_3 := Aside0.mk hc0_3
 clear hr0_3 hc0_3
 have HR1_3 := Aside0.mk hr1_3
 have HC1_3 := Aside0.mk hc1_3
 clear hr1_3 hc1_3
 have HB := Aside0.mk (Below.refl w.heap.size w)
 have H : (if a0_0 = a1_0 then (if a0_1 = a1_1 then (if a0_2 = a1_2 then (r2_Same.j0 k ((l0_3.length : Int) != (l1_3.length : Int)) a0_0 a0_1 a0_2 l0_3 a1_0 a1_1 a1_2 l1_3) else (r2_Same.j0 k true a0_0 a0_1 a0_2 l0_3 a1_0 a1_1 a1_2 l1_3)) else (r2_Same.j0 k true a0_0 a0_1 a0_2 l0_3 a1_0 a1_1 a1_2 l1_3)) else (r2_Same.j0 k true a0_0 a0_1 a0_2 l0_3 a1_0 a1_1 a1_2 l1_3)) = some r := h
 clear h
 have HC3 := Aside0.mk H
 clear H
 go_enter Try.func14, Try.ntmps14
 go_upto_region 1 with (first | ((with_reducible refine gate_dst (N := 2) rfl ?_); (try (refine gate_guard (by rfl) ?_; dsimp only)); refine bx 2 rfl rfl #[.int .i64 a0_0, .int .i64 a0_1, .int .i64 a0_2, .slice A0_3 l0_3.length c0_3] 28 ?_; intro gb153 hg w4 hbox hb; have BK153 := Aside0.mk (hbox); have GE153 := ge HB hg; replace HB := sb HB hb; clear hb hbox hg) | ((with_reducible refine gate_dst (N := 3) rfl ?_); (try (refine gate_guard (by rfl) ?_; dsimp only)); refine bx 3 rfl rfl #[.int .i64 a1_0, .int .i64 a1_1, .int .i64 a1_2, .slice A1_3 l1_3.length c1_3] 28 ?_; intro gb154 hg w5 hbox hb; have BK154 := Aside0.mk (hbox); have GE154 := ge HB hg; have NB153_154 := Aside0.mk ((by rw [hg]; exact Nat.ne_of_lt (blk_lt (kk BK153)) : gb153 ≠ gb154)); have NB154_153 := Aside0.mk ((by rw [hg]; exact Nat.ne_of_gt (blk_lt (kk BK153)) : gb154 ≠ gb153)); replace BK153 := kb BK153 hb; replace HB := sb HB hb; clear hb hbox hg))
 (try simp only [Act.put, List.setIfInBounds_toArray, List.set_cons_zero, List.set_cons_succ])
 go_cut [33] (fun v33 wc => ∃ (kq : Nat) (x33_2 : Bool), v33 = .bool x33_2 ∧ Aside0 (r2_Same.j0 kq x33_2 a0_0 a0_1 a0_2 l0_3 a1_0 a1_1 a1_2 l1_3 = some r) ∧ Aside0 (kq ≤ k) ∧ Aside0 (wc.heap[gb153]? = some (.cells #[.int .i64 a0_0, .int .i64 a0_1, .int .i64 a0_2, (.slice A0_3 l0_3.length c0_3)] 28 (0, 0))) ∧ Aside0 (wc.heap[gb154]? = some (.cells #[.int .i64 a1_0, .int .i64 a1_1, .int .i64 a1_2, (.slice A1_3 l1_3.length c1_3)] 28 (0, 0))) ∧ Aside0 (Below w.heap.size w wc))
 case first =>
  have H := HC3.out
  clear HC3
  by_cases c6 : a0_0 = a1_0
  rotate_left
  ·rw [if_neg c6] at H
   have c6b0 : (a0_0 == a1_0) = false := beq_eq_false_iff_ne.mpr c6
   have c6b1 : (a0_0 != a1_0) = true := bne_iff_ne.mpr c6
   (first | rw [c6b0] | (simp only [i64_w, i32_w]; rw [c6b0]) | skip)
   have H' := Aside0.mk H
   clear H
   have hnb18 := NB153_154.out
   have hnc18 := NB154_153.out
   obtain ⟨hcz19_0, hcz19_1, hcz19_2, hcz19_3, hfz19_0, hfz19_1, hfz19_2, hfz19_3⟩ := cf4 BK153.out
   obtain ⟨hcz20_0, hcz20_1, hcz20_2, hcz20_3, hfz20_0, hfz20_1, hfz20_2, hfz20_3⟩ := cf4 BK154.out
   go_wp2
   go_meet
   case rel => exact ⟨_, (true), rs, H', ⟨by first | omega | exact Nat.le_refl _⟩, ⟨kk BK153⟩, ⟨kk BK154⟩, ⟨bb HB⟩⟩
  rw [if_pos c6] at H
  have c6b0 : (a0_0 == a1_0) = true := beq_iff_eq.mpr c6
  have c6b1 : (a0_0 != a1_0) = false := bne_eq_false_iff_eq.mpr c6
  clear c6
  (first | rw [c6b0] | (simp only [i64_w, i32_w]; rw [c6b0]) | skip)
  by_cases c7 : a0_1 = a1_1
  rotate_left
  ·rw [if_neg c7] at H
   have c7b0 : (a0_1 == a1_1) = false := beq_eq_false_iff_ne.mpr c7
   have c7b1 : (a0_1 != a1_1) = true := bne_iff_ne.mpr c7
   have H' := Aside0.mk H
   clear H
   have hnb15 := NB153_154.out
   have hnc15 := NB154_153.out
   obtain ⟨hcz16_0, hcz16_1, hcz16_2, hcz16_3, hfz16_0, hfz16_1, hfz16_2, hfz16_3⟩ := cf4 BK153.out
   obtain ⟨hcz17_0, hcz17_1, hcz17_2, hcz17_3, hfz17_0, hfz17_1, hfz17_2, hfz17_3⟩ := cf4 BK154.out
   go_wp2
   go_meet
   case rel => exact ⟨_, (true), rs, H', ⟨by first | omega | exact Nat.le_refl _⟩, ⟨kk BK153⟩, ⟨kk BK154⟩, ⟨bb HB⟩⟩
  rw [if_pos c7] at H
  have c7b0 : (a0_1 == a1_1) = true := beq_iff_eq.mpr c7
  have c7b1 : (a0_1 != a1_1) = false := bne_eq_false_iff_eq.mpr c7
  clear c7
  by_cases c8 : a0_2 = a1_2
  rotate_left
  ·rw [if_neg c8] at H
   have c8b0 : (a0_2 == a1_2) = false := beq_eq_false_iff_ne.mpr c8
   have c8b1 : (a0_2 != a1_2) = true := bne_iff_ne.mpr c8
   have H' := Aside0.mk H
   clear H
   have hnb12 := NB153_154.out
   have hnc12 := NB154_153.out
   obtain ⟨hcz13_0, hcz13_1, hcz13_2, hcz13_3, hfz13_0, hfz13_1, hfz13_2, hfz13_3⟩ := cf4 BK153.out
   obtain ⟨hcz14_0, hcz14_1, hcz14_2, hcz14_3, hfz14_0, hfz14_1, hfz14_2, hfz14_3⟩ := cf4 BK154.out
   go_wp2
   go_meet
   case rel => exact ⟨_, (true), rs, H', ⟨by first | omega | exact Nat.le_refl _⟩, ⟨kk BK153⟩, ⟨kk BK154⟩, ⟨bb HB⟩⟩
  rw [if_pos c8] at H
  have c8b0 : (a0_2 == a1_2) = true := beq_iff_eq.mpr c8
  have c8b1 : (a0_2 != a1_2) = false := bne_eq_false_iff_eq.mpr c8
  clear c8
  have H' := Aside0.mk H
  clear H
  have hnb9 := NB153_154.out
  have hnc9 := NB154_153.out
  obtain ⟨hcz10_0, hcz10_1, hcz10_2, hcz10_3, hfz10_0, hfz10_1, hfz10_2, hfz10_3⟩ := cf4 BK153.out
  obtain ⟨hcz11_0, hcz11_1, hcz11_2, hcz11_3, hfz11_0, hfz11_1, hfz11_2, hfz11_3⟩ := cf4 BK154.out
  go_wp2
  go_meet
  case rel => exact ⟨_, (((l0_3.length : Int) != (l1_3.length : Int))), rs, H', ⟨by first | omega | exact Nat.le_refl _⟩, ⟨kk BK153⟩, ⟨kk BK154⟩, ⟨bb HB⟩⟩
 case rest =>
  clear HC3
  try clear c1
  try clear p2
  try clear c6
  try clear c6b0
  try clear c6b1
  try clear c7
  try clear c7b0
  try clear c7b1
  try clear c8
  try clear c8b0
  try clear c8b1
  try clear c9
  try clear c12
  try clear c14
  try clear c15
  try clear c18
  try clear hcz10_0 hcz10_1 hcz10_2 hcz10_3
  try clear hcz11_0 hcz11_1 hcz11_2 hcz11_3
  try clear hcz13_0 hcz13_1 hcz13_2 hcz13_3
  try clear hcz14_0 hcz14_1 hcz14_2 hcz14_3
  try clear hcz16_0 hcz16_1 hcz16_2 hcz16_3
  try clear hcz17_0 hcz17_1 hcz17_2 hcz17_3
  try clear hcz19_0 hcz19_1 hcz19_2 hcz19_3
  try clear hcz20_0 hcz20_1 hcz20_2 hcz20_3
  try clear hfz10_0 hfz10_1 hfz10_2 hfz10_3
  try clear hfz11_0 hfz11_1 hfz11_2 hfz11_3
  try clear hfz13_0 hfz13_1 hfz13_2 hfz13_3
  try clear hfz14_0 hfz14_1 hfz14_2 hfz14_3
  try clear hfz16_0 hfz16_1 hfz16_2 hfz16_3
  try clear hfz17_0 hfz17_1 hfz17_2 hfz17_3
  try clear hfz19_0 hfz19_1 hfz19_2 hfz19_3
  try clear hfz20_0 hfz20_1 hfz20_2 hfz20_3
  obtain ⟨kq, x33_2, rfl, HA, HJ2, BK153, BK154, HB⟩ := hcut
  cases kq with
  | zero => exact absurd HA.out (by simp [r2_Same.j0])
  | succ kj2 =>
   have H := HA.out
   clear HA
   simp only [r2_Same.j0] at H
   by_cases c21 : x33_2 = true
   ·subst c21
    replace H := it H
    obtain rfl := Option.some.inj H
    go_wp2
    go_ret
    exact ⟨rr, bb HB⟩
   replace c21 := Bool.eq_false_iff.mpr c21
   subst c21
   replace H := fi H
   have H' := Aside0.mk H
   clear H
   go_wp2
   go_loopg [5] kj2 (fun kq v5 w' => ∃ (x5_2 : Int), v5 = .int .i64 x5_2 ∧ Aside0 (r2_Same.l0 kq x5_2 a0_0 a0_1 a0_2 l0_3 a1_0 a1_1 a1_2 l1_3 = some r) ∧ Aside0 (kq ≤ kj2) ∧ Aside0 (w'.heap[gb153]? = some (.cells #[.int .i64 a0_0, .int .i64 a0_1, .int .i64 a0_2, (.slice A0_3 l0_3.length c0_3)] 28 (0, 0))) ∧ Aside0 (w'.heap[gb154]? = some (.cells #[.int .i64 a1_0, .int .i64 a1_1, .int .i64 a1_2, (.slice A1_3 l1_3.length c1_3)] 28 (0, 0))) ∧ Aside0 (Below w.heap.size w w'))
   case atStart => exact ⟨(0), rs, H', ⟨Nat.le_refl _⟩, ⟨kk BK153⟩, ⟨kk BK154⟩, ⟨bb HB⟩⟩
   case round =>
    clear H'
    try clear c1
    try clear c2
    try clear p2
    try clear c6
    try clear c6b0
    try clear c6b1
    try clear c7
    try clear c7b0
    try clear c7b1
    try clear c8
    try clear c8b0
    try clear c8b1
    try clear c9
    try clear c12
    try clear c14
    try clear c15
    try clear c18
    try clear c21
    try clear hcz10_0 hcz10_1 hcz10_2 hcz10_3
    try clear hcz11_0 hcz11_1 hcz11_2 hcz11_3
    try clear hcz13_0 hcz13_1 hcz13_2 hcz13_3
    try clear hcz14_0 hcz14_1 hcz14_2 hcz14_3
    try clear hcz16_0 hcz16_1 hcz16_2 hcz16_3
    try clear hcz17_0 hcz17_1 hcz17_2 hcz17_3
    try clear hcz19_0 hcz19_1 hcz19_2 hcz19_3
    try clear hcz20_0 hcz20_1 hcz20_2 hcz20_3
    try clear hfz10_0 hfz10_1 hfz10_2 hfz10_3
    try clear hfz11_0 hfz11_1 hfz11_2 hfz11_3
    try clear hfz13_0 hfz13_1 hfz13_2 hfz13_3
    try clear hfz14_0 hfz14_1 hfz14_2 hfz14_3
    try clear hfz16_0 hfz16_1 hfz16_2 hfz16_3
    try clear hfz17_0 hfz17_1 hfz17_2 hfz17_3
    try clear hfz19_0 hfz19_1 hfz19_2 hfz19_3
    try clear hfz20_0 hfz20_1 hfz20_2 hfz20_3
    try clear p2
    obtain ⟨x5_2, rfl, HA, HK2, BK153, BK154, HB⟩ := hrel
    cases gk with
    | zero => exact absurd HA.out (by simp [r2_Same.l0])
    | succ k2 =>
     have H := HA.out
     clear HA
     simp only [r2_Same.l0] at H
     by_cases c22 : x5_2 < (l0_3.length : Int)
     rotate_left
     ·rw [if_neg c22] at H
      have c22b0 : decide (x5_2 < (l0_3.length : Int)) = false := decide_eq_false c22
      clear c22
      obtain rfl := Option.some.inj H
      have hnb35 := NB153_154.out
      have hnc35 := NB154_153.out
      obtain ⟨hcz36_0, hcz36_1, hcz36_2, hcz36_3, hfz36_0, hfz36_1, hfz36_2, hfz36_3⟩ := cf4 BK153.out
      go_wp2
      go_ret
      exact ⟨rr, bb HB⟩
     rw [if_pos c22] at H
     have c22b0 : decide (x5_2 < (l0_3.length : Int)) = true := decide_eq_true c22
     clear c22
     by_cases c23 : 0 ≤ x5_2
     rotate_left
     ·rw [if_neg c23] at H
      exact absurd H (by simp)
     rw [if_pos c23] at H
     have c23b0 : decide (0 ≤ x5_2) = true := decide_eq_true c23
     clear c23
     by_cases c24 : x5_2 < (l1_3.length : Int)
     rotate_left
     ·rw [if_neg c24] at H
      exact absurd H (by simp)
     rw [if_pos c24] at H
     have c24b0 : decide (x5_2 < (l1_3.length : Int)) = true := decide_eq_true c24
     clear c24
     obtain ⟨t157, A25, H⟩ := be H
     by_cases c26 : t157 = true
     rotate_left
     ·replace c26 := Bool.eq_false_iff.mpr c26
      subst c26
      replace H := fi H
      obtain rfl := Option.some.inj H
      have hnb31 := NB153_154.out
      have hnc31 := NB154_153.out
      obtain ⟨hcz32_0, hcz32_1, hcz32_2, hcz32_3, hfz32_0, hfz32_1, hfz32_2, hfz32_3⟩ := cf4 BK153.out
      try go_wp2
      replace BK153 := Aside0.mk (kdr BK153.out)
      replace BK154 := Aside0.mk (kdr BK154.out)
      replace HB := Aside0.mk (bd1 HB.out)
      have p155 : 0 ≤ (x5_2 : Int) := od
      have q155 : x5_2 < (l0_3.length : Int) := od
      obtain ⟨ad155, A155_3, c155_3, e155, hx155_0, hx155_1, hx155_2, hx155_3, hl155_3, hi155_3⟩ := at_T28 HR0_3.out x5_2 p155 q155
      have hw155_3 := hx155_3
      have hw155_2 := hx155_2
      have hw155_1 := hx155_1
      have hw155_0 := hx155_0
      cases e155
      replace hx155_0 := bcell HB.out hx155_0
      replace hx155_1 := bcell HB.out hx155_1
      replace hx155_2 := bcell HB.out hx155_2
      replace hx155_3 := bcell HB.out hx155_3
      have HR155_3 := Aside0.mk hi155_3
      have HC155_3 := Aside0.mk hl155_3
      clear hi155_3 hl155_3
      replace p155 := eq_true p155
      replace q155 := eq_true q155
      have p156 : 0 ≤ (x5_2 : Int) := od
      have q156 : x5_2 < (l1_3.length : Int) := od
      obtain ⟨ad156, A156_3, c156_3, e156, hx156_0, hx156_1, hx156_2, hx156_3, hl156_3, hi156_3⟩ := at_T28 HR1_3.out x5_2 p156 q156
      have hw156_3 := hx156_3
      have hw156_2 := hx156_2
      have hw156_1 := hx156_1
      have hw156_0 := hx156_0
      cases e156
      replace hx156_0 := bcell HB.out hx156_0
      replace hx156_1 := bcell HB.out hx156_1
      replace hx156_2 := bcell HB.out hx156_2
      replace hx156_3 := bcell HB.out hx156_3
      have HR156_3 := Aside0.mk hi156_3
      have HC156_3 := Aside0.mk hl156_3
      clear hi156_3 hl156_3
      replace p156 := eq_true p156
      replace q156 := eq_true q156
      refine start_ (n := 12) (S := fun w' => w'.cell? ⟨gb153, 0, none⟩ = some (.int .i64 a0_0) ∧ w'.cell? ⟨gb153, 1, none⟩ = some (.int .i64 a0_1) ∧ w'.cell? ⟨gb153, 2, none⟩ = some (.int .i64 a0_2) ∧ w'.cell? ⟨gb153, 3, none⟩ = some (.slice (some ad155) l0_3.length c0_3) ∧ w'.cell? ⟨gb154, 0, none⟩ = some (.int .i64 a1_0) ∧ w'.cell? ⟨gb154, 1, none⟩ = some (.int .i64 a1_1) ∧ w'.cell? ⟨gb154, 2, none⟩ = some (.int .i64 a1_2) ∧ w'.cell? ⟨gb154, 3, none⟩ = some (.slice (some ad156) l1_3.length c1_3) ∧ w'.cell? (ad155.add ((x5_2).toNat * 4)) = some (.int .i64 ((rd_T28 l0_3 x5_2).f0)) ∧ w'.cell? ⟨(ad155.add ((x5_2).toNat * 4)).block, (ad155.add ((x5_2).toNat * 4)).off + 1, none⟩ = some (.int .i64 ((rd_T28 l0_3 x5_2).f1)) ∧ w'.cell? ⟨(ad155.add ((x5_2).toNat * 4)).block, (ad155.add ((x5_2).toNat * 4)).off + 2, none⟩ = some (.int .i64 ((rd_T28 l0_3 x5_2).f2)) ∧ w'.cell? ⟨(ad155.add ((x5_2).toNat * 4)).block, (ad155.add ((x5_2).toNat * 4)).off + 3, none⟩ = some (.slice A155_3 ((rd_T28 l0_3 x5_2).f3).length c155_3) ∧ w'.cell? (ad156.add ((x5_2).toNat * 4)) = some (.int .i64 ((rd_T28 l1_3 x5_2).f0)) ∧ w'.cell? ⟨(ad156.add ((x5_2).toNat * 4)).block, (ad156.add ((x5_2).toNat * 4)).off + 1, none⟩ = some (.int .i64 ((rd_T28 l1_3 x5_2).f1)) ∧ w'.cell? ⟨(ad156.add ((x5_2).toNat * 4)).block, (ad156.add ((x5_2).toNat * 4)).off + 2, none⟩ = some (.int .i64 ((rd_T28 l1_3 x5_2).f2)) ∧ w'.cell? ⟨(ad156.add ((x5_2).toNat * 4)).block, (ad156.add ((x5_2).toNat * 4)).off + 3, none⟩ = some (.slice A156_3 ((rd_T28 l1_3 x5_2).f3).length c156_3)) (ds := []) #[false, false, false, false, false, false, false, false, false, false, false, false] (by kernel_rfl) rfl rfl ⟨(blk_cell BK153.out 0).trans rfl, (blk_cell BK153.out 1).trans rfl, (blk_cell BK153.out 2).trans rfl, (blk_cell BK153.out 3).trans rfl, (blk_cell BK154.out 0).trans rfl, (blk_cell BK154.out 1).trans rfl, (blk_cell BK154.out 2).trans rfl, (blk_cell BK154.out 3).trans rfl, (bcell HB.out hw155_0), (bcell HB.out hw155_1), (bcell HB.out hw155_2), (bcell HB.out hw155_3), (bcell HB.out hw156_0), (bcell HB.out hw156_1), (bcell HB.out hw156_2), (bcell HB.out hw156_3)⟩ (fun hHeld => ?_); refine with_tabW r2_Same.tab6 r2_Same.bits6 (fun HT_ HW_ => ?_)
      generalize wr.drew = w33 at BK153 BK154 HB HR155_3 HR156_3 hx155_0 hx155_1 hx155_2 hx155_3 hx156_0 hx156_1 hx156_2 hx156_3 hHeld ⊢
      refine pT 0 41 (bl 12 1) HT_ rfl rfl ?_
      refine pT 2 43 (bl 12 5) HT_ rfl rfl ?_
      refine pT 5 46 (bl 12 37) HT_ rfl rfl ?_
      refine pT 7 48 (bl 12 165) HT_ rfl rfl ?_
      refine tk (i := 1) (N := some 42) (bl 12 167) rfl rfl (take_ofW HT_.out HW_.out (by kernel_rfl)) hHeld ?_
      refine pT 3 44 (bl 12 175) HT_ rfl rfl ?_
      refine tk (i := 4) (N := some 45) (bl 12 191) rfl rfl (take_ofW HT_.out HW_.out (by kernel_rfl)) hHeld ?_
      refine tk (i := 6) (N := some 47) (bl 12 255) rfl rfl (take_ofW HT_.out HW_.out (by kernel_rfl)) hHeld ?_
      refine pT 8 49 (bl 12 511) HT_ rfl rfl ?_
      refine tk (i := 9) (N := some 50) (bl 12 1023) rfl rfl (take_ofW HT_.out HW_.out (by kernel_rfl)) hHeld ?_
      refine one_ (i := 10) (N := some 51) (bl 12 2047) rfl rfl (one_of HT_.out (by kernel_rfl)) (by decide) (fun K hK => ?_)
      refine gO Try.func14 #[.agg #[.int .i64 ((rd_T28 l0_3 x5_2).f0), .int .i64 ((rd_T28 l0_3 x5_2).f1), .int .i64 ((rd_T28 l0_3 x5_2).f2), .slice A155_3 ((rd_T28 l0_3 x5_2).f3).length c155_3], .agg #[.int .i64 ((rd_T28 l1_3 x5_2).f0), .int .i64 ((rd_T28 l1_3 x5_2).f1), .int .i64 ((rd_T28 l1_3 x5_2).f2), .slice A156_3 ((rd_T28 l1_3 x5_2).f3).length c156_3]] (by rfl) rfl rfl ?_
      with_reducible refine (ih k2 (by have := HJ2.out; have := HK2.out; omega) ((rd_T28 l0_3 x5_2).f0) ((rd_T28 l0_3 x5_2).f1) ((rd_T28 l0_3 x5_2).f2) _ _ ((rd_T28 l0_3 x5_2).f3) ((rd_T28 l1_3 x5_2).f0) ((rd_T28 l1_3 x5_2).f1) ((rd_T28 l1_3 x5_2).f2) _ _ ((rd_T28 l1_3 x5_2).f3) false _ ?side1 ?side2 ?side3 ?side4 A25.out).mono ?_
      (case side1 => exact cb HR155_3 HB)
      (case side2 => exact HC155_3.out)
      (case side3 => exact cb HR156_3 HB)
      (case side4 => exact HC156_3.out)
      rintro e w34 ⟨rfl, hb⟩
      refine ⟨_, rfl, ?_⟩
      replace BK153 := kb BK153 hb
      replace BK154 := kb BK154 hb
      replace HB := sb HB hb
      (try clear hb)
      (try clear hb2)
      (try clear hk)
      (try clear hi)
      refine hK.out _ _ ⟨(blk_cell BK153.out 0).trans rfl, (blk_cell BK153.out 1).trans rfl, (blk_cell BK153.out 2).trans rfl, (blk_cell BK153.out 3).trans rfl, (blk_cell BK154.out 0).trans rfl, (blk_cell BK154.out 1).trans rfl, (blk_cell BK154.out 2).trans rfl, (blk_cell BK154.out 3).trans rfl, (bcell HB.out hw155_0), (bcell HB.out hw155_1), (bcell HB.out hw155_2), (bcell HB.out hw155_3), (bcell HB.out hw156_0), (bcell HB.out hw156_1), (bcell HB.out hw156_2), (bcell HB.out hw156_3)⟩ (fun hHeld => ?_)
      clear hK K
      refine nm 51 ?_
      refine pT 11 52 (bl 12 4095) HT_ rfl rfl ?_
      refine done_ (done_of HT_.out (by kernel_rfl)) ?_
      try go_wp2
      go_ret
      exact ⟨rr, bb HB⟩
     subst c26
     replace H := it H
     have H' := Aside0.mk H
     clear H
     have hnb27 := NB153_154.out
     have hnc27 := NB154_153.out
     obtain ⟨hcz28_0, hcz28_1, hcz28_2, hcz28_3, hfz28_0, hfz28_1, hfz28_2, hfz28_3⟩ := cf4 BK153.out
     try go_wp2
     replace BK153 := Aside0.mk (kdr BK153.out)
     replace BK154 := Aside0.mk (kdr BK154.out)
     replace HB := Aside0.mk (bd1 HB.out)
     have p155 : 0 ≤ (x5_2 : Int) := od
     have q155 : x5_2 < (l0_3.length : Int) := od
     obtain ⟨ad155, A155_3, c155_3, e155, hx155_0, hx155_1, hx155_2, hx155_3, hl155_3, hi155_3⟩ := at_T28 HR0_3.out x5_2 p155 q155
     have hw155_3 := hx155_3
     have hw155_2 := hx155_2
     have hw155_1 := hx155_1
     have hw155_0 := hx155_0
     cases e155
     replace hx155_0 := bcell HB.out hx155_0
     replace hx155_1 := bcell HB.out hx155_1
     replace hx155_2 := bcell HB.out hx155_2
     replace hx155_3 := bcell HB.out hx155_3
     have HR155_3 := Aside0.mk hi155_3
     have HC155_3 := Aside0.mk hl155_3
     clear hi155_3 hl155_3
     replace p155 := eq_true p155
     replace q155 := eq_true q155
     have p156 : 0 ≤ (x5_2 : Int) := od
     have q156 : x5_2 < (l1_3.length : Int) := od
     obtain ⟨ad156, A156_3, c156_3, e156, hx156_0, hx156_1, hx156_2, hx156_3, hl156_3, hi156_3⟩ := at_T28 HR1_3.out x5_2 p156 q156
     have hw156_3 := hx156_3
     have hw156_2 := hx156_2
     have hw156_1 := hx156_1
     have hw156_0 := hx156_0
     cases e156
     replace hx156_0 := bcell HB.out hx156_0
     replace hx156_1 := bcell HB.out hx156_1
     replace hx156_2 := bcell HB.out hx156_2
     replace hx156_3 := bcell HB.out hx156_3
     have HR156_3 := Aside0.mk hi156_3
     have HC156_3 := Aside0.mk hl156_3
     clear hi156_3 hl156_3
     replace p156 := eq_true p156
     replace q156 := eq_true q156
     refine start_ (n := 12) (S := fun w' => w'.cell? ⟨gb153, 0, none⟩ = some (.int .i64 a0_0) ∧ w'.cell? ⟨gb153, 1, none⟩ = some (.int .i64 a0_1) ∧ w'.cell? ⟨gb153, 2, none⟩ = some (.int .i64 a0_2) ∧ w'.cell? ⟨gb153, 3, none⟩ = some (.slice (some ad155) l0_3.length c0_3) ∧ w'.cell? ⟨gb154, 0, none⟩ = some (.int .i64 a1_0) ∧ w'.cell? ⟨gb154, 1, none⟩ = some (.int .i64 a1_1) ∧ w'.cell? ⟨gb154, 2, none⟩ = some (.int .i64 a1_2) ∧ w'.cell? ⟨gb154, 3, none⟩ = some (.slice (some ad156) l1_3.length c1_3) ∧ w'.cell? (ad155.add ((x5_2).toNat * 4)) = some (.int .i64 ((rd_T28 l0_3 x5_2).f0)) ∧ w'.cell? ⟨(ad155.add ((x5_2).toNat * 4)).block, (ad155.add ((x5_2).toNat * 4)).off + 1, none⟩ = some (.int .i64 ((rd_T28 l0_3 x5_2).f1)) ∧ w'.cell? ⟨(ad155.add ((x5_2).toNat * 4)).block, (ad155.add ((x5_2).toNat * 4)).off + 2, none⟩ = some (.int .i64 ((rd_T28 l0_3 x5_2).f2)) ∧ w'.cell? ⟨(ad155.add ((x5_2).toNat * 4)).block, (ad155.add ((x5_2).toNat * 4)).off + 3, none⟩ = some (.slice A155_3 ((rd_T28 l0_3 x5_2).f3).length c155_3) ∧ w'.cell? (ad156.add ((x5_2).toNat * 4)) = some (.int .i64 ((rd_T28 l1_3 x5_2).f0)) ∧ w'.cell? ⟨(ad156.add ((x5_2).toNat * 4)).block, (ad156.add ((x5_2).toNat * 4)).off + 1, none⟩ = some (.int .i64 ((rd_T28 l1_3 x5_2).f1)) ∧ w'.cell? ⟨(ad156.add ((x5_2).toNat * 4)).block, (ad156.add ((x5_2).toNat * 4)).off + 2, none⟩ = some (.int .i64 ((rd_T28 l1_3 x5_2).f2)) ∧ w'.cell? ⟨(ad156.add ((x5_2).toNat * 4)).block, (ad156.add ((x5_2).toNat * 4)).off + 3, none⟩ = some (.slice A156_3 ((rd_T28 l1_3 x5_2).f3).length c156_3)) (ds := []) #[false, false, false, false, false, false, false, false, false, false, false, false] (by kernel_rfl) rfl rfl ⟨(blk_cell BK153.out 0).trans rfl, (blk_cell BK153.out 1).trans rfl, (blk_cell BK153.out 2).trans rfl, (blk_cell BK153.out 3).trans rfl, (blk_cell BK154.out 0).trans rfl, (blk_cell BK154.out 1).trans rfl, (blk_cell BK154.out 2).trans rfl, (blk_cell BK154.out 3).trans rfl, (bcell HB.out hw155_0), (bcell HB.out hw155_1), (bcell HB.out hw155_2), (bcell HB.out hw155_3), (bcell HB.out hw156_0), (bcell HB.out hw156_1), (bcell HB.out hw156_2), (bcell HB.out hw156_3)⟩ (fun hHeld => ?_); refine with_tabW r2_Same.tab6 r2_Same.bits6 (fun HT_ HW_ => ?_)
     generalize wr.drew = w29 at BK153 BK154 HB HR155_3 HR156_3 hx155_0 hx155_1 hx155_2 hx155_3 hx156_0 hx156_1 hx156_2 hx156_3 hHeld ⊢
     refine pT 0 41 (bl 12 1) HT_ rfl rfl ?_
     refine pT 2 43 (bl 12 5) HT_ rfl rfl ?_
     refine pT 5 46 (bl 12 37) HT_ rfl rfl ?_
     refine pT 7 48 (bl 12 165) HT_ rfl rfl ?_
     refine tk (i := 1) (N := some 42) (bl 12 167) rfl rfl (take_ofW HT_.out HW_.out (by kernel_rfl)) hHeld ?_
     refine pT 3 44 (bl 12 175) HT_ rfl rfl ?_
     refine tk (i := 4) (N := some 45) (bl 12 191) rfl rfl (take_ofW HT_.out HW_.out (by kernel_rfl)) hHeld ?_
     refine tk (i := 6) (N := some 47) (bl 12 255) rfl rfl (take_ofW HT_.out HW_.out (by kernel_rfl)) hHeld ?_
     refine pT 8 49 (bl 12 511) HT_ rfl rfl ?_
     refine tk (i := 9) (N := some 50) (bl 12 1023) rfl rfl (take_ofW HT_.out HW_.out (by kernel_rfl)) hHeld ?_
     refine one_ (i := 10) (N := some 51) (bl 12 2047) rfl rfl (one_of HT_.out (by kernel_rfl)) (by decide) (fun K hK => ?_)
     refine gO Try.func14 #[.agg #[.int .i64 ((rd_T28 l0_3 x5_2).f0), .int .i64 ((rd_T28 l0_3 x5_2).f1), .int .i64 ((rd_T28 l0_3 x5_2).f2), .slice A155_3 ((rd_T28 l0_3 x5_2).f3).length c155_3], .agg #[.int .i64 ((rd_T28 l1_3 x5_2).f0), .int .i64 ((rd_T28 l1_3 x5_2).f1), .int .i64 ((rd_T28 l1_3 x5_2).f2), .slice A156_3 ((rd_T28 l1_3 x5_2).f3).length c156_3]] (by rfl) rfl rfl ?_
     with_reducible refine (ih k2 (by have := HJ2.out; have := HK2.out; omega) ((rd_T28 l0_3 x5_2).f0) ((rd_T28 l0_3 x5_2).f1) ((rd_T28 l0_3 x5_2).f2) _ _ ((rd_T28 l0_3 x5_2).f3) ((rd_T28 l1_3 x5_2).f0) ((rd_T28 l1_3 x5_2).f1) ((rd_T28 l1_3 x5_2).f2) _ _ ((rd_T28 l1_3 x5_2).f3) true _ ?side1 ?side2 ?side3 ?side4 A25.out).mono ?_
     (case side1 => exact cb HR155_3 HB)
     (case side2 => exact HC155_3.out)
     (case side3 => exact cb HR156_3 HB)
     (case side4 => exact HC156_3.out)
     rintro e w30 ⟨rfl, hb⟩
     refine ⟨_, rfl, ?_⟩
     replace BK153 := kb BK153 hb
     replace BK154 := kb BK154 hb
     replace HB := sb HB hb
     (try clear hb)
     (try clear hb2)
     (try clear hk)
     (try clear hi)
     refine hK.out _ _ ⟨(blk_cell BK153.out 0).trans rfl, (blk_cell BK153.out 1).trans rfl, (blk_cell BK153.out 2).trans rfl, (blk_cell BK153.out 3).trans rfl, (blk_cell BK154.out 0).trans rfl, (blk_cell BK154.out 1).trans rfl, (blk_cell BK154.out 2).trans rfl, (blk_cell BK154.out 3).trans rfl, (bcell HB.out hw155_0), (bcell HB.out hw155_1), (bcell HB.out hw155_2), (bcell HB.out hw155_3), (bcell HB.out hw156_0), (bcell HB.out hw156_1), (bcell HB.out hw156_2), (bcell HB.out hw156_3)⟩ (fun hHeld => ?_)
     clear hK K
     refine nm 51 ?_
     refine pT 11 52 (bl 12 4095) HT_ rfl rfl ?_
     refine done_ (done_of HT_.out (by kernel_rfl)) ?_
     try go_wp2
     go_roundg k2
     case measure => have := HJ2.out; have := HK2.out; omega
     case rel => exact ⟨(wrap64 (x5_2 + 1)), rs, H', ⟨by have := HJ2.out; have := HK2.out; omega⟩, ⟨kk BK153⟩, ⟨kk BK154⟩, ⟨bb HB⟩⟩
theorem sameE : (∀ x, goodE x → Tells (fun k => r2_Same.f k x.f0 x.f1 x.f2 x.f3 x.f0 x.f1 x.f2 x.f3) true) ∧
    (∀ suf, ∀ (pre : List S28) (a b c : Int), goodEs suf → (pre ++ suf).length ≤ 9223372036854775807 → Tells (fun k => r2_Same.l0 k (pre.length : Int) a b c (pre ++ suf) a b c (pre ++ suf)) true) := by
  refine E_ind (fun a b c l ih => ?_) ?_ (fun x r ih1 ih2 => ?_)
  · intro hg
    refine Tells.succ ?_
    simp only [r2_Same.f, if_true, bne_self_eq_false]
    refine Tells.succ ?_
    simp only [r2_Same.j0, Bool.false_eq_true, if_false]
    exact ih [] a b c hg.2 hg.1
  · intro pre a b c _ _
    refine Tells.succ ?_
    simp only [r2_Same.l0, pre_nlt, if_false]
    exact Tells.pure _
  · intro pre a b c hg hl
    refine Tells.succ ?_
    simp only [r2_Same.l0, pre_lt, pre_pos, if_true, rdE_mid]
    refine Tells.bind (ih1 hg.1) (Tells.ifT rfl ?_)
    rw [pre_next pre x r hl]
    have := ih2 (pre ++ [x]) a b c hg.2 (by rw [← pre_app]; exact hl)
    rw [← pre_app] at this
    exact this
theorem sgE_vals (w : Int) (vars : List S66) (body : List S64) : (pIs w vars body = true ∧ sgE w vars body = 0) ∨ (pIs w vars body = true ∧ sgE w vars body = 1) ∨ (pIs w vars body = false ∧ sgE w vars body = 30) := by
  unfold sgE
  cases pIs w vars body
  · exact .inr (.inr ⟨rfl, rfl⟩)
  · cases sgB vars body
    · exact .inr (.inl ⟨rfl, rfl⟩)
    · exact .inl ⟨rfl, rfl⟩
def cs (l : List S66) : Int := (l.map (·.f2)).sum
theorem cs_nil : cs [] = 0 := rfl
theorem cs_cons (v : S66) (r : List S66) : cs (v :: r) = v.f2 + cs r := by unfold cs; rw [List.map_cons, List.sum_cons]
theorem cs_bound : ∀ (l : List S66), (∀ v ∈ l, 1 ≤ v.f2 ∧ v.f2 ≤ 8) → 0 ≤ cs l ∧ cs l ≤ 8 * l.length
  | [], _ => by rw [cs_nil]; simp
  | v :: r, h => by
    have h1 := h v (by simp)
    have h2 := cs_bound r (fun u hu => h u (by simp [hu]))
    rw [cs_cons, List.length_cons]
    omega
def r1_Same.l0 : Nat → List Int → List Int → Int → Option (Bool)
 | 0, _, _, _ => none
 | k + 1, x0, x1, x5 => if x5 < (x0.length : Int) then (if 0 ≤ x5 then (if x5 < (x1.length : Int) then (if (rd x0 x5) = (rd x1 x5) then (r1_Same.l0 k x0 x1 (wrap64 (x5 + 1))) else (some false)) else (none)) else (none)) else (some true)
def r1_Same.f (k : Nat) (l0 : List Int) (l1 : List Int) : Option (Bool) := if (l0.length : Int) = (l1.length : Int) then (r1_Same.l0 k l0 l1 0) else (some false)
theorem r1_Same.calls (k : Nat) (A0 : Option Addr) (c0 : Nat) (l0 : List Int) (A1 : Option Addr) (c1 : Nat) (l1 : List Int) (r : Bool) (w : World) (hr0 : Kd.C (Kd.int .i64) w A0 l0.length l0) (hc0 : l0.length ≤ c0) (hr1 : Kd.C (Kd.int .i64) w A1 l1.length l1) (hc1 : l1.length ≤ c1) (h : r1_Same.f k l0 l1 = some r) :
  Calls Try.prog 35 #[.slice A0 l0.length c0, .slice A1 l1.length c1] w fun e w' => e = .returned (.bool r) ∧ Drawn0 w w' := by
 have HR0 := Aside0.mk hr0
 have HC0 := Aside0.mk hc0
 clear hr0 hc0
 have HR1 := Aside0.mk hr1
 have HC1 := Aside0.mk hc1
 clear hr1 hc1
 have H : (if (l0.length : Int) = (l1.length : Int) then (r1_Same.l0 k l0 l1 0) else (some false)) = some r := h
 clear h
 by_cases c3 : (l0.length : Int) = (l1.length : Int)
 rotate_left
 ·rw [if_neg c3] at H
  have c3b0 : ((l0.length : Int) == (l1.length : Int)) = false := beq_eq_false_iff_ne.mpr c3
  have c3b1 : ((l0.length : Int) != (l1.length : Int)) = true := bne_iff_ne.mpr c3
  have c3b2 : (l0.length == l1.length) = false := by first | simpa using c3 | (simp at c3 ⊢; omega)
  obtain rfl := Option.some.inj H
  go_enter Try.func35, Try.ntmps35
  go_wp2
  repeat (go_quiet (fail); try go_wp2)
  go_ret
  exact ⟨rs, dr⟩
 rw [if_pos c3] at H
 have c3b0 : ((l0.length : Int) == (l1.length : Int)) = true := beq_iff_eq.mpr c3
 have c3b1 : ((l0.length : Int) != (l1.length : Int)) = false := bne_eq_false_iff_eq.mpr c3
 have c3b2 : (l0.length == l1.length) = true := by first | simpa using c3 | (simp at c3 ⊢; omega)
 clear c3
 have H' := Aside0.mk H
 clear H
 go_enter Try.func35, Try.ntmps35
 go_wp2
 repeat (go_quiet (fail); try go_wp2)
 go_loopg [5] k (fun kq v5 w' => ∃ (x5_1 : Int), v5 = .int .i64 x5_1 ∧ Aside0 (r1_Same.l0 kq l0 l1 x5_1 = some r) ∧ Aside0 (kq ≤ k) ∧ Drawn0 w w')
 case atStart => exact ⟨(0), rs, H', ⟨Nat.le_refl _⟩, dr⟩
 case round =>
  clear H'
  try clear c1
  try clear p2
  try clear c3
  try clear c3b0
  try clear c3b1
  try clear c3b2
  obtain ⟨x5_1, rfl, HA, HK1, ⟨m1, rfl⟩⟩ := hrel
  cases gk with
  | zero => exact absurd HA.out (by simp [r1_Same.l0])
  | succ k1 =>
   have H := HA.out
   clear HA
   simp only [r1_Same.l0] at H
   by_cases c4 : x5_1 < (l0.length : Int)
   rotate_left
   ·rw [if_neg c4] at H
    have c4b0 : decide (x5_1 < (l0.length : Int)) = false := decide_eq_false c4
    clear c4
    obtain rfl := Option.some.inj H
    go_wp2
    repeat (go_quiet (fail); try go_wp2)
    go_ret
    exact ⟨rs, dr⟩
   rw [if_pos c4] at H
   have c4b0 : decide (x5_1 < (l0.length : Int)) = true := decide_eq_true c4
   clear c4
   by_cases c5 : 0 ≤ x5_1
   rotate_left
   ·rw [if_neg c5] at H
    exact absurd H (by simp)
   rw [if_pos c5] at H
   have c5b0 : decide (0 ≤ x5_1) = true := decide_eq_true c5
   clear c5
   by_cases c6 : x5_1 < (l1.length : Int)
   rotate_left
   ·rw [if_neg c6] at H
    exact absurd H (by simp)
   rw [if_pos c6] at H
   have c6b0 : decide (x5_1 < (l1.length : Int)) = true := decide_eq_true c6
   clear c6
   by_cases c7 : (rd l0 x5_1) = (rd l1 x5_1)
   rotate_left
   ·rw [if_neg c7] at H
    have c7b0 : ((rd l0 x5_1) == (rd l1 x5_1)) = false := beq_eq_false_iff_ne.mpr c7
    have c7b1 : ((rd l0 x5_1) != (rd l1 x5_1)) = true := bne_iff_ne.mpr c7
    obtain rfl := Option.some.inj H
    have p245 : 0 ≤ (x5_1 : Int) := od
    have q245 : x5_1 < (l0.length : Int) := od
    obtain ⟨ad245, e245, hx245_0⟩ := Kd.at_int HR0.out x5_1 p245 q245
    cases e245
    replace p245 := eq_true p245
    replace q245 := eq_true q245
    have p246 : 0 ≤ (x5_1 : Int) := od
    have q246 : x5_1 < (l1.length : Int) := od
    obtain ⟨ad246, e246, hx246_0⟩ := Kd.at_int HR1.out x5_1 p246 q246
    cases e246
    replace p246 := eq_true p246
    replace q246 := eq_true q246
    go_wp2
    repeat (go_quiet (fail); try go_wp2)
    go_ret
    exact ⟨rs, dr⟩
   rw [if_pos c7] at H
   have c7b0 : ((rd l0 x5_1) == (rd l1 x5_1)) = true := beq_iff_eq.mpr c7
   have c7b1 : ((rd l0 x5_1) != (rd l1 x5_1)) = false := bne_eq_false_iff_eq.mpr c7
   clear c7
   have H' := Aside0.mk H
   clear H
   have p245 : 0 ≤ (x5_1 : Int) := od
   have q245 : x5_1 < (l0.length : Int) := od
   obtain ⟨ad245, e245, hx245_0⟩ := Kd.at_int HR0.out x5_1 p245 q245
   cases e245
   replace p245 := eq_true p245
   replace q245 := eq_true q245
   have p246 : 0 ≤ (x5_1 : Int) := od
   have q246 : x5_1 < (l1.length : Int) := od
   obtain ⟨ad246, e246, hx246_0⟩ := Kd.at_int HR1.out x5_1 p246 q246
   cases e246
   replace p246 := eq_true p246
   replace q246 := eq_true q246
   go_wp2
   repeat (go_quiet (fail); try go_wp2)
   go_roundg k1
   case measure => have := HK1.out; omega
   case rel => exact ⟨(wrap64 (x5_1 + 1)), rs, H', ⟨by have := HK1.out; omega⟩, dr⟩
theorem u64_small {n : Int} (h0 : 0 ≤ n) (h1 : n < 1000000) : IntKind.u64.wrap n = n := by
  simp [IntKind.wrap, IntKind.bits, IntKind.signed]
  omega
theorem i64_wrap {n : Int} (h0 : -9223372036854775808 ≤ n) (h1 : n ≤ 9223372036854775807) : IntKind.i64.wrap n = n := by
  rw [Go.IntKind.wrap_i64]
  omega
theorem pow_60 : (2 : Int) ^ 60 = 1152921504606846976 := by decide
theorem pow_le {a b : Nat} (h : a ≤ b) : (2 : Int) ^ a ≤ 2 ^ b := by
  have := Nat.pow_le_pow_right (show 0 < 2 by decide) h
  have e : ∀ n : Nat, ((2 : Int) ^ n) = ((2 ^ n : Nat) : Int) := fun n => by simp
  rw [e, e]
  omega
theorem pow_pos' (a : Nat) : (0 : Int) < 2 ^ a := Int.pow_pos (by decide)
theorem shl_pow {x : Int} {n : Int} (h0 : 0 ≤ n) (h1 : n ≤ 60) (x0 : 0 ≤ x) (hx : x * 2 ^ n.toNat ≤ 9223372036854775807) : shl .i64 x n = x * 2 ^ n.toNat := by
  unfold shl
  rw [Nat.min_eq_left (by show n.toNat ≤ 64; omega)]
  have := Int.mul_nonneg x0 (Int.le_of_lt (pow_pos' n.toNat))
  exact i64_wrap (by omega) hx
theorem shl_one {n : Int} (h0 : 0 ≤ n) (h1 : n ≤ 60) : shl .i64 1 n = 2 ^ n.toNat := by
  have := pow_le (a := n.toNat) (b := 60) (by omega)
  rw [pow_60] at this
  rw [shl_pow h0 h1 (by decide) (by omega), Int.one_mul]
def valid (p : Int) (l : List Int) : Bool := l.all fun s => decide (0 ≤ s ∧ s < p)
theorem valid_iff {p : Int} {l : List Int} : valid p l = true ↔ ∀ s ∈ l, 0 ≤ s ∧ s < p := by
  unfold valid
  rw [List.all_eq_true]
  simp only [decide_eq_true_eq]
theorem rd_mid (pre : List Int) (x : Int) (r : List Int) : rd (pre ++ x :: r) (pre.length : Int) = x := getD_mid pre x _ r
theorem same_loop : ∀ (suf pre : List Int), (pre ++ suf).length ≤ 9223372036854775807 → Tells (fun k => r1_Same.l0 k (pre ++ suf) (pre ++ suf) (pre.length : Int)) true
  | [], pre, _ => by
    refine Tells.succ ?_
    simp only [r1_Same.l0, pre_nlt, if_false]
    exact Tells.pure _
  | s :: r, pre, hl => by
    refine Tells.succ ?_
    simp only [r1_Same.l0, pre_lt, pre_pos, if_true, rd_mid]
    have ih := same_loop r (pre ++ [s]) (by rw [← pre_app]; exact hl)
    rw [← pre_app] at ih
    rw [pre_next pre s r hl]
    exact ih
theorem same_tells (l : List Int) (hl : l.length ≤ 9223372036854775807) : Tells (fun k => r1_Same.f k l l) true := by
  unfold r1_Same.f
  exact Tells.ifT rfl (same_loop l [] hl)
def prod_cells.l0 : Nat → Int → List (S66) → Int → Int → Option (Int)
 | 0, _, _, _, _ => none
 | k + 1, x3, x7, x8, x9 => if x9 < x8 then (if 0 ≤ x9 then (if x9 < (x7.length : Int) then (prod_cells.l0 k (wrap64 (x3 + ((rd_T66 x7 x9).f2))) x7 x8 (wrap64 (x9 + 1))) else (none)) else (none)) else (some x3)
def prod_cells.f (k : Nat) (a0_0 : Int) (l0_1 : List (S66)) (l0_2 : List (S64)) : Option (Int) := prod_cells.l0 k 0 l0_1 (l0_1.length : Int) 0
theorem prod_cells.calls (k : Nat) (a0_0 : Int) (A0_1 : Option Addr) (c0_1 : Nat) (l0_1 : List (S66)) (A0_2 : Option Addr) (c0_2 : Nat) (l0_2 : List (S64)) (r : Int) (w : World) (hr0_1 : Kd.C k66 w A0_1 l0_1.length l0_1) (hc0_1 : l0_1.length ≤ c0_1) (hr0_2 : Kd.C k64 w A0_2 l0_2.length l0_2) (hc0_2 : l0_2.length ≤ c0_2) (h : prod_cells.f k a0_0 l0_1 l0_2 = some r) :
  Calls Try.prog 55 #[.agg #[.int .i64 a0_0, .slice A0_1 l0_1.length c0_1, .slice A0_2 l0_2.length c0_2]] w fun e w' => e = .returned (.int .i64 r) ∧ Below w.heap.size w w' := by
 have hu25 := Try.underlying25
 have hu66 := Try.underlying66
 have HR0_1 := Aside0.mk hr0_1
 have HC0_1 := Aside0.mk hc0_1
 clear hr0_1 hc0_1
 have HR0_2 := Aside0.mk hr0_2
 have HC0_2 := Aside0.mk hc0_2
 clear hr0_2 hc0_2
 have HB := Aside0.mk (Below.refl w.heap.size w)
 have H : (prod_cells.l0 k 0 l0_1 (l0_1.length : Int) 0) = some r := h
 clear h
 have H' := Aside0.mk H
 clear H
 go_enter Try.func55, Try.ntmps55
 go_wp2_with (first | ((with_reducible refine gate_dst (N := 1) rfl ?_); refine bx 1 rfl rfl #[.int .i64 a0_0, .slice A0_1 l0_1.length c0_1, .slice A0_2 l0_2.length c0_2] 25 ?_; intro gb165 hg w2 hbox hb; have BK165 := Aside0.mk (hbox); have GE165 := ge HB hg; replace HB := sb HB hb; clear hb hbox hg; obtain ⟨hcz3_0, hcz3_1, hcz3_2, hfz3_0, hfz3_1, hfz3_2⟩ := cf3 BK165.out))
 go_loopg [3, 9] k (fun kq v3 v9 w' => ∃ (x3_1 : Int) (x9_1 : Int), v3 = .int .i64 x3_1 ∧ v9 = .int .i64 x9_1 ∧ Aside0 (prod_cells.l0 kq x3_1 l0_1 (l0_1.length : Int) x9_1 = some r) ∧ Aside0 (kq ≤ k) ∧ Aside0 (w'.heap[gb165]? = some (.cells #[.int .i64 a0_0, (.slice A0_1 l0_1.length c0_1), (.slice A0_2 l0_2.length c0_2)] 25 (0, 0))) ∧ Aside0 (Below w.heap.size w w'))
 case atStart => exact ⟨(0), (0), rs, rs, H', ⟨Nat.le_refl _⟩, ⟨kk BK165⟩, ⟨bb HB⟩⟩
 case round =>
  clear H'
  try clear p2
  try clear hcz3_0 hcz3_1 hcz3_2 hfz3_0 hfz3_1 hfz3_2
  obtain ⟨x3_1, x9_1, rfl, rfl, HA, HK1, BK165, HB⟩ := hrel
  cases gk with
  | zero => exact absurd HA.out (by simp [prod_cells.l0])
  | succ k1 =>
   have H := HA.out
   clear HA
   simp only [prod_cells.l0] at H
   by_cases c4 : x9_1 < (l0_1.length : Int)
   rotate_left
   ·rw [if_neg c4] at H
    have c4b0 : decide (x9_1 < (l0_1.length : Int)) = false := decide_eq_false c4
    clear c4
    obtain rfl := Option.some.inj H
    go_wp2
    go_ret
    exact ⟨rr, bb HB⟩
   rw [if_pos c4] at H
   have c4b0 : decide (x9_1 < (l0_1.length : Int)) = true := decide_eq_true c4
   clear c4
   by_cases c5 : 0 ≤ x9_1
   rotate_left
   ·rw [if_neg c5] at H
    exact absurd H (by simp)
   rw [if_pos c5] at H
   have c5b0 : decide (0 ≤ x9_1) = true := decide_eq_true c5
   clear c5
   by_cases c6 : x9_1 < (l0_1.length : Int)
   rotate_left
   ·rw [if_neg c6] at H
    exact absurd H (by simp)
   rw [if_pos c6] at H
   have c6b0 : decide (x9_1 < (l0_1.length : Int)) = true := decide_eq_true c6
   clear c6
   have H' := Aside0.mk H
   clear H
   have p166 : 0 ≤ (x9_1 : Int) := od
   have q166 : x9_1 < (l0_1.length : Int) := od
   obtain ⟨ad166, e166, hx166_0, hx166_1, hx166_2⟩ := at_T66 HR0_1.out x9_1 p166 q166
   cases e166
   replace hx166_0 := bcell HB.out hx166_0
   replace hx166_1 := bcell HB.out hx166_1
   replace hx166_2 := bcell HB.out hx166_2
   replace p166 := eq_true p166
   replace q166 := eq_true q166
   go_wp2_with (first | ((with_reducible refine gate_dst (N := 5) rfl ?_); refine bx 5 rfl rfl #[.string (⟨#[]⟩ : ByteArray), .int .i64 0, .int .i64 0] 66 ?_; intro gb167 hg w7 hbox hb; have BK167 := Aside0.mk (hbox); have GE167 := ge HB hg; have NB165_167 := Aside0.mk ((by rw [hg]; exact Nat.ne_of_lt (blk_lt (kk BK165)) : gb165 ≠ gb167)); have NB167_165 := Aside0.mk ((by rw [hg]; exact Nat.ne_of_gt (blk_lt (kk BK165)) : gb167 ≠ gb165)); replace BK165 := kb BK165 hb; replace HB := sb HB hb; clear hb hbox hg; have hnb8 := NB167_165.out; have hnc8 := NB165_167.out; obtain ⟨hcz9_0, hcz9_1, hcz9_2, hfz9_0, hfz9_1, hfz9_2⟩ := cf3 BK167.out))
   go_roundg k1
   case measure => have := HK1.out; omega
   case rel => exact ⟨(wrap64 (x3_1 + ((rd_T66 l0_1 x9_1).f2))), (wrap64 (x9_1 + 1)), rs, rs, H', ⟨by have := HK1.out; omega⟩, ⟨kk BK165⟩, ⟨bb HB⟩⟩
def prod_words.l0 : Nat → Int → Int → Int → List Int → Int → Int → Option (Bool)
 | 0, _, _, _, _, _, _ => none
 | k + 1, x0, x5, x6, x18, x19, x20 => if x20 < x19 then (if 0 ≤ x20 then (if x20 < (x18.length : Int) then (prod_words.l0 k x0 (mn x5 (rd x18 x20)) (mx x6 (rd x18 x20)) x18 x19 (wrap64 (x20 + 1))) else (none)) else (none)) else (if x5 ≥ 0 then (if 0 ≤ (IntKind.u64.wrap (x0)) then (some (decide (x6 < (shl .i64 1 (IntKind.u64.wrap (x0)))))) else (none)) else (some false))
def prod_words.f (k : Nat) (a0 : Int) (l1 : List Int) : Option (Bool) := if (l1.length : Int) = 0 then (some true) else (if 0 < (l1.length : Int) then (prod_words.l0 k a0 (rd l1 0) (rd l1 0) l1 (l1.length : Int) 0) else (none))
theorem prod_words.calls (k : Nat) (a0 : Int) (A1 : Option Addr) (c1 : Nat) (l1 : List Int) (r : Bool) (w : World) (hr1 : Kd.C (Kd.int .i64) w A1 l1.length l1) (hc1 : l1.length ≤ c1) (h : prod_words.f k a0 l1 = some r) :
  Calls Try.prog 56 #[.int .i64 a0, .slice A1 l1.length c1] w fun e w' => e = .returned (.bool r) ∧ Below w.heap.size w w' := by
 have HR1 := Aside0.mk hr1
 have HC1 := Aside0.mk hc1
 clear hr1 hc1
 have HB := Aside0.mk (Below.refl w.heap.size w)
 have H : (if (l1.length : Int) = 0 then (some true) else (if 0 < (l1.length : Int) then (prod_words.l0 k a0 (rd l1 0) (rd l1 0) l1 (l1.length : Int) 0) else (none))) = some r := h
 clear h
 by_cases c3 : (l1.length : Int) = 0
 ·rw [if_pos c3] at H
  have c3b0 : ((l1.length : Int) == 0) = true := beq_iff_eq.mpr c3
  have c3b1 : ((l1.length : Int) != 0) = false := bne_eq_false_iff_eq.mpr c3
  clear c3
  obtain rfl := Option.some.inj H
  go_enter Try.func56, Try.ntmps56
  go_wp2
  repeat (go_quiet (fail); try go_wp2)
  go_ret
  exact ⟨rr, bb HB⟩
 rw [if_neg c3] at H
 have c3b0 : ((l1.length : Int) == 0) = false := beq_eq_false_iff_ne.mpr c3
 have c3b1 : ((l1.length : Int) != 0) = true := bne_iff_ne.mpr c3
 have c3b2 : ¬ (l1 = []) := fun h_ => c3 (by rw [h_]; rfl)
 by_cases c4 : 0 < (l1.length : Int)
 rotate_left
 ·rw [if_neg c4] at H
  exact absurd H (by simp)
 rw [if_pos c4] at H
 have c4b0 : decide (0 < (l1.length : Int)) = true := decide_eq_true c4
 have c4b1 : decide (0 < l1.length) = true := decide_eq_true (by omega)
 clear c4
 have H' := Aside0.mk H
 clear H
 have p168 : 0 ≤ (0 : Int) := (by omega)
 have q168 : 0 < (l1.length : Int) := od
 obtain ⟨ad168, e168, hx168_0⟩ := Kd.at_int HR1.out 0 p168 q168
 cases e168
 have qi168 : (0 < l1.length) = True := eq_true (by omega)
 (try rw [show ((0 : Int)).toNat = 0 from rfl] at hx168_0)
 (try rw [Addr.add_zero'] at hx168_0)
 replace p168 := eq_true p168
 replace q168 := eq_true q168
 have p169 : 0 ≤ (0 : Int) := (by omega)
 have q169 : 0 < (l1.length : Int) := od
 obtain ⟨ad169, e169, hx169_0⟩ := Kd.at_int HR1.out 0 p169 q169
 obtain rfl : ad168 = ad169 := (by injection e169)
 have qi169 : (0 < l1.length) = True := eq_true (by omega)
 (try rw [show ((0 : Int)).toNat = 0 from rfl] at hx169_0)
 (try rw [Addr.add_zero'] at hx169_0)
 replace p169 := eq_true p169
 replace q169 := eq_true q169
 go_enter Try.func56, Try.ntmps56
 go_wp2
 repeat (go_quiet (fail); try go_wp2)
 go_loopg [5, 6, 20] k (fun kq v5 v6 v20 w' => ∃ (x5_1 : Int) (x6_1 : Int) (x20_1 : Int), v5 = .int .i64 x5_1 ∧ v6 = .int .i64 x6_1 ∧ v20 = .int .i64 x20_1 ∧ Aside0 (prod_words.l0 kq a0 x5_1 x6_1 l1 (l1.length : Int) x20_1 = some r) ∧ Aside0 (kq ≤ k) ∧ Aside0 (Below w.heap.size w w'))
 case atStart => exact ⟨(rd l1 0), (rd l1 0), (0), rs, rs, rs, H', ⟨Nat.le_refl _⟩, ⟨bb HB⟩⟩
 case round =>
  clear H'
  try clear c1
  try clear p1
  try clear q1
  try clear hx1
  try clear qi1
  try clear p2
  try clear c3
  try clear c3b0
  try clear c3b1
  try clear c3b2
  try clear c4
  try clear c4b0
  try clear c4b1
  try clear hx168_0
  try clear hx169_0
  try clear p168
  try clear p169
  try clear q168
  try clear q169
  obtain ⟨x5_1, x6_1, x20_1, rfl, rfl, rfl, HA, HK1, HB⟩ := hrel
  cases gk with
  | zero => exact absurd HA.out (by simp [prod_words.l0])
  | succ k1 =>
   have H := HA.out
   clear HA
   simp only [prod_words.l0] at H
   by_cases c5 : x20_1 < (l1.length : Int)
   ·rw [if_pos c5] at H
    have c5b0 : decide (x20_1 < (l1.length : Int)) = true := decide_eq_true c5
    clear c5
    by_cases c6 : 0 ≤ x20_1
    rotate_left
    ·rw [if_neg c6] at H
     exact absurd H (by simp)
    rw [if_pos c6] at H
    have c6b0 : decide (0 ≤ x20_1) = true := decide_eq_true c6
    clear c6
    by_cases c7 : x20_1 < (l1.length : Int)
    rotate_left
    ·rw [if_neg c7] at H
     exact absurd H (by simp)
    rw [if_pos c7] at H
    have c7b0 : decide (x20_1 < (l1.length : Int)) = true := decide_eq_true c7
    clear c7
    obtain ⟨ji8, hji8⟩ : ∃ j_ : Int, (mn x5_1 (rd l1 x20_1)) = j_ := ⟨_, rfl⟩
    replace H : (prod_words.l0 k1 a0 ji8 (mx x6_1 (rd l1 x20_1)) l1 (l1.length : Int) (wrap64 (x20_1 + 1))) = some r := by first | (rw [hji8] at H; exact H) | (simp only [hji8] at H ⊢; exact H)
    have hji8_ : (if (rd l1 x20_1) < x5_1 then (rd l1 x20_1) else x5_1) = ji8 := hji8
    obtain ⟨ji9, hji9⟩ : ∃ j_ : Int, (mx x6_1 (rd l1 x20_1)) = j_ := ⟨_, rfl⟩
    replace H : (prod_words.l0 k1 a0 ji8 ji9 l1 (l1.length : Int) (wrap64 (x20_1 + 1))) = some r := by first | (rw [hji9] at H; exact H) | (simp only [hji9] at H ⊢; exact H)
    have hji9_ : (if x6_1 < (rd l1 x20_1) then (rd l1 x20_1) else x6_1) = ji9 := hji9
    have H' := Aside0.mk H
    clear H
    have p170 : 0 ≤ (x20_1 : Int) := od
    have q170 : x20_1 < (l1.length : Int) := od
    obtain ⟨ad170, e170, hx170_0⟩ := Kd.at_int HR1.out x20_1 p170 q170
    obtain rfl : ad168 = ad170 := (by injection e170)
    replace hx170_0 := bcell HB.out hx170_0
    replace p170 := eq_true p170
    replace q170 := eq_true q170
    go_wp2
    repeat (go_quiet (fail); try go_wp2)
    go_roundg k1
    case measure => have := HK1.out; omega
    case rel => exact ⟨(ji8), (ji9), (wrap64 (x20_1 + 1)), (by first | rfl | (simp; done) | (simp only [← hji8] <;> (first | rfl | simp)) | (simp [*]; done)), (by first | rfl | (simp; done) | (simp only [← hji9] <;> (first | rfl | simp)) | (simp [*]; done)), rs, H', ⟨by have := HK1.out; omega⟩, ⟨bb HB⟩⟩
   rw [if_neg c5] at H
   have c5b0 : decide (x20_1 < (l1.length : Int)) = false := decide_eq_false c5
   clear c5
   by_cases c10 : x5_1 ≥ 0
   rotate_left
   ·rw [if_neg c10] at H
    have c10b0 : decide (0 ≤ x5_1) = false := decide_eq_false c10
    clear c10
    obtain rfl := Option.some.inj H
    go_wp2
    repeat (go_quiet (fail); try go_wp2)
    go_ret
    exact ⟨rr, bb HB⟩
   rw [if_pos c10] at H
   have c10b0 : decide (0 ≤ x5_1) = true := decide_eq_true c10
   clear c10
   obtain ⟨ji11, hji11⟩ : ∃ j_ : Int, (IntKind.u64.wrap (a0)) = j_ := ⟨_, rfl⟩
   replace H : (if 0 ≤ (ji11) then (some (decide (x6_1 < (shl .i64 1 (ji11))))) else (none)) = some r := by first | (rw [hji11] at H; exact H) | (simp only [hji11] at H ⊢; exact H)
   by_cases c12 : 0 ≤ (ji11)
   rotate_left
   ·rw [if_neg c12] at H
    exact absurd H (by simp)
   rw [if_pos c12] at H
   have c12b0 := eq_true c12
   have c12b1 : decide (0 ≤ (ji11)) = true := decide_eq_true c12
   clear c12
   obtain ⟨ji13, hji13⟩ : ∃ j_ : Int, (shl .i64 1 (ji11)) = j_ := ⟨_, rfl⟩
   replace H : (some (decide (x6_1 < (ji13)))) = some r := by first | (rw [hji13] at H; exact H) | (simp only [hji13] at H ⊢; exact H)
   have hji13_ : (IntKind.i64.wrap (1 * 2 ^ min (ji11).toNat 64)) = ji13 := hji13
   have hji13z : (ji11) ≤ 64 → (IntKind.i64.wrap (1 * 2 ^ (ji11).toNat)) = ji13 := shl_small hji13
   have hji13u : (IntKind.i64.wrap (2 ^ min (ji11).toNat 64)) = ji13 := by have h_ := hji13_; rw [Int.one_mul] at h_; exact h_
   have hji13v : (ji11) ≤ 64 → (IntKind.i64.wrap (2 ^ (ji11).toNat)) = ji13 := fun hle_ => by have h_ := hji13z hle_; rw [Int.one_mul] at h_; exact h_
   have hji13y : (wrap64 (1 * 2 ^ min (ji11).toNat 64)) = ji13 := (i64_w _).symm.trans hji13_
   have hji13x : (ji11) ≤ 64 → (wrap64 (1 * 2 ^ (ji11).toNat)) = ji13 := fun h_ => (i64_w _).symm.trans (hji13z h_)
   obtain rfl := Option.some.inj H
   go_wp2
   repeat (go_quiet (fail); try go_wp2)
   go_ret
   exact ⟨by first | rfl | (simp [errW_none, errW_some] <;> rfl) | (simp only [← hji11, ← hji13]; first | rfl | (simp [errW_none, errW_some] <;> rfl)) | (simp [*, errW_none, errW_some] <;> rfl), bb HB⟩
mutual
def prod_Join.j0 : Nat → List (List Int) → Bool → Int → List (S66) → List (S64) → Option (List Int × Int)
 | 0, _, _, _, _, _ => none
 | k + 1, x1, x24, x172000, x172001, x172002 => if x24 = true then (some (([] : List Int), 1)) else (prod_Join.l0 k ([] : List Int) x1 (x1.length : Int) 0 x172000 x172001 x172002)
def prod_Join.l0 : Nat → List Int → List (List Int) → Int → Int → Int → List (S66) → List (S64) → Option (List Int × Int)
 | 0, _, _, _, _, _, _, _ => none
 | k + 1, x6, x25, x26, x27, x172000, x172001, x172002 => if x27 < x26 then (if 0 ≤ x27 then (if x27 < (x25.length : Int) then ((prod_cells.f k x172000 x172001 x172002).bind fun t175 => (if ((rd_L10 x25 x27).length : Int) = t175 then ((prod_words.f k x172000 (rd_L10 x25 x27)).bind fun t176 => (if t176 = true then (if x6.length + (rd_L10 x25 x27).length < 17592186044416 then (prod_Join.l0 k (x6 ++ (rd_L10 x25 x27)) x25 x26 (wrap64 (x27 + 1)) x172000 x172001 x172002) else (none)) else (some (([] : List Int), 1)))) else (some (([] : List Int), 1)))) else (none)) else (none)) else (some (x6, 0))
end
def prod_Join.f (k : Nat) (a0_0 : Int) (l0_1 : List (S66)) (l0_2 : List (S64)) (l1 : List (List Int)) : Option (List Int × Int) := (prog_Check.f k a0_0 l0_1 l0_2).bind fun t172 => (if t172 = 0 then (if (l1.length : Int) < 1 then (prod_Join.j0 k l1 true a0_0 l0_1 l0_2) else (if (l1.length : Int) > 3 then (prod_Join.j0 k l1 true a0_0 l0_1 l0_2) else ((prod_single.f k a0_0 l0_1 l0_2).bind fun t173 => (prod_Join.j0 k l1 (t173 != 0) a0_0 l0_1 l0_2)))) else (some (([] : List Int), 30)))
theorem prod_Join.calls (k : Nat) (a0_0 : Int) (A0_1 : Option Addr) (c0_1 : Nat) (l0_1 : List (S66)) (A0_2 : Option Addr) (c0_2 : Nat) (l0_2 : List (S64)) (A1 : Option Addr) (c1 : Nat) (l1 : List (List Int)) (r1 : List Int) (r2 : Int) (w : World) (hr0_1 : Kd.C k66 w A0_1 l0_1.length l0_1) (hc0_1 : l0_1.length ≤ c0_1) (hr0_2 : Kd.C k64 w A0_2 l0_2.length l0_2) (hc0_2 : l0_2.length ≤ c0_2) (hr1 : Kd.C (Kd.slice 3 (Kd.int .i64)) w A1 l1.length l1) (hc1 : l1.length ≤ c1) (h : prod_Join.f k a0_0 l0_1 l0_2 l1 = some (r1, r2)) :
  Calls Try.prog 21 #[.agg #[.int .i64 a0_0, .slice A0_1 l0_1.length c0_1, .slice A0_2 l0_2.length c0_2], .slice A1 l1.length c1] w fun e w' => ∃ v0_ : Value, e = .returned (.tuple #[v0_, .int .i64 r2]) ∧ Kd.R (Kd.int .i64) 3 w' w.heap.size (fun _ => True) v0_ r1 ∧ Below w.heap.size w w' := by
 have hu25 := Try.underlying25
 have HR0_1 := Aside0.mk hr0_1
 have HC0_1 := Aside0.mk hc0_1
 clear hr0_1 hc0_1
 have HR0_2 := Aside0.mk hr0_2
 have HC0_2 := Aside0.mk hc0_2
 clear hr0_2 hc0_2
 have HR1 := Aside0.mk hr1
 have HC1 := Aside0.mk hc1
 clear hr1 hc1
 have HB := Aside0.mk (Below.refl w.heap.size w)
 have H : ((prog_Check.f k a0_0 l0_1 l0_2).bind fun t172 => (if t172 = 0 then (if (l1.length : Int) < 1 then (prod_Join.j0 k l1 true a0_0 l0_1 l0_2) else (if (l1.length : Int) > 3 then (prod_Join.j0 k l1 true a0_0 l0_1 l0_2) else ((prod_single.f k a0_0 l0_1 l0_2).bind fun t173 => (prod_Join.j0 k l1 (t173 != 0) a0_0 l0_1 l0_2)))) else (some (([] : List Int), 30)))) = some (r1, r2) := h
 clear h
 obtain ⟨t172, A3, H⟩ := be H
 by_cases c4 : t172 = 0
 rotate_left
 ·rw [if_neg c4] at H
  have c4b0 : (t172 == 0) = false := beq_eq_false_iff_ne.mpr c4
  have c4b1 : (t172 != 0) = true := bne_iff_ne.mpr c4
  simp only [Option.some.injEq, Prod.mk.injEq] at H
  obtain ⟨rfl, rfl⟩ := H
  go_enter Try.func21, Try.ntmps21
  go_wp2_with (first | ((with_reducible refine gate_dst (N := 2) rfl ?_); (try (refine gate_guard (by rfl) ?_; dsimp only)); refine bx 2 rfl rfl #[.int .i64 a0_0, .slice A0_1 l0_1.length c0_1, .slice A0_2 l0_2.length c0_2] 25 ?_; intro gb171 hg w34 hbox hb; have BK171 := Aside0.mk (hbox); have GE171 := ge HB hg; replace HB := sb HB hb; clear hb hbox hg; obtain ⟨hcz35_0, hcz35_1, hcz35_2, hfz35_0, hfz35_1, hfz35_2⟩ := cf3 BK171.out) | ((with_reducible refine gate_callee (f := 43) rfl ?_); refine gL (some 10) rfl rfl Try.func43 #[.agg #[.int .i64 a0_0, .slice A0_1 l0_1.length c0_1, .slice A0_2 l0_2.length c0_2]] rfl ?_; (with_reducible refine (prog_Check.calls k a0_0 _ _ l0_1 _ _ l0_2 t172 _ ?side1 ?side2 ?side3 ?side4 A3.out).mono ?_); (case side1 => exact cb HR0_1 HB); (case side2 => exact HC0_1.out); (case side3 => exact cb HR0_2 HB); (case side4 => exact HC0_2.out); rintro e w36 ⟨rfl, hb⟩; refine ⟨_, rfl, ?_⟩; replace BK171 := kb BK171 hb; replace HB := sb HB hb; (try clear hb)))
  go_ret2
  exact ⟨_, rr, by first | exact Kd.R_nil _ _ _ _ _ | exact Kd.N_nil _ _ _ _ _ | exact Kd.V_nil _ _ _ _ _ | exact Kd.Q_nil _ _ _ _ _ | exact Kd.S_nil _ _ _ _ _, bb HB⟩
 rw [if_pos c4] at H
 have c4b0 : (t172 == 0) = true := beq_iff_eq.mpr c4
 have c4b1 : (t172 != 0) = false := bne_eq_false_iff_eq.mpr c4
 clear c4
 have HC5 := Aside0.mk H
 clear H
 go_enter Try.func21, Try.ntmps21
 go_upto_region 3 with (first | ((with_reducible refine gate_dst (N := 2) rfl ?_); (try (refine gate_guard (by rfl) ?_; dsimp only)); refine bx 2 rfl rfl #[.int .i64 a0_0, .slice A0_1 l0_1.length c0_1, .slice A0_2 l0_2.length c0_2] 25 ?_; intro gb171 hg w6 hbox hb; have BK171 := Aside0.mk (hbox); have GE171 := ge HB hg; replace HB := sb HB hb; clear hb hbox hg; obtain ⟨hcz7_0, hcz7_1, hcz7_2, hfz7_0, hfz7_1, hfz7_2⟩ := cf3 BK171.out) | ((with_reducible refine gate_callee (f := 43) rfl ?_); refine gL (some 10) rfl rfl Try.func43 #[.agg #[.int .i64 a0_0, .slice A0_1 l0_1.length c0_1, .slice A0_2 l0_2.length c0_2]] rfl ?_; (with_reducible refine (prog_Check.calls k a0_0 _ _ l0_1 _ _ l0_2 t172 _ ?side1 ?side2 ?side3 ?side4 A3.out).mono ?_); (case side1 => exact cb HR0_1 HB); (case side2 => exact HC0_1.out); (case side3 => exact cb HR0_2 HB); (case side4 => exact HC0_2.out); rintro e w8 ⟨rfl, hb⟩; refine ⟨_, rfl, ?_⟩; replace BK171 := kb BK171 hb; replace HB := sb HB hb; (try clear hb)))
 (try simp only [Act.put, List.setIfInBounds_toArray, List.set_cons_zero, List.set_cons_succ])
 go_cut [24] (fun v24 wc => ∃ (kq : Nat) (x24_4 : Bool), v24 = .bool x24_4 ∧ Aside0 (prod_Join.j0 kq l1 x24_4 a0_0 l0_1 l0_2 = some (r1, r2)) ∧ Aside0 (kq ≤ k) ∧ Aside0 (wc.heap[gb171]? = some (.cells #[.int .i64 a0_0, (.slice A0_1 l0_1.length c0_1), (.slice A0_2 l0_2.length c0_2)] 25 (0, 0))) ∧ Aside0 (Below w.heap.size w wc))
 case first =>
  have H := HC5.out
  clear HC5
  by_cases c9 : (l1.length : Int) < 1
  ·rw [if_pos c9] at H
   have c9b0 : decide ((l1.length : Int) < 1) = true := decide_eq_true c9
   have c9b1 : decide (l1.length < 1) = true := decide_eq_true (by omega)
   clear c9
   (first | rw [c9b0] | (simp only [i64_w, i32_w]; rw [c9b0]) | skip)
   have H' := Aside0.mk H
   clear H
   go_wp2
   go_meet
   case rel => exact ⟨_, (true), rs, H', ⟨by first | omega | exact Nat.le_refl _⟩, ⟨kk BK171⟩, ⟨bb HB⟩⟩
  rw [if_neg c9] at H
  have c9b0 : decide ((l1.length : Int) < 1) = false := decide_eq_false c9
  have c9b1 : decide (l1.length < 1) = false := decide_eq_false (by omega)
  clear c9
  (first | rw [c9b0] | (simp only [i64_w, i32_w]; rw [c9b0]) | skip)
  by_cases c10 : (l1.length : Int) > 3
  ·rw [if_pos c10] at H
   have c10b0 : decide (3 < (l1.length : Int)) = true := decide_eq_true c10
   have c10b1 : decide (3 < l1.length) = true := decide_eq_true (by omega)
   clear c10
   have H' := Aside0.mk H
   clear H
   go_wp2
   go_meet
   case rel => exact ⟨_, (true), rs, H', ⟨by first | omega | exact Nat.le_refl _⟩, ⟨kk BK171⟩, ⟨bb HB⟩⟩
  rw [if_neg c10] at H
  have c10b0 : decide (3 < (l1.length : Int)) = false := decide_eq_false c10
  have c10b1 : decide (3 < l1.length) = false := decide_eq_false (by omega)
  clear c10
  obtain ⟨t173, A11, H⟩ := be H
  have H' := Aside0.mk H
  clear H
  obtain ⟨hcz12_0, hcz12_1, hcz12_2, hfz12_0, hfz12_1, hfz12_2⟩ := cf3 BK171.out
  go_wp2_with (first | (go_at_call 44; (with_reducible refine (prod_single.calls k a0_0 _ _ l0_1 _ _ l0_2 t173 _ ?side1 ?side2 ?side3 ?side4 A11.out).mono ?_); (case side1 => exact cb HR0_1 HB); (case side2 => exact HC0_1.out); (case side3 => exact cb HR0_2 HB); (case side4 => exact HC0_2.out); rintro e w13 ⟨rfl, hb⟩; replace BK171 := kb BK171 hb; replace HB := sb HB hb; (try clear hb)))
  go_meet
  case rel => exact ⟨_, ((t173 != 0)), rs, H', ⟨by first | omega | exact Nat.le_refl _⟩, ⟨kk BK171⟩, ⟨bb HB⟩⟩
 case rest =>
  clear HC5
  try clear c1
  try clear c2
  try clear p2
  try clear c4
  try clear c4b0
  try clear c4b1
  try clear c9
  try clear c9b0
  try clear c9b1
  try clear c10
  try clear c10b0
  try clear c10b1
  try clear hcz12_0 hcz12_1 hcz12_2
  try clear hcz7_0 hcz7_1 hcz7_2
  try clear hfz12_0 hfz12_1 hfz12_2
  try clear hfz7_0 hfz7_1 hfz7_2
  obtain ⟨kq, x24_4, rfl, HA, HJ4, BK171, HB⟩ := hcut
  cases kq with
  | zero => exact absurd HA.out (by simp [prod_Join.j0])
  | succ kj4 =>
   have H := HA.out
   clear HA
   simp only [prod_Join.j0] at H
   by_cases c14 : x24_4 = true
   ·subst c14
    replace H := it H
    simp only [Option.some.injEq, Prod.mk.injEq] at H
    obtain ⟨rfl, rfl⟩ := H
    go_wp2
    go_ret2
    exact ⟨_, rr, by first | exact Kd.R_nil _ _ _ _ _ | exact Kd.N_nil _ _ _ _ _ | exact Kd.V_nil _ _ _ _ _ | exact Kd.Q_nil _ _ _ _ _ | exact Kd.S_nil _ _ _ _ _, bb HB⟩
   replace c14 := Bool.eq_false_iff.mpr c14
   subst c14
   replace H := fi H
   have H' := Aside0.mk H
   clear H
   go_wp2
   go_loopg [6, 27] kj4 (fun kq v6 v27 w' => ∃ (x6_2 : List Int) (x27_2 : Int), v27 = .int .i64 x27_2 ∧ Aside0 (prod_Join.l0 kq x6_2 l1 (l1.length : Int) x27_2 a0_0 l0_1 l0_2 = some (r1, r2)) ∧ Aside0 (kq ≤ kj4) ∧ Aside0 (Kd.R (Kd.int .i64) 3 w' w.heap.size (fun _ => True) v6 x6_2) ∧ Aside0 (w'.heap[gb171]? = some (.cells #[.int .i64 a0_0, (.slice A0_1 l0_1.length c0_1), (.slice A0_2 l0_2.length c0_2)] 25 (0, 0))) ∧ Aside0 (Below w.heap.size w w'))
   case atStart => exact ⟨(([] : List Int)), (0), rs, H', ⟨Nat.le_refl _⟩, ⟨by first | exact Kd.R_nil _ _ _ _ _ | exact Kd.N_nil _ _ _ _ _ | exact Kd.V_nil _ _ _ _ _ | exact Kd.Q_nil _ _ _ _ _ | exact Kd.S_nil _ _ _ _ _⟩, ⟨kk BK171⟩, ⟨bb HB⟩⟩
   case round =>
    clear H'
    try clear c1
    try clear c2
    try clear p2
    try clear c4
    try clear c4b0
    try clear c4b1
    try clear c9
    try clear c9b0
    try clear c9b1
    try clear c10
    try clear c10b0
    try clear c10b1
    try clear c14
    try clear hcz12_0 hcz12_1 hcz12_2
    try clear hcz7_0 hcz7_1 hcz7_2
    try clear hfz12_0 hfz12_1 hfz12_2
    try clear hfz7_0 hfz7_1 hfz7_2
    try clear p2
    obtain ⟨x6_2, x27_2, rfl, HA, HK2, HO_6, BK171, HB⟩ := hrel
    cases gk with
    | zero => exact absurd HA.out (by simp [prod_Join.l0])
    | succ k2 =>
     have H := HA.out
     clear HA
     simp only [prod_Join.l0] at H
     by_cases c15 : x27_2 < (l1.length : Int)
     rotate_left
     ·rw [if_neg c15] at H
      have c15b0 : decide (x27_2 < (l1.length : Int)) = false := decide_eq_false c15
      clear c15
      simp only [Option.some.injEq, Prod.mk.injEq] at H
      obtain ⟨rfl, rfl⟩ := H
      go_wp2
      go_ret2
      exact ⟨_, rr, iR HO_6, bb HB⟩
     rw [if_pos c15] at H
     have c15b0 : decide (x27_2 < (l1.length : Int)) = true := decide_eq_true c15
     clear c15
     by_cases c16 : 0 ≤ x27_2
     rotate_left
     ·rw [if_neg c16] at H
      exact absurd H (by simp)
     rw [if_pos c16] at H
     have c16b0 : decide (0 ≤ x27_2) = true := decide_eq_true c16
     clear c16
     by_cases c17 : x27_2 < (l1.length : Int)
     rotate_left
     ·rw [if_neg c17] at H
      exact absurd H (by simp)
     rw [if_pos c17] at H
     have c17b0 : decide (x27_2 < (l1.length : Int)) = true := decide_eq_true c17
     clear c17
     obtain ⟨t175, A18, H⟩ := be H
     by_cases c19 : ((rd_L10 l1 x27_2).length : Int) = t175
     rotate_left
     ·rw [if_neg c19] at H
      have c19b0 : (((rd_L10 l1 x27_2).length : Int) == t175) = false := beq_eq_false_iff_ne.mpr c19
      have c19b1 : (((rd_L10 l1 x27_2).length : Int) != t175) = true := bne_iff_ne.mpr c19
      simp only [Option.some.injEq, Prod.mk.injEq] at H
      obtain ⟨rfl, rfl⟩ := H
      have p174 : 0 ≤ (x27_2 : Int) := od
      have q174 : x27_2 < (l1.length : Int) := od
      obtain ⟨ad174, A174_0, c174_0, e174, hx174_0, hl174_0, hi174_0⟩ := at_L10 HR1.out x27_2 p174 q174
      cases e174
      replace hx174_0 := bcell HB.out hx174_0
      have HR174_0 := Aside0.mk hi174_0
      have HC174_0 := Aside0.mk hl174_0
      clear hi174_0 hl174_0
      replace p174 := eq_true p174
      replace q174 := eq_true q174
      obtain ⟨hcz32_0, hcz32_1, hcz32_2, hfz32_0, hfz32_1, hfz32_2⟩ := cf3 BK171.out
      go_wp2_with (first | ((with_reducible refine gate_callee (f := 55) rfl ?_); refine gL (some 34) rfl rfl Try.func55 #[.agg #[.int .i64 a0_0, .slice A0_1 l0_1.length c0_1, .slice A0_2 l0_2.length c0_2]] rfl ?_; (with_reducible refine (prod_cells.calls k2 a0_0 _ _ l0_1 _ _ l0_2 t175 _ ?side1 ?side2 ?side3 ?side4 A18.out).mono ?_); (case side1 => exact cb HR0_1 HB); (case side2 => exact HC0_1.out); (case side3 => exact cb HR0_2 HB); (case side4 => exact HC0_2.out); rintro e w33 ⟨rfl, hb⟩; refine ⟨_, rfl, ?_⟩; replace HO_6 := Aside0.mk (Kd.R_below (iR HO_6) hb); replace BK171 := kb BK171 hb; replace HB := sb HB hb; (try clear hb)))
      go_ret2
      exact ⟨_, rr, by first | exact Kd.R_nil _ _ _ _ _ | exact Kd.N_nil _ _ _ _ _ | exact Kd.V_nil _ _ _ _ _ | exact Kd.Q_nil _ _ _ _ _ | exact Kd.S_nil _ _ _ _ _, bb HB⟩
     rw [if_pos c19] at H
     have c19b0 : (((rd_L10 l1 x27_2).length : Int) == t175) = true := beq_iff_eq.mpr c19
     have c19b1 : (((rd_L10 l1 x27_2).length : Int) != t175) = false := bne_eq_false_iff_eq.mpr c19
     clear c19
     obtain ⟨t176, A20, H⟩ := be H
     by_cases c21 : t176 = true
     rotate_left
     ·replace c21 := Bool.eq_false_iff.mpr c21
      subst c21
      replace H := fi H
      simp only [Option.some.injEq, Prod.mk.injEq] at H
      obtain ⟨rfl, rfl⟩ := H
      have p174 : 0 ≤ (x27_2 : Int) := od
      have q174 : x27_2 < (l1.length : Int) := od
      obtain ⟨ad174, A174_0, c174_0, e174, hx174_0, hl174_0, hi174_0⟩ := at_L10 HR1.out x27_2 p174 q174
      cases e174
      replace hx174_0 := bcell HB.out hx174_0
      have HR174_0 := Aside0.mk hi174_0
      have HC174_0 := Aside0.mk hl174_0
      clear hi174_0 hl174_0
      replace p174 := eq_true p174
      replace q174 := eq_true q174
      obtain ⟨hcz28_0, hcz28_1, hcz28_2, hfz28_0, hfz28_1, hfz28_2⟩ := cf3 BK171.out
      go_wp2_with (first | ((with_reducible refine gate_callee (f := 55) rfl ?_); refine gL (some 34) rfl rfl Try.func55 #[.agg #[.int .i64 a0_0, .slice A0_1 l0_1.length c0_1, .slice A0_2 l0_2.length c0_2]] rfl ?_; (with_reducible refine (prod_cells.calls k2 a0_0 _ _ l0_1 _ _ l0_2 t175 _ ?side1 ?side2 ?side3 ?side4 A18.out).mono ?_); (case side1 => exact cb HR0_1 HB); (case side2 => exact HC0_1.out); (case side3 => exact cb HR0_2 HB); (case side4 => exact HC0_2.out); rintro e w29 ⟨rfl, hb⟩; refine ⟨_, rfl, ?_⟩; replace HO_6 := Aside0.mk (Kd.R_below (iR HO_6) hb); replace BK171 := kb BK171 hb; replace HB := sb HB hb; (try clear hb); obtain ⟨hcz30_0, hcz30_1, hcz30_2, hfz30_0, hfz30_1, hfz30_2⟩ := cf3 BK171.out) | (go_at_call 56; (with_reducible refine (prod_words.calls k2 a0_0 _ _ (rd_L10 l1 x27_2) false _ ?side1 ?side2 A20.out).mono ?_); (case side1 => exact cb HR174_0 HB); (case side2 => exact HC174_0.out); rintro e w31 ⟨rfl, hb⟩; replace HO_6 := Aside0.mk (Kd.R_below (iR HO_6) hb); replace BK171 := kb BK171 hb; replace HB := sb HB hb; (try clear hb)))
      go_ret2
      exact ⟨_, rr, by first | exact Kd.R_nil _ _ _ _ _ | exact Kd.N_nil _ _ _ _ _ | exact Kd.V_nil _ _ _ _ _ | exact Kd.Q_nil _ _ _ _ _ | exact Kd.S_nil _ _ _ _ _, bb HB⟩
     subst c21
     replace H := it H
     by_cases c22 : x6_2.length + (rd_L10 l1 x27_2).length < 17592186044416
     rotate_left
     ·rw [if_neg c22] at H
      exact absurd H (by simp)
     rw [if_pos c22] at H
     have LMc22 := Aside0.mk c22
     clear c22
     obtain ⟨y177, hy177⟩ : ∃ y_ : List Int, y_ = (x6_2 ++ (rd_L10 l1 x27_2)) := ⟨_, rfl⟩
     replace H : (prod_Join.l0 k2 y177 l1 (l1.length : Int) (wrap64 (x27_2 + 1)) a0_0 l0_1 l0_2) = some (r1, r2) := by first | (rw [hy177]; with_reducible exact H) | (have H2_ := (Option.bind_some _ _).symm.trans H; rw [hy177]; with_reducible exact H2_) | (have H2_ := (Option.bind_some _ _).symm.trans H; with_reducible exact H2_) | with_reducible exact H | (rw [hy177]; exact H) | exact H
     have Ny177 := Aside0.mk hy177
     clear hy177
     have H' := Aside0.mk H
     clear H
     have p174 : 0 ≤ (x27_2 : Int) := od
     have q174 : x27_2 < (l1.length : Int) := od
     obtain ⟨ad174, A174_0, c174_0, e174, hx174_0, hl174_0, hi174_0⟩ := at_L10 HR1.out x27_2 p174 q174
     cases e174
     replace hx174_0 := bcell HB.out hx174_0
     have HR174_0 := Aside0.mk hi174_0
     have HC174_0 := Aside0.mk hl174_0
     clear hi174_0 hl174_0
     replace p174 := eq_true p174
     replace q174 := eq_true q174
     obtain ⟨hcz23_0, hcz23_1, hcz23_2, hfz23_0, hfz23_1, hfz23_2⟩ := cf3 BK171.out
     go_wp2_with (first | ((with_reducible refine gate_callee (f := 55) rfl ?_); refine gL (some 34) rfl rfl Try.func55 #[.agg #[.int .i64 a0_0, .slice A0_1 l0_1.length c0_1, .slice A0_2 l0_2.length c0_2]] rfl ?_; (with_reducible refine (prod_cells.calls k2 a0_0 _ _ l0_1 _ _ l0_2 t175 _ ?side1 ?side2 ?side3 ?side4 A18.out).mono ?_); (case side1 => exact cb HR0_1 HB); (case side2 => exact HC0_1.out); (case side3 => exact cb HR0_2 HB); (case side4 => exact HC0_2.out); rintro e w24 ⟨rfl, hb⟩; refine ⟨_, rfl, ?_⟩; replace HO_6 := Aside0.mk (Kd.R_below (iR HO_6) hb); replace BK171 := kb BK171 hb; replace HB := sb HB hb; (try clear hb); obtain ⟨hcz25_0, hcz25_1, hcz25_2, hfz25_0, hfz25_1, hfz25_2⟩ := cf3 BK171.out) | (go_at_call 56; (with_reducible refine (prod_words.calls k2 a0_0 _ _ (rd_L10 l1 x27_2) true _ ?side1 ?side2 A20.out).mono ?_); (case side1 => exact cb HR174_0 HB); (case side2 => exact HC174_0.out); rintro e w26 ⟨rfl, hb⟩; replace HO_6 := Aside0.mk (Kd.R_below (iR HO_6) hb); replace BK171 := kb BK171 hb; replace HB := sb HB hb; (try clear hb)) | ((with_reducible refine gate_builtin (b := .append) (xs := #[.tmp 43, .tmp 44]) rfl ?_); (try (refine gate_guard (by rfl) ?_; dsimp only)); at_builtin; refine Kd.R_append_rows (Kd.int .i64) (w0 := w) w.heap.size rfl (.tmp 43) (.tmp 44) 45 3 (.int .i64 0) 8 rfl Try.underlying45 info3 rfl (by decide) (by omega) u6 x6_2 (rd_L10 l1 x27_2) _ _ _ (fun _ => True) (fun _ => False) rfl rfl ?aO ?aR (fun _ _ h => h) (fun _ h => h.elim) ?aF ?aB ?aS ?aL ?_; (case aR => repeat (first | exact (Kd.C_below HR174_0.out HB.out) | with_reducible first | apply Kd.C_alloc | apply Kd.C_drewN | apply Kd.C_drew)); (case aB => exact (bb HB)); (case aF => exact (fun _ _ => trivial)); (case aO => exact (iR HO_6)); (case aS => exact (bsz (bb HB))); (case aL => have := LMc22.out; omega); intro v178 w27 ho hb hg hat; rw [← Ny177.out] at ho; have HO179 := Aside0.mk (ho); replace BK171 := Aside0.mk (blk_grown (kk BK171) hg (Kd.R_ne HO_6.out BK171.out (by decide))); replace HB := Aside0.mk (hb); clear HO_6; clear ho hb hg hat))
     go_roundg k2
     case measure => have := HJ4.out; have := HK2.out; omega
     case rel => exact ⟨(y177), (wrap64 (x27_2 + 1)), rs, H', ⟨by have := HJ4.out; have := HK2.out; omega⟩, ⟨iR HO179⟩, ⟨kk BK171⟩, ⟨bb HB⟩⟩
theorem pcells_loop : ∀ (suf pre : List S66) (acc : Int), (∀ v ∈ suf, 1 ≤ v.f2 ∧ v.f2 ≤ 8) → (pre ++ suf).length ≤ 1000 → 0 ≤ acc → acc + 8 * suf.length ≤ 1000000 →
    Tells (fun k => prod_cells.l0 k acc (pre ++ suf) ((pre ++ suf).length : Int) (pre.length : Int)) (acc + cs suf)
  | [], pre, acc, _, _, _, _ => by
    refine Tells.succ ?_
    simp only [prod_cells.l0, pre_nlt, if_false]
    rw [cs_nil, Int.add_zero]
    exact Tells.pure _
  | v :: r, pre, acc, hv, hl, h0, h1 => by
    refine Tells.succ ?_
    have hv1 := hv v (by simp)
    rw [List.length_cons] at h1
    simp only [prod_cells.l0, pre_lt, pre_pos, if_true, rdV_mid]
    have t := pcells_loop r (pre ++ [v]) (acc + v.f2) (fun u hu => hv u (by simp [hu])) (by rw [← pre_app]; exact hl) (by omega) (by omega)
    rw [← pre_app] at t
    rw [w64 (n := acc + v.f2) (by omega) (by omega), pre_next pre v r (by omega), cs_cons, ← Int.add_assoc]
    exact t
theorem pcells_tells (w : Int) (vars : List S66) (l2 : List S64) (hv : ∀ v ∈ vars, 1 ≤ v.f2 ∧ v.f2 ≤ 8) (hl : vars.length ≤ 18) : Tells (fun k => prod_cells.f k w vars l2) (cs vars) := by
  unfold prod_cells.f
  have := pcells_loop vars [] 0 hv (by rw [List.nil_append]; omega) (by decide) (by omega)
  rw [Int.zero_add] at this
  exact this
theorem pwords_loop (w : Int) (h1 : 1 ≤ w) (h8 : w ≤ 8) : ∀ (suf pre : List Int) (a b : Int), (pre ++ suf).length ≤ 9223372036854775807 →
    Tells (fun k => prod_words.l0 k w a b (pre ++ suf) ((pre ++ suf).length : Int) (pre.length : Int)) ((decide (0 ≤ a) && decide (b < 2 ^ w.toNat)) && valid (2 ^ w.toNat) suf)
  | [], pre, a, b, _ => by
    refine Tells.succ ?_
    simp only [prod_words.l0, pre_nlt, if_false]
    rw [u64_small (by omega) (by omega), shl_one (by omega) (by omega)]
    have hv : valid (2 ^ w.toNat) [] = true := rfl
    rw [hv, Bool.and_true]
    by_cases c : 0 ≤ a
    · rw [decide_eq_true c, Bool.true_and]
      exact Tells.ifT c (Tells.ifT (by omega) (Tells.pure _))
    · rw [decide_eq_false c, Bool.false_and]
      exact Tells.ifF c (Tells.pure _)
  | s :: r, pre, a, b, hl => by
    refine Tells.succ ?_
    simp only [prod_words.l0, pre_lt, pre_pos, if_true, rd_mid]
    have ih := pwords_loop w h1 h8 r (pre ++ [s]) (mn a s) (mx b s) (by rw [← pre_app]; exact hl)
    rw [← pre_app] at ih
    rw [pre_next pre s r hl, show valid (2 ^ w.toNat) (s :: r) = (decide (0 ≤ s ∧ s < 2 ^ w.toNat) && valid (2 ^ w.toNat) r) from List.all_cons]
    have e : ((decide (0 ≤ mn a s) && decide (mx b s < 2 ^ w.toNat)) && valid (2 ^ w.toNat) r) = ((decide (0 ≤ a) && decide (b < 2 ^ w.toNat)) && (decide (0 ≤ s ∧ s < 2 ^ w.toNat) && valid (2 ^ w.toNat) r)) := by
      generalize (2 : Int) ^ w.toNat = p
      have e1 : decide (0 ≤ mn a s) = (decide (0 ≤ a) && decide (0 ≤ s)) := by
        rw [← Bool.decide_and]; apply decide_eq_decide.2; unfold mn; split <;> omega
      have e2 : decide (mx b s < p) = (decide (b < p) && decide (s < p)) := by
        rw [← Bool.decide_and]; apply decide_eq_decide.2; unfold mx; split <;> omega
      rw [e1, e2, Bool.decide_and]
      cases decide (0 ≤ a) <;> cases decide (0 ≤ s) <;> cases decide (b < p) <;> cases decide (s < p) <;> simp
    rw [← e]
    exact ih
theorem pwords_tells (w : Int) (h1 : 1 ≤ w) (h8 : w ≤ 8) (l : List Int) (hl : l.length ≤ 9223372036854775807) : Tells (fun k => prod_words.f k w l) (valid (2 ^ w.toNat) l) := by
  unfold prod_words.f
  cases l with
  | nil => exact Tells.ifT rfl (Tells.pure _)
  | cons s r =>
    refine Tells.ifF (by rw [List.length_cons]; omega) (Tells.ifT (by rw [List.length_cons]; omega) ?_)
    have e : rd (s :: r) 0 = s := rd_mid [] s r
    rw [e]
    have := pwords_loop w h1 h8 (s :: r) [] s s hl
    have e2 : ((decide (0 ≤ s) && decide (s < 2 ^ w.toNat)) && valid (2 ^ w.toNat) (s :: r)) = valid (2 ^ w.toNat) (s :: r) := by
      rw [show valid (2 ^ w.toNat) (s :: r) = (decide (0 ≤ s ∧ s < 2 ^ w.toNat) && valid (2 ^ w.toNat) r) from List.all_cons, Bool.decide_and]
      cases decide (0 ≤ s) <;> cases decide (s < 2 ^ w.toNat) <;> simp
    rw [e2] at this
    exact this
theorem rdI_mid (pre : List (List Int)) (x : List Int) (r : List (List Int)) : rd_L10 (pre ++ x :: r) (pre.length : Int) = x := getD_mid pre x _ r
def isSto (w : Int) (vars : List S66) (s : List Int) : Bool := decide ((s.length : Int) = cs vars) && valid (2 ^ w.toNat) s
theorem pIs_cells {w : Int} {vars : List S66} {body : List S64} (hp : pIs w vars body = true) : 1 ≤ w ∧ w ≤ 8 ∧ (∀ v ∈ vars, 1 ≤ v.f2 ∧ v.f2 ≤ 8) ∧ vars.length ≤ 18 ∧ 0 ≤ cs vars ∧ cs vars ≤ 144 := by
  obtain ⟨hh, _⟩ := pIs_all hp
  obtain ⟨h1, h8, _, h18, hv, _⟩ := hIs_all hh
  have hv' : ∀ v ∈ vars, 1 ≤ v.f2 ∧ v.f2 ≤ 8 := fun v h => ⟨(hv v h).2.2.1, (hv v h).2.2.2⟩
  have := cs_bound vars hv'
  exact ⟨h1, h8, hv', h18, this.1, by omega⟩
theorem isSto_len {w : Int} {vars : List S66} {s : List Int} (h : isSto w vars s = true) : (s.length : Int) = cs vars ∧ valid (2 ^ w.toNat) s = true := by
  unfold isSto at h
  rw [Bool.and_eq_true, decide_eq_true_eq] at h
  exact h
def jnV (w : Int) (vars : List S66) (acc : List Int) (l : List (List Int)) : List Int × Int := if l.all (isSto w vars) = true then (acc ++ l.flatten, 0) else ([], 1)
def jnR (w : Int) (vars : List S66) (body : List S64) (l : List (List Int)) : List Int × Int := if cpE w vars body (l.length : Int) = 0 then jnV w vars [] l else ([], cpE w vars body (l.length : Int))
theorem join_loop (w : Int) (vars : List S66) (body : List S64) (h1 : 1 ≤ w) (h8 : w ≤ 8) (hv : ∀ v ∈ vars, 1 ≤ v.f2 ∧ v.f2 ≤ 8) (h18 : vars.length ≤ 18) (c0 : 0 ≤ cs vars) (c1 : cs vars ≤ 144) : ∀ (suf pre : List (List Int)) (acc : List Int), (pre ++ suf).length ≤ 1000 → acc.length + suf.length * 144 ≤ 1000000 → (∀ s ∈ suf, s.length ≤ 9223372036854775807) →
    Tells (fun k => prod_Join.l0 k acc (pre ++ suf) ((pre ++ suf).length : Int) (pre.length : Int) w vars body) (jnV w vars acc suf)
  | [], pre, acc, _, _, _ => by
    refine Tells.succ ?_
    simp only [prod_Join.l0, pre_nlt, if_false]
    have : jnV w vars acc [] = (acc, 0) := by unfold jnV; rw [List.all_nil, if_pos rfl, List.flatten_nil, List.append_nil]
    rw [this]
    exact Tells.pure _
  | s :: r, pre, acc, hl, ha, hs => by
    refine Tells.succ ?_
    simp only [prod_Join.l0, pre_lt, pre_pos, if_true, rdI_mid]
    refine Tells.bind (pcells_tells w vars body hv h18) ?_
    rw [List.length_cons] at ha
    by_cases e : (s.length : Int) = cs vars
    · refine Tells.ifT e (Tells.bind (pwords_tells w h1 h8 s (hs s (by simp))) ?_)
      by_cases hv2 : valid (2 ^ w.toNat) s = true
      · refine Tells.ifT hv2 (Tells.ifT (by omega) ?_)
        have hi : isSto w vars s = true := by unfold isSto; rw [decide_eq_true e, hv2]; rfl
        have : jnV w vars acc (s :: r) = jnV w vars (acc ++ s) r := by
          unfold jnV
          rw [List.all_cons, hi, Bool.true_and, List.flatten_cons, List.append_assoc]
        rw [this, pre_next pre s r (by omega)]
        have ih := join_loop w vars body h1 h8 hv h18 c0 c1 r (pre ++ [s]) (acc ++ s) (by rw [← pre_app]; exact hl) (by rw [List.length_append]; omega) (fun u hu => hs u (by simp [hu]))
        rw [← pre_app] at ih
        exact ih
      · have hi : isSto w vars s = false := by unfold isSto; rw [Bool.eq_false_iff.2 hv2, Bool.and_false]
        have : jnV w vars acc (s :: r) = ([], 1) := by unfold jnV; rw [List.all_cons, hi, Bool.false_and, if_neg (by decide)]
        rw [this]
        exact Tells.ifF hv2 (Tells.pure _)
    · have hi : isSto w vars s = false := by unfold isSto; rw [decide_eq_false e, Bool.false_and]
      have : jnV w vars acc (s :: r) = ([], 1) := by unfold jnV; rw [List.all_cons, hi, Bool.false_and, if_neg (by decide)]
      rw [this]
      exact Tells.ifF e (Tells.pure _)
theorem flatten_len {c : Int} (h0 : 0 ≤ c) : ∀ {l : List (List Int)}, (∀ s ∈ l, (s.length : Int) = c) → (l.flatten.length : Int) = l.length * c
  | [], _ => by simp
  | s :: r, h => by
    have h1 := h s (by simp)
    have h2 := flatten_len h0 (l := r) (fun u hu => h u (by simp [hu]))
    rw [List.flatten_cons, List.length_append, List.length_cons, Int.natCast_add, h2, h1]
    have : ((r.length + 1 : Nat) : Int) * c = (r.length : Int) * c + c := by rw [Int.natCast_add, Int.add_mul]; simp
    rw [this]
    omega
theorem cpE_ok {w : Int} {vars : List S66} {body : List S64} {k : Int} (hc : cpE w vars body k = 0) : pIs w vars body = true ∧ sgE w vars body = 0 ∧ 1 ≤ k ∧ k ≤ 3 := by
  unfold cpE at hc
  rcases sgE_vals w vars body with ⟨hp, hs⟩ | ⟨hp, hs⟩ | ⟨hp, hs⟩
  · rw [hs, if_pos rfl] at hc
    by_cases c1 : k < 1
    · rw [if_pos c1] at hc; cases hc
    · rw [if_neg c1] at hc
      by_cases c3 : k > 3
      · rw [if_pos c3] at hc; cases hc
      · exact ⟨hp, hs, by omega, by omega⟩
  · rw [hs, if_neg (by decide)] at hc; cases hc
  · rw [hs, if_neg (by decide)] at hc; cases hc
theorem join_tells (w : Int) (vars : List S66) (body : List S64) (hl : body.length ≤ 9223372036854775807) (hg : goodSs body) (l : List (List Int)) (hs : ∀ s ∈ l, s.length ≤ 9223372036854775807) :
    Tells (fun j => prod_Join.f j w vars body l) (jnR w vars body l) := by
  unfold prod_Join.f
  refine Tells.bind (pCheck_tells w vars body hl hg) ?_
  have ts := prodSingle_tells w vars body hl hg
  have no : ∀ b, b = true → cpE w vars body (l.length : Int) = 1 → Tells (fun j => prod_Join.j0 j l b w vars body) (jnR w vars body l) := by
    rintro b rfl h
    have : jnR w vars body l = ([], 1) := by unfold jnR; rw [h, if_neg (by decide)]
    rw [this]
    refine Tells.succ ?_
    simp only [prod_Join.j0, if_true]
    exact Tells.pure _
  rcases sgE_vals w vars body with ⟨hp, h⟩ | ⟨hp, h⟩ | ⟨hp, h⟩
  · rw [hp]
    refine Tells.ifT rfl ?_
    by_cases c1 : (l.length : Int) < 1
    · exact Tells.ifT c1 (no _ rfl (by unfold cpE; rw [h, if_pos rfl, if_pos c1]))
    refine Tells.ifF c1 ?_
    by_cases c3 : (l.length : Int) > 3
    · exact Tells.ifT c3 (no _ rfl (by unfold cpE; rw [h, if_pos rfl, if_neg c1, if_pos c3]))
    refine Tells.ifF c3 (Tells.bind ts ?_)
    have hcp : cpE w vars body (l.length : Int) = 0 := by unfold cpE; rw [h, if_pos rfl, if_neg c1, if_neg c3]
    obtain ⟨h1, h8, hv, h18, k0, k1⟩ := pIs_cells hp
    rw [h]
    refine Tells.succ ?_
    simp only [prod_Join.j0, bne_self_eq_false, Bool.false_eq_true, if_false]
    have : jnR w vars body l = jnV w vars [] l := by unfold jnR; rw [hcp, if_pos rfl]
    rw [this]
    exact join_loop w vars body h1 h8 hv h18 k0 k1 l [] [] (by simp only [List.nil_append]; omega) (by simp only [List.length_nil]; omega) hs
  · rw [hp]
    refine Tells.ifT rfl ?_
    have hc : cpE w vars body (l.length : Int) = 1 := by unfold cpE; rw [h, if_neg (by decide)]
    by_cases c1 : (l.length : Int) < 1
    · exact Tells.ifT c1 (no _ rfl hc)
    refine Tells.ifF c1 ?_
    by_cases c3 : (l.length : Int) > 3
    · exact Tells.ifT c3 (no _ rfl hc)
    exact Tells.ifF c3 (Tells.bind ts (no _ (by rw [h]; rfl) hc))
  · rw [hp]
    have hc : cpE w vars body (l.length : Int) = 30 := by unfold cpE; rw [h, if_neg (by decide)]
    have : jnR w vars body l = ([], 30) := by unfold jnR; rw [hc, if_neg (by decide)]
    rw [this]
    exact Tells.ifF (by decide) (Tells.pure _)
end Go.Proofs.Ytilebfkehmecaaa.Print
namespace Go.Proofs.Ytilebfkehmecaaa.Print
open Go.RowKit Go.Proofs.YtilebfkehmecaaaW.PrintWords Go.Proofs.YtilebfkehmecaaaW.PrintLast Go.Proofs.YtilebfkehmecaaaW.PrintMore
attribute [local go_sem] max2_int min2_int max_two min_two max_three min_three max_four min_four
set_option linter.unusedVariables false
set_option linter.unusedSimpArgs false
open Go.RowKit
attribute [local go_sem] Lib.run_eql_slice_nil
def slices_Clone_int_int.f (_ : Nat) (l0 : List Int) : Option (List Int) := if l0.length ≤ 1000000 then some l0 else none
theorem slices_Clone_int_int.calls (k : Nat) (A0 : Option Addr) (c0 : Nat) (l0 r : List Int) (w : World) (hr0 : Kd.C (Kd.int .i64) w A0 l0.length l0) (hc0 : l0.length ≤ c0) (h : slices_Clone_int_int.f k l0 = some r) :
    Calls Try.prog 71 #[.slice A0 l0.length c0] w fun e w' => ∃ v_ : Value, e = .returned v_ ∧ Kd.R (Kd.int .i64) 3 w' w.heap.size (fun _ => True) v_ r ∧ Below w.heap.size w w' := by
  unfold slices_Clone_int_int.f at h
  have hl : l0.length ≤ 1000000 := by
    rcases Nat.lt_or_ge 1000000 l0.length with h1 | h1
    · rw [if_neg (by omega)] at h; cases h
    · exact h1
  rw [if_pos hl] at h
  obtain rfl := Option.some.inj h
  clear h
  have huI := Try.underlying45
  cases A0 with
  | none =>
    have h0 : l0.length = 0 := by
      rcases Nat.eq_zero_or_pos l0.length with h0 | h0
      · exact h0
      · obtain ⟨ad, e1, _⟩ := hr0.2.2 h0
        cases e1
    obtain rfl := List.eq_nil_of_length_eq_zero h0
    go_enter Try.func71, Try.ntmps71
    go_wp2
    go_ret
    exact ⟨_, rfl, Kd.R_nil _ _ _ _ _, Below.refl _ _⟩
  | some ad =>
    have HR := Aside0.mk hr0
    clear hr0
    have o1 : Kd.R (Kd.int .i64) 3 (w.alloc (.cells #[] 3)) w.heap.size (fun _ => True) (.slice (some ⟨w.heap.size, 0, none⟩) 0 0) [] := ⟨fun _ _ => trivial, [], World.ownsRow_lit w #[] 0 (Nat.le_refl _) (by decide) rfl, ⟨rfl, fun j x hj => by simp at hj⟩⟩
    have O1 := Aside0.mk o1
    clear o1
    go_enter Try.func71, Try.ntmps71
    go_wp2_with (first | ((with_reducible refine gate_builtin (b := .append) (xs := #[.tmp 5, .tmp 6]) rfl ?_); at_builtin; refine Kd.R_append_rows (Kd.int .i64) (w0 := w) w.heap.size rfl (.tmp 5) (.tmp 6) 45 3 (.int .i64 0) 8 rfl Try.underlying45 info3 rfl (by decide) (by omega) _ [] l0 _ _ _ (fun _ => True) (fun _ => False) rfl rfl O1.out (Kd.C_alloc HR.out _) (fun _ _ h => h) (fun _ h => h.elim) (fun _ _ => trivial) (bal (Below.refl _ _) _) (by simp) (by simp; omega) ?_; intro v178 w27 ho hb hg hat))
    go_ret
    exact ⟨_, rfl, ho, hb⟩
end Go.Proofs.Ytilebfkehmecaaa.Print
namespace Go.Proofs.Ytilebfkehmecaaa.Print
open Go.RowKit Go.Proofs.YtilebfkehmecaaaW.PrintWords Go.Proofs.YtilebfkehmecaaaW.PrintLast Go.Proofs.YtilebfkehmecaaaW.PrintMore
attribute [local go_sem] max2_int min2_int max_two min_two max_three min_three max_four min_four
set_option linter.unusedVariables false
set_option linter.unusedSimpArgs false
mutual
def prod_Split.j0 : Nat → Int → List Int → Int → Bool → Option ((List (List Int)) × Int)
 | 0, _, _, _, _ => none
 | k + 1, x1, x2, x8, x41 => if x41 = true then (some (([] : List (List Int)), 1)) else (prod_Split.l0 k x2 x8 ([] : List (List Int)) x1 0)
def prod_Split.l0 : Nat → List Int → Int → List (List Int) → Int → Int → Option ((List (List Int)) × Int)
 | 0, _, _, _, _, _ => none
 | k + 1, x2, x8, x9, x42, x43 => if x43 < x42 then (if 0 ≤ (wrap64 (x43 * x8)) then (if (wrap64 (x43 * x8)) ≤ (wrap64 ((wrap64 (x43 + 1)) * x8)) then (if (wrap64 ((wrap64 (x43 + 1)) * x8)) ≤ (x2.length : Int) then ((slices_Clone_int_int.f k ((x2.take ((wrap64 ((wrap64 (x43 + 1)) * x8)) : Int).toNat).drop ((wrap64 (x43 * x8)) : Int).toNat)).bind fun t705 => (if x9.length < 5864062014805 then (prod_Split.l0 k x2 x8 (x9 ++ [t705]) x42 (wrap64 (x43 + 1))) else (none))) else (none)) else (none)) else (none)) else (some (x9, 0))
end
def prod_Split.f (k : Nat) (a0_0 : Int) (l0_1 : List (S66)) (l0_2 : List (S64)) (a1 : Int) (l2 : List Int) : Option ((List (List Int)) × Int) := (prog_Check.f k a0_0 l0_1 l0_2).bind fun t700 => (if t700 = 0 then ((prod_cells.f k a0_0 l0_1 l0_2).bind fun t701 => (if a1 < 1 then (prod_Split.j0 k a1 l2 t701 true) else (if a1 > 3 then (prod_Split.j0 k a1 l2 t701 true) else ((prod_single.f k a0_0 l0_1 l0_2).bind fun t702 => (if t702 = 0 then (if (l2.length : Int) = (wrap64 (a1 * t701)) then ((prod_words.f k a0_0 l2).bind fun t703 => (prod_Split.j0 k a1 l2 t701 (!t703))) else (prod_Split.j0 k a1 l2 t701 true)) else (prod_Split.j0 k a1 l2 t701 true)))))) else (some (([] : List (List Int)), 30)))
theorem prod_Split.calls (k : Nat) (a0_0 : Int) (A0_1 : Option Addr) (c0_1 : Nat) (l0_1 : List (S66)) (A0_2 : Option Addr) (c0_2 : Nat) (l0_2 : List (S64)) (a1 : Int) (A2 : Option Addr) (c2 : Nat) (l2 : List Int) (r1 : List (List Int)) (r2 : Int) (w : World) (hr0_1 : Kd.C k66 w A0_1 l0_1.length l0_1) (hc0_1 : l0_1.length ≤ c0_1) (hr0_2 : Kd.C k64 w A0_2 l0_2.length l0_2) (hc0_2 : l0_2.length ≤ c0_2) (hr2 : Kd.C (Kd.int .i64) w A2 l2.length l2) (hc2 : l2.length ≤ c2) (h : prod_Split.f k a0_0 l0_1 l0_2 a1 l2 = some (r1, r2)) :
  Calls Try.prog 32 #[.agg #[.int .i64 a0_0, .slice A0_1 l0_1.length c0_1, .slice A0_2 l0_2.length c0_2], .int .i64 a1, .slice A2 l2.length c2] w fun e w' => ∃ v0_ : Value, e = .returned (.tuple #[v0_, .int .i64 r2]) ∧ Kd.S (Kd.slice 3 (Kd.int .i64)) 45 w' w.heap.size (fun _ => True) v0_ r1 ∧ Below w.heap.size w w' := by
 have hu25 := Try.underlying25
 have HR0_1 := Aside0.mk hr0_1
 have HC0_1 := Aside0.mk hc0_1
 clear hr0_1 hc0_1
 have HR0_2 := Aside0.mk hr0_2
 have HC0_2 := Aside0.mk hc0_2
 clear hr0_2 hc0_2
 have HR2 := Aside0.mk hr2
 have HC2 := Aside0.mk hc2
 clear hr2 hc2
 have HB := Aside0.mk (Below.refl w.heap.size w)
 have H : ((prog_Check.f k a0_0 l0_1 l0_2).bind fun t700 => (if t700 = 0 then ((prod_cells.f k a0_0 l0_1 l0_2).bind fun t701 => (if a1 < 1 then (prod_Split.j0 k a1 l2 t701 true) else (if a1 > 3 then (prod_Split.j0 k a1 l2 t701 true) else ((prod_single.f k a0_0 l0_1 l0_2).bind fun t702 => (if t702 = 0 then (if (l2.length : Int) = (wrap64 (a1 * t701)) then ((prod_words.f k a0_0 l2).bind fun t703 => (prod_Split.j0 k a1 l2 t701 (!t703))) else (prod_Split.j0 k a1 l2 t701 true)) else (prod_Split.j0 k a1 l2 t701 true)))))) else (some (([] : List (List Int)), 30)))) = some (r1, r2) := h
 clear h
 obtain ⟨t700, A4, H⟩ := be H
 by_cases c5 : t700 = 0
 rotate_left
 ·rw [if_neg c5] at H
  have c5b0 : (t700 == 0) = false := beq_eq_false_iff_ne.mpr c5
  have c5b1 : (t700 != 0) = true := bne_iff_ne.mpr c5
  simp only [Option.some.injEq, Prod.mk.injEq] at H
  obtain ⟨rfl, rfl⟩ := H
  go_enter Try.func32, Try.ntmps32
  go_wp2_with (first | ((with_reducible refine gate_dst (N := 3) rfl ?_); (try (refine gate_guard (by rfl) ?_; dsimp only)); refine bx 3 rfl rfl #[.int .i64 a0_0, .slice A0_1 l0_1.length c0_1, .slice A0_2 l0_2.length c0_2] 25 ?_; intro gb699 hg w39 hbox hb; have BK699 := Aside0.mk (hbox); have GE699 := ge HB hg; replace HB := sb HB hb; clear hb hbox hg; obtain ⟨hcz40_0, hcz40_1, hcz40_2, hfz40_0, hfz40_1, hfz40_2⟩ := cf3 BK699.out) | ((with_reducible refine gate_callee (f := 43) rfl ?_); refine gL (some 12) rfl rfl Try.func43 #[.agg #[.int .i64 a0_0, .slice A0_1 l0_1.length c0_1, .slice A0_2 l0_2.length c0_2]] rfl ?_; (with_reducible refine (prog_Check.calls k a0_0 _ _ l0_1 _ _ l0_2 t700 _ ?side1 ?side2 ?side3 ?side4 A4.out).mono ?_); (case side1 => exact cb HR0_1 HB); (case side2 => exact HC0_1.out); (case side3 => exact cb HR0_2 HB); (case side4 => exact HC0_2.out); rintro e w41 ⟨rfl, hb⟩; refine ⟨_, rfl, ?_⟩; replace BK699 := kb BK699 hb; replace HB := sb HB hb; (try clear hb)))
  go_ret2
  exact ⟨_, rr, by first | exact Kd.S_nil _ _ _ _ _ | exact Kd.N_nil _ _ _ _ _ | exact Kd.V_nil _ _ _ _ _ | exact Kd.Q_nil _ _ _ _ _ | exact Kd.R_nil _ _ _ _ _, bb HB⟩
 rw [if_pos c5] at H
 have c5b0 : (t700 == 0) = true := beq_iff_eq.mpr c5
 have c5b1 : (t700 != 0) = false := bne_eq_false_iff_eq.mpr c5
 clear c5
 obtain ⟨t701, A6, H⟩ := be H
 have HC7 := Aside0.mk H
 clear H
 go_enter Try.func32, Try.ntmps32
 go_upto_region 4 with (first | ((with_reducible refine gate_dst (N := 3) rfl ?_); (try (refine gate_guard (by rfl) ?_; dsimp only)); refine bx 3 rfl rfl #[.int .i64 a0_0, .slice A0_1 l0_1.length c0_1, .slice A0_2 l0_2.length c0_2] 25 ?_; intro gb699 hg w8 hbox hb; have BK699 := Aside0.mk (hbox); have GE699 := ge HB hg; replace HB := sb HB hb; clear hb hbox hg; obtain ⟨hcz9_0, hcz9_1, hcz9_2, hfz9_0, hfz9_1, hfz9_2⟩ := cf3 BK699.out) | ((with_reducible refine gate_callee (f := 43) rfl ?_); refine gL (some 12) rfl rfl Try.func43 #[.agg #[.int .i64 a0_0, .slice A0_1 l0_1.length c0_1, .slice A0_2 l0_2.length c0_2]] rfl ?_; (with_reducible refine (prog_Check.calls k a0_0 _ _ l0_1 _ _ l0_2 t700 _ ?side1 ?side2 ?side3 ?side4 A4.out).mono ?_); (case side1 => exact cb HR0_1 HB); (case side2 => exact HC0_1.out); (case side3 => exact cb HR0_2 HB); (case side4 => exact HC0_2.out); rintro e w10 ⟨rfl, hb⟩; refine ⟨_, rfl, ?_⟩; replace BK699 := kb BK699 hb; replace HB := sb HB hb; (try clear hb); obtain ⟨hcz11_0, hcz11_1, hcz11_2, hfz11_0, hfz11_1, hfz11_2⟩ := cf3 BK699.out) | ((with_reducible refine gate_callee (f := 55) rfl ?_); refine gL (some 15) rfl rfl Try.func55 #[.agg #[.int .i64 a0_0, .slice A0_1 l0_1.length c0_1, .slice A0_2 l0_2.length c0_2]] rfl ?_; (with_reducible refine (prod_cells.calls k a0_0 _ _ l0_1 _ _ l0_2 t701 _ ?side1 ?side2 ?side3 ?side4 A6.out).mono ?_); (case side1 => exact cb HR0_1 HB); (case side2 => exact HC0_1.out); (case side3 => exact cb HR0_2 HB); (case side4 => exact HC0_2.out); rintro e w12 ⟨rfl, hb⟩; refine ⟨_, rfl, ?_⟩; replace BK699 := kb BK699 hb; replace HB := sb HB hb; (try clear hb)))
 (try simp only [Act.put, List.setIfInBounds_toArray, List.set_cons_zero, List.set_cons_succ])
 go_cut [41] (fun v41 wc => ∃ (kq : Nat) (x41_6 : Bool), v41 = .bool x41_6 ∧ Aside0 (prod_Split.j0 kq a1 l2 t701 x41_6 = some (r1, r2)) ∧ Aside0 (kq ≤ k) ∧ Aside0 (wc.heap[gb699]? = some (.cells #[.int .i64 a0_0, (.slice A0_1 l0_1.length c0_1), (.slice A0_2 l0_2.length c0_2)] 25 (0, 0))) ∧ Aside0 (Below w.heap.size w wc))
 case first =>
  have H := HC7.out
  clear HC7
  by_cases c13 : a1 < 1
  ·rw [if_pos c13] at H
   have c13b0 : decide (a1 < 1) = true := decide_eq_true c13
   clear c13
   (first | rw [c13b0] | (simp only [i64_w, i32_w]; rw [c13b0]) | skip)
   have H' := Aside0.mk H
   clear H
   go_wp2
   go_meet
   case rel => exact ⟨_, (true), rs, H', ⟨by first | omega | exact Nat.le_refl _⟩, ⟨kk BK699⟩, ⟨bb HB⟩⟩
  rw [if_neg c13] at H
  have c13b0 : decide (a1 < 1) = false := decide_eq_false c13
  clear c13
  (first | rw [c13b0] | (simp only [i64_w, i32_w]; rw [c13b0]) | skip)
  by_cases c14 : a1 > 3
  ·rw [if_pos c14] at H
   have c14b0 : decide (3 < a1) = true := decide_eq_true c14
   clear c14
   have H' := Aside0.mk H
   clear H
   go_wp2
   go_meet
   case rel => exact ⟨_, (true), rs, H', ⟨by first | omega | exact Nat.le_refl _⟩, ⟨kk BK699⟩, ⟨bb HB⟩⟩
  rw [if_neg c14] at H
  have c14b0 : decide (3 < a1) = false := decide_eq_false c14
  clear c14
  obtain ⟨t702, A15, H⟩ := be H
  by_cases c16 : t702 = 0
  rotate_left
  ·rw [if_neg c16] at H
   have c16b0 : (t702 == 0) = false := beq_eq_false_iff_ne.mpr c16
   have c16b1 : (t702 != 0) = true := bne_iff_ne.mpr c16
   have H' := Aside0.mk H
   clear H
   obtain ⟨hcz25_0, hcz25_1, hcz25_2, hfz25_0, hfz25_1, hfz25_2⟩ := cf3 BK699.out
   go_wp2_with (first | (go_at_call 44; (with_reducible refine (prod_single.calls k a0_0 _ _ l0_1 _ _ l0_2 t702 _ ?side1 ?side2 ?side3 ?side4 A15.out).mono ?_); (case side1 => exact cb HR0_1 HB); (case side2 => exact HC0_1.out); (case side3 => exact cb HR0_2 HB); (case side4 => exact HC0_2.out); rintro e w26 ⟨rfl, hb⟩; replace BK699 := kb BK699 hb; replace HB := sb HB hb; (try clear hb)))
   go_meet
   case rel => exact ⟨_, (true), rs, H', ⟨by first | omega | exact Nat.le_refl _⟩, ⟨kk BK699⟩, ⟨bb HB⟩⟩
  rw [if_pos c16] at H
  have c16b0 : (t702 == 0) = true := beq_iff_eq.mpr c16
  have c16b1 : (t702 != 0) = false := bne_eq_false_iff_eq.mpr c16
  clear c16
  by_cases c17 : (l2.length : Int) = (wrap64 (a1 * t701))
  rotate_left
  ·rw [if_neg c17] at H
   have c17b0 : ((l2.length : Int) == (wrap64 (a1 * t701))) = false := beq_eq_false_iff_ne.mpr c17
   have c17b1 : ((l2.length : Int) != (wrap64 (a1 * t701))) = true := bne_iff_ne.mpr c17
   have H' := Aside0.mk H
   clear H
   obtain ⟨hcz23_0, hcz23_1, hcz23_2, hfz23_0, hfz23_1, hfz23_2⟩ := cf3 BK699.out
   go_wp2_with (first | (go_at_call 44; (with_reducible refine (prod_single.calls k a0_0 _ _ l0_1 _ _ l0_2 t702 _ ?side1 ?side2 ?side3 ?side4 A15.out).mono ?_); (case side1 => exact cb HR0_1 HB); (case side2 => exact HC0_1.out); (case side3 => exact cb HR0_2 HB); (case side4 => exact HC0_2.out); rintro e w24 ⟨rfl, hb⟩; replace BK699 := kb BK699 hb; replace HB := sb HB hb; (try clear hb)))
   go_meet
   case rel => exact ⟨_, (true), rs, H', ⟨by first | omega | exact Nat.le_refl _⟩, ⟨kk BK699⟩, ⟨bb HB⟩⟩
  rw [if_pos c17] at H
  have c17b0 : ((l2.length : Int) == (wrap64 (a1 * t701))) = true := beq_iff_eq.mpr c17
  have c17b1 : ((l2.length : Int) != (wrap64 (a1 * t701))) = false := bne_eq_false_iff_eq.mpr c17
  clear c17
  obtain ⟨t703, A18, H⟩ := be H
  have H' := Aside0.mk H
  clear H
  obtain ⟨hcz19_0, hcz19_1, hcz19_2, hfz19_0, hfz19_1, hfz19_2⟩ := cf3 BK699.out
  go_wp2_with (first | (go_at_call 44; (with_reducible refine (prod_single.calls k a0_0 _ _ l0_1 _ _ l0_2 t702 _ ?side1 ?side2 ?side3 ?side4 A15.out).mono ?_); (case side1 => exact cb HR0_1 HB); (case side2 => exact HC0_1.out); (case side3 => exact cb HR0_2 HB); (case side4 => exact HC0_2.out); rintro e w20 ⟨rfl, hb⟩; replace BK699 := kb BK699 hb; replace HB := sb HB hb; (try clear hb); obtain ⟨hcz21_0, hcz21_1, hcz21_2, hfz21_0, hfz21_1, hfz21_2⟩ := cf3 BK699.out) | (go_at_call 56; (with_reducible refine (prod_words.calls k a0_0 _ _ l2 t703 _ ?side1 ?side2 A18.out).mono ?_); (case side1 => exact cb HR2 HB); (case side2 => exact HC2.out); rintro e w22 ⟨rfl, hb⟩; replace BK699 := kb BK699 hb; replace HB := sb HB hb; (try clear hb)))
  go_meet
  case rel => exact ⟨_, (!t703), rs, H', ⟨by first | omega | exact Nat.le_refl _⟩, ⟨kk BK699⟩, ⟨bb HB⟩⟩
 case rest =>
  clear HC7
  try clear c1
  try clear c2
  try clear p2
  try clear c3
  try clear c4
  try clear c5
  try clear c5b0
  try clear c5b1
  try clear p6
  try clear c13
  try clear c13b0
  try clear c14
  try clear c14b0
  try clear c16
  try clear c16b0
  try clear c16b1
  try clear c17
  try clear c17b0
  try clear c17b1
  try clear hcz11_0 hcz11_1 hcz11_2
  try clear hcz19_0 hcz19_1 hcz19_2
  try clear hcz21_0 hcz21_1 hcz21_2
  try clear hcz23_0 hcz23_1 hcz23_2
  try clear hcz25_0 hcz25_1 hcz25_2
  try clear hcz9_0 hcz9_1 hcz9_2
  try clear hfz11_0 hfz11_1 hfz11_2
  try clear hfz19_0 hfz19_1 hfz19_2
  try clear hfz21_0 hfz21_1 hfz21_2
  try clear hfz23_0 hfz23_1 hfz23_2
  try clear hfz25_0 hfz25_1 hfz25_2
  try clear hfz9_0 hfz9_1 hfz9_2
  obtain ⟨kq, x41_6, rfl, HA, HJ6, BK699, HB⟩ := hcut
  cases kq with
  | zero => exact absurd HA.out (by simp [prod_Split.j0])
  | succ kj6 =>
   have H := HA.out
   clear HA
   simp only [prod_Split.j0] at H
   by_cases c27 : x41_6 = true
   ·subst c27
    replace H := it H
    simp only [Option.some.injEq, Prod.mk.injEq] at H
    obtain ⟨rfl, rfl⟩ := H
    go_wp2
    go_ret2
    exact ⟨_, rr, by first | exact Kd.S_nil _ _ _ _ _ | exact Kd.N_nil _ _ _ _ _ | exact Kd.V_nil _ _ _ _ _ | exact Kd.Q_nil _ _ _ _ _ | exact Kd.R_nil _ _ _ _ _, bb HB⟩
   replace c27 := Bool.eq_false_iff.mpr c27
   subst c27
   replace H := fi H
   have H' := Aside0.mk H
   clear H
   go_wp2
   go_loopg [9, 43] kj6 (fun kq v9 v43 w' => ∃ (x9_2 : List (List Int)) (x43_2 : Int), v43 = .int .i64 x43_2 ∧ Aside0 (prod_Split.l0 kq l2 t701 x9_2 a1 x43_2 = some (r1, r2)) ∧ Aside0 (kq ≤ kj6) ∧ Aside0 (Kd.S (Kd.slice 3 (Kd.int .i64)) 45 w' w.heap.size (fun _ => True) v9 x9_2) ∧ Aside0 (w'.heap[gb699]? = some (.cells #[.int .i64 a0_0, (.slice A0_1 l0_1.length c0_1), (.slice A0_2 l0_2.length c0_2)] 25 (0, 0))) ∧ Aside0 (Below w.heap.size w w'))
   case atStart => exact ⟨(([] : List (List Int))), (0), rs, H', ⟨Nat.le_refl _⟩, ⟨by first | exact Kd.S_nil _ _ _ _ _ | exact Kd.N_nil _ _ _ _ _ | exact Kd.V_nil _ _ _ _ _ | exact Kd.Q_nil _ _ _ _ _ | exact Kd.R_nil _ _ _ _ _⟩, ⟨kk BK699⟩, ⟨bb HB⟩⟩
   case round =>
    clear H'
    try clear c1
    try clear c2
    try clear p2
    try clear c3
    try clear c4
    try clear c5
    try clear c5b0
    try clear c5b1
    try clear p6
    try clear c13
    try clear c13b0
    try clear c14
    try clear c14b0
    try clear c16
    try clear c16b0
    try clear c16b1
    try clear c17
    try clear c17b0
    try clear c17b1
    try clear c27
    try clear hcz11_0 hcz11_1 hcz11_2
    try clear hcz19_0 hcz19_1 hcz19_2
    try clear hcz21_0 hcz21_1 hcz21_2
    try clear hcz23_0 hcz23_1 hcz23_2
    try clear hcz25_0 hcz25_1 hcz25_2
    try clear hcz9_0 hcz9_1 hcz9_2
    try clear hfz11_0 hfz11_1 hfz11_2
    try clear hfz19_0 hfz19_1 hfz19_2
    try clear hfz21_0 hfz21_1 hfz21_2
    try clear hfz23_0 hfz23_1 hfz23_2
    try clear hfz25_0 hfz25_1 hfz25_2
    try clear hfz9_0 hfz9_1 hfz9_2
    try clear p2
    try clear p6
    obtain ⟨x9_2, x43_2, rfl, HA, HK2, HO_9, BK699, HB⟩ := hrel
    cases gk with
    | zero => exact absurd HA.out (by simp [prod_Split.l0])
    | succ k2 =>
     have H := HA.out
     clear HA
     simp only [prod_Split.l0] at H
     by_cases c28 : x43_2 < a1
     rotate_left
     ·rw [if_neg c28] at H
      have c28b0 : decide (x43_2 < a1) = false := decide_eq_false c28
      clear c28
      simp only [Option.some.injEq, Prod.mk.injEq] at H
      obtain ⟨rfl, rfl⟩ := H
      go_wp2
      go_ret2
      exact ⟨_, rr, iS HO_9, bb HB⟩
     rw [if_pos c28] at H
     have c28b0 : decide (x43_2 < a1) = true := decide_eq_true c28
     clear c28
     obtain ⟨ji29, hji29⟩ : ∃ j_ : Int, (wrap64 (x43_2 * t701)) = j_ := ⟨_, rfl⟩
     replace H : (if 0 ≤ (ji29) then (if (ji29) ≤ (wrap64 ((wrap64 (x43_2 + 1)) * t701)) then (if (wrap64 ((wrap64 (x43_2 + 1)) * t701)) ≤ (l2.length : Int) then ((slices_Clone_int_int.f k2 ((l2.take ((wrap64 ((wrap64 (x43_2 + 1)) * t701)) : Int).toNat).drop ((ji29) : Int).toNat)).bind fun t705 => (if x9_2.length < 5864062014805 then (prod_Split.l0 k2 l2 t701 (x9_2 ++ [t705]) a1 (wrap64 (x43_2 + 1))) else (none))) else (none)) else (none)) else (none)) = some (r1, r2) := by first | (rw [hji29] at H; exact H) | (simp only [hji29] at H ⊢; exact H)
     have hji29w : (IntKind.i64.wrap (x43_2 * t701)) = ji29 := (i64_w _).trans hji29
     by_cases c30 : 0 ≤ (ji29)
     rotate_left
     ·rw [if_neg c30] at H
      exact absurd H (by simp)
     rw [if_pos c30] at H
     have c30b0 := eq_true c30
     have c30b1 : decide (0 ≤ (ji29)) = true := decide_eq_true c30
     clear c30
     by_cases c31 : (ji29) ≤ (wrap64 ((wrap64 (x43_2 + 1)) * t701))
     rotate_left
     ·rw [if_neg c31] at H
      exact absurd H (by simp)
     rw [if_pos c31] at H
     have c31b0 := eq_true c31
     have c31b1 : decide ((ji29) ≤ (wrap64 ((wrap64 (x43_2 + 1)) * t701))) = true := decide_eq_true c31
     by_cases c32 : (wrap64 ((wrap64 (x43_2 + 1)) * t701)) ≤ (l2.length : Int)
     rotate_left
     ·rw [if_neg c32] at H
      exact absurd H (by simp)
     rw [if_pos c32] at H
     have c32b0 := eq_true c32
     have c32b1 : decide ((wrap64 ((wrap64 (x43_2 + 1)) * t701)) ≤ (l2.length : Int)) = true := decide_eq_true c32
     obtain ⟨t705, A33, H⟩ := be H
     by_cases c34 : x9_2.length < 5864062014805
     rotate_left
     ·rw [if_neg c34] at H
      exact absurd H (by simp)
     rw [if_pos c34] at H
     have LMc34 := Aside0.mk c34
     clear c34
     obtain ⟨y708, hy708⟩ : ∃ y_ : List (List Int), y_ = (x9_2 ++ [t705]) := ⟨_, rfl⟩
     replace H : (prod_Split.l0 k2 l2 t701 y708 a1 (wrap64 (x43_2 + 1))) = some (r1, r2) := by first | (rw [hy708]; with_reducible exact H) | (have H2_ := (Option.bind_some _ _).symm.trans H; rw [hy708]; with_reducible exact H2_) | (have H2_ := (Option.bind_some _ _).symm.trans H; with_reducible exact H2_) | with_reducible exact H | (rw [hy708]; exact H) | exact H
     have Ny708 := Aside0.mk hy708
     clear hy708
     have H' := Aside0.mk H
     clear H
     obtain ⟨i035, hi035, _, hsz35, _⟩ := info_parts info3
     obtain ⟨A35, hcut35, hA35, hC35⟩ := print_mid_of (P := Try.prog) (Value.int .i64) 0 45 3 .i64 .i64 Try.underlying45 hi035 hsz35 A2 c2 l2 (ji29) (wrap64 ((wrap64 (x43_2 + 1)) * t701)) (od) (by first | omega | exact od) (od) HC2.out
     have HR704 := Aside0.mk (Kd.C_of_reads (h1 := fun _ => rfl) (hA35 _ (Kd.reads_of_C HR2.out)))
     have HC704 := Aside0.mk hC35
     clear hA35 hC35 hi035 hsz35
     go_wp2_with (first | ((with_reducible refine gate_callee (f := 71) rfl ?_); refine goesL_ (some 56) rfl rfl Try.func71 (by kernel_rfl) rfl #[.slice A35 ((l2.take ((wrap64 ((wrap64 (x43_2 + 1)) * t701)) : Int).toNat).drop ((ji29) : Int).toNat).length (c2 - (ji29).toNat)] rfl (by (try simp only [List.map_toArray, List.map_cons, List.map_nil]); first | done | (rw [show ((l2.take ((wrap64 ((wrap64 (x43_2 + 1)) * t701)) : Int).toNat).drop ((ji29) : Int).toNat).length = ((wrap64 ((wrap64 (x43_2 + 1)) * t701)).toNat - (ji29).toNat) from (by rw [List.length_drop, List.length_take]; have h_ : ((wrap64 ((wrap64 (x43_2 + 1)) * t701)) : Int) ≤ (l2.length : Int) := od; omega)] <;> rfl) | (simp only [hji29]; rfl) | rfl | (simp only [List.length_drop, List.length_take]; rfl)) ?_; (with_reducible refine (slices_Clone_int_int.calls k2 _ _ ((l2.take ((wrap64 ((wrap64 (x43_2 + 1)) * t701)) : Int).toNat).drop ((ji29) : Int).toNat) t705 _ ?side1 ?side2 A33.out).mono ?_); (case side1 => exact cb HR704 HB); (case side2 => exact HC704.out); rintro e w36 ⟨v706, rfl, ho0, hb⟩; refine ⟨_, rfl, ?_⟩; have HO707 := Aside0.mk (Kd.R_lower ho0 (bsz (bb HB))); replace HO_9 := Aside0.mk (Kd.S_elder' (iS HO_9) (Kd.R_base ho0) hb); replace BK699 := kb BK699 hb; replace HB := sb HB hb; (try clear hb); (try clear ho0); obtain ⟨Ao38, co38, eo38⟩ := Kd.R_slice HO707.out; subst eo38) | ((with_reducible refine gate_builtin (b := .append) (xs := #[.tmp 46, .tmp 57]) rfl ?_); (try (refine gate_guard (by rfl) ?_; dsimp only)); at_builtin; refine Kd.S_append (Kd.slice 3 (Kd.int .i64)) (w0 := w) w.heap.size rfl (.tmp 46) (.tmp 57) 41 45 (.slice none 0 0) 24 rfl Try.underlying41 info45 rfl (by decide) (by omega) u9 x9_2 t705 [.slice Ao38 t705.length co38] (fun _ => True) (fun k_ => some k_ = (.slice Ao38 t705.length co38 : Value).ownBlock) rfl rfl ?aP (fun k_ hk_ => ((Kd.R_mono (ok' := fun k_ => ((fun _ => True)) k_ ∧ some k_ ≠ (u9 : Value).ownBlock) (Kd.R_apart' (HO707.out) (Kd.S_typed HO_9.out) (by decide)) (fun k_ hk => ⟨trivial, hk.2⟩))).1 k_ hk_.symm) ?aF ?aO ?aB ?aS ?aL ?_; (case aP => exact Kd.M_row (Kd.R_mono (Kd.R_tight rfl (Kd.R_mono (ok' := fun k_ => ((fun _ => True)) k_ ∧ some k_ ≠ (u9 : Value).ownBlock) (Kd.R_apart' (HO707.out) (Kd.S_typed HO_9.out) (by decide)) (fun k_ hk => ⟨trivial, hk.2⟩))) (fun _ h_ => h_))); (case aB => exact (bb HB)); (case aF => exact (fun _ _ => trivial)); (case aO => exact (by (with_reducible repeat (first | apply Kd.S_alloc | apply Kd.S_drewN | apply Kd.S_drew)); exact Kd.S_mono HO_9.out (fun k_ hk => ⟨trivial, fun e_ => hk.2 e_⟩))); (case aS => exact (bsz (bb HB))); (case aL => have := LMc34.out; omega); intro v709 w37 ho hb hg hat; rw [← Ny708.out] at ho; have HO710 := Aside0.mk (ho); replace BK699 := Aside0.mk (blk_grown (kk BK699) hg (Kd.S_ne HO_9.out BK699.out (by decide))); replace HB := Aside0.mk (hb); clear HO_9 HO707; clear ho hb hg hat))
     go_roundg k2
     case measure => have := HJ6.out; have := HK2.out; omega
     case rel => exact ⟨(y708), (wrap64 (x43_2 + 1)), rs, H', ⟨by have := HJ6.out; have := HK2.out; omega⟩, ⟨iS HO710⟩, ⟨kk BK699⟩, ⟨bb HB⟩⟩
def r6_Alike.l0 : Nat → List (List Int) → List (List Int) → Int → Option (Bool)
 | 0, _, _, _ => none
 | k + 1, x0, x1, x5 => if x5 < (x0.length : Int) then (if 0 ≤ x5 then (if x5 < (x1.length : Int) then ((r1_Same.f k (rd_L10 x0 x5) (rd_L10 x1 x5)).bind fun t737 => (if t737 = true then (r6_Alike.l0 k x0 x1 (wrap64 (x5 + 1))) else (some false))) else (none)) else (none)) else (some true)
def r6_Alike.f (k : Nat) (l0 : List (List Int)) (l1 : List (List Int)) : Option (Bool) := if (l0.length : Int) = (l1.length : Int) then (r6_Alike.l0 k l0 l1 0) else (some false)
theorem r6_Alike.calls (k : Nat) (A0 : Option Addr) (c0 : Nat) (l0 : List (List Int)) (A1 : Option Addr) (c1 : Nat) (l1 : List (List Int)) (r : Bool) (w : World) (hr0 : Kd.C (Kd.slice 3 (Kd.int .i64)) w A0 l0.length l0) (hc0 : l0.length ≤ c0) (hr1 : Kd.C (Kd.slice 3 (Kd.int .i64)) w A1 l1.length l1) (hc1 : l1.length ≤ c1) (h : r6_Alike.f k l0 l1 = some r) :
  Calls Try.prog 74 #[.slice A0 l0.length c0, .slice A1 l1.length c1] w fun e w' => e = .returned (.bool r) ∧ Drawn0 w w' := by
 have HR0 := Aside0.mk hr0
 have HC0 := Aside0.mk hc0
 clear hr0 hc0
 have HR1 := Aside0.mk hr1
 have HC1 := Aside0.mk hc1
 clear hr1 hc1
 have H : (if (l0.length : Int) = (l1.length : Int) then (r6_Alike.l0 k l0 l1 0) else (some false)) = some r := h
 clear h
 by_cases c3 : (l0.length : Int) = (l1.length : Int)
 rotate_left
 ·rw [if_neg c3] at H
  have c3b0 : ((l0.length : Int) == (l1.length : Int)) = false := beq_eq_false_iff_ne.mpr c3
  have c3b1 : ((l0.length : Int) != (l1.length : Int)) = true := bne_iff_ne.mpr c3
  have c3b2 : (l0.length == l1.length) = false := by first | simpa using c3 | (simp at c3 ⊢; omega)
  obtain rfl := Option.some.inj H
  go_enter Try.func74, Try.ntmps74
  go_wp2
  repeat (go_quiet (fail); try go_wp2)
  go_ret
  exact ⟨rs, dr⟩
 rw [if_pos c3] at H
 have c3b0 : ((l0.length : Int) == (l1.length : Int)) = true := beq_iff_eq.mpr c3
 have c3b1 : ((l0.length : Int) != (l1.length : Int)) = false := bne_eq_false_iff_eq.mpr c3
 have c3b2 : (l0.length == l1.length) = true := by first | simpa using c3 | (simp at c3 ⊢; omega)
 clear c3
 have H' := Aside0.mk H
 clear H
 go_enter Try.func74, Try.ntmps74
 go_wp2
 repeat (go_quiet (fail); try go_wp2)
 go_loopg [5] k (fun kq v5 w' => ∃ (x5_1 : Int), v5 = .int .i64 x5_1 ∧ Aside0 (r6_Alike.l0 kq l0 l1 x5_1 = some r) ∧ Aside0 (kq ≤ k) ∧ Drawn0 w w')
 case atStart => exact ⟨(0), rs, H', ⟨Nat.le_refl _⟩, dr⟩
 case round =>
  clear H'
  try clear c1
  try clear p2
  try clear c3
  try clear c3b0
  try clear c3b1
  try clear c3b2
  obtain ⟨x5_1, rfl, HA, HK1, ⟨m1, rfl⟩⟩ := hrel
  cases gk with
  | zero => exact absurd HA.out (by simp [r6_Alike.l0])
  | succ k1 =>
   have H := HA.out
   clear HA
   simp only [r6_Alike.l0] at H
   by_cases c4 : x5_1 < (l0.length : Int)
   rotate_left
   ·rw [if_neg c4] at H
    have c4b0 : decide (x5_1 < (l0.length : Int)) = false := decide_eq_false c4
    clear c4
    obtain rfl := Option.some.inj H
    go_wp2
    repeat (go_quiet (fail); try go_wp2)
    go_ret
    exact ⟨rs, dr⟩
   rw [if_pos c4] at H
   have c4b0 : decide (x5_1 < (l0.length : Int)) = true := decide_eq_true c4
   clear c4
   by_cases c5 : 0 ≤ x5_1
   rotate_left
   ·rw [if_neg c5] at H
    exact absurd H (by simp)
   rw [if_pos c5] at H
   have c5b0 : decide (0 ≤ x5_1) = true := decide_eq_true c5
   clear c5
   by_cases c6 : x5_1 < (l1.length : Int)
   rotate_left
   ·rw [if_neg c6] at H
    exact absurd H (by simp)
   rw [if_pos c6] at H
   have c6b0 : decide (x5_1 < (l1.length : Int)) = true := decide_eq_true c6
   clear c6
   obtain ⟨t737, A7, H⟩ := be H
   by_cases c8 : t737 = true
   rotate_left
   ·replace c8 := Bool.eq_false_iff.mpr c8
    subst c8
    replace H := fi H
    obtain rfl := Option.some.inj H
    have p735 : 0 ≤ (x5_1 : Int) := od
    have q735 : x5_1 < (l0.length : Int) := od
    obtain ⟨ad735, A735_0, c735_0, e735, hx735_0, hl735_0, hi735_0⟩ := at_L10 HR0.out x5_1 p735 q735
    cases e735
    have HR735_0 := Aside0.mk hi735_0
    have HC735_0 := Aside0.mk hl735_0
    clear hi735_0 hl735_0
    replace p735 := eq_true p735
    replace q735 := eq_true q735
    have p736 : 0 ≤ (x5_1 : Int) := od
    have q736 : x5_1 < (l1.length : Int) := od
    obtain ⟨ad736, A736_0, c736_0, e736, hx736_0, hl736_0, hi736_0⟩ := at_L10 HR1.out x5_1 p736 q736
    cases e736
    have HR736_0 := Aside0.mk hi736_0
    have HC736_0 := Aside0.mk hl736_0
    clear hi736_0 hl736_0
    replace p736 := eq_true p736
    replace q736 := eq_true q736
    go_wp2_with (first | (go_at_call 35; (with_reducible refine (r1_Same.calls k1 _ _ (rd_L10 l0 x5_1) _ _ (rd_L10 l1 x5_1) false _ ?side1 ?side2 ?side3 ?side4 A7.out).mono ?_); (case side1 => exact ca HR735_0); (case side2 => exact HC735_0.out); (case side3 => exact ca HR736_0); (case side4 => exact HC736_0.out); rintro e w' ⟨rfl, ⟨nd, rfl⟩⟩; (try first | exact ⟨rfl, _, World.drewN_drewN _ _ _⟩ | exact ⟨rfl, _, Eq.trans (World.drewN_drewN _ _ _) (congrArg (World.drewN _) (Nat.add_assoc _ _ _))⟩)))
    repeat (go_quiet (first | (go_at_call 35; (with_reducible refine (r1_Same.calls k1 _ _ (rd_L10 l0 x5_1) _ _ (rd_L10 l1 x5_1) false _ ?side1 ?side2 ?side3 ?side4 A7.out).mono ?_); (case side1 => exact ca HR735_0); (case side2 => exact HC735_0.out); (case side3 => exact ca HR736_0); (case side4 => exact HC736_0.out); rintro e w' ⟨rfl, ⟨nd, rfl⟩⟩; (try first | exact ⟨rfl, _, World.drewN_drewN _ _ _⟩ | exact ⟨rfl, _, Eq.trans (World.drewN_drewN _ _ _) (congrArg (World.drewN _) (Nat.add_assoc _ _ _))⟩))); try go_wp2_with (first | (go_at_call 35; (with_reducible refine (r1_Same.calls k1 _ _ (rd_L10 l0 x5_1) _ _ (rd_L10 l1 x5_1) false _ ?side1 ?side2 ?side3 ?side4 A7.out).mono ?_); (case side1 => exact ca HR735_0); (case side2 => exact HC735_0.out); (case side3 => exact ca HR736_0); (case side4 => exact HC736_0.out); rintro e w' ⟨rfl, ⟨nd, rfl⟩⟩; (try first | exact ⟨rfl, _, World.drewN_drewN _ _ _⟩ | exact ⟨rfl, _, Eq.trans (World.drewN_drewN _ _ _) (congrArg (World.drewN _) (Nat.add_assoc _ _ _))⟩))))
    go_ret
    exact ⟨rs, dr⟩
   subst c8
   replace H := it H
   have H' := Aside0.mk H
   clear H
   have p735 : 0 ≤ (x5_1 : Int) := od
   have q735 : x5_1 < (l0.length : Int) := od
   obtain ⟨ad735, A735_0, c735_0, e735, hx735_0, hl735_0, hi735_0⟩ := at_L10 HR0.out x5_1 p735 q735
   cases e735
   have HR735_0 := Aside0.mk hi735_0
   have HC735_0 := Aside0.mk hl735_0
   clear hi735_0 hl735_0
   replace p735 := eq_true p735
   replace q735 := eq_true q735
   have p736 : 0 ≤ (x5_1 : Int) := od
   have q736 : x5_1 < (l1.length : Int) := od
   obtain ⟨ad736, A736_0, c736_0, e736, hx736_0, hl736_0, hi736_0⟩ := at_L10 HR1.out x5_1 p736 q736
   cases e736
   have HR736_0 := Aside0.mk hi736_0
   have HC736_0 := Aside0.mk hl736_0
   clear hi736_0 hl736_0
   replace p736 := eq_true p736
   replace q736 := eq_true q736
   go_wp2_with (first | (go_at_call 35; (with_reducible refine (r1_Same.calls k1 _ _ (rd_L10 l0 x5_1) _ _ (rd_L10 l1 x5_1) true _ ?side1 ?side2 ?side3 ?side4 A7.out).mono ?_); (case side1 => exact ca HR735_0); (case side2 => exact HC735_0.out); (case side3 => exact ca HR736_0); (case side4 => exact HC736_0.out); rintro e w' ⟨rfl, ⟨nd, rfl⟩⟩; (try first | exact ⟨rfl, _, World.drewN_drewN _ _ _⟩ | exact ⟨rfl, _, Eq.trans (World.drewN_drewN _ _ _) (congrArg (World.drewN _) (Nat.add_assoc _ _ _))⟩)))
   repeat (go_quiet (first | (go_at_call 35; (with_reducible refine (r1_Same.calls k1 _ _ (rd_L10 l0 x5_1) _ _ (rd_L10 l1 x5_1) true _ ?side1 ?side2 ?side3 ?side4 A7.out).mono ?_); (case side1 => exact ca HR735_0); (case side2 => exact HC735_0.out); (case side3 => exact ca HR736_0); (case side4 => exact HC736_0.out); rintro e w' ⟨rfl, ⟨nd, rfl⟩⟩; (try first | exact ⟨rfl, _, World.drewN_drewN _ _ _⟩ | exact ⟨rfl, _, Eq.trans (World.drewN_drewN _ _ _) (congrArg (World.drewN _) (Nat.add_assoc _ _ _))⟩))); try go_wp2_with (first | (go_at_call 35; (with_reducible refine (r1_Same.calls k1 _ _ (rd_L10 l0 x5_1) _ _ (rd_L10 l1 x5_1) true _ ?side1 ?side2 ?side3 ?side4 A7.out).mono ?_); (case side1 => exact ca HR735_0); (case side2 => exact HC735_0.out); (case side3 => exact ca HR736_0); (case side4 => exact HC736_0.out); rintro e w' ⟨rfl, ⟨nd, rfl⟩⟩; (try first | exact ⟨rfl, _, World.drewN_drewN _ _ _⟩ | exact ⟨rfl, _, Eq.trans (World.drewN_drewN _ _ _) (congrArg (World.drewN _) (Nat.add_assoc _ _ _))⟩))))
   go_roundg k1
   case measure => have := HK1.out; omega
   case rel => exact ⟨(wrap64 (x5_1 + 1)), rs, H', ⟨by have := HK1.out; omega⟩, dr⟩
def w12_lists.f (k : Nat) (l0 : List (List Int)) (l1 : List (List Int)) : Option (Bool) := (r6_Alike.f k l0 l1).bind fun t738 => (some t738)
theorem w12_lists.calls (k : Nat) (A0 : Option Addr) (c0 : Nat) (l0 : List (List Int)) (A1 : Option Addr) (c1 : Nat) (l1 : List (List Int)) (r : Bool) (w : World) (hr0 : Kd.C (Kd.slice 3 (Kd.int .i64)) w A0 l0.length l0) (hc0 : l0.length ≤ c0) (hr1 : Kd.C (Kd.slice 3 (Kd.int .i64)) w A1 l1.length l1) (hc1 : l1.length ≤ c1) (h : w12_lists.f k l0 l1 = some r) :
  Calls Try.prog 36 #[.slice A0 l0.length c0, .slice A1 l1.length c1] w fun e w' => e = .returned (.bool r) ∧ Drawn0 w w' := by
 have HR0 := Aside0.mk hr0
 have HC0 := Aside0.mk hc0
 clear hr0 hc0
 have HR1 := Aside0.mk hr1
 have HC1 := Aside0.mk hc1
 clear hr1 hc1
 have H : ((r6_Alike.f k l0 l1).bind fun t738 => (some t738)) = some r := h
 clear h
 obtain ⟨t738, A3, H⟩ := be H
 obtain rfl := Option.some.inj H
 go_enter Try.func36, Try.ntmps36
 go_wp2_with (first | ((with_reducible refine gate_callee (f := 74) rfl ?_); refine gL (some 7) rfl rfl Try.func74 #[.slice A0 l0.length c0, .slice A1 l1.length c1] rfl ?_; (with_reducible refine (r6_Alike.calls k _ _ l0 _ _ l1 t738 _ ?side1 ?side2 ?side3 ?side4 A3.out).mono ?_); (case side1 => exact ca HR0); (case side2 => exact HC0.out); (case side3 => exact ca HR1); (case side4 => exact HC1.out); rintro e w' ⟨rfl, ⟨nd, rfl⟩⟩; refine ⟨_, rfl, ?_⟩))
 go_ret
 exact ⟨rs, dr⟩
def chunk (n : Nat) (l : List Int) (i : Nat) : List Int := (l.take ((i + 1) * n)).drop (i * n)
def chunks (n : Nat) (l : List Int) : Nat → List (List Int)
  | 0 => []
  | k + 1 => chunks n l k ++ [chunk n l k]
theorem chunks_length (n : Nat) (l : List Int) : ∀ k, (chunks n l k).length = k
  | 0 => rfl
  | k + 1 => by rw [chunks, List.length_append, chunks_length n l k]; rfl
theorem chunk_length (n : Nat) (l : List Int) (i : Nat) : (chunk n l i).length ≤ n := by
  unfold chunk
  rw [List.length_drop, List.length_take]
  have : (i + 1) * n = i * n + n := Nat.succ_mul i n
  omega
theorem snoc_ind {α : Type} {P : List α → Prop} (h0 : P []) (h1 : ∀ l x, P l → P (l ++ [x])) : ∀ l, P l := by
  intro l
  have : ∀ m : List α, P m.reverse := by
    intro m
    induction m with
    | nil => exact h0
    | cons x r ih => rw [List.reverse_cons]; exact h1 _ _ ih
  have h := this l.reverse
  rw [List.reverse_reverse] at h
  exact h
theorem chunks_flat {n : Nat} : ∀ (l : List (List Int)), (∀ s ∈ l, s.length = n) → ∀ (x : List (List Int)), (∀ s ∈ x, s.length = n) → ∀ k, k = l.length → chunks n (l.flatten ++ x.flatten) k = l := by
  refine snoc_ind ?_ (fun l s ih => ?_)
  · intro _ x _ k hk
    subst hk
    rfl
  · intro hl x hx k hk
    rw [List.length_append, List.length_singleton] at hk
    subst hk
    have h1 := ih (fun u hu => hl u (by simp [hu])) (s :: x) (by
      intro u hu
      rcases List.mem_cons.1 hu with rfl | hu
      · exact hl _ (by simp)
      · exact hx u hu) l.length rfl
    have e : (l ++ [s]).flatten ++ x.flatten = l.flatten ++ (s :: x).flatten := by simp
    rw [chunks, e, h1]
    congr 1
    have hs : s.length = n := hl s (by simp)
    have hf : ∀ (m : List (List Int)), (∀ u ∈ m, u.length = n) → m.flatten.length = m.length * n := by
      intro m
      induction m with
      | nil => intro _; simp
      | cons u r ih2 =>
        intro hm
        rw [List.flatten_cons, List.length_append, ih2 (fun v hv => hm v (by simp [hv])), hm u (by simp), List.length_cons, Nat.succ_mul]
        omega
    have h2 := hf l (fun u hu => hl u (by simp [hu]))
    unfold chunk
    rw [Nat.succ_mul, ← h2, ← hs, List.take_length_add_append, List.drop_append_of_le_length (Nat.le_refl _)]
    simp
def isWide (w : Int) (vars : List S66) (k : Int) (l : List Int) : Bool := decide ((l.length : Int) = k * cs vars) && valid (2 ^ w.toNat) l
def spR (w : Int) (vars : List S66) (body : List S64) (k : Int) (l : List Int) : List (List Int) × Int :=
  if cpE w vars body k = 0 then (if isWide w vars k l = true then (chunks (cs vars).toNat l k.toNat, 0) else ([], 1)) else ([], cpE w vars body k)
theorem clone_tells (l : List Int) (h : l.length ≤ 1000000) : Tells (fun k => slices_Clone_int_int.f k l) l := ⟨0, fun k _ => by unfold slices_Clone_int_int.f; rw [if_pos h]⟩
theorem cut_nums {i n : Nat} (hi : i ≤ 3) (hn : n ≤ 144) : wrap64 ((i : Int) * (n : Int)) = ((i * n : Nat) : Int) ∧ wrap64 ((i : Int) + 1) = ((i + 1 : Nat) : Int) ∧ i * n ≤ 432 := by
  have h : i * n ≤ 3 * 144 := Nat.mul_le_mul hi hn
  have e : (i : Int) * (n : Int) = ((i * n : Nat) : Int) := by rw [Int.natCast_mul]
  refine ⟨by rw [e]; exact w64 (by omega) (by omega), by rw [w64 (by omega) (by omega)]; omega, by omega⟩
theorem cut_le {i n m L : Nat} (hi : i + 1 ≤ m) (hL : L = m * n) : (0 : Int) ≤ ((i * n : Nat) : Int) ∧ ((i * n : Nat) : Int) ≤ (((i + 1) * n : Nat) : Int) ∧ (((i + 1) * n : Nat) : Int) ≤ (L : Int) := by
  have h1 : i * n ≤ (i + 1) * n := Nat.mul_le_mul (by omega) (Nat.le_refl _)
  have h2 : (i + 1) * n ≤ m * n := Nat.mul_le_mul hi (Nat.le_refl _)
  rw [← hL] at h2
  exact ⟨Int.natCast_nonneg _, Int.ofNat_le.2 h1, Int.ofNat_le.2 h2⟩
theorem split_loop (l : List Int) (n : Nat) (hn : n ≤ 144) (m : Nat) (hm : m ≤ 3) (hll : l.length = m * n) : ∀ (j i : Nat), i + j = m →
    Tells (fun k => prod_Split.l0 k l (n : Int) (chunks n l i) (m : Int) (i : Int)) (chunks n l m, 0)
  | 0, i, h => by
    obtain rfl : i = m := by omega
    refine Tells.succ ?_
    simp only [prod_Split.l0, Int.lt_irrefl, if_false]
    exact Tells.pure _
  | j + 1, i, h => by
    refine Tells.succ ?_
    have hlt : (i : Int) < (m : Int) := by omega
    have hi3 : i ≤ 3 := by omega
    simp only [prod_Split.l0, hlt, if_true]
    have hi3' : i + 1 ≤ 3 := by omega
    have him : i + 1 ≤ m := by omega
    have hij : i + 1 + j = m := by omega
    obtain ⟨q1, q2, q3⟩ := cut_le him hll
    have e1 := (cut_nums hi3 hn).1
    have e2 := (cut_nums hi3 hn).2.1
    have e3 := (cut_nums hi3' hn).1
    rw [e1, e2, e3]
    refine Tells.ifT q1 (Tells.ifT q2 (Tells.ifT q3 ?_))
    rw [Int.toNat_natCast, Int.toNat_natCast]
    have hc := chunk_length n l i
    have tc := clone_tells (chunk n l i) (Nat.le_trans hc (Nat.le_trans hn (by decide)))
    have ih := split_loop l n hn m hm hll j (i + 1) hij
    rw [chunks] at ih
    unfold chunk at tc ih
    have hcl := chunks_length n l i
    refine Tells.bind tc ?_
    generalize chunks n l i = X at hcl ih ⊢
    exact Tells.ifT (by rw [hcl]; exact Nat.lt_of_le_of_lt hi3 (by decide)) ih
theorem split_tells (w : Int) (vars : List S66) (body : List S64) (hl : body.length ≤ 9223372036854775807) (hg : goodSs body) (k : Int) (l : List Int) (hs : l.length ≤ 9223372036854775807) :
    Tells (fun j => prod_Split.f j w vars body k l) (spR w vars body k l) := by
  unfold prod_Split.f
  refine Tells.bind (pCheck_tells w vars body hl hg) ?_
  have ts := prodSingle_tells w vars body hl hg
  have no : ∀ b n, b = true → spR w vars body k l = ([], 1) → Tells (fun j => prod_Split.j0 j k l n b) (spR w vars body k l) := by
    rintro b n rfl h
    rw [h]
    refine Tells.succ ?_
    simp only [prod_Split.j0, if_true]
    exact Tells.pure _
  have n1 : cpE w vars body k = 1 → spR w vars body k l = ([], 1) := by
    intro h; unfold spR; rw [h, if_neg (by decide)]
  rcases sgE_vals w vars body with ⟨hp, h⟩ | ⟨hp, h⟩ | ⟨hp, h⟩
  · rw [hp]
    obtain ⟨h1, h8, hv, h18, k0, k1⟩ := pIs_cells hp
    refine Tells.ifT rfl (Tells.bind (pcells_tells w vars body hv h18) ?_)
    by_cases c1 : k < 1
    · exact Tells.ifT c1 (no _ _ rfl (n1 (by unfold cpE; rw [h, if_pos rfl, if_pos c1])))
    refine Tells.ifF c1 ?_
    by_cases c3 : k > 3
    · exact Tells.ifT c3 (no _ _ rfl (n1 (by unfold cpE; rw [h, if_pos rfl, if_neg c1, if_pos c3])))
    refine Tells.ifF c3 (Tells.bind ts (Tells.ifT h ?_))
    have hcp : cpE w vars body k = 0 := by unfold cpE; rw [h, if_pos rfl, if_neg c1, if_neg c3]
    have hb : k * cs vars ≤ 3 * 144 := Int.mul_le_mul (by omega) k1 k0 (by decide)
    have hb0 : 0 ≤ k * cs vars := Int.mul_nonneg (by omega) k0
    rw [w64 (n := k * cs vars) (by omega) (by omega)]
    by_cases e : (l.length : Int) = k * cs vars
    · refine Tells.ifT e (Tells.bind (pwords_tells w h1 h8 l hs) ?_)
      by_cases hv2 : valid (2 ^ w.toNat) l = true
      · rw [hv2]
        have : spR w vars body k l = (chunks (cs vars).toNat l k.toNat, 0) := by
          unfold spR isWide
          rw [if_pos hcp, decide_eq_true e, hv2, Bool.true_and, if_pos rfl]
        rw [this]
        refine Tells.succ ?_
        simp only [prod_Split.j0, Bool.not_true, Bool.false_eq_true, if_false]
        have e1 : ((cs vars).toNat : Int) = cs vars := Int.toNat_of_nonneg k0
        have e2 : (k.toNat : Int) = k := Int.toNat_of_nonneg (by omega)
        have := split_loop l (cs vars).toNat (by omega) k.toNat (by omega) (by apply Int.ofNat_inj.1; rw [Int.natCast_mul, e1, e2]; exact e) k.toNat 0 (by omega)
        rw [e1, e2] at this
        exact this
      · rw [Bool.eq_false_iff.2 hv2]
        exact no _ _ rfl (by unfold spR isWide; rw [if_pos hcp, Bool.eq_false_iff.2 hv2, Bool.and_false, if_neg (by decide)])
    · exact Tells.ifF e (no _ _ rfl (by unfold spR isWide; rw [if_pos hcp, decide_eq_false e, Bool.false_and, if_neg (by decide)]))
  · rw [hp]
    obtain ⟨h1, h8, hv, h18, k0, k1⟩ := pIs_cells hp
    have hc : cpE w vars body k = 1 := by unfold cpE; rw [h, if_neg (by decide)]
    refine Tells.ifT rfl (Tells.bind (pcells_tells w vars body hv h18) ?_)
    by_cases c1 : k < 1
    · exact Tells.ifT c1 (no _ _ rfl (n1 hc))
    refine Tells.ifF c1 ?_
    by_cases c3 : k > 3
    · exact Tells.ifT c3 (no _ _ rfl (n1 hc))
    exact Tells.ifF c3 (Tells.bind ts (Tells.ifF (by rw [h]; decide) (no _ _ rfl (n1 hc))))
  · rw [hp]
    have hc : cpE w vars body k = 30 := by unfold cpE; rw [h, if_neg (by decide)]
    have : spR w vars body k l = ([], 30) := by unfold spR; rw [hc, if_neg (by decide)]
    rw [this]
    exact Tells.ifF (by decide) (Tells.pure _)
theorem alike_loop : ∀ (suf pre : List (List Int)), (pre ++ suf).length ≤ 9223372036854775807 → (∀ s ∈ suf, s.length ≤ 9223372036854775807) → Tells (fun k => r6_Alike.l0 k (pre ++ suf) (pre ++ suf) (pre.length : Int)) true
  | [], pre, _, _ => by
    refine Tells.succ ?_
    simp only [r6_Alike.l0, pre_nlt, if_false]
    exact Tells.pure _
  | s :: r, pre, hl, hs => by
    refine Tells.succ ?_
    simp only [r6_Alike.l0, pre_lt, pre_pos, if_true, rdI_mid]
    refine Tells.bind (same_tells s (hs s (by simp))) (Tells.ifT rfl ?_)
    rw [pre_next pre s r hl]
    have ih := alike_loop r (pre ++ [s]) (by rw [← pre_app]; exact hl) (fun u hu => hs u (by simp [hu]))
    rw [← pre_app] at ih
    exact ih
theorem lists_tells (l : List (List Int)) (hl : l.length ≤ 9223372036854775807) (hs : ∀ s ∈ l, s.length ≤ 9223372036854775807) : Tells (fun k => w12_lists.f k l l) true := by
  unfold w12_lists.f r6_Alike.f
  exact Tells.bind (Tells.ifT rfl (alike_loop l [] hl hs)) (Tells.pure _)
theorem eqA66 (d : Nat) (w : World) (x0 y0 : ByteArray) (x1 y1 : Int) (x2 y2 : Int) :
  (Op.equalIn (d + 2) 66 (.agg #[.string x0, .int .i64 x1, .int .i64 x2]) (.agg #[.string y0, .int .i64 y1, .int .i64 y2])).run Try.prog w = .ok (x0.toList == y0.toList && (x1 == y1 && (x2 == y2))) w := by
 refine eqA_of Try.underlying66 (by kernel_rfl) ?_
 refine eqf_cons (by rfl) (by go_simp; rfl) (by go_simp; rfl) (by go_simp) ?_
 refine eqf_cons (by rfl) (by go_simp; rfl) (by go_simp; rfl) (by go_simp) ?_
 exact eqf_last (by rfl) (by go_simp; rfl) (by go_simp; rfl) (by go_simp)
end Go.Proofs.Ytilebfkehmecaaa.Print
namespace Go.Proofs.Ytilebfkehmecaaa.Print
open Go.RowKit Go.Proofs.YtilebfkehmecaaaW.PrintWords Go.Proofs.YtilebfkehmecaaaW.PrintLast Go.Proofs.YtilebfkehmecaaaW.PrintMore
attribute [local go_sem] max2_int min2_int max_two min_two max_three min_three max_four min_four
set_option linter.unusedVariables false
set_option linter.unusedSimpArgs false
section
variable {P : Program} {ops : Array Oper} {Q : Exit → Act → World → Prop} {md : Region.Mode}
end
end Go.Proofs.Ytilebfkehmecaaa.Print
namespace Go.Proofs.Ytilebfkehmecaaa.Print
open Go.RowKit Go.Proofs.YtilebfkehmecaaaW.PrintWords Go.Proofs.YtilebfkehmecaaaW.PrintLast Go.Proofs.YtilebfkehmecaaaW.PrintMore
attribute [local go_sem] max2_int min2_int max_two min_two max_three min_three max_four min_four
set_option linter.unusedVariables false
set_option linter.unusedSimpArgs false
open Go.RowKit
section
variable {α : Type} {d : Kd α} {e : Nat} {W W1 : World} {v : Value}
theorem flatten_get {sz : Nat} : ∀ (css : List (List Value)) (j : Nat) (c : List Value) (i : Nat), (∀ c ∈ css, c.length = sz) → css[j]? = some c → i < sz → css.flatten[j * sz + i]? = c[i]?
  | [], j, c, i, _, h, _ => by simp at h
  | x :: r, 0, c, i, hl, h, hi => by
    obtain rfl : x = c := by simpa using h
    have := hl x (by simp)
    simp only [List.flatten_cons, Nat.zero_mul, Nat.zero_add]
    rw [List.getElem?_append_left (by omega)]
  | x :: r, j + 1, c, i, hl, h, hi => by
    have h1 := hl x (by simp)
    have h2 : r[j]? = some c := by simpa using h
    simp only [List.flatten_cons]
    have e1 : (j + 1) * sz + i = x.length + (j * sz + i) := by rw [h1, Nat.succ_mul]; omega
    rw [e1, List.getElem?_append_right (by omega), Nat.add_sub_cancel_left]
    exact flatten_get r j c i (fun c hc => hl c (by simp [hc])) h2 hi
def Is (d : Kd α) (B : Nat) (W : World) (v : Value) (x : α) : Prop := ∃ cs : List Value, v = .agg cs.toArray ∧ Kd.FK d W (fun k => B ≤ k ∧ k < W.heap.size) x cs
def IsRow (d : Kd α) (B : Nat) (e : Nat) (W : World) (v : Value) (l : List α) : Prop :=
  ∃ (b : Nat) (css : List (List Value)), v = .slice (some ⟨b, 0, none⟩) l.length l.length ∧ W.heap[b]? = some (.cells css.flatten.toArray e (0, 0)) ∧ B ≤ b ∧ css.length = l.length ∧ l.length ≤ 9223372036854775807 ∧
    ∀ (j : Nat) (x : α) (c : List Value), l[j]? = some x → css[j]? = some c → Kd.FK d W (fun k => B ≤ k ∧ k < b) x c
variable {B : Nat}
theorem Is.below {x : α} (h : Is d B W v x) (hb : Below W.heap.size W W1) : Is d B W1 v x := by
  obtain ⟨cs, e1, h⟩ := h
  exact ⟨cs, e1, Kd.FK_mono (Kd.FK_below h hb) (fun k hk => ⟨hk.1, Nat.lt_of_lt_of_le hk.2 hb.size⟩)⟩
theorem IsRow.below {l : List α} (h : IsRow d B e W v l) (hb : Below W.heap.size W W1) : IsRow d B e W1 v l := by
  obtain ⟨b, css, e1, h1, h0, h2, h3, h4⟩ := h
  exact ⟨b, css, e1, (hb.block _ (blk_lt h1)).trans h1, h0, h2, h3, fun j x c hj hc => Kd.FK_below (h4 j x c hj hc) hb⟩
theorem IsRow.F {l : List α} {b : Nat} {css : List (List Value)} (h1 : W.heap[b]? = some (.cells css.flatten.toArray e (0, 0))) (h0 : B ≤ b) (h2 : css.length = l.length) (h3 : l.length ≤ 9223372036854775807)
    (h4 : ∀ (j : Nat) (x : α) (c : List Value), l[j]? = some x → css[j]? = some c → Kd.FK d W (fun k => B ≤ k ∧ k < b) x c) : Kd.F d W (fun k => B ≤ k ∧ k < W.heap.size) (some ⟨b, 0, none⟩) l.length l := by
  intro W' hW'
  have hb := blk_lt h1
  have hlen : ∀ c ∈ css, c.length = d.sz := by
    intro c hc
    obtain ⟨j, hj, e2⟩ := List.mem_iff_getElem.1 hc
    have hj2 : j < l.length := by omega
    exact d.K_len (Kd.FK_now (h4 j l[j] c (List.getElem?_eq_getElem hj2) (by rw [List.getElem?_eq_getElem hj, e2])))
  refine ⟨rfl, h3, fun _ => ⟨_, rfl, fun j x hj => ?_⟩⟩
  have hj2 : j < css.length := by have := (List.getElem?_eq_some_iff.1 hj).1; omega
  have hc := List.getElem?_eq_getElem hj2
  have hk := h4 j x _ hj hc
  refine ⟨css[j], hlen _ (List.getElem_mem hj2), hk W' (fun k hk' hk2 => hW' k ⟨hk'.1, hk2⟩ hk2), fun i u hu => ?_⟩
  have hi : i < d.sz := by have := (List.getElem?_eq_some_iff.1 hu).1; rw [hlen _ (List.getElem_mem hj2)] at this; exact this
  have hg := flatten_get css j _ i hlen hc hi
  have hB := (hW' b ⟨h0, hb⟩ hb).trans h1
  have : (⟨b, 0, none⟩ : Addr).add (j * d.sz + i) = ⟨b, j * d.sz + i, none⟩ := by unfold Addr.add; split <;> simp_all
  rw [this, blk_cell hB (j * d.sz + i)]
  simpa [hg] using hu
theorem IsRow.foot {l : List α} (h : IsRow d B e W v l) : ∃ A, v = .slice A l.length l.length ∧ Kd.F d W (fun k => B ≤ k ∧ k < W.heap.size) A l.length l := by
  obtain ⟨b, css, e1, h1, h0, h2, h3, h4⟩ := h
  exact ⟨_, e1, IsRow.F h1 h0 h2 h3 h4⟩
theorem IsRow.C {l : List α} (h : IsRow d B e W v l) : ∃ A, v = .slice A l.length l.length ∧ d.C W A l.length l := by
  obtain ⟨A, e1, h1⟩ := h.foot
  exact ⟨A, e1, Kd.F_now h1⟩
theorem IsRow.new {l : List α} (hB : B ≤ W.heap.size) (css : List (List Value)) {cs : Array Value} (hcs : cs = css.flatten.toArray) (h2 : css.length = l.length) (h3 : l.length ≤ 9223372036854775807) (h4 : ∀ (j : Nat) (x : α) (c : List Value), l[j]? = some x → css[j]? = some c → Kd.FK d W (fun k => B ≤ k ∧ k < W.heap.size) x c) :
    IsRow d B e (W.alloc (.cells cs e)) (.slice (some ⟨W.heap.size, 0, none⟩) l.length l.length) l := by
  subst hcs
  exact ⟨_, css, rfl, heap_alloc_new _ _, hB, h2, h3, fun j x c hj hc => Kd.FK_below (h4 j x c hj hc) (bal (Below.refl _ _) _)⟩
theorem F_zero (A : Option Addr) (ok : Nat → Prop) : Kd.F d W ok A ([] : List α).length [] := fun W' _ => ⟨rfl, by simp, fun h => by simp at h⟩
end
end Go.Proofs.Ytilebfkehmecaaa.Print
