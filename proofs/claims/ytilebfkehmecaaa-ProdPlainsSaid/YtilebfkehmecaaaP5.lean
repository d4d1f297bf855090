/- For every program, number of copies and tree the law ProdPlains returns true, and what came in reads as before. No condition. -/
import Derived.Test.YtilebfkehmecaaaP4
import Derived.Deep.DeepMust
import Derived.Laws.CopyOwn
import Derived.Laws.CopyRow
import Derived.Laws.MakeOwn
import Derived.Orders
import Derived.OrdersHeld
namespace Go.Proofs.Ytilebfkehmecaaa.Print
open Go.RowKit Go.Proofs.YtilebfkehmecaaaW.PrintWords Go.Proofs.YtilebfkehmecaaaW.PrintLast Go.Proofs.YtilebfkehmecaaaW.PrintMore
attribute [local go_sem] max2_int min2_int max_two min_two max_three min_three max_four min_four
set_option linter.unusedVariables false
set_option linter.unusedSimpArgs false
def r12_Plain.f (k : Nat) (a0_0 : Int) (l0_1 : List (S66)) (l0_2 : List (S64)) (a1 : Int) (a2_0 : Int) (a2_1 : Int) (a2_2 : Int) (l2_3 : List (S28)) : Option (Int × Int × Int × (List (S28)) × Int) := (r12_Copies.f k a0_0 l0_1 l0_2 a1).bind fun t350 => (if t350 = 0 then ((r12_Vars.f k l0_1 a1).bind fun t351 => ((r2_Heading.f k a0_0 t351).bind fun t354 => (if t354 = true then ((r2_Is.f k a0_0 l0_1 a1 a2_0 a2_1 a2_2 l2_3).bind fun t355 => (if t355 = true then ((r12_plain.f k a2_0 a2_1 a2_2 l2_3 (l0_1.length : Int)).bind fun bt356 => (some (bt356.1, bt356.2.1, bt356.2.2.1, bt356.2.2.2, 0))) else (some (0, 0, 0, ([] : List (S28)), 20)))) else (some (0, 0, 0, ([] : List (S28)), 2))))) else (some (0, 0, 0, ([] : List (S28)), t350)))
def r12_Plain.T4 : Bool × List (List Nat × List Nat) := (true, [([], []), ([0], [0]), ([], []), ([2], [2]), ([], []), ([3, 4], [3, 4]), ([1, 5, 5], [1, 5]), ([6], [6])])
def r12_Plain.B4 : List Nat := [0, 1, 0, 4, 0, 28, 63, 127]
theorem r12_Plain.tab4 : rtab .any (opsOf Try.f13 4) = r12_Plain.T4 := by kernel_rfl
theorem r12_Plain.bits4 : waitsOk r12_Plain.T4.2 r12_Plain.B4 = true := by kernel_rfl
set_option maxHeartbeats 8000000 in
set_option maxRecDepth 100000 in
theorem r12_Plain.calls (k : Nat) (a0_0 : Int) (A0_1 : Option Addr) (c0_1 : Nat) (l0_1 : List (S66)) (A0_2 : Option Addr) (c0_2 : Nat) (l0_2 : List (S64)) (a1 : Int) (a2_0 : Int) (a2_1 : Int) (a2_2 : Int) (A2_3 : Option Addr) (c2_3 : Nat) (l2_3 : List (S28)) (r1 : Int) (r2 : Int) (r3 : Int) (r4 : List (S28)) (r5 : Int) (w : World) (hr0_1 : Kd.C k66 w A0_1 l0_1.length l0_1) (hc0_1 : l0_1.length ≤ c0_1) (hr0_2 : Kd.C k64 w A0_2 l0_2.length l0_2) (hc0_2 : l0_2.length ≤ c0_2) (hr2_3 : Kd.C k28 w A2_3 l2_3.length l2_3) (hc2_3 : l2_3.length ≤ c2_3) (h : r12_Plain.f k a0_0 l0_1 l0_2 a1 a2_0 a2_1 a2_2 l2_3 = some (r1, r2, r3, r4, r5)) :
  Calls Try.prog 13 #[.agg #[.int .i64 a0_0, .slice A0_1 l0_1.length c0_1, .slice A0_2 l0_2.length c0_2], .int .i64 a1, .agg #[.int .i64 a2_0, .int .i64 a2_1, .int .i64 a2_2, .slice A2_3 l2_3.length c2_3]] w fun e w' => ∃ v3_ : Value, e = .returned (.tuple #[.agg #[.int .i64 r1, .int .i64 r2, .int .i64 r3, v3_], .int .i64 r5]) ∧ Kd.R k28 28 w' w.heap.size (fun _ => True) v3_ r4 ∧ Below w.heap.size w w' := by
 have hu25 := Try.underlying25
 have hu28 := Try.underlying28
 have HR0_1 := Aside0.mk hr0_1
 have HC0_1 := Aside0.mk hc0_1
 clear hr0_1 hc0_1
 have HR0_2 := Aside0.mk hr0_2
 have HC0_2 := Aside0.mk hc0_2
 clear hr0_2 hc0_2
 have HR2_3 := Aside0.mk hr2_3
 have HC2_3 := Aside0.mk hc2_3
 clear hr2_3 hc2_3
 have HB := Aside0.mk (Below.refl w.heap.size w)
 have H : ((r12_Copies.f k a0_0 l0_1 l0_2 a1).bind fun t350 => (if t350 = 0 then ((r12_Vars.f k l0_1 a1).bind fun t351 => ((r2_Heading.f k a0_0 t351).bind fun t354 => (if t354 = true then ((r2_Is.f k a0_0 l0_1 a1 a2_0 a2_1 a2_2 l2_3).bind fun t355 => (if t355 = true then ((r12_plain.f k a2_0 a2_1 a2_2 l2_3 (l0_1.length : Int)).bind fun bt356 => (some (bt356.1, bt356.2.1, bt356.2.2.1, bt356.2.2.2, 0))) else (some (0, 0, 0, ([] : List (S28)), 20)))) else (some (0, 0, 0, ([] : List (S28)), 2))))) else (some (0, 0, 0, ([] : List (S28)), t350)))) = some (r1, r2, r3, r4, r5) := h
 clear h
 obtain ⟨t350, A4, H⟩ := be H
 replace H : (if t350 = 0 then ((r12_Vars.f k l0_1 a1).bind fun t351 => ((r2_Heading.f k a0_0 t351).bind fun t354 => (if t354 = true then ((r2_Is.f k a0_0 l0_1 a1 a2_0 a2_1 a2_2 l2_3).bind fun t355 => (if t355 = true then ((r12_plain.f k a2_0 a2_1 a2_2 l2_3 (l0_1.length : Int)).bind fun bt356 => (some (bt356.1, bt356.2.1, bt356.2.2.1, bt356.2.2.2, 0))) else (some (0, 0, 0, ([] : List (S28)), 20)))) else (some (0, 0, 0, ([] : List (S28)), 2))))) else (some (0, 0, 0, ([] : List (S28)), t350))) = some (r1, r2, r3, r4, r5) := H
 by_cases c5 : t350 = 0
 rotate_left
 ·rw [if_neg c5] at H
  have c5b0 : (t350 == 0) = false := beq_eq_false_iff_ne.mpr c5
  have c5b1 : (t350 != 0) = true := bne_iff_ne.mpr c5
  simp only [Option.some.injEq, Prod.mk.injEq] at H
  obtain ⟨rfl, rfl, rfl, rfl, rfl⟩ := H
  go_enter Try.func13, Try.ntmps13
  go_wp2_with (first | ((with_reducible refine gate_dst (N := 3) rfl ?_); refine bx 3 rfl rfl #[.int .i64 a0_0, .slice A0_1 l0_1.length c0_1, .slice A0_2 l0_2.length c0_2] 25 ?_; intro gb347 hg w61 hbox hb; have BK347 := Aside0.mk (hbox); have GW347 := ge HB hg; have GE347 := ge HB hg; replace HB := sb HB hb; clear hb hbox hg) | ((with_reducible refine gate_dst (N := 5) rfl ?_); refine bx 5 rfl rfl #[.int .i64 a2_0, .int .i64 a2_1, .int .i64 a2_2, .slice A2_3 l2_3.length c2_3] 28 ?_; intro gb348 hg w62 hbox hb; have BK348 := Aside0.mk (hbox); have GW348 := ge HB hg; have GE348 := ge HB hg; have NB347_348 := nl BK347 hg; have NB348_347 := ng BK347 hg; replace BK347 := kb BK347 hb; replace HB := sb HB hb; clear hb hbox hg) | ((with_reducible refine gate_dst (N := 6) rfl ?_); refine bx 6 rfl rfl #[.int .i64 0, .int .i64 0, .int .i64 0, .slice none 0 0] 28 ?_; intro gb349 hg w63 hbox hb; have BK349 := Aside0.mk (hbox); have GW349 := ge HB hg; have GE349 := ge HB hg; have NB347_349 := nl BK347 hg; have NB349_347 := ng BK347 hg; have NB348_349 := nl BK348 hg; have NB349_348 := ng BK348 hg; replace BK347 := kb BK347 hb; replace BK348 := kb BK348 hb; replace HB := sb HB hb; clear hb hbox hg; have hnb64 := NB347_348.out; have hnc64 := NB348_347.out; have hnb65 := NB347_349.out; have hnc65 := NB349_347.out; obtain ⟨hcz66_0, hcz66_1, hcz66_2, hfz66_0, hfz66_1, hfz66_2⟩ := cf3 BK347.out) | ((with_reducible refine gate_callee (f := 18) rfl ?_); refine gL (some 11) rfl rfl Try.func18 #[.agg #[.int .i64 a0_0, .slice A0_1 l0_1.length c0_1, .slice A0_2 l0_2.length c0_2], .int .i64 a1] rfl ?_; (with_reducible refine (r12_Copies.calls k a0_0 _ _ l0_1 _ _ l0_2 a1 t350 _ ?side1 ?side2 ?side3 ?side4 A4.out).mono ?_); (case side1 => exact cb HR0_1 HB); (case side2 => exact HC0_1.out); (case side3 => exact cb HR0_2 HB); (case side4 => exact HC0_2.out); rintro e w67 ⟨rfl, hb⟩; refine ⟨_, rfl, ?_⟩; replace BK347 := kb BK347 hb; replace BK348 := kb BK348 hb; replace BK349 := kb BK349 hb; replace HB := sb HB hb; (try clear hb); (try clear hb2); (try clear hk); (try clear hi); have hnb68 := NB349_348.out; have hnc68 := NB348_349.out; obtain ⟨hcz69_0, hcz69_1, hcz69_2, hcz69_3, hfz69_0, hfz69_1, hfz69_2, hfz69_3⟩ := cf4 BK349.out))
  refine bodyPost_ret (results_ct rfl _ _ gb349 28 #[.int .i64 0, .int .i64 0, .int .i64 0, .slice none 0 0] (0, 0) _ rfl (by (with_reducible repeat (first | refine kdN ?_ _ | refine kdr ?_ | refine kal ?_ _)); refine blk_put (cs := #[.int .i64 0, .int .i64 0, .int .i64 0, .slice none 0 0]) ?_ 3 _ rfl; (with_reducible repeat (first | refine kdN ?_ _ | refine kdr ?_ | refine kal ?_ _)); refine blk_put (cs := #[.int .i64 0, .int .i64 0, .int .i64 0, .slice none 0 0]) ?_ 2 _ rfl; (with_reducible repeat (first | refine kdN ?_ _ | refine kdr ?_ | refine kal ?_ _)); refine blk_put (cs := #[.int .i64 0, .int .i64 0, .int .i64 0, .slice none 0 0]) ?_ 1 _ rfl; (with_reducible repeat (first | refine kdN ?_ _ | refine kdr ?_ | refine kal ?_ _)); refine blk_put (cs := #[.int .i64 0, .int .i64 0, .int .i64 0, .slice none 0 0]) ?_ 0 _ rfl; (with_reducible repeat (first | refine kdN ?_ _ | refine kdr ?_ | refine kal ?_ _)); exact BK349.out) Try.underlying28 rfl (by kernel_rfl)) rfl ?_
  exact ⟨_, rr, by first | exact Kd.R_nil _ _ _ _ _ | exact Kd.N_nil _ _ _ _ _ | exact Kd.V_nil _ _ _ _ _ | exact Kd.Q_nil _ _ _ _ _ | exact Kd.S_nil _ _ _ _ _, bb HB⟩
 rw [if_pos c5] at H
 have c5b0 : (t350 == 0) = true := beq_iff_eq.mpr c5
 have c5b1 : (t350 != 0) = false := bne_eq_false_iff_eq.mpr c5
 clear c5
 obtain ⟨t351, A6, H⟩ := be H
 replace H : ((r2_Heading.f k a0_0 t351).bind fun t354 => (if t354 = true then ((r2_Is.f k a0_0 l0_1 a1 a2_0 a2_1 a2_2 l2_3).bind fun t355 => (if t355 = true then ((r12_plain.f k a2_0 a2_1 a2_2 l2_3 (l0_1.length : Int)).bind fun bt356 => (some (bt356.1, bt356.2.1, bt356.2.2.1, bt356.2.2.2, 0))) else (some (0, 0, 0, ([] : List (S28)), 20)))) else (some (0, 0, 0, ([] : List (S28)), 2)))) = some (r1, r2, r3, r4, r5) := H
 obtain ⟨t354, A7, H⟩ := be H
 replace H : (if t354 = true then ((r2_Is.f k a0_0 l0_1 a1 a2_0 a2_1 a2_2 l2_3).bind fun t355 => (if t355 = true then ((r12_plain.f k a2_0 a2_1 a2_2 l2_3 (l0_1.length : Int)).bind fun bt356 => (some (bt356.1, bt356.2.1, bt356.2.2.1, bt356.2.2.2, 0))) else (some (0, 0, 0, ([] : List (S28)), 20)))) else (some (0, 0, 0, ([] : List (S28)), 2))) = some (r1, r2, r3, r4, r5) := H
 by_cases c8 : t354 = true
 rotate_left
 ·replace c8 := Bool.eq_false_iff.mpr c8
  subst c8
  have H1 : (some (0, 0, 0, ([] : List (S28)), 2)) = some (r1, r2, r3, r4, r5) := by rw [if_neg (show ¬ (false = true) by decide)] at H; exact H
  clear H
  have H := H1
  clear H1
  simp only [Option.some.injEq, Prod.mk.injEq] at H
  obtain ⟨rfl, rfl, rfl, rfl, rfl⟩ := H
  go_enter Try.func13, Try.ntmps13
  try go_wp2_with (first | ((with_reducible refine gate_dst (N := 3) rfl ?_); refine bx 3 rfl rfl #[.int .i64 a0_0, .slice A0_1 l0_1.length c0_1, .slice A0_2 l0_2.length c0_2] 25 ?_; intro gb347 hg w48 hbox hb; have BK347 := Aside0.mk (hbox); have GW347 := ge HB hg; have GE347 := ge HB hg; replace HB := sb HB hb; clear hb hbox hg) | ((with_reducible refine gate_dst (N := 5) rfl ?_); refine bx 5 rfl rfl #[.int .i64 a2_0, .int .i64 a2_1, .int .i64 a2_2, .slice A2_3 l2_3.length c2_3] 28 ?_; intro gb348 hg w49 hbox hb; have BK348 := Aside0.mk (hbox); have GW348 := ge HB hg; have GE348 := ge HB hg; have NB347_348 := nl BK347 hg; have NB348_347 := ng BK347 hg; replace BK347 := kb BK347 hb; replace HB := sb HB hb; clear hb hbox hg) | ((with_reducible refine gate_dst (N := 6) rfl ?_); refine bx 6 rfl rfl #[.int .i64 0, .int .i64 0, .int .i64 0, .slice none 0 0] 28 ?_; intro gb349 hg w50 hbox hb; have BK349 := Aside0.mk (hbox); have GW349 := ge HB hg; have GE349 := ge HB hg; have NB347_349 := nl BK347 hg; have NB349_347 := ng BK347 hg; have NB348_349 := nl BK348 hg; have NB349_348 := ng BK348 hg; replace BK347 := kb BK347 hb; replace BK348 := kb BK348 hb; replace HB := sb HB hb; clear hb hbox hg; have hnb51 := NB347_348.out; have hnc51 := NB348_347.out; have hnb52 := NB347_349.out; have hnc52 := NB349_347.out; obtain ⟨hcz53_0, hcz53_1, hcz53_2, hfz53_0, hfz53_1, hfz53_2⟩ := cf3 BK347.out) | ((with_reducible refine gate_callee (f := 18) rfl ?_); refine gL (some 11) rfl rfl Try.func18 #[.agg #[.int .i64 a0_0, .slice A0_1 l0_1.length c0_1, .slice A0_2 l0_2.length c0_2], .int .i64 a1] rfl ?_; (with_reducible refine (r12_Copies.calls k a0_0 _ _ l0_1 _ _ l0_2 a1 t350 _ ?side1 ?side2 ?side3 ?side4 A4.out).mono ?_); (case side1 => exact cb HR0_1 HB); (case side2 => exact HC0_1.out); (case side3 => exact cb HR0_2 HB); (case side4 => exact HC0_2.out); rintro e w54 ⟨rfl, hb⟩; refine ⟨_, rfl, ?_⟩; replace BK347 := kb BK347 hb; replace BK348 := kb BK348 hb; replace BK349 := kb BK349 hb; replace HB := sb HB hb; (try clear hb); (try clear hb2); (try clear hk); (try clear hi)))
  replace BK347 := Aside0.mk (kdr BK347.out)
  replace BK348 := Aside0.mk (kdr BK348.out)
  replace BK349 := Aside0.mk (kdr BK349.out)
  replace HB := Aside0.mk (bd1 HB.out)
  refine start_ (n := 8) (S := fun w' => w'.cell? ⟨gb347, 0, none⟩ = some (.int .i64 a0_0) ∧ w'.cell? ⟨gb347, 1, none⟩ = some (.slice A0_1 l0_1.length c0_1) ∧ w'.cell? ⟨gb347, 2, none⟩ = some (.slice A0_2 l0_2.length c0_2)) (ds := []) #[false, false, false, false, false, false, false, false] (by kernel_rfl) rfl rfl ⟨(blk_cell BK347.out 0).trans rfl, (blk_cell BK347.out 1).trans rfl, (blk_cell BK347.out 2).trans rfl⟩ (fun hHeld => ?_); refine with_tabW r12_Plain.tab4 r12_Plain.bits4 (fun HT_ HW_ => ?_)
  generalize w54.drew = w55 at BK347 BK348 BK349 HB hHeld ⊢
  refine pu (i := 0) (N := some 16) #[true, false, false, false, false, false, false, false] rfl rfl (any_of HT_.out (by kernel_rfl)) ?_
  refine pu (i := 2) (N := some 18) #[true, false, true, false, false, false, false, false] rfl rfl (any_of HT_.out (by kernel_rfl)) ?_
  refine pu (i := 4) (N := some 20) #[true, false, true, false, true, false, false, false] rfl rfl (any_of HT_.out (by kernel_rfl)) ?_
  refine tk (i := 1) (N := some 17) #[true, true, true, false, true, false, false, false] rfl rfl (take_ofW HT_.out HW_.out (by kernel_rfl)) hHeld ?_
  refine tk (i := 3) (N := some 19) #[true, true, true, true, true, false, false, false] rfl rfl (take_ofW HT_.out HW_.out (by kernel_rfl)) hHeld ?_
  refine one_ (i := 5) (N := some 21) #[true, true, true, true, true, true, false, false] rfl rfl (one_of HT_.out (by kernel_rfl)) (by decide) (fun K hK => ?_)
  refine gO Try.func22 #[.slice A0_1 l0_1.length c0_1, .int .i64 a1] (by rfl) rfl rfl ?_
  with_reducible refine (r12_Vars.calls k _ _ l0_1 a1 t351 _ ?side1 ?side2 A6.out).mono ?_
  (case side1 => exact cb HR0_1 HB)
  (case side2 => exact HC0_1.out)
  rintro e w56 ⟨v352, rfl, ho0, hb⟩
  refine ⟨_, rfl, ?_⟩
  have HO353 := Aside0.mk (Kd.R_lower ho0 (bsz (bb HB)))
  replace BK347 := kb BK347 hb
  replace BK348 := kb BK348 hb
  replace BK349 := kb BK349 hb
  replace HB := sb HB hb
  (try clear hb)
  (try clear hb2)
  (try clear hk)
  (try clear hi)
  (try clear ho0)
  obtain ⟨Ao57, co57, eo57⟩ := Kd.R_slice HO353.out
  (first | subst eo57 | (injection eo57 with f1_ f2_ f3_; have f4_ := f1_.symm; have f5_ := f3_.symm; clear f1_ f2_ f3_; subst f4_; subst f5_))
  refine hK.out _ _ ⟨(blk_cell BK347.out 0).trans rfl, (blk_cell BK347.out 1).trans rfl, (blk_cell BK347.out 2).trans rfl⟩ (fun hHeld => ?_)
  clear hK K
  refine nm 21 ?_
  refine one_ (i := 6) (N := some 22) #[true, true, true, true, true, true, true, false] rfl rfl (one_of HT_.out (by kernel_rfl)) (by decide) (fun K hK => ?_)
  refine gO Try.func50 #[.int .i64 a0_0, .slice Ao57 t351.length co57] (by rfl) rfl rfl ?_
  with_reducible refine (r2_Heading.calls k a0_0 _ _ t351 false _ ?side1 ?side2 A7.out).mono ?_
  (case side1 => repeat (first | exact (Kd.R_reads' HO353.out).2.2 | with_reducible first | apply Kd.C_alloc | apply Kd.C_drewN | apply Kd.C_drew))
  (case side2 => exact (Kd.R_reads' HO353.out).2.1)
  rintro e w58 ⟨rfl, hb⟩
  refine ⟨_, rfl, ?_⟩
  replace HO353 := Aside0.mk (Kd.R_below (by (with_reducible repeat (first | apply Kd.R_alloc | apply Kd.R_drewN | apply Kd.R_drew)); exact HO353.out) hb)
  replace BK347 := kb BK347 hb
  replace BK348 := kb BK348 hb
  replace BK349 := kb BK349 hb
  replace HB := sb HB hb
  (try clear hb)
  (try clear hb2)
  (try clear hk)
  (try clear hi)
  refine hK.out _ _ ⟨(blk_cell BK347.out 0).trans rfl, (blk_cell BK347.out 1).trans rfl, (blk_cell BK347.out 2).trans rfl⟩ (fun hHeld => ?_)
  clear hK K
  refine nm 22 ?_
  refine pu (i := 7) (N := some 23) #[true, true, true, true, true, true, true, true] rfl rfl (any_of HT_.out (by kernel_rfl)) ?_
  refine done_ (done_of HT_.out (by kernel_rfl)) ?_
  have hnb59 := NB349_348.out
  have hnc59 := NB348_349.out
  obtain ⟨hcz60_0, hcz60_1, hcz60_2, hcz60_3, hfz60_0, hfz60_1, hfz60_2, hfz60_3⟩ := cf4 BK349.out
  try go_wp2
  refine bodyPost_ret (results_ct rfl _ _ gb349 28 #[.int .i64 0, .int .i64 0, .int .i64 0, .slice none 0 0] (0, 0) _ rfl (by (with_reducible repeat (first | refine kdN ?_ _ | refine kdr ?_ | refine kal ?_ _)); refine blk_put (cs := #[.int .i64 0, .int .i64 0, .int .i64 0, .slice none 0 0]) ?_ 3 _ rfl; (with_reducible repeat (first | refine kdN ?_ _ | refine kdr ?_ | refine kal ?_ _)); refine blk_put (cs := #[.int .i64 0, .int .i64 0, .int .i64 0, .slice none 0 0]) ?_ 2 _ rfl; (with_reducible repeat (first | refine kdN ?_ _ | refine kdr ?_ | refine kal ?_ _)); refine blk_put (cs := #[.int .i64 0, .int .i64 0, .int .i64 0, .slice none 0 0]) ?_ 1 _ rfl; (with_reducible repeat (first | refine kdN ?_ _ | refine kdr ?_ | refine kal ?_ _)); refine blk_put (cs := #[.int .i64 0, .int .i64 0, .int .i64 0, .slice none 0 0]) ?_ 0 _ rfl; (with_reducible repeat (first | refine kdN ?_ _ | refine kdr ?_ | refine kal ?_ _)); exact BK349.out) Try.underlying28 rfl (by kernel_rfl)) rfl ?_
  exact ⟨_, rr, by first | exact Kd.R_nil _ _ _ _ _ | exact Kd.N_nil _ _ _ _ _ | exact Kd.V_nil _ _ _ _ _ | exact Kd.Q_nil _ _ _ _ _ | exact Kd.S_nil _ _ _ _ _, bb HB⟩
 subst c8
 have H1 : ((r2_Is.f k a0_0 l0_1 a1 a2_0 a2_1 a2_2 l2_3).bind fun t355 => (if t355 = true then ((r12_plain.f k a2_0 a2_1 a2_2 l2_3 (l0_1.length : Int)).bind fun bt356 => (some (bt356.1, bt356.2.1, bt356.2.2.1, bt356.2.2.2, 0))) else (some (0, 0, 0, ([] : List (S28)), 20)))) = some (r1, r2, r3, r4, r5) := by rw [if_pos rfl] at H; exact H
 clear H
 have H := H1
 clear H1
 obtain ⟨t355, A9, H⟩ := be H
 replace H : (if t355 = true then ((r12_plain.f k a2_0 a2_1 a2_2 l2_3 (l0_1.length : Int)).bind fun bt356 => (some (bt356.1, bt356.2.1, bt356.2.2.1, bt356.2.2.2, 0))) else (some (0, 0, 0, ([] : List (S28)), 20))) = some (r1, r2, r3, r4, r5) := H
 by_cases c10 : t355 = true
 rotate_left
 ·replace c10 := Bool.eq_false_iff.mpr c10
  subst c10
  have H1 : (some (0, 0, 0, ([] : List (S28)), 20)) = some (r1, r2, r3, r4, r5) := by rw [if_neg (show ¬ (false = true) by decide)] at H; exact H
  clear H
  have H := H1
  clear H1
  simp only [Option.some.injEq, Prod.mk.injEq] at H
  obtain ⟨rfl, rfl, rfl, rfl, rfl⟩ := H
  go_enter Try.func13, Try.ntmps13
  try go_wp2_with (first | ((with_reducible refine gate_dst (N := 3) rfl ?_); refine bx 3 rfl rfl #[.int .i64 a0_0, .slice A0_1 l0_1.length c0_1, .slice A0_2 l0_2.length c0_2] 25 ?_; intro gb347 hg w32 hbox hb; have BK347 := Aside0.mk (hbox); have GW347 := ge HB hg; have GE347 := ge HB hg; replace HB := sb HB hb; clear hb hbox hg) | ((with_reducible refine gate_dst (N := 5) rfl ?_); refine bx 5 rfl rfl #[.int .i64 a2_0, .int .i64 a2_1, .int .i64 a2_2, .slice A2_3 l2_3.length c2_3] 28 ?_; intro gb348 hg w33 hbox hb; have BK348 := Aside0.mk (hbox); have GW348 := ge HB hg; have GE348 := ge HB hg; have NB347_348 := nl BK347 hg; have NB348_347 := ng BK347 hg; replace BK347 := kb BK347 hb; replace HB := sb HB hb; clear hb hbox hg) | ((with_reducible refine gate_dst (N := 6) rfl ?_); refine bx 6 rfl rfl #[.int .i64 0, .int .i64 0, .int .i64 0, .slice none 0 0] 28 ?_; intro gb349 hg w34 hbox hb; have BK349 := Aside0.mk (hbox); have GW349 := ge HB hg; have GE349 := ge HB hg; have NB347_349 := nl BK347 hg; have NB349_347 := ng BK347 hg; have NB348_349 := nl BK348 hg; have NB349_348 := ng BK348 hg; replace BK347 := kb BK347 hb; replace BK348 := kb BK348 hb; replace HB := sb HB hb; clear hb hbox hg; have hnb35 := NB347_348.out; have hnc35 := NB348_347.out; have hnb36 := NB347_349.out; have hnc36 := NB349_347.out; obtain ⟨hcz37_0, hcz37_1, hcz37_2, hfz37_0, hfz37_1, hfz37_2⟩ := cf3 BK347.out) | ((with_reducible refine gate_callee (f := 18) rfl ?_); refine gL (some 11) rfl rfl Try.func18 #[.agg #[.int .i64 a0_0, .slice A0_1 l0_1.length c0_1, .slice A0_2 l0_2.length c0_2], .int .i64 a1] rfl ?_; (with_reducible refine (r12_Copies.calls k a0_0 _ _ l0_1 _ _ l0_2 a1 t350 _ ?side1 ?side2 ?side3 ?side4 A4.out).mono ?_); (case side1 => exact cb HR0_1 HB); (case side2 => exact HC0_1.out); (case side3 => exact cb HR0_2 HB); (case side4 => exact HC0_2.out); rintro e w38 ⟨rfl, hb⟩; refine ⟨_, rfl, ?_⟩; replace BK347 := kb BK347 hb; replace BK348 := kb BK348 hb; replace BK349 := kb BK349 hb; replace HB := sb HB hb; (try clear hb); (try clear hb2); (try clear hk); (try clear hi)))
  replace BK347 := Aside0.mk (kdr BK347.out)
  replace BK348 := Aside0.mk (kdr BK348.out)
  replace BK349 := Aside0.mk (kdr BK349.out)
  replace HB := Aside0.mk (bd1 HB.out)
  refine start_ (n := 8) (S := fun w' => w'.cell? ⟨gb347, 0, none⟩ = some (.int .i64 a0_0) ∧ w'.cell? ⟨gb347, 1, none⟩ = some (.slice A0_1 l0_1.length c0_1) ∧ w'.cell? ⟨gb347, 2, none⟩ = some (.slice A0_2 l0_2.length c0_2)) (ds := []) #[false, false, false, false, false, false, false, false] (by kernel_rfl) rfl rfl ⟨(blk_cell BK347.out 0).trans rfl, (blk_cell BK347.out 1).trans rfl, (blk_cell BK347.out 2).trans rfl⟩ (fun hHeld => ?_); refine with_tabW r12_Plain.tab4 r12_Plain.bits4 (fun HT_ HW_ => ?_)
  generalize w38.drew = w39 at BK347 BK348 BK349 HB hHeld ⊢
  refine pu (i := 0) (N := some 16) #[true, false, false, false, false, false, false, false] rfl rfl (any_of HT_.out (by kernel_rfl)) ?_
  refine pu (i := 2) (N := some 18) #[true, false, true, false, false, false, false, false] rfl rfl (any_of HT_.out (by kernel_rfl)) ?_
  refine pu (i := 4) (N := some 20) #[true, false, true, false, true, false, false, false] rfl rfl (any_of HT_.out (by kernel_rfl)) ?_
  refine tk (i := 1) (N := some 17) #[true, true, true, false, true, false, false, false] rfl rfl (take_ofW HT_.out HW_.out (by kernel_rfl)) hHeld ?_
  refine tk (i := 3) (N := some 19) #[true, true, true, true, true, false, false, false] rfl rfl (take_ofW HT_.out HW_.out (by kernel_rfl)) hHeld ?_
  refine one_ (i := 5) (N := some 21) #[true, true, true, true, true, true, false, false] rfl rfl (one_of HT_.out (by kernel_rfl)) (by decide) (fun K hK => ?_)
  refine gO Try.func22 #[.slice A0_1 l0_1.length c0_1, .int .i64 a1] (by rfl) rfl rfl ?_
  with_reducible refine (r12_Vars.calls k _ _ l0_1 a1 t351 _ ?side1 ?side2 A6.out).mono ?_
  (case side1 => exact cb HR0_1 HB)
  (case side2 => exact HC0_1.out)
  rintro e w40 ⟨v352, rfl, ho0, hb⟩
  refine ⟨_, rfl, ?_⟩
  have HO353 := Aside0.mk (Kd.R_lower ho0 (bsz (bb HB)))
  replace BK347 := kb BK347 hb
  replace BK348 := kb BK348 hb
  replace BK349 := kb BK349 hb
  replace HB := sb HB hb
  (try clear hb)
  (try clear hb2)
  (try clear hk)
  (try clear hi)
  (try clear ho0)
  obtain ⟨Ao41, co41, eo41⟩ := Kd.R_slice HO353.out
  (first | subst eo41 | (injection eo41 with f1_ f2_ f3_; have f4_ := f1_.symm; have f5_ := f3_.symm; clear f1_ f2_ f3_; subst f4_; subst f5_))
  refine hK.out _ _ ⟨(blk_cell BK347.out 0).trans rfl, (blk_cell BK347.out 1).trans rfl, (blk_cell BK347.out 2).trans rfl⟩ (fun hHeld => ?_)
  clear hK K
  refine nm 21 ?_
  refine one_ (i := 6) (N := some 22) #[true, true, true, true, true, true, true, false] rfl rfl (one_of HT_.out (by kernel_rfl)) (by decide) (fun K hK => ?_)
  refine gO Try.func50 #[.int .i64 a0_0, .slice Ao41 t351.length co41] (by rfl) rfl rfl ?_
  with_reducible refine (r2_Heading.calls k a0_0 _ _ t351 true _ ?side1 ?side2 A7.out).mono ?_
  (case side1 => repeat (first | exact (Kd.R_reads' HO353.out).2.2 | with_reducible first | apply Kd.C_alloc | apply Kd.C_drewN | apply Kd.C_drew))
  (case side2 => exact (Kd.R_reads' HO353.out).2.1)
  rintro e w42 ⟨rfl, hb⟩
  refine ⟨_, rfl, ?_⟩
  replace HO353 := Aside0.mk (Kd.R_below (by (with_reducible repeat (first | apply Kd.R_alloc | apply Kd.R_drewN | apply Kd.R_drew)); exact HO353.out) hb)
  replace BK347 := kb BK347 hb
  replace BK348 := kb BK348 hb
  replace BK349 := kb BK349 hb
  replace HB := sb HB hb
  (try clear hb)
  (try clear hb2)
  (try clear hk)
  (try clear hi)
  refine hK.out _ _ ⟨(blk_cell BK347.out 0).trans rfl, (blk_cell BK347.out 1).trans rfl, (blk_cell BK347.out 2).trans rfl⟩ (fun hHeld => ?_)
  clear hK K
  refine nm 22 ?_
  refine pu (i := 7) (N := some 23) #[true, true, true, true, true, true, true, true] rfl rfl (any_of HT_.out (by kernel_rfl)) ?_
  refine done_ (done_of HT_.out (by kernel_rfl)) ?_
  obtain ⟨hcz43_0, hcz43_1, hcz43_2, hfz43_0, hfz43_1, hfz43_2⟩ := cf3 BK347.out
  have hnb44 := NB348_349.out
  have hnc44 := NB349_348.out
  obtain ⟨hcz45_0, hcz45_1, hcz45_2, hcz45_3, hfz45_0, hfz45_1, hfz45_2, hfz45_3⟩ := cf4 BK348.out
  try go_wp2_with (first | ((with_reducible refine gate_callee (f := 20) rfl ?_); refine gL (some 31) rfl rfl Try.func20 #[.int .i64 a0_0, .slice A0_1 l0_1.length c0_1, .int .i64 a1, .agg #[.int .i64 a2_0, .int .i64 a2_1, .int .i64 a2_2, .slice A2_3 l2_3.length c2_3]] rfl ?_; (with_reducible refine (r2_Is.calls k a0_0 _ _ l0_1 a1 a2_0 a2_1 a2_2 _ _ l2_3 false _ ?side1 ?side2 ?side3 ?side4 A9.out).mono ?_); (case side1 => exact cb HR0_1 HB); (case side2 => exact HC0_1.out); (case side3 => exact cb HR2_3 HB); (case side4 => exact HC2_3.out); rintro e w46 ⟨rfl, hb⟩; refine ⟨_, rfl, ?_⟩; replace HO353 := Aside0.mk (Kd.R_below (by (with_reducible repeat (first | apply Kd.R_alloc | apply Kd.R_drewN | apply Kd.R_drew)); exact HO353.out) hb); replace BK347 := kb BK347 hb; replace BK348 := kb BK348 hb; replace BK349 := kb BK349 hb; replace HB := sb HB hb; (try clear hb); (try clear hb2); (try clear hk); (try clear hi); obtain ⟨hcz47_0, hcz47_1, hcz47_2, hcz47_3, hfz47_0, hfz47_1, hfz47_2, hfz47_3⟩ := cf4 BK349.out))
  refine bodyPost_ret (results_ct rfl _ _ gb349 28 #[.int .i64 0, .int .i64 0, .int .i64 0, .slice none 0 0] (0, 0) _ rfl (by (with_reducible repeat (first | refine kdN ?_ _ | refine kdr ?_ | refine kal ?_ _)); refine blk_put (cs := #[.int .i64 0, .int .i64 0, .int .i64 0, .slice none 0 0]) ?_ 3 _ rfl; (with_reducible repeat (first | refine kdN ?_ _ | refine kdr ?_ | refine kal ?_ _)); refine blk_put (cs := #[.int .i64 0, .int .i64 0, .int .i64 0, .slice none 0 0]) ?_ 2 _ rfl; (with_reducible repeat (first | refine kdN ?_ _ | refine kdr ?_ | refine kal ?_ _)); refine blk_put (cs := #[.int .i64 0, .int .i64 0, .int .i64 0, .slice none 0 0]) ?_ 1 _ rfl; (with_reducible repeat (first | refine kdN ?_ _ | refine kdr ?_ | refine kal ?_ _)); refine blk_put (cs := #[.int .i64 0, .int .i64 0, .int .i64 0, .slice none 0 0]) ?_ 0 _ rfl; (with_reducible repeat (first | refine kdN ?_ _ | refine kdr ?_ | refine kal ?_ _)); exact BK349.out) Try.underlying28 rfl (by kernel_rfl)) rfl ?_
  exact ⟨_, rr, by first | exact Kd.R_nil _ _ _ _ _ | exact Kd.N_nil _ _ _ _ _ | exact Kd.V_nil _ _ _ _ _ | exact Kd.Q_nil _ _ _ _ _ | exact Kd.S_nil _ _ _ _ _, bb HB⟩
 subst c10
 have H1 : ((r12_plain.f k a2_0 a2_1 a2_2 l2_3 (l0_1.length : Int)).bind fun bt356 => (some (bt356.1, bt356.2.1, bt356.2.2.1, bt356.2.2.2, 0))) = some (r1, r2, r3, r4, r5) := by rw [if_pos rfl] at H; exact H
 clear H
 have H := H1
 clear H1
 replace H := Option.bind_eq_some_iff.mp H
 obtain ⟨⟨t356, t357, t358, t359⟩, A110, H⟩ := H
 replace H : (some (t356, t357, t358, t359, 0)) = some (r1, r2, r3, r4, r5) := H
 have A11 := Aside0.mk A110
 clear A110
 simp only [Option.some.injEq, Prod.mk.injEq] at H
 obtain ⟨rfl, rfl, rfl, rfl, rfl⟩ := H
 go_enter Try.func13, Try.ntmps13
 try go_wp2_with (first | ((with_reducible refine gate_dst (N := 3) rfl ?_); refine bx 3 rfl rfl #[.int .i64 a0_0, .slice A0_1 l0_1.length c0_1, .slice A0_2 l0_2.length c0_2] 25 ?_; intro gb347 hg w12 hbox hb; have BK347 := Aside0.mk (hbox); have GW347 := ge HB hg; have GE347 := ge HB hg; replace HB := sb HB hb; clear hb hbox hg) | ((with_reducible refine gate_dst (N := 5) rfl ?_); refine bx 5 rfl rfl #[.int .i64 a2_0, .int .i64 a2_1, .int .i64 a2_2, .slice A2_3 l2_3.length c2_3] 28 ?_; intro gb348 hg w13 hbox hb; have BK348 := Aside0.mk (hbox); have GW348 := ge HB hg; have GE348 := ge HB hg; have NB347_348 := nl BK347 hg; have NB348_347 := ng BK347 hg; replace BK347 := kb BK347 hb; replace HB := sb HB hb; clear hb hbox hg) | ((with_reducible refine gate_dst (N := 6) rfl ?_); refine bx 6 rfl rfl #[.int .i64 0, .int .i64 0, .int .i64 0, .slice none 0 0] 28 ?_; intro gb349 hg w14 hbox hb; have BK349 := Aside0.mk (hbox); have GW349 := ge HB hg; have GE349 := ge HB hg; have NB347_349 := nl BK347 hg; have NB349_347 := ng BK347 hg; have NB348_349 := nl BK348 hg; have NB349_348 := ng BK348 hg; replace BK347 := kb BK347 hb; replace BK348 := kb BK348 hb; replace HB := sb HB hb; clear hb hbox hg; have hnb15 := NB347_348.out; have hnc15 := NB348_347.out; have hnb16 := NB347_349.out; have hnc16 := NB349_347.out; obtain ⟨hcz17_0, hcz17_1, hcz17_2, hfz17_0, hfz17_1, hfz17_2⟩ := cf3 BK347.out) | ((with_reducible refine gate_callee (f := 18) rfl ?_); refine gL (some 11) rfl rfl Try.func18 #[.agg #[.int .i64 a0_0, .slice A0_1 l0_1.length c0_1, .slice A0_2 l0_2.length c0_2], .int .i64 a1] rfl ?_; (with_reducible refine (r12_Copies.calls k a0_0 _ _ l0_1 _ _ l0_2 a1 t350 _ ?side1 ?side2 ?side3 ?side4 A4.out).mono ?_); (case side1 => exact cb HR0_1 HB); (case side2 => exact HC0_1.out); (case side3 => exact cb HR0_2 HB); (case side4 => exact HC0_2.out); rintro e w18 ⟨rfl, hb⟩; refine ⟨_, rfl, ?_⟩; replace BK347 := kb BK347 hb; replace BK348 := kb BK348 hb; replace BK349 := kb BK349 hb; replace HB := sb HB hb; (try clear hb); (try clear hb2); (try clear hk); (try clear hi)))
 replace BK347 := Aside0.mk (kdr BK347.out)
 replace BK348 := Aside0.mk (kdr BK348.out)
 replace BK349 := Aside0.mk (kdr BK349.out)
 replace HB := Aside0.mk (bd1 HB.out)
 refine start_ (n := 8) (S := fun w' => w'.cell? ⟨gb347, 0, none⟩ = some (.int .i64 a0_0) ∧ w'.cell? ⟨gb347, 1, none⟩ = some (.slice A0_1 l0_1.length c0_1) ∧ w'.cell? ⟨gb347, 2, none⟩ = some (.slice A0_2 l0_2.length c0_2)) (ds := []) #[false, false, false, false, false, false, false, false] (by kernel_rfl) rfl rfl ⟨(blk_cell BK347.out 0).trans rfl, (blk_cell BK347.out 1).trans rfl, (blk_cell BK347.out 2).trans rfl⟩ (fun hHeld => ?_); refine with_tabW r12_Plain.tab4 r12_Plain.bits4 (fun HT_ HW_ => ?_)
 generalize w18.drew = w19 at BK347 BK348 BK349 HB hHeld ⊢
 refine pu (i := 0) (N := some 16) #[true, false, false, false, false, false, false, false] rfl rfl (any_of HT_.out (by kernel_rfl)) ?_
 refine pu (i := 2) (N := some 18) #[true, false, true, false, false, false, false, false] rfl rfl (any_of HT_.out (by kernel_rfl)) ?_
 refine pu (i := 4) (N := some 20) #[true, false, true, false, true, false, false, false] rfl rfl (any_of HT_.out (by kernel_rfl)) ?_
 refine tk (i := 1) (N := some 17) #[true, true, true, false, true, false, false, false] rfl rfl (take_ofW HT_.out HW_.out (by kernel_rfl)) hHeld ?_
 refine tk (i := 3) (N := some 19) #[true, true, true, true, true, false, false, false] rfl rfl (take_ofW HT_.out HW_.out (by kernel_rfl)) hHeld ?_
 refine one_ (i := 5) (N := some 21) #[true, true, true, true, true, true, false, false] rfl rfl (one_of HT_.out (by kernel_rfl)) (by decide) (fun K hK => ?_)
 refine gO Try.func22 #[.slice A0_1 l0_1.length c0_1, .int .i64 a1] (by rfl) rfl rfl ?_
 with_reducible refine (r12_Vars.calls k _ _ l0_1 a1 t351 _ ?side1 ?side2 A6.out).mono ?_
 (case side1 => exact cb HR0_1 HB)
 (case side2 => exact HC0_1.out)
 rintro e w20 ⟨v352, rfl, ho0, hb⟩
 refine ⟨_, rfl, ?_⟩
 have HO353 := Aside0.mk (Kd.R_lower ho0 (bsz (bb HB)))
 replace BK347 := kb BK347 hb
 replace BK348 := kb BK348 hb
 replace BK349 := kb BK349 hb
 replace HB := sb HB hb
 (try clear hb)
 (try clear hb2)
 (try clear hk)
 (try clear hi)
 (try clear ho0)
 obtain ⟨Ao21, co21, eo21⟩ := Kd.R_slice HO353.out
 (first | subst eo21 | (injection eo21 with f1_ f2_ f3_; have f4_ := f1_.symm; have f5_ := f3_.symm; clear f1_ f2_ f3_; subst f4_; subst f5_))
 refine hK.out _ _ ⟨(blk_cell BK347.out 0).trans rfl, (blk_cell BK347.out 1).trans rfl, (blk_cell BK347.out 2).trans rfl⟩ (fun hHeld => ?_)
 clear hK K
 refine nm 21 ?_
 refine one_ (i := 6) (N := some 22) #[true, true, true, true, true, true, true, false] rfl rfl (one_of HT_.out (by kernel_rfl)) (by decide) (fun K hK => ?_)
 refine gO Try.func50 #[.int .i64 a0_0, .slice Ao21 t351.length co21] (by rfl) rfl rfl ?_
 with_reducible refine (r2_Heading.calls k a0_0 _ _ t351 true _ ?side1 ?side2 A7.out).mono ?_
 (case side1 => repeat (first | exact (Kd.R_reads' HO353.out).2.2 | with_reducible first | apply Kd.C_alloc | apply Kd.C_drewN | apply Kd.C_drew))
 (case side2 => exact (Kd.R_reads' HO353.out).2.1)
 rintro e w22 ⟨rfl, hb⟩
 refine ⟨_, rfl, ?_⟩
 replace HO353 := Aside0.mk (Kd.R_below (by (with_reducible repeat (first | apply Kd.R_alloc | apply Kd.R_drewN | apply Kd.R_drew)); exact HO353.out) hb)
 replace BK347 := kb BK347 hb
 replace BK348 := kb BK348 hb
 replace BK349 := kb BK349 hb
 replace HB := sb HB hb
 (try clear hb)
 (try clear hb2)
 (try clear hk)
 (try clear hi)
 refine hK.out _ _ ⟨(blk_cell BK347.out 0).trans rfl, (blk_cell BK347.out 1).trans rfl, (blk_cell BK347.out 2).trans rfl⟩ (fun hHeld => ?_)
 clear hK K
 refine nm 22 ?_
 refine pu (i := 7) (N := some 23) #[true, true, true, true, true, true, true, true] rfl rfl (any_of HT_.out (by kernel_rfl)) ?_
 refine done_ (done_of HT_.out (by kernel_rfl)) ?_
 obtain ⟨hcz23_0, hcz23_1, hcz23_2, hfz23_0, hfz23_1, hfz23_2⟩ := cf3 BK347.out
 have hnb24 := NB348_349.out
 have hnc24 := NB349_348.out
 obtain ⟨hcz25_0, hcz25_1, hcz25_2, hcz25_3, hfz25_0, hfz25_1, hfz25_2, hfz25_3⟩ := cf4 BK348.out
 try go_wp2_with (first | ((with_reducible refine gate_callee (f := 20) rfl ?_); refine gL (some 31) rfl rfl Try.func20 #[.int .i64 a0_0, .slice A0_1 l0_1.length c0_1, .int .i64 a1, .agg #[.int .i64 a2_0, .int .i64 a2_1, .int .i64 a2_2, .slice A2_3 l2_3.length c2_3]] rfl ?_; (with_reducible refine (r2_Is.calls k a0_0 _ _ l0_1 a1 a2_0 a2_1 a2_2 _ _ l2_3 true _ ?side1 ?side2 ?side3 ?side4 A9.out).mono ?_); (case side1 => exact cb HR0_1 HB); (case side2 => exact HC0_1.out); (case side3 => exact cb HR2_3 HB); (case side4 => exact HC2_3.out); rintro e w26 ⟨rfl, hb⟩; refine ⟨_, rfl, ?_⟩; replace HO353 := Aside0.mk (Kd.R_below (by (with_reducible repeat (first | apply Kd.R_alloc | apply Kd.R_drewN | apply Kd.R_drew)); exact HO353.out) hb); replace BK347 := kb BK347 hb; replace BK348 := kb BK348 hb; replace BK349 := kb BK349 hb; replace HB := sb HB hb; (try clear hb); (try clear hb2); (try clear hk); (try clear hi); obtain ⟨hcz27_0, hcz27_1, hcz27_2, hcz27_3, hfz27_0, hfz27_1, hfz27_2, hfz27_3⟩ := cf4 BK348.out; obtain ⟨hcz28_0, hcz28_1, hcz28_2, hfz28_0, hfz28_1, hfz28_2⟩ := cf3 BK347.out) | ((with_reducible refine gate_callee (f := 51) rfl ?_); refine gL (some 38) rfl rfl Try.func51 #[.agg #[.int .i64 a2_0, .int .i64 a2_1, .int .i64 a2_2, .slice A2_3 l2_3.length c2_3], .int .i64 (l0_1.length : Int)] rfl ?_; (with_reducible refine (r12_plain.calls k a2_0 a2_1 a2_2 _ _ l2_3 (l0_1.length : Int) t356 t357 t358 t359 _ ?side1 ?side2 A11.out).mono ?_); (case side1 => exact cb HR2_3 HB); (case side2 => exact HC2_3.out); rintro e w29 ⟨v360, rfl, ho0, hb⟩; refine ⟨_, rfl, ?_⟩; have HO361 := Aside0.mk (Kd.R_lower (Kd.R_newB (Kd.R_newB ho0 (g := gb348) (o := .cells #[.int .i64 a2_0, .int .i64 a2_1, .int .i64 a2_2, .slice A2_3 l2_3.length c2_3] 28 (0, 0)) (by (with_reducible repeat (first | refine kdN ?_ _ | refine kdr ?_ | refine kal ?_ _)); exact BK348.out)) (g := gb349) (o := .cells #[.int .i64 0, .int .i64 0, .int .i64 0, .slice none 0 0] 28 (0, 0)) (by (with_reducible repeat (first | refine kdN ?_ _ | refine kdr ?_ | refine kal ?_ _)); exact BK349.out)) (bsz (bb HB))); replace HO353 := Aside0.mk (Kd.R_below (by (with_reducible repeat (first | apply Kd.R_alloc | apply Kd.R_drewN | apply Kd.R_drew)); exact HO353.out) hb); replace BK347 := kb BK347 hb; replace BK348 := kb BK348 hb; replace BK349 := kb BK349 hb; replace HB := sb HB hb; (try clear hb); (try clear hb2); (try clear hk); (try clear hi); (try clear ho0); obtain ⟨hcz30_0, hcz30_1, hcz30_2, hcz30_3, hfz30_0, hfz30_1, hfz30_2, hfz30_3⟩ := cf4 BK349.out; obtain ⟨Ao31, co31, eo31⟩ := Kd.R_slice HO361.out; subst eo31))
 refine bodyPost_ret (results_ct rfl _ _ gb349 28 #[.int .i64 t356, .int .i64 t357, .int .i64 t358, .slice Ao31 t359.length co31] (0, 0) _ rfl (by (with_reducible repeat (first | refine kdN ?_ _ | refine kdr ?_ | refine kal ?_ _)); refine blk_put (cs := #[.int .i64 t356, .int .i64 t357, .int .i64 t358, .slice none 0 0]) ?_ 3 _ rfl; (with_reducible repeat (first | refine kdN ?_ _ | refine kdr ?_ | refine kal ?_ _)); refine blk_put (cs := #[.int .i64 t356, .int .i64 t357, .int .i64 0, .slice none 0 0]) ?_ 2 _ rfl; (with_reducible repeat (first | refine kdN ?_ _ | refine kdr ?_ | refine kal ?_ _)); refine blk_put (cs := #[.int .i64 t356, .int .i64 0, .int .i64 0, .slice none 0 0]) ?_ 1 _ rfl; (with_reducible repeat (first | refine kdN ?_ _ | refine kdr ?_ | refine kal ?_ _)); refine blk_put (cs := #[.int .i64 0, .int .i64 0, .int .i64 0, .slice none 0 0]) ?_ 0 _ rfl; (with_reducible repeat (first | refine kdN ?_ _ | refine kdr ?_ | refine kal ?_ _)); exact BK349.out) Try.underlying28 rfl (by kernel_rfl)) rfl ?_
 exact ⟨_, rr, by (with_reducible repeat (first | apply Kd.R_alloc | apply Kd.R_drewN | apply Kd.R_drew)); exact Kd.R_mono (Kd.R_far (p := ⟨gb349, 3, none⟩) (Kd.R_far (p := ⟨gb349, 2, none⟩) (Kd.R_far (p := ⟨gb349, 1, none⟩) (Kd.R_far (p := ⟨gb349, 0, none⟩) (Kd.R_mono HO361.out (fun k_ hk => (⟨hk, hk.2⟩ : _ ∧ k_ ≠ gb349))) (fun _ hk => hk.2) (.int .i64 t356)) (fun _ hk => hk.2) (.int .i64 t357)) (fun _ hk => hk.2) (.int .i64 t358)) (fun _ hk => hk.2) (.slice Ao31 t359.length co31)) (fun _ hk => trivial), bb HB⟩
mutual
def r2_Same.j0 : Nat → Bool → Int → Int → Int → List (S28) → Int → Int → Int → List (S28) → Option (Bool)
 | 0, _, _, _, _, _, _, _, _, _ => none
 | k + 1, x33, x154000, x154001, x154002, x154003, x155000, x155001, x155002, x155003 => if x33 = true then (some false) else (r2_Same.l0 k 0 x154000 x154001 x154002 x154003 x155000 x155001 x155002 x155003)
def r2_Same.l0 : Nat → Int → Int → Int → Int → List (S28) → Int → Int → Int → List (S28) → Option (Bool)
 | 0, _, _, _, _, _, _, _, _, _ => none
 | k + 1, x5, x154000, x154001, x154002, x154003, x155000, x155001, x155002, x155003 => if x5 < (x154003.length : Int) then (if 0 ≤ x5 then (if x5 < (x155003.length : Int) then ((r2_Same.f k ((rd_T28 x154003 x5).f0) ((rd_T28 x154003 x5).f1) ((rd_T28 x154003 x5).f2) ((rd_T28 x154003 x5).f3) ((rd_T28 x155003 x5).f0) ((rd_T28 x155003 x5).f1) ((rd_T28 x155003 x5).f2) ((rd_T28 x155003 x5).f3)).bind fun t157 => (if t157 = true then (r2_Same.l0 k (wrap64 (x5 + 1)) x154000 x154001 x154002 x154003 x155000 x155001 x155002 x155003) else (some false))) else (none)) else (none)) else (some true)
def r2_Same.f : Nat → Int → Int → Int → List (S28) → Int → Int → Int → List (S28) → Option (Bool)
 | 0, _, _, _, _, _, _, _, _ => none
 | k + 1, a0_0, a0_1, a0_2, l0_3, a1_0, a1_1, a1_2, l1_3 => if a0_0 = a1_0 then (if a0_1 = a1_1 then (if a0_2 = a1_2 then (r2_Same.j0 k ((l0_3.length : Int) != (l1_3.length : Int)) a0_0 a0_1 a0_2 l0_3 a1_0 a1_1 a1_2 l1_3) else (r2_Same.j0 k true a0_0 a0_1 a0_2 l0_3 a1_0 a1_1 a1_2 l1_3)) else (r2_Same.j0 k true a0_0 a0_1 a0_2 l0_3 a1_0 a1_1 a1_2 l1_3)) else (r2_Same.j0 k true a0_0 a0_1 a0_2 l0_3 a1_0 a1_1 a1_2 l1_3)
end
def r2_Same.T6 : Bool × List (List Nat × List Nat) := (true, [([], []), ([0], [0]), ([], []), ([1, 2], [1, 2]), ([3], [3]), ([], []), ([5], [5]), ([], []), ([6, 7], [6, 7]), ([8], [8]), ([4, 9], [4, 9]), ([10], [10])])
def r2_Same.B6 : List Nat := [0, 1, 0, 7, 15, 0, 32, 0, 224, 480, 1023, 2047]
theorem r2_Same.tab6 : rtab .any (opsOf Try.f14 6) = r2_Same.T6 := by kernel_rfl
theorem r2_Same.bits6 : waitsOk r2_Same.T6.2 r2_Same.B6 = true := by kernel_rfl
set_option maxHeartbeats 8000000 in
set_option maxRecDepth 100000 in
theorem r2_Same.calls (k : Nat) : ∀ (a0_0 : Int) (a0_1 : Int) (a0_2 : Int) (A0_3 : Option Addr) (c0_3 : Nat) (l0_3 : List (S28)) (a1_0 : Int) (a1_1 : Int) (a1_2 : Int) (A1_3 : Option Addr) (c1_3 : Nat) (l1_3 : List (S28)) (r : Bool) (w : World) (hr0_3 : Kd.C k28 w A0_3 l0_3.length l0_3) (hc0_3 : l0_3.length ≤ c0_3) (hr1_3 : Kd.C k28 w A1_3 l1_3.length l1_3) (hc1_3 : l1_3.length ≤ c1_3) (h : r2_Same.f k a0_0 a0_1 a0_2 l0_3 a1_0 a1_1 a1_2 l1_3 = some r),
  Calls Try.prog 14 #[.agg #[.int .i64 a0_0, .int .i64 a0_1, .int .i64 a0_2, .slice A0_3 l0_3.length c0_3], .agg #[.int .i64 a1_0, .int .i64 a1_1, .int .i64 a1_2, .slice A1_3 l1_3.length c1_3]] w fun e w' => e = .returned (.bool r) ∧ Below w.heap.size w w' := by
 induction k using Nat.strongRecOn with
 | _ k ih =>
 intro a0_0 a0_1 a0_2 A0_3 c0_3 l0_3 a1_0 a1_1 a1_2 A1_3 c1_3 l1_3 r w hr0_3 hc0_3 hr1_3 hc1_3 h
 cases k with
 | zero => exact absurd h (by simp [r2_Same.f])
 | succ k =>
 simp only [r2_Same.f] at h
 have hu28 := Try.underlying28
 have HR0_3 := Aside0.mk hr0_3
 have HC0_3 := Aside0.mk hc0_3
 clear hr0_3 hc0_3
 have HR1_3 := Aside0.mk hr1_3
 have HC1_3 := Aside0.mk hc1_3
 clear hr1_3 hc1_3
 have HB := Aside0.mk (Below.refl w.heap.size w)
 have H : (if a0_0 = a1_0 then (if a0_1 = a1_1 then (if a0_2 = a1_2 then (r2_Same.j0 k ((l0_3.length : Int) != (l1_3.length : Int)) a0_0 a0_1 a0_2 l0_3 a1_0 a1_1 a1_2 l1_3) else (r2_Same.j0 k true a0_0 a0_1 a0_2 l0_3 a1_0 a1_1 a1_2 l1_3)) else (r2_Same.j0 k true a0_0 a0_1 a0_2 l0_3 a1_0 a1_1 a1_2 l1_3)) else (r2_Same.j0 k true a0_0 a0_1 a0_2 l0_3 a1_0 a1_1 a1_2 l1_3)) = some r := h
 clear h
 have HC3 := Aside0.mk H
 clear H
 go_enter Try.func14, Try.ntmps14
 go_upto_region 1 with (first | ((with_reducible refine gate_dst (N := 2) rfl ?_); (try (refine gate_guard (by rfl) ?_; dsimp only)); refine bx 2 rfl rfl #[.int .i64 a0_0, .int .i64 a0_1, .int .i64 a0_2, .slice A0_3 l0_3.length c0_3] 28 ?_; intro gb153 hg w4 hbox hb; have BK153 := Aside0.mk (hbox); have GW153 := ge HB hg; have GE153 := ge HB hg; replace HB := sb HB hb; clear hb hbox hg) | ((with_reducible refine gate_dst (N := 3) rfl ?_); (try (refine gate_guard (by rfl) ?_; dsimp only)); refine bx 3 rfl rfl #[.int .i64 a1_0, .int .i64 a1_1, .int .i64 a1_2, .slice A1_3 l1_3.length c1_3] 28 ?_; intro gb154 hg w5 hbox hb; have BK154 := Aside0.mk (hbox); have GW154 := ge HB hg; have GE154 := ge HB hg; have NB153_154 := nl BK153 hg; have NB154_153 := ng BK153 hg; replace BK153 := kb BK153 hb; replace HB := sb HB hb; clear hb hbox hg))
 (try simp only [Act.put, List.setIfInBounds_toArray, List.set_cons_zero, List.set_cons_succ])
 go_cut [33] (fun v33 wc => ∃ (kq : Nat) (x33_2 : Bool), v33 = .bool x33_2 ∧ Aside0 (r2_Same.j0 kq x33_2 a0_0 a0_1 a0_2 l0_3 a1_0 a1_1 a1_2 l1_3 = some r) ∧ Aside0 (kq ≤ k) ∧ Aside0 (wc.heap[gb153]? = some (.cells #[.int .i64 a0_0, .int .i64 a0_1, .int .i64 a0_2, (.slice A0_3 l0_3.length c0_3)] 28 (0, 0))) ∧ Aside0 (wc.heap[gb154]? = some (.cells #[.int .i64 a1_0, .int .i64 a1_1, .int .i64 a1_2, (.slice A1_3 l1_3.length c1_3)] 28 (0, 0))) ∧ Aside0 (Below w.heap.size w wc))
 case first =>
  have H := HC3.out
  clear HC3
  by_cases c6 : a0_0 = a1_0
  rotate_left
  ·rw [if_neg c6] at H
   have c6b0 : (a0_0 == a1_0) = false := beq_eq_false_iff_ne.mpr c6
   have c6b1 : (a0_0 != a1_0) = true := bne_iff_ne.mpr c6
   (first | rw [c6b0] | (simp only [i64_w, i32_w]; rw [c6b0]) | skip)
   have H' := Aside0.mk H
   clear H
   have hnb18 := NB153_154.out
   have hnc18 := NB154_153.out
   obtain ⟨hcz19_0, hcz19_1, hcz19_2, hcz19_3, hfz19_0, hfz19_1, hfz19_2, hfz19_3⟩ := cf4 BK153.out
   obtain ⟨hcz20_0, hcz20_1, hcz20_2, hcz20_3, hfz20_0, hfz20_1, hfz20_2, hfz20_3⟩ := cf4 BK154.out
   go_wp2
   go_meet
   case rel => exact ⟨_, (true), rs, H', ⟨by first | omega | exact Nat.le_refl _⟩, ⟨by (with_reducible repeat (first | refine kdN ?_ _ | refine kdr ?_ | refine kal ?_ _)); exact BK153.out⟩, ⟨by (with_reducible repeat (first | refine kdN ?_ _ | refine kdr ?_ | refine kal ?_ _)); exact BK154.out⟩, ⟨bb HB⟩⟩
  rw [if_pos c6] at H
  have c6b0 : (a0_0 == a1_0) = true := beq_iff_eq.mpr c6
  have c6b1 : (a0_0 != a1_0) = false := bne_eq_false_iff_eq.mpr c6
  clear c6
  (first | rw [c6b0] | (simp only [i64_w, i32_w]; rw [c6b0]) | skip)
  by_cases c7 : a0_1 = a1_1
  rotate_left
  ·rw [if_neg c7] at H
   have c7b0 : (a0_1 == a1_1) = false := beq_eq_false_iff_ne.mpr c7
   have c7b1 : (a0_1 != a1_1) = true := bne_iff_ne.mpr c7
   have H' := Aside0.mk H
   clear H
   have hnb15 := NB153_154.out
   have hnc15 := NB154_153.out
   obtain ⟨hcz16_0, hcz16_1, hcz16_2, hcz16_3, hfz16_0, hfz16_1, hfz16_2, hfz16_3⟩ := cf4 BK153.out
   obtain ⟨hcz17_0, hcz17_1, hcz17_2, hcz17_3, hfz17_0, hfz17_1, hfz17_2, hfz17_3⟩ := cf4 BK154.out
   go_wp2
   go_meet
   case rel => exact ⟨_, (true), rs, H', ⟨by first | omega | exact Nat.le_refl _⟩, ⟨by (with_reducible repeat (first | refine kdN ?_ _ | refine kdr ?_ | refine kal ?_ _)); exact BK153.out⟩, ⟨by (with_reducible repeat (first | refine kdN ?_ _ | refine kdr ?_ | refine kal ?_ _)); exact BK154.out⟩, ⟨bb HB⟩⟩
  rw [if_pos c7] at H
  have c7b0 : (a0_1 == a1_1) = true := beq_iff_eq.mpr c7
  have c7b1 : (a0_1 != a1_1) = false := bne_eq_false_iff_eq.mpr c7
  clear c7
  by_cases c8 : a0_2 = a1_2
  rotate_left
  ·rw [if_neg c8] at H
   have c8b0 : (a0_2 == a1_2) = false := beq_eq_false_iff_ne.mpr c8
   have c8b1 : (a0_2 != a1_2) = true := bne_iff_ne.mpr c8
   have H' := Aside0.mk H
   clear H
   have hnb12 := NB153_154.out
   have hnc12 := NB154_153.out
   obtain ⟨hcz13_0, hcz13_1, hcz13_2, hcz13_3, hfz13_0, hfz13_1, hfz13_2, hfz13_3⟩ := cf4 BK153.out
   obtain ⟨hcz14_0, hcz14_1, hcz14_2, hcz14_3, hfz14_0, hfz14_1, hfz14_2, hfz14_3⟩ := cf4 BK154.out
   go_wp2
   go_meet
   case rel => exact ⟨_, (true), rs, H', ⟨by first | omega | exact Nat.le_refl _⟩, ⟨by (with_reducible repeat (first | refine kdN ?_ _ | refine kdr ?_ | refine kal ?_ _)); exact BK153.out⟩, ⟨by (with_reducible repeat (first | refine kdN ?_ _ | refine kdr ?_ | refine kal ?_ _)); exact BK154.out⟩, ⟨bb HB⟩⟩
  rw [if_pos c8] at H
  have c8b0 : (a0_2 == a1_2) = true := beq_iff_eq.mpr c8
  have c8b1 : (a0_2 != a1_2) = false := bne_eq_false_iff_eq.mpr c8
  clear c8
  have H' := Aside0.mk H
  clear H
  have hnb9 := NB153_154.out
  have hnc9 := NB154_153.out
  obtain ⟨hcz10_0, hcz10_1, hcz10_2, hcz10_3, hfz10_0, hfz10_1, hfz10_2, hfz10_3⟩ := cf4 BK153.out
  obtain ⟨hcz11_0, hcz11_1, hcz11_2, hcz11_3, hfz11_0, hfz11_1, hfz11_2, hfz11_3⟩ := cf4 BK154.out
  go_wp2
  go_meet
  case rel => exact ⟨_, (((l0_3.length : Int) != (l1_3.length : Int))), rs, H', ⟨by first | omega | exact Nat.le_refl _⟩, ⟨by (with_reducible repeat (first | refine kdN ?_ _ | refine kdr ?_ | refine kal ?_ _)); exact BK153.out⟩, ⟨by (with_reducible repeat (first | refine kdN ?_ _ | refine kdr ?_ | refine kal ?_ _)); exact BK154.out⟩, ⟨bb HB⟩⟩
 case rest =>
  clear HC3
  try clear c1
  try clear p2
  try clear c6
  try clear c6b0
  try clear c6b1
  try clear c7
  try clear c7b0
  try clear c7b1
  try clear c8
  try clear c8b0
  try clear c8b1
  try clear c9
  try clear c12
  try clear c14
  try clear c15
  try clear c18
  try clear hcz10_0 hcz10_1 hcz10_2 hcz10_3
  try clear hcz11_0 hcz11_1 hcz11_2 hcz11_3
  try clear hcz13_0 hcz13_1 hcz13_2 hcz13_3
  try clear hcz14_0 hcz14_1 hcz14_2 hcz14_3
  try clear hcz16_0 hcz16_1 hcz16_2 hcz16_3
  try clear hcz17_0 hcz17_1 hcz17_2 hcz17_3
  try clear hcz19_0 hcz19_1 hcz19_2 hcz19_3
  try clear hcz20_0 hcz20_1 hcz20_2 hcz20_3
  try clear hfz10_0 hfz10_1 hfz10_2 hfz10_3
  try clear hfz11_0 hfz11_1 hfz11_2 hfz11_3
  try clear hfz13_0 hfz13_1 hfz13_2 hfz13_3
  try clear hfz14_0 hfz14_1 hfz14_2 hfz14_3
  try clear hfz16_0 hfz16_1 hfz16_2 hfz16_3
  try clear hfz17_0 hfz17_1 hfz17_2 hfz17_3
  try clear hfz19_0 hfz19_1 hfz19_2 hfz19_3
  try clear hfz20_0 hfz20_1 hfz20_2 hfz20_3
  obtain ⟨kq, x33_2, rfl, HA, HJ2, BK153, BK154, HB⟩ := hcut
  cases kq with
  | zero => exact absurd HA.out (by simp [r2_Same.j0])
  | succ kj2 =>
   have H := HA.out
   clear HA
   simp only [r2_Same.j0] at H
   by_cases c21 : x33_2 = true
   ·subst c21
    have H1 : (some false) = some r := by rw [if_pos rfl] at H; exact H
    clear H
    have H := H1
    clear H1
    obtain rfl := Option.some.inj H
    go_wp2
    go_ret
    exact ⟨rr, bb HB⟩
   replace c21 := Bool.eq_false_iff.mpr c21
   subst c21
   have H1 : (r2_Same.l0 kj2 0 a0_0 a0_1 a0_2 l0_3 a1_0 a1_1 a1_2 l1_3) = some r := by rw [if_neg (show ¬ (false = true) by decide)] at H; exact H
   clear H
   have H := H1
   clear H1
   have H' := Aside0.mk H
   clear H
   go_wp2
   go_loopg [5] kj2 (fun kq v5 w' => ∃ (x5_2 : Int), v5 = .int .i64 x5_2 ∧ Aside0 (r2_Same.l0 kq x5_2 a0_0 a0_1 a0_2 l0_3 a1_0 a1_1 a1_2 l1_3 = some r) ∧ Aside0 (kq ≤ kj2) ∧ Aside0 (w'.heap[gb153]? = some (.cells #[.int .i64 a0_0, .int .i64 a0_1, .int .i64 a0_2, (.slice A0_3 l0_3.length c0_3)] 28 (0, 0))) ∧ Aside0 (w'.heap[gb154]? = some (.cells #[.int .i64 a1_0, .int .i64 a1_1, .int .i64 a1_2, (.slice A1_3 l1_3.length c1_3)] 28 (0, 0))) ∧ Aside0 (Below w.heap.size w w'))
   case atStart => exact ⟨(0), rs, H', ⟨Nat.le_refl _⟩, ⟨by (with_reducible repeat (first | refine kdN ?_ _ | refine kdr ?_ | refine kal ?_ _)); exact BK153.out⟩, ⟨by (with_reducible repeat (first | refine kdN ?_ _ | refine kdr ?_ | refine kal ?_ _)); exact BK154.out⟩, ⟨bb HB⟩⟩
   case round =>
    clear H'
    try clear c1
    try clear c2
    try clear p2
    try clear c6
    try clear c6b0
    try clear c6b1
    try clear c7
    try clear c7b0
    try clear c7b1
    try clear c8
    try clear c8b0
    try clear c8b1
    try clear c9
    try clear c12
    try clear c14
    try clear c15
    try clear c18
    try clear c21
    try clear hcz10_0 hcz10_1 hcz10_2 hcz10_3
    try clear hcz11_0 hcz11_1 hcz11_2 hcz11_3
    try clear hcz13_0 hcz13_1 hcz13_2 hcz13_3
    try clear hcz14_0 hcz14_1 hcz14_2 hcz14_3
    try clear hcz16_0 hcz16_1 hcz16_2 hcz16_3
    try clear hcz17_0 hcz17_1 hcz17_2 hcz17_3
    try clear hcz19_0 hcz19_1 hcz19_2 hcz19_3
    try clear hcz20_0 hcz20_1 hcz20_2 hcz20_3
    try clear hfz10_0 hfz10_1 hfz10_2 hfz10_3
    try clear hfz11_0 hfz11_1 hfz11_2 hfz11_3
    try clear hfz13_0 hfz13_1 hfz13_2 hfz13_3
    try clear hfz14_0 hfz14_1 hfz14_2 hfz14_3
    try clear hfz16_0 hfz16_1 hfz16_2 hfz16_3
    try clear hfz17_0 hfz17_1 hfz17_2 hfz17_3
    try clear hfz19_0 hfz19_1 hfz19_2 hfz19_3
    try clear hfz20_0 hfz20_1 hfz20_2 hfz20_3
    try clear p2
    obtain ⟨x5_2, rfl, HA, HK2, BK153, BK154, HB⟩ := hrel
    cases gk with
    | zero => exact absurd HA.out (by simp [r2_Same.l0])
    | succ k2 =>
     have H := HA.out
     clear HA
     simp only [r2_Same.l0] at H
     by_cases c22 : x5_2 < (l0_3.length : Int)
     rotate_left
     ·rw [if_neg c22] at H
      have c22b0 : decide (x5_2 < (l0_3.length : Int)) = false := decide_eq_false c22
      clear c22
      obtain rfl := Option.some.inj H
      have hnb35 := NB153_154.out
      have hnc35 := NB154_153.out
      obtain ⟨hcz36_0, hcz36_1, hcz36_2, hcz36_3, hfz36_0, hfz36_1, hfz36_2, hfz36_3⟩ := cf4 BK153.out
      go_wp2
      go_ret
      exact ⟨rr, bb HB⟩
     rw [if_pos c22] at H
     have c22b0 : decide (x5_2 < (l0_3.length : Int)) = true := decide_eq_true c22
     clear c22
     by_cases c23 : 0 ≤ x5_2
     rotate_left
     ·rw [if_neg c23] at H
      exact absurd H (by simp)
     rw [if_pos c23] at H
     have c23b0 : decide (0 ≤ x5_2) = true := decide_eq_true c23
     clear c23
     by_cases c24 : x5_2 < (l1_3.length : Int)
     rotate_left
     ·rw [if_neg c24] at H
      exact absurd H (by simp)
     rw [if_pos c24] at H
     have c24b0 : decide (x5_2 < (l1_3.length : Int)) = true := decide_eq_true c24
     clear c24
     obtain ⟨t157, A25, H⟩ := be H
     replace H : (if t157 = true then (r2_Same.l0 k2 (wrap64 (x5_2 + 1)) a0_0 a0_1 a0_2 l0_3 a1_0 a1_1 a1_2 l1_3) else (some false)) = some r := H
     by_cases c26 : t157 = true
     rotate_left
     ·replace c26 := Bool.eq_false_iff.mpr c26
      subst c26
      have H1 : (some false) = some r := by rw [if_neg (show ¬ (false = true) by decide)] at H; exact H
      clear H
      have H := H1
      clear H1
      obtain rfl := Option.some.inj H
      have hnb31 := NB153_154.out
      have hnc31 := NB154_153.out
      obtain ⟨hcz32_0, hcz32_1, hcz32_2, hcz32_3, hfz32_0, hfz32_1, hfz32_2, hfz32_3⟩ := cf4 BK153.out
      try go_wp2
      replace BK153 := Aside0.mk (kdr BK153.out)
      replace BK154 := Aside0.mk (kdr BK154.out)
      replace HB := Aside0.mk (bd1 HB.out)
      have p155 : 0 ≤ (x5_2 : Int) := od
      have q155 : x5_2 < (l0_3.length : Int) := od
      obtain ⟨ad155, A155_3, c155_3, e155, hx155_0, hx155_1, hx155_2, hx155_3, hl155_3, hi155_3⟩ := at_T28 HR0_3.out x5_2 p155 q155
      have hw155_3 := hx155_3
      have hw155_2 := hx155_2
      have hw155_1 := hx155_1
      have hw155_0 := hx155_0
      cases e155
      replace hx155_0 := bcell HB.out hx155_0
      replace hx155_1 := bcell HB.out hx155_1
      replace hx155_2 := bcell HB.out hx155_2
      replace hx155_3 := bcell HB.out hx155_3
      have HR155_3 := Aside0.mk hi155_3
      have HC155_3 := Aside0.mk hl155_3
      clear hi155_3 hl155_3
      replace p155 := eq_true p155
      replace q155 := eq_true q155
      have p156 : 0 ≤ (x5_2 : Int) := od
      have q156 : x5_2 < (l1_3.length : Int) := od
      obtain ⟨ad156, A156_3, c156_3, e156, hx156_0, hx156_1, hx156_2, hx156_3, hl156_3, hi156_3⟩ := at_T28 HR1_3.out x5_2 p156 q156
      have hw156_3 := hx156_3
      have hw156_2 := hx156_2
      have hw156_1 := hx156_1
      have hw156_0 := hx156_0
      cases e156
      replace hx156_0 := bcell HB.out hx156_0
      replace hx156_1 := bcell HB.out hx156_1
      replace hx156_2 := bcell HB.out hx156_2
      replace hx156_3 := bcell HB.out hx156_3
      have HR156_3 := Aside0.mk hi156_3
      have HC156_3 := Aside0.mk hl156_3
      clear hi156_3 hl156_3
      replace p156 := eq_true p156
      replace q156 := eq_true q156
      refine start_ (n := 12) (S := fun w' => w'.cell? ⟨gb153, 0, none⟩ = some (.int .i64 a0_0) ∧ w'.cell? ⟨gb153, 1, none⟩ = some (.int .i64 a0_1) ∧ w'.cell? ⟨gb153, 2, none⟩ = some (.int .i64 a0_2) ∧ w'.cell? ⟨gb153, 3, none⟩ = some (.slice (some ad155) l0_3.length c0_3) ∧ w'.cell? ⟨gb154, 0, none⟩ = some (.int .i64 a1_0) ∧ w'.cell? ⟨gb154, 1, none⟩ = some (.int .i64 a1_1) ∧ w'.cell? ⟨gb154, 2, none⟩ = some (.int .i64 a1_2) ∧ w'.cell? ⟨gb154, 3, none⟩ = some (.slice (some ad156) l1_3.length c1_3) ∧ w'.cell? (ad155.add ((x5_2).toNat * 4)) = some (.int .i64 ((rd_T28 l0_3 x5_2).f0)) ∧ w'.cell? ⟨(ad155.add ((x5_2).toNat * 4)).block, (ad155.add ((x5_2).toNat * 4)).off + 1, none⟩ = some (.int .i64 ((rd_T28 l0_3 x5_2).f1)) ∧ w'.cell? ⟨(ad155.add ((x5_2).toNat * 4)).block, (ad155.add ((x5_2).toNat * 4)).off + 2, none⟩ = some (.int .i64 ((rd_T28 l0_3 x5_2).f2)) ∧ w'.cell? ⟨(ad155.add ((x5_2).toNat * 4)).block, (ad155.add ((x5_2).toNat * 4)).off + 3, none⟩ = some (.slice A155_3 ((rd_T28 l0_3 x5_2).f3).length c155_3) ∧ w'.cell? (ad156.add ((x5_2).toNat * 4)) = some (.int .i64 ((rd_T28 l1_3 x5_2).f0)) ∧ w'.cell? ⟨(ad156.add ((x5_2).toNat * 4)).block, (ad156.add ((x5_2).toNat * 4)).off + 1, none⟩ = some (.int .i64 ((rd_T28 l1_3 x5_2).f1)) ∧ w'.cell? ⟨(ad156.add ((x5_2).toNat * 4)).block, (ad156.add ((x5_2).toNat * 4)).off + 2, none⟩ = some (.int .i64 ((rd_T28 l1_3 x5_2).f2)) ∧ w'.cell? ⟨(ad156.add ((x5_2).toNat * 4)).block, (ad156.add ((x5_2).toNat * 4)).off + 3, none⟩ = some (.slice A156_3 ((rd_T28 l1_3 x5_2).f3).length c156_3)) (ds := []) #[false, false, false, false, false, false, false, false, false, false, false, false] (by kernel_rfl) rfl rfl ⟨(blk_cell BK153.out 0).trans rfl, (blk_cell BK153.out 1).trans rfl, (blk_cell BK153.out 2).trans rfl, (blk_cell BK153.out 3).trans rfl, (blk_cell BK154.out 0).trans rfl, (blk_cell BK154.out 1).trans rfl, (blk_cell BK154.out 2).trans rfl, (blk_cell BK154.out 3).trans rfl, (bcell HB.out hw155_0), (bcell HB.out hw155_1), (bcell HB.out hw155_2), (bcell HB.out hw155_3), (bcell HB.out hw156_0), (bcell HB.out hw156_1), (bcell HB.out hw156_2), (bcell HB.out hw156_3)⟩ (fun hHeld => ?_); refine with_tabW r2_Same.tab6 r2_Same.bits6 (fun HT_ HW_ => ?_)
      generalize wr.drew = w33 at BK153 BK154 HB HR155_3 HR156_3 hx155_0 hx155_1 hx155_2 hx155_3 hx156_0 hx156_1 hx156_2 hx156_3 hHeld ⊢
      refine pu (i := 0) (N := some 41) #[true, false, false, false, false, false, false, false, false, false, false, false] rfl rfl (any_of HT_.out (by kernel_rfl)) ?_
      refine pu (i := 2) (N := some 43) #[true, false, true, false, false, false, false, false, false, false, false, false] rfl rfl (any_of HT_.out (by kernel_rfl)) ?_
      refine pu (i := 5) (N := some 46) #[true, false, true, false, false, true, false, false, false, false, false, false] rfl rfl (any_of HT_.out (by kernel_rfl)) ?_
      refine pu (i := 7) (N := some 48) #[true, false, true, false, false, true, false, true, false, false, false, false] rfl rfl (any_of HT_.out (by kernel_rfl)) ?_
      refine tk (i := 1) (N := some 42) #[true, true, true, false, false, true, false, true, false, false, false, false] rfl rfl (take_ofW HT_.out HW_.out (by kernel_rfl)) hHeld ?_
      refine pu (i := 3) (N := some 44) #[true, true, true, true, false, true, false, true, false, false, false, false] rfl rfl (any_of HT_.out (by kernel_rfl)) ?_
      refine tk (i := 4) (N := some 45) #[true, true, true, true, true, true, false, true, false, false, false, false] rfl rfl (take_ofW HT_.out HW_.out (by kernel_rfl)) hHeld ?_
      refine tk (i := 6) (N := some 47) #[true, true, true, true, true, true, true, true, false, false, false, false] rfl rfl (take_ofW HT_.out HW_.out (by kernel_rfl)) hHeld ?_
      refine pu (i := 8) (N := some 49) #[true, true, true, true, true, true, true, true, true, false, false, false] rfl rfl (any_of HT_.out (by kernel_rfl)) ?_
      refine tk (i := 9) (N := some 50) #[true, true, true, true, true, true, true, true, true, true, false, false] rfl rfl (take_ofW HT_.out HW_.out (by kernel_rfl)) hHeld ?_
      refine one_ (i := 10) (N := some 51) #[true, true, true, true, true, true, true, true, true, true, true, false] rfl rfl (one_of HT_.out (by kernel_rfl)) (by decide) (fun K hK => ?_)
      refine gO Try.func14 #[.agg #[.int .i64 ((rd_T28 l0_3 x5_2).f0), .int .i64 ((rd_T28 l0_3 x5_2).f1), .int .i64 ((rd_T28 l0_3 x5_2).f2), .slice A155_3 ((rd_T28 l0_3 x5_2).f3).length c155_3], .agg #[.int .i64 ((rd_T28 l1_3 x5_2).f0), .int .i64 ((rd_T28 l1_3 x5_2).f1), .int .i64 ((rd_T28 l1_3 x5_2).f2), .slice A156_3 ((rd_T28 l1_3 x5_2).f3).length c156_3]] (by rfl) rfl rfl ?_
      with_reducible refine (ih k2 (by have := HJ2.out; have := HK2.out; omega) ((rd_T28 l0_3 x5_2).f0) ((rd_T28 l0_3 x5_2).f1) ((rd_T28 l0_3 x5_2).f2) _ _ ((rd_T28 l0_3 x5_2).f3) ((rd_T28 l1_3 x5_2).f0) ((rd_T28 l1_3 x5_2).f1) ((rd_T28 l1_3 x5_2).f2) _ _ ((rd_T28 l1_3 x5_2).f3) false _ ?side1 ?side2 ?side3 ?side4 A25.out).mono ?_
      (case side1 => exact cb HR155_3 HB)
      (case side2 => exact HC155_3.out)
      (case side3 => exact cb HR156_3 HB)
      (case side4 => exact HC156_3.out)
      rintro e w34 ⟨rfl, hb⟩
      refine ⟨_, rfl, ?_⟩
      replace BK153 := kb BK153 hb
      replace BK154 := kb BK154 hb
      replace HB := sb HB hb
      (try clear hb)
      (try clear hb2)
      (try clear hk)
      (try clear hi)
      refine hK.out _ _ ⟨(blk_cell BK153.out 0).trans rfl, (blk_cell BK153.out 1).trans rfl, (blk_cell BK153.out 2).trans rfl, (blk_cell BK153.out 3).trans rfl, (blk_cell BK154.out 0).trans rfl, (blk_cell BK154.out 1).trans rfl, (blk_cell BK154.out 2).trans rfl, (blk_cell BK154.out 3).trans rfl, (bcell HB.out hw155_0), (bcell HB.out hw155_1), (bcell HB.out hw155_2), (bcell HB.out hw155_3), (bcell HB.out hw156_0), (bcell HB.out hw156_1), (bcell HB.out hw156_2), (bcell HB.out hw156_3)⟩ (fun hHeld => ?_)
      clear hK K
      refine nm 51 ?_
      refine pu (i := 11) (N := some 52) #[true, true, true, true, true, true, true, true, true, true, true, true] rfl rfl (any_of HT_.out (by kernel_rfl)) ?_
      refine done_ (done_of HT_.out (by kernel_rfl)) ?_
      try go_wp2
      go_ret
      exact ⟨rr, bb HB⟩
     subst c26
     have H1 : (r2_Same.l0 k2 (wrap64 (x5_2 + 1)) a0_0 a0_1 a0_2 l0_3 a1_0 a1_1 a1_2 l1_3) = some r := by rw [if_pos rfl] at H; exact H
     clear H
     have H := H1
     clear H1
     have H' := Aside0.mk H
     clear H
     have hnb27 := NB153_154.out
     have hnc27 := NB154_153.out
     obtain ⟨hcz28_0, hcz28_1, hcz28_2, hcz28_3, hfz28_0, hfz28_1, hfz28_2, hfz28_3⟩ := cf4 BK153.out
     try go_wp2
     replace BK153 := Aside0.mk (kdr BK153.out)
     replace BK154 := Aside0.mk (kdr BK154.out)
     replace HB := Aside0.mk (bd1 HB.out)
     have p155 : 0 ≤ (x5_2 : Int) := od
     have q155 : x5_2 < (l0_3.length : Int) := od
     obtain ⟨ad155, A155_3, c155_3, e155, hx155_0, hx155_1, hx155_2, hx155_3, hl155_3, hi155_3⟩ := at_T28 HR0_3.out x5_2 p155 q155
     have hw155_3 := hx155_3
     have hw155_2 := hx155_2
     have hw155_1 := hx155_1
     have hw155_0 := hx155_0
     cases e155
     replace hx155_0 := bcell HB.out hx155_0
     replace hx155_1 := bcell HB.out hx155_1
     replace hx155_2 := bcell HB.out hx155_2
     replace hx155_3 := bcell HB.out hx155_3
     have HR155_3 := Aside0.mk hi155_3
     have HC155_3 := Aside0.mk hl155_3
     clear hi155_3 hl155_3
     replace p155 := eq_true p155
     replace q155 := eq_true q155
     have p156 : 0 ≤ (x5_2 : Int) := od
     have q156 : x5_2 < (l1_3.length : Int) := od
     obtain ⟨ad156, A156_3, c156_3, e156, hx156_0, hx156_1, hx156_2, hx156_3, hl156_3, hi156_3⟩ := at_T28 HR1_3.out x5_2 p156 q156
     have hw156_3 := hx156_3
     have hw156_2 := hx156_2
     have hw156_1 := hx156_1
     have hw156_0 := hx156_0
     cases e156
     replace hx156_0 := bcell HB.out hx156_0
     replace hx156_1 := bcell HB.out hx156_1
     replace hx156_2 := bcell HB.out hx156_2
     replace hx156_3 := bcell HB.out hx156_3
     have HR156_3 := Aside0.mk hi156_3
     have HC156_3 := Aside0.mk hl156_3
     clear hi156_3 hl156_3
     replace p156 := eq_true p156
     replace q156 := eq_true q156
     refine start_ (n := 12) (S := fun w' => w'.cell? ⟨gb153, 0, none⟩ = some (.int .i64 a0_0) ∧ w'.cell? ⟨gb153, 1, none⟩ = some (.int .i64 a0_1) ∧ w'.cell? ⟨gb153, 2, none⟩ = some (.int .i64 a0_2) ∧ w'.cell? ⟨gb153, 3, none⟩ = some (.slice (some ad155) l0_3.length c0_3) ∧ w'.cell? ⟨gb154, 0, none⟩ = some (.int .i64 a1_0) ∧ w'.cell? ⟨gb154, 1, none⟩ = some (.int .i64 a1_1) ∧ w'.cell? ⟨gb154, 2, none⟩ = some (.int .i64 a1_2) ∧ w'.cell? ⟨gb154, 3, none⟩ = some (.slice (some ad156) l1_3.length c1_3) ∧ w'.cell? (ad155.add ((x5_2).toNat * 4)) = some (.int .i64 ((rd_T28 l0_3 x5_2).f0)) ∧ w'.cell? ⟨(ad155.add ((x5_2).toNat * 4)).block, (ad155.add ((x5_2).toNat * 4)).off + 1, none⟩ = some (.int .i64 ((rd_T28 l0_3 x5_2).f1)) ∧ w'.cell? ⟨(ad155.add ((x5_2).toNat * 4)).block, (ad155.add ((x5_2).toNat * 4)).off + 2, none⟩ = some (.int .i64 ((rd_T28 l0_3 x5_2).f2)) ∧ w'.cell? ⟨(ad155.add ((x5_2).toNat * 4)).block, (ad155.add ((x5_2).toNat * 4)).off + 3, none⟩ = some (.slice A155_3 ((rd_T28 l0_3 x5_2).f3).length c155_3) ∧ w'.cell? (ad156.add ((x5_2).toNat * 4)) = some (.int .i64 ((rd_T28 l1_3 x5_2).f0)) ∧ w'.cell? ⟨(ad156.add ((x5_2).toNat * 4)).block, (ad156.add ((x5_2).toNat * 4)).off + 1, none⟩ = some (.int .i64 ((rd_T28 l1_3 x5_2).f1)) ∧ w'.cell? ⟨(ad156.add ((x5_2).toNat * 4)).block, (ad156.add ((x5_2).toNat * 4)).off + 2, none⟩ = some (.int .i64 ((rd_T28 l1_3 x5_2).f2)) ∧ w'.cell? ⟨(ad156.add ((x5_2).toNat * 4)).block, (ad156.add ((x5_2).toNat * 4)).off + 3, none⟩ = some (.slice A156_3 ((rd_T28 l1_3 x5_2).f3).length c156_3)) (ds := []) #[false, false, false, false, false, false, false, false, false, false, false, false] (by kernel_rfl) rfl rfl ⟨(blk_cell BK153.out 0).trans rfl, (blk_cell BK153.out 1).trans rfl, (blk_cell BK153.out 2).trans rfl, (blk_cell BK153.out 3).trans rfl, (blk_cell BK154.out 0).trans rfl, (blk_cell BK154.out 1).trans rfl, (blk_cell BK154.out 2).trans rfl, (blk_cell BK154.out 3).trans rfl, (bcell HB.out hw155_0), (bcell HB.out hw155_1), (bcell HB.out hw155_2), (bcell HB.out hw155_3), (bcell HB.out hw156_0), (bcell HB.out hw156_1), (bcell HB.out hw156_2), (bcell HB.out hw156_3)⟩ (fun hHeld => ?_); refine with_tabW r2_Same.tab6 r2_Same.bits6 (fun HT_ HW_ => ?_)
     generalize wr.drew = w29 at BK153 BK154 HB HR155_3 HR156_3 hx155_0 hx155_1 hx155_2 hx155_3 hx156_0 hx156_1 hx156_2 hx156_3 hHeld ⊢
     refine pu (i := 0) (N := some 41) #[true, false, false, false, false, false, false, false, false, false, false, false] rfl rfl (any_of HT_.out (by kernel_rfl)) ?_
     refine pu (i := 2) (N := some 43) #[true, false, true, false, false, false, false, false, false, false, false, false] rfl rfl (any_of HT_.out (by kernel_rfl)) ?_
     refine pu (i := 5) (N := some 46) #[true, false, true, false, false, true, false, false, false, false, false, false] rfl rfl (any_of HT_.out (by kernel_rfl)) ?_
     refine pu (i := 7) (N := some 48) #[true, false, true, false, false, true, false, true, false, false, false, false] rfl rfl (any_of HT_.out (by kernel_rfl)) ?_
     refine tk (i := 1) (N := some 42) #[true, true, true, false, false, true, false, true, false, false, false, false] rfl rfl (take_ofW HT_.out HW_.out (by kernel_rfl)) hHeld ?_
     refine pu (i := 3) (N := some 44) #[true, true, true, true, false, true, false, true, false, false, false, false] rfl rfl (any_of HT_.out (by kernel_rfl)) ?_
     refine tk (i := 4) (N := some 45) #[true, true, true, true, true, true, false, true, false, false, false, false] rfl rfl (take_ofW HT_.out HW_.out (by kernel_rfl)) hHeld ?_
     refine tk (i := 6) (N := some 47) #[true, true, true, true, true, true, true, true, false, false, false, false] rfl rfl (take_ofW HT_.out HW_.out (by kernel_rfl)) hHeld ?_
     refine pu (i := 8) (N := some 49) #[true, true, true, true, true, true, true, true, true, false, false, false] rfl rfl (any_of HT_.out (by kernel_rfl)) ?_
     refine tk (i := 9) (N := some 50) #[true, true, true, true, true, true, true, true, true, true, false, false] rfl rfl (take_ofW HT_.out HW_.out (by kernel_rfl)) hHeld ?_
     refine one_ (i := 10) (N := some 51) #[true, true, true, true, true, true, true, true, true, true, true, false] rfl rfl (one_of HT_.out (by kernel_rfl)) (by decide) (fun K hK => ?_)
     refine gO Try.func14 #[.agg #[.int .i64 ((rd_T28 l0_3 x5_2).f0), .int .i64 ((rd_T28 l0_3 x5_2).f1), .int .i64 ((rd_T28 l0_3 x5_2).f2), .slice A155_3 ((rd_T28 l0_3 x5_2).f3).length c155_3], .agg #[.int .i64 ((rd_T28 l1_3 x5_2).f0), .int .i64 ((rd_T28 l1_3 x5_2).f1), .int .i64 ((rd_T28 l1_3 x5_2).f2), .slice A156_3 ((rd_T28 l1_3 x5_2).f3).length c156_3]] (by rfl) rfl rfl ?_
     with_reducible refine (ih k2 (by have := HJ2.out; have := HK2.out; omega) ((rd_T28 l0_3 x5_2).f0) ((rd_T28 l0_3 x5_2).f1) ((rd_T28 l0_3 x5_2).f2) _ _ ((rd_T28 l0_3 x5_2).f3) ((rd_T28 l1_3 x5_2).f0) ((rd_T28 l1_3 x5_2).f1) ((rd_T28 l1_3 x5_2).f2) _ _ ((rd_T28 l1_3 x5_2).f3) true _ ?side1 ?side2 ?side3 ?side4 A25.out).mono ?_
     (case side1 => exact cb HR155_3 HB)
     (case side2 => exact HC155_3.out)
     (case side3 => exact cb HR156_3 HB)
     (case side4 => exact HC156_3.out)
     rintro e w30 ⟨rfl, hb⟩
     refine ⟨_, rfl, ?_⟩
     replace BK153 := kb BK153 hb
     replace BK154 := kb BK154 hb
     replace HB := sb HB hb
     (try clear hb)
     (try clear hb2)
     (try clear hk)
     (try clear hi)
     refine hK.out _ _ ⟨(blk_cell BK153.out 0).trans rfl, (blk_cell BK153.out 1).trans rfl, (blk_cell BK153.out 2).trans rfl, (blk_cell BK153.out 3).trans rfl, (blk_cell BK154.out 0).trans rfl, (blk_cell BK154.out 1).trans rfl, (blk_cell BK154.out 2).trans rfl, (blk_cell BK154.out 3).trans rfl, (bcell HB.out hw155_0), (bcell HB.out hw155_1), (bcell HB.out hw155_2), (bcell HB.out hw155_3), (bcell HB.out hw156_0), (bcell HB.out hw156_1), (bcell HB.out hw156_2), (bcell HB.out hw156_3)⟩ (fun hHeld => ?_)
     clear hK K
     refine nm 51 ?_
     refine pu (i := 11) (N := some 52) #[true, true, true, true, true, true, true, true, true, true, true, true] rfl rfl (any_of HT_.out (by kernel_rfl)) ?_
     refine done_ (done_of HT_.out (by kernel_rfl)) ?_
     try go_wp2
     go_roundg k2
     case measure => have := HJ2.out; have := HK2.out; omega
     case rel => exact ⟨(wrap64 (x5_2 + 1)), rs, H', ⟨by have := HJ2.out; have := HK2.out; omega⟩, ⟨by (with_reducible repeat (first | refine kdN ?_ _ | refine kdr ?_ | refine kal ?_ _)); exact BK153.out⟩, ⟨by (with_reducible repeat (first | refine kdN ?_ _ | refine kdr ?_ | refine kal ?_ _)); exact BK154.out⟩, ⟨bb HB⟩⟩
mutual
def plE (m : Int) : S28 → S28
  | ⟨op, n, c, l⟩ => if op = 1 then ⟨op, wrap64 (n + wrap64 (m * c)), 0, plEs m l⟩ else ⟨op, n, 0, plEs m l⟩
def plEs (m : Int) : List S28 → List S28
  | [] => []
  | x :: r => plE m x :: plEs m r
end
theorem plEs_length (m : Int) : ∀ l, (plEs m l).length = l.length
  | [] => by simp only [plEs]
  | x :: r => by simp only [plEs, List.length_cons, plEs_length m r]
theorem plE_good (m : Int) : (∀ x, goodE x → goodE (plE m x) ∧ eN (plE m x) = eN x) ∧ (∀ l, goodEs l → goodEs (plEs m l) ∧ eNs (plEs m l) = eNs l) := by
  refine E_ind (fun a b c l ih => ?_) (fun _ => ?_) (fun x r h1 h2 => ?_)
  · rintro ⟨hl, hg⟩
    obtain ⟨i1, i2⟩ := ih hg
    simp only [plE]
    split
    · exact ⟨⟨by rw [plEs_length]; exact hl, i1⟩, by simp only [eN, i2]⟩
    · exact ⟨⟨by rw [plEs_length]; exact hl, i1⟩, by simp only [eN, i2]⟩
  · simp only [plEs]; exact ⟨trivial, trivial⟩
  · rintro ⟨g1, g2⟩
    obtain ⟨a1, a2⟩ := h1 g1
    obtain ⟨b1, b2⟩ := h2 g2
    simp only [plEs, eNs, a2, b2]
    exact ⟨⟨a1, b1⟩, trivial⟩
theorem nodeIs_copy {w : Int} {vars : List S66} {kk a b c n : Int} (h : nodeIs w vars kk a b c n = true) (h1 : a ≠ 1) : c = 0 := by
  unfold nodeIs at h
  rw [Bool.and_eq_true] at h
  have h := h.2
  unfold nodeOk at h
  by_cases h0 : a = 0
  · rw [if_pos h0] at h
    split at h
    · cases h
    · split at h
      · cases h
      · split at h
        · assumption
        · cases h
  · rw [if_neg h0, if_neg h1] at h
    split at h
    · split at h
      · assumption
      · cases h
    · cases h
theorem mvE_pl (w : Int) (vars : List S66) (kk m : Int) : (∀ x, eOK w vars kk x = true → eN x ≤ 1000 → mvE (fun c => some (wrap64 (c * m))) x = some (plE m x)) ∧
    (∀ l, eOKs w vars kk l = true → eNs l ≤ 1000 → mvEs (fun c => some (wrap64 (c * m))) l = some (plEs m l)) := by
  refine E_ind (fun a b c l ih => ?_) (fun _ _ => ?_) (fun x r h1 h2 => ?_)
  · intro ho hn
    simp only [eOK, Bool.and_eq_true] at ho
    simp only [eN] at hn
    have := ih ho.2 (by omega)
    unfold mvE plE
    rw [this]
    by_cases h1 : a = 1
    · rw [if_pos h1, if_pos h1, Int.mul_comm c m]; rfl
    · rw [if_neg h1, if_neg h1, nodeIs_copy ho.1 h1]; rfl
  · simp only [mvEs, plEs]
  · intro ho hn
    simp only [eOKs, Bool.and_eq_true] at ho
    simp only [eNs] at hn
    have hp := eN_pos x
    have hle : r.length ≤ eNs r := eNs_len r
    unfold mvEs plEs
    rw [h1 ho.1 (by omega), h2 ho.2 (by omega), Option.bind_some, Option.bind_some, if_pos (by omega)]
theorem plain_tells (m : Int) : (∀ x, goodE x → eN x ≤ 1000 → Tells (fun k => r12_plain.f k x.f0 x.f1 x.f2 x.f3 m) ((plE m x).f0, (plE m x).f1, (plE m x).f2, (plE m x).f3)) ∧
    (∀ suf, ∀ (pre acc : List S28) (a b c a' b' c' : Int), goodEs suf → (pre ++ suf).length ≤ 9223372036854775807 → eNs suf ≤ 1000 → acc.length + suf.length ≤ 1000 →
      Tells (fun k => r12_plain.l0 k m (pre.length : Int) a b c (pre ++ suf) a' b' c' acc) (a', b', c', acc ++ plEs m suf)) := by
  refine E_ind (fun a b c l ih => ?_) ?_ (fun x r ih1 ih2 => ?_)
  · intro hg hn
    simp only [eN] at hn
    have hle := eNs_len l
    have key : ∀ a' b' c', Tells (fun k => r12_plain.j0 k m a b c l a' b' c') (a', b', c', plEs m l) := by
      intro a' b' c'
      refine Tells.succ ?_
      simp only [r12_plain.j0]
      exact ih [] [] a b c a' b' c' hg.2 hg.1 (by omega) (by simp only [List.length_nil]; omega)
    refine Tells.succ ?_
    simp only [r12_plain.f, plE]
    by_cases h1 : a = 1
    · simp only [h1, if_true]
      exact h1 ▸ key _ _ _
    · simp only [h1, if_false]
      exact key _ _ _
  · intro pre acc a b c a' b' c' _ _ _ _
    refine Tells.succ ?_
    simp only [r12_plain.l0, pre_nlt, if_false, plEs]
    rw [List.append_nil]
    exact Tells.pure _
  · intro pre acc a b c a' b' c' hg hl hn ha
    simp only [eNs] at hn
    simp only [List.length_cons] at ha
    refine Tells.succ ?_
    simp only [r12_plain.l0, pre_lt, pre_pos, if_true, rdE_mid]
    refine Tells.bind (ih1 hg.1 (by omega)) (Tells.ifT (by omega) ?_)
    rw [pre_next pre x r hl]
    have := ih2 (pre ++ [x]) (acc ++ [plE m x]) a b c a' b' c' hg.2 (by rw [← pre_app]; exact hl) (by omega) (by simp only [List.length_append, List.length_cons, List.length_nil]; omega)
    rw [← pre_app, List.append_assoc, List.singleton_append] at this
    simp only [plEs]
    rw [E_eta]
    exact this
theorem sameE : (∀ x, goodE x → Tells (fun k => r2_Same.f k x.f0 x.f1 x.f2 x.f3 x.f0 x.f1 x.f2 x.f3) true) ∧
    (∀ suf, ∀ (pre : List S28) (a b c : Int), goodEs suf → (pre ++ suf).length ≤ 9223372036854775807 → Tells (fun k => r2_Same.l0 k (pre.length : Int) a b c (pre ++ suf) a b c (pre ++ suf)) true) := by
  refine E_ind (fun a b c l ih => ?_) ?_ (fun x r ih1 ih2 => ?_)
  · intro hg
    refine Tells.succ ?_
    simp only [r2_Same.f, if_true, bne_self_eq_false]
    refine Tells.succ ?_
    simp only [r2_Same.j0, Bool.false_eq_true, if_false]
    exact ih [] a b c hg.2 hg.1
  · intro pre a b c _ _
    refine Tells.succ ?_
    simp only [r2_Same.l0, pre_nlt, if_false]
    exact Tells.pure _
  · intro pre a b c hg hl
    refine Tells.succ ?_
    simp only [r2_Same.l0, pre_lt, pre_pos, if_true, rdE_mid]
    refine Tells.bind (ih1 hg.1) (Tells.ifT rfl ?_)
    rw [pre_next pre x r hl]
    have := ih2 (pre ++ [x]) a b c hg.2 (by rw [← pre_app]; exact hl)
    rw [← pre_app] at this
    exact this
def noE : S28 := ⟨0, 0, 0, []⟩
def plC (w : Int) (vars : List S66) (body : List S64) (k : Int) (x : S28) : Int :=
  if cpE w vars body k = 0 then (if hIs w (vsN vars k.toNat) = true then (if eIs w vars k x = true then 0 else 20) else 2) else cpE w vars body k
def plX (w : Int) (vars : List S66) (body : List S64) (k : Int) (x : S28) : S28 := if plC w vars body k x = 0 then plE (vars.length : Int) x else noE
def plR (w : Int) (vars : List S66) (body : List S64) (k : Int) (x : S28) : Int × Int × Int × List S28 × Int :=
  ((plX w vars body k x).f0, (plX w vars body k x).f1, (plX w vars body k x).f2, (plX w vars body k x).f3, plC w vars body k x)
theorem plR_no {w : Int} {vars : List S66} {body : List S64} {k : Int} {x : S28} {n : Int} (h : plC w vars body k x = n) (hn : n ≠ 0) : plR w vars body k x = (0, 0, 0, [], n) := by
  unfold plR plX
  rw [h, if_neg hn]
  rfl
theorem plR_ok {w : Int} {vars : List S66} {body : List S64} {k : Int} {x : S28} (h : plC w vars body k x = 0) : plR w vars body k x = ((plE (vars.length : Int) x).f0, (plE (vars.length : Int) x).f1, (plE (vars.length : Int) x).f2, (plE (vars.length : Int) x).f3, 0) := by
  unfold plR plX
  rw [h, if_pos rfl]
theorem sgE_vals (w : Int) (vars : List S66) (body : List S64) : (pIs w vars body = true ∧ sgE w vars body = 0) ∨ (pIs w vars body = true ∧ sgE w vars body = 1) ∨ (pIs w vars body = false ∧ sgE w vars body = 30) := by
  unfold sgE
  cases pIs w vars body
  · exact .inr (.inr ⟨rfl, rfl⟩)
  · cases sgB vars body
    · exact .inr (.inl ⟨rfl, rfl⟩)
    · exact .inl ⟨rfl, rfl⟩
theorem eIs_400 {w : Int} {vars : List S66} {k : Int} {x : S28} (h : eIs w vars k x = true) : eN x ≤ 400 ∧ eOK w vars k x = true := by
  unfold eIs at h
  rw [Bool.and_eq_true, Bool.and_eq_true, decide_eq_true_eq] at h
  exact ⟨h.1, h.2.2⟩
theorem plR_good (w : Int) (vars : List S66) (body : List S64) (k : Int) (x : S28) (hg : goodE x) : goodE (plX w vars body k x) ∧ eN (plX w vars body k x) ≤ 400 := by
  unfold plX
  by_cases h : plC w vars body k x = 0
  · rw [if_pos h]
    obtain ⟨a, b⟩ := (plE_good (vars.length : Int)).1 x hg
    refine ⟨a, ?_⟩
    rw [b]
    unfold plC at h
    by_cases h1 : cpE w vars body k = 0
    · rw [if_pos h1] at h
      by_cases h2 : hIs w (vsN vars k.toNat) = true
      · rw [if_pos h2] at h
        by_cases h3 : eIs w vars k x = true
        · exact (eIs_400 h3).1
        · rw [if_neg h3] at h; cases h
      · rw [if_neg h2] at h; cases h
    · rw [if_neg h1] at h; exact absurd h h1
  · rw [if_neg h]
    exact ⟨⟨by decide, trivial⟩, by decide⟩
theorem vs_tells (vars : List S66) (hl : vars.length ≤ 1000) (hv : ∀ v ∈ vars, v.f0.size ≤ 1000) : ∀ n : Nat, n ≤ 3 → Tells (fun k => prod_Plain.vs k vars n) (vsN vars n)
  | 0, _ => by
    unfold prod_Plain.vs vsN
    exact Tells.pure _
  | n + 1, hn => by
    unfold prod_Plain.vs vsN
    refine Tells.bind (vs_tells vars hl hv n (by omega)) (Tells.bind (variables_tells (n : Int) (by omega) (by omega) vars hl hv) (Tells.ifT ?_ (Tells.pure _)))
    rw [vsN_length, List.length_map]
    have : n * vars.length ≤ 2 * 1000 := Nat.mul_le_mul (by omega) hl
    omega
theorem pIs_width {w : Int} {vars : List S66} {body : List S64} (hp : pIs w vars body = true) : 1 ≤ w ∧ w ≤ 8 := by
  obtain ⟨hh, _⟩ := pIs_all hp
  obtain ⟨h1, h8, _⟩ := hIs_all hh
  exact ⟨h1, h8⟩
theorem heading_ok {w : Int} {vars : List S66} {body : List S64} (hp : pIs w vars body = true) : Tells (fun k => expr_Heading.f k w vars) 0 := by
  have := Heading_tells w vars
  rw [(pIs_all hp).1] at this
  exact this
theorem prodPlain_tells (w : Int) (vars : List S66) (body : List S64) (hl : body.length ≤ 9223372036854775807) (hg : goodSs body) (k : Int) (x : S28) (ge : goodE x) :
    Tells (fun j => prod_Plain.f j w vars body k x.f0 x.f1 x.f2 x.f3) (plR w vars body k x) := by
  unfold prod_Plain.f
  refine Tells.bind (pCheck_tells w vars body hl hg) ?_
  have ts := prodSingle_tells w vars body hl hg
  rcases sgE_vals w vars body with ⟨hp, hs⟩ | ⟨hp, hs⟩ | ⟨hp, hs⟩
  · rw [hp]
    refine Tells.ifT rfl ?_
    by_cases c1 : k < 1
    · rw [plR_no (n := 1) (by unfold plC cpE; rw [hs, if_pos rfl, if_pos c1, if_neg (by decide)]) (by decide)]
      exact Tells.ifT c1 (Tells.pure _)
    refine Tells.ifF c1 ?_
    by_cases c3 : k > 3
    · rw [plR_no (n := 1) (by unfold plC cpE; rw [hs, if_pos rfl, if_neg c1, if_pos c3, if_neg (by decide)]) (by decide)]
      exact Tells.ifT c3 (Tells.pure _)
    refine Tells.ifF c3 (Tells.bind ts (Tells.ifT hs ?_))
    have hcp : cpE w vars body k = 0 := by unfold cpE; rw [hs, if_pos rfl, if_neg c1, if_neg c3]
    obtain ⟨vl, vn⟩ := pIs_names hp
    obtain ⟨h1, h8⟩ := pIs_width hp
    refine Tells.bind (vs_tells vars vl vn k.toNat (by omega)) (Tells.bind (Heading_tells w (vsN vars k.toNat)) ?_)
    by_cases hh : hIs w (vsN vars k.toNat) = true
    · rw [hh]
      refine Tells.ifT rfl (Tells.bind (Check_tells w vars k h1 h8 (by omega) (by omega) (heading_ok hp) x ge) ?_)
      by_cases he : eIs w vars k x = true
      · rw [he]
        refine Tells.ifT rfl ?_
        obtain ⟨n4, ok⟩ := eIs_400 he
        have em := (mvE_pl w vars k (vars.length : Int)).1 x ok (by omega)
        rw [plR_ok (by unfold plC; rw [if_pos hcp, if_pos hh, if_pos he])]
        rw [E_eta, em]
        exact Tells.pure _
      · rw [Bool.eq_false_iff.2 he, plR_no (n := 20) (by unfold plC; rw [if_pos hcp, if_pos hh, if_neg he]) (by decide)]
        exact Tells.ifF (by decide) (Tells.pure _)
    · rw [Bool.eq_false_iff.2 hh, plR_no (n := 2) (by unfold plC; rw [if_pos hcp, if_neg hh]) (by decide)]
      exact Tells.ifF (by decide) (Tells.pure _)
  · rw [hp]
    have hc : cpE w vars body k = 1 := by unfold cpE; rw [hs, if_neg (by decide)]
    rw [plR_no (n := 1) (by unfold plC; rw [hc, if_neg (by decide)]) (by decide)]
    refine Tells.ifT rfl ?_
    by_cases c1 : k < 1
    · exact Tells.ifT c1 (Tells.pure _)
    refine Tells.ifF c1 ?_
    by_cases c3 : k > 3
    · exact Tells.ifT c3 (Tells.pure _)
    refine Tells.ifF c3 (Tells.bind ts (Tells.ifF (by rw [hs]; decide) (Tells.pure _)))
  · rw [hp]
    have hc : cpE w vars body k = 30 := by unfold cpE; rw [hs, if_neg (by decide)]
    rw [plR_no (n := 30) (by unfold plC; rw [hc, if_neg (by decide)]) (by decide)]
    exact Tells.ifF (by decide) (Tells.pure _)
theorem refPlain_tells (w : Int) (vars : List S66) (body : List S64) (hl : body.length ≤ 9223372036854775807) (hg : goodSs body) (k : Int) (x : S28) (ge : goodE x) :
    Tells (fun j => r12_Plain.f j w vars body k x.f0 x.f1 x.f2 x.f3) (plR w vars body k x) := by
  unfold r12_Plain.f
  refine Tells.bind (Copies_tells w vars body hl hg k) ?_
  by_cases hc : cpE w vars body k = 0
  · refine Tells.ifT hc ?_
    have hp : pIs w vars body = true ∧ 1 ≤ k ∧ k ≤ 3 := by
      unfold cpE at hc
      rcases sgE_vals w vars body with ⟨hp, hs⟩ | ⟨hp, hs⟩ | ⟨hp, hs⟩
      · rw [hs, if_pos rfl] at hc
        by_cases c1 : k < 1
        · rw [if_pos c1] at hc; cases hc
        · rw [if_neg c1] at hc
          by_cases c3 : k > 3
          · rw [if_pos c3] at hc; cases hc
          · exact ⟨hp, by omega, by omega⟩
      · rw [hs, if_neg (by decide)] at hc; cases hc
      · rw [hs, if_neg (by decide)] at hc; cases hc
    obtain ⟨hp, k1, k3⟩ := hp
    obtain ⟨vl, vn⟩ := pIs_names hp
    obtain ⟨h1, h8⟩ := pIs_width hp
    refine Tells.bind (rvars_tells vars vl vn k (by omega) k3) (Tells.bind (RHeading_tells w (vsN vars k.toNat)) ?_)
    by_cases hh : hIs w (vsN vars k.toNat) = true
    · refine Tells.ifT hh (Tells.bind (Is_tells w vars k h1 h8 x ge) ?_)
      by_cases he : eIs w vars k x = true
      · refine Tells.ifT he ?_
        obtain ⟨n4, ok⟩ := eIs_400 he
        rw [plR_ok (by unfold plC; rw [if_pos hc, if_pos hh, if_pos he])]
        exact Tells.bind ((plain_tells (vars.length : Int)).1 x ge (by omega)) (Tells.pure _)
      · rw [plR_no (n := 20) (by unfold plC; rw [if_pos hc, if_pos hh, if_neg he]) (by decide)]
        exact Tells.ifF he (Tells.pure _)
    · rw [plR_no (n := 2) (by unfold plC; rw [if_pos hc, if_neg hh]) (by decide)]
      exact Tells.ifF hh (Tells.pure _)
  · refine Tells.ifF hc ?_
    rw [plR_no (n := cpE w vars body k) (by unfold plC; rw [if_neg hc]) hc]
    exact Tells.pure _
theorem eqA66 (d : Nat) (w : World) (x0 y0 : ByteArray) (x1 y1 : Int) (x2 y2 : Int) :
  (Op.equalIn (d + 2) 66 (.agg #[.string x0, .int .i64 x1, .int .i64 x2]) (.agg #[.string y0, .int .i64 y1, .int .i64 y2])).run Try.prog w = .ok (x0.toList == y0.toList && (x1 == y1 && (x2 == y2))) w := by
 refine eqA_of Try.underlying66 (by kernel_rfl) ?_
 refine eqf_cons (by rfl) (by go_simp; rfl) (by go_simp; rfl) (by go_simp) ?_
 refine eqf_cons (by rfl) (by go_simp; rfl) (by go_simp; rfl) (by go_simp) ?_
 exact eqf_last (by rfl) (by go_simp; rfl) (by go_simp; rfl) (by go_simp)
end Go.Proofs.Ytilebfkehmecaaa.Print
namespace Go.Proofs.Ytilebfkehmecaaa.Print
open Go.RowKit Go.Proofs.YtilebfkehmecaaaW.PrintWords Go.Proofs.YtilebfkehmecaaaW.PrintLast Go.Proofs.YtilebfkehmecaaaW.PrintMore
attribute [local go_sem] max2_int min2_int max_two min_two max_three min_three max_four min_four
set_option linter.unusedVariables false
set_option linter.unusedSimpArgs false
section
variable {P : Program} {ops : Array Oper} {Q : Exit → Act → World → Prop} {md : Region.Mode}
end
end Go.Proofs.Ytilebfkehmecaaa.Print
namespace Go.Proofs.Ytilebfkehmecaaa.Print
open Go.RowKit Go.Proofs.YtilebfkehmecaaaW.PrintWords Go.Proofs.YtilebfkehmecaaaW.PrintLast Go.Proofs.YtilebfkehmecaaaW.PrintMore
attribute [local go_sem] max2_int min2_int max_two min_two max_three min_three max_four min_four
set_option linter.unusedVariables false
set_option linter.unusedSimpArgs false
open Go.RowKit
section
variable {α : Type} {d : Kd α} {e : Nat} {W W1 : World} {v : Value}
theorem flatten_get {sz : Nat} : ∀ (css : List (List Value)) (j : Nat) (c : List Value) (i : Nat), (∀ c ∈ css, c.length = sz) → css[j]? = some c → i < sz → css.flatten[j * sz + i]? = c[i]?
  | [], j, c, i, _, h, _ => by simp at h
  | x :: r, 0, c, i, hl, h, hi => by
    obtain rfl : x = c := by simpa using h
    have := hl x (by simp)
    simp only [List.flatten_cons, Nat.zero_mul, Nat.zero_add]
    rw [List.getElem?_append_left (by omega)]
  | x :: r, j + 1, c, i, hl, h, hi => by
    have h1 := hl x (by simp)
    have h2 : r[j]? = some c := by simpa using h
    simp only [List.flatten_cons]
    have e1 : (j + 1) * sz + i = x.length + (j * sz + i) := by rw [h1, Nat.succ_mul]; omega
    rw [e1, List.getElem?_append_right (by omega), Nat.add_sub_cancel_left]
    exact flatten_get r j c i (fun c hc => hl c (by simp [hc])) h2 hi
def Is (d : Kd α) (B : Nat) (W : World) (v : Value) (x : α) : Prop := ∃ cs : List Value, v = .agg cs.toArray ∧ Kd.FK d W (fun k => B ≤ k ∧ k < W.heap.size) x cs
def IsRow (d : Kd α) (B : Nat) (e : Nat) (W : World) (v : Value) (l : List α) : Prop :=
  ∃ (b : Nat) (css : List (List Value)), v = .slice (some ⟨b, 0, none⟩) l.length l.length ∧ W.heap[b]? = some (.cells css.flatten.toArray e (0, 0)) ∧ B ≤ b ∧ css.length = l.length ∧ l.length ≤ 9223372036854775807 ∧
    ∀ (j : Nat) (x : α) (c : List Value), l[j]? = some x → css[j]? = some c → Kd.FK d W (fun k => B ≤ k ∧ k < b) x c
variable {B : Nat}
theorem Is.below {x : α} (h : Is d B W v x) (hb : Below W.heap.size W W1) : Is d B W1 v x := by
  obtain ⟨cs, e1, h⟩ := h
  exact ⟨cs, e1, Kd.FK_mono (Kd.FK_below h hb) (fun k hk => ⟨hk.1, Nat.lt_of_lt_of_le hk.2 hb.size⟩)⟩
theorem IsRow.below {l : List α} (h : IsRow d B e W v l) (hb : Below W.heap.size W W1) : IsRow d B e W1 v l := by
  obtain ⟨b, css, e1, h1, h0, h2, h3, h4⟩ := h
  exact ⟨b, css, e1, (hb.block _ (blk_lt h1)).trans h1, h0, h2, h3, fun j x c hj hc => Kd.FK_below (h4 j x c hj hc) hb⟩
theorem IsRow.F {l : List α} {b : Nat} {css : List (List Value)} (h1 : W.heap[b]? = some (.cells css.flatten.toArray e (0, 0))) (h0 : B ≤ b) (h2 : css.length = l.length) (h3 : l.length ≤ 9223372036854775807)
    (h4 : ∀ (j : Nat) (x : α) (c : List Value), l[j]? = some x → css[j]? = some c → Kd.FK d W (fun k => B ≤ k ∧ k < b) x c) : Kd.F d W (fun k => B ≤ k ∧ k < W.heap.size) (some ⟨b, 0, none⟩) l.length l := by
  intro W' hW'
  have hb := blk_lt h1
  have hlen : ∀ c ∈ css, c.length = d.sz := by
    intro c hc
    obtain ⟨j, hj, e2⟩ := List.mem_iff_getElem.1 hc
    have hj2 : j < l.length := by omega
    exact d.K_len (Kd.FK_now (h4 j l[j] c (List.getElem?_eq_getElem hj2) (by rw [List.getElem?_eq_getElem hj, e2])))
  refine ⟨rfl, h3, fun _ => ⟨_, rfl, fun j x hj => ?_⟩⟩
  have hj2 : j < css.length := by have := (List.getElem?_eq_some_iff.1 hj).1; omega
  have hc := List.getElem?_eq_getElem hj2
  have hk := h4 j x _ hj hc
  refine ⟨css[j], hlen _ (List.getElem_mem hj2), hk W' (fun k hk' hk2 => hW' k ⟨hk'.1, hk2⟩ hk2), fun i u hu => ?_⟩
  have hi : i < d.sz := by have := (List.getElem?_eq_some_iff.1 hu).1; rw [hlen _ (List.getElem_mem hj2)] at this; exact this
  have hg := flatten_get css j _ i hlen hc hi
  have hB := (hW' b ⟨h0, hb⟩ hb).trans h1
  have : (⟨b, 0, none⟩ : Addr).add (j * d.sz + i) = ⟨b, j * d.sz + i, none⟩ := by unfold Addr.add; split <;> simp_all
  rw [this, blk_cell hB (j * d.sz + i)]
  simpa [hg] using hu
theorem IsRow.foot {l : List α} (h : IsRow d B e W v l) : ∃ A, v = .slice A l.length l.length ∧ Kd.F d W (fun k => B ≤ k ∧ k < W.heap.size) A l.length l := by
  obtain ⟨b, css, e1, h1, h0, h2, h3, h4⟩ := h
  exact ⟨_, e1, IsRow.F h1 h0 h2 h3 h4⟩
theorem IsRow.C {l : List α} (h : IsRow d B e W v l) : ∃ A, v = .slice A l.length l.length ∧ d.C W A l.length l := by
  obtain ⟨A, e1, h1⟩ := h.foot
  exact ⟨A, e1, Kd.F_now h1⟩
theorem IsRow.new {l : List α} (hB : B ≤ W.heap.size) (css : List (List Value)) {cs : Array Value} (hcs : cs = css.flatten.toArray) (h2 : css.length = l.length) (h3 : l.length ≤ 9223372036854775807) (h4 : ∀ (j : Nat) (x : α) (c : List Value), l[j]? = some x → css[j]? = some c → Kd.FK d W (fun k => B ≤ k ∧ k < W.heap.size) x c) :
    IsRow d B e (W.alloc (.cells cs e)) (.slice (some ⟨W.heap.size, 0, none⟩) l.length l.length) l := by
  subst hcs
  exact ⟨_, css, rfl, heap_alloc_new _ _, hB, h2, h3, fun j x c hj hc => Kd.FK_below (h4 j x c hj hc) (bal (Below.refl _ _) _)⟩
theorem F_zero (A : Option Addr) (ok : Nat → Prop) : Kd.F d W ok A ([] : List α).length [] := fun W' _ => ⟨rfl, by simp, fun h => by simp at h⟩
end
end Go.Proofs.Ytilebfkehmecaaa.Print
namespace Go.Proofs.Ytilebfkehmecaaa.Print
open Go.RowKit Go.Proofs.YtilebfkehmecaaaW.PrintWords Go.Proofs.YtilebfkehmecaaaW.PrintLast Go.Proofs.YtilebfkehmecaaaW.PrintMore
attribute [local go_sem] max2_int min2_int max_two min_two max_three min_three max_four min_four
set_option linter.unusedVariables false
set_option linter.unusedSimpArgs false
open Go.Shelf Go.RowKit
attribute [local go_sem] Oper.semAt_some
theorem run_copy_rowk {P : Program} (w : World) (dT sT ty elem : TypeId) (k g o dLen dCap : Nat) (a : Addr) (sLen sCap : Nat) (cur : Array Value) (t : TypeId) (cs : List Value)
    (hu : P.underlying dT = some (.slice elem)) (hs : (P.info? elem).map (·.size) = some k)
    (hg : w.heap[g]? = some (.cells cur t (0, 0))) (hn : cs.length = Nat.min sLen dLen * k)
    (hsrc : ∀ j v, cs[j]? = some v → w.cell? (a.add j) = some v) (hfit : o + cs.length ≤ cur.size) (h1 : ∀ v ∈ cs, v.oneCell' = true) :
    (Builtin.copy_ #[dT, sT] ty #[.slice (some ⟨g, o, none⟩) dLen dCap, .slice (some a) sLen sCap]).run P w =
      .ok (goInt (Nat.min sLen dLen)) (w.setRow g (cur.toList.take o ++ cs ++ cur.toList.drop (o + cs.length)).toArray) := by
  have hl := run_loadCells_list (P := P) w a cs hsrc
  have hst := run_storeCells_at P g o t cs 0 cur w hg (by simpa using hfit) h1
  cases hq : P.info? elem with
  | none => simp [hq] at hs
  | some i =>
    have hi : i.size = k := by simpa [hq] using hs
    simp [Builtin.copy_, run_underlying hu, Builtin.lenOf, Builtin.firstCells, sizeOf, typeInfo, hq, hi, ← hn, hl, hst]
theorem wpList_copy_rowk {P : Program} {w : World} {ops : Array Oper} {rest : List Oper} {o : Oper} {a : Act} {Q : Exit → Act → World → Prop} (hgd : o.guard = none) (d s : Operand) (dT sT : TypeId)
    (ho : o.op = .call { callee := .builtin .copy, args := #[d, s], argTypes := #[dT, sT] }) (elem k : TypeId) (hu : P.underlying dT = some (.slice elem)) (hsz : (P.info? elem).map (·.size) = some k)
    (g off dLen dCap : Nat) (ad : Addr) (sLen sCap : Nat) (hd : a.eval d = .slice (some ⟨g, off, none⟩) dLen dCap) (hs : a.eval s = .slice (some ad) sLen sCap)
    (cur : Array Value) (t : TypeId) (hg : w.heap[g]? = some (.cells cur t (0, 0))) (cs : List Value) (hn : cs.length = Nat.min sLen dLen * k)
    (hsrc : ∀ j v, cs[j]? = some v → w.cell? (ad.add j) = some v) (hfit : off + cs.length ≤ cur.size) (h1 : ∀ v ∈ cs, v.oneCell' = true) (new : Array Value) (hnew : (cur.toList.take off ++ cs ++ cur.toList.drop (off + cs.length)).toArray = new)
    (h : ∀ w', w'.heap[g]? = some (.cells new t (0, 0)) → (∀ B, B ≤ g → Below B w w') → w'.heap.size = w.heap.size → wpList P ops Q rest (a.put o.dst (goInt (Nat.min sLen dLen))) w') : wpList P ops Q (o :: rest) a w := by
  subst hnew
  refine wpList_plain hgd fun K hK => ?_
  have hrun := run_copy_rowk (P := P) w dT sT o.type elem k g off dLen dCap ad sLen sCap cur t cs hu hsz hg hn hsrc hfit h1
  unfold Oper.wp
  simp [execOp, ho, resolve, invoke, builtin, hd, hs, hrun, Result.andThen]
  refine hK _ _ (h _ ?_ (fun B hB => below_setRow (Below.refl _ _) hB _) (by simp [World.setRow]))
  have := setRow_heap w g cur ((cur.toList.take off ++ cs ++ cur.toList.drop (off + cs.length)).toArray) t (0, 0) hg
  simpa using this
theorem step_copy_rowk {P : Program} {w : World} {ops : Array Oper} {o : Oper} {a : Act} {Kc : Act → World → Prop} {Q : Exit → Act → World → Prop} (hw : Region.wanted o (yielded ops a.tmps) = true) (d s : Operand) (dT sT : TypeId)
    (ho : o.op = .call { callee := .builtin .copy, args := #[d, s], argTypes := #[dT, sT] }) (elem k : TypeId) (hu : P.underlying dT = some (.slice elem)) (hsz : (P.info? elem).map (·.size) = some k)
    (g off dLen dCap : Nat) (ad : Addr) (sLen sCap : Nat) (hd : a.eval d = .slice (some ⟨g, off, none⟩) dLen dCap) (hs : a.eval s = .slice (some ad) sLen sCap)
    (cur : Array Value) (t : TypeId) (hg : w.heap[g]? = some (.cells cur t (0, 0))) (cs : List Value) (hn : cs.length = Nat.min sLen dLen * k)
    (hsrc : ∀ j v, cs[j]? = some v → w.cell? (ad.add j) = some v) (hfit : off + cs.length ≤ cur.size) (h1 : ∀ v ∈ cs, v.oneCell' = true) (new : Array Value) (hnew : (cur.toList.take off ++ cs ++ cur.toList.drop (off + cs.length)).toArray = new)
    (h : ∀ w', w'.heap[g]? = some (.cells new t (0, 0)) → (∀ B, B ≤ g → Below B w w') → w'.heap.size = w.heap.size → Kc (a.put o.dst (goInt (Nat.min sLen dLen))) w') :
    if Region.wanted o (yielded ops a.tmps) = true then Oper.wp P o a w Kc Q else Kc (a.put o.dst undef) w := by
  subst hnew
  rw [if_pos hw]
  have hrun := run_copy_rowk (P := P) w dT sT o.type elem k g off dLen dCap ad sLen sCap cur t cs hu hsz hg hn hsrc hfit h1
  unfold Oper.wp
  simp [execOp, ho, resolve, invoke, builtin, hd, hs, hrun, Result.andThen]
  refine h _ ?_ (fun B hB => below_setRow (Below.refl _ _) hB _) (by simp [World.setRow])
  have := setRow_heap w g cur ((cur.toList.take off ++ cs ++ cur.toList.drop (off + cs.length)).toArray) t (0, 0) hg
  simpa using this
theorem srcn {W : World} {b t : Nat} {cur : Array Value} {cs : List Value} (h : W.heap[b]? = some (.cells cur t (0, 0))) (hc : ∀ (j : Nat) (v : Value), cs[j]? = some v → cur[j]? = some v) : ∀ j v, cs[j]? = some v → W.cell? ((⟨b, 0, none⟩ : Addr).add j) = some v := by
  intro j v hj
  have : (⟨b, 0, none⟩ : Addr).add j = ⟨b, j, none⟩ := by unfold Addr.add; split <;> simp_all
  rw [this, blk_cell h j]
  exact hc j v hj
theorem C_of_row {α : Type} {d : Kd α} {W : World} {b e : Nat} {l : List α} {css : List (List Value)} (h1 : W.heap[b]? = some (.cells css.flatten.toArray e (0, 0))) (h2 : css.length = l.length) (h3 : l.length ≤ 9223372036854775807)
    (h4 : ∀ (j : Nat) (x : α) (c : List Value), l[j]? = some x → css[j]? = some c → d.K W x c) : d.C W (some ⟨b, 0, none⟩) l.length l := by
  have hlen : ∀ c ∈ css, c.length = d.sz := by
    intro c hc
    obtain ⟨j, hj, e2⟩ := List.mem_iff_getElem.1 hc
    have hj2 : j < l.length := by omega
    exact d.K_len (h4 j l[j] c (List.getElem?_eq_getElem hj2) (by rw [List.getElem?_eq_getElem hj, e2]))
  have flat : ∀ (css : List (List Value)) (j : Nat) (c : List Value) (i : Nat), (∀ c ∈ css, c.length = d.sz) → css[j]? = some c → i < d.sz → css.flatten[j * d.sz + i]? = c[i]? := by
    intro css
    induction css with
    | nil => intro j c i _ h _; simp at h
    | cons x r ih =>
      intro j c i hl h hi
      have h1 := hl x (by simp)
      cases j with
      | zero =>
        obtain rfl : x = c := by simpa using h
        simp only [List.flatten_cons, Nat.zero_mul, Nat.zero_add]
        rw [List.getElem?_append_left (by omega)]
      | succ j =>
        have e1 : (j + 1) * d.sz + i = x.length + (j * d.sz + i) := by rw [h1, Nat.succ_mul]; omega
        simp only [List.flatten_cons]
        rw [e1, List.getElem?_append_right (by omega), Nat.add_sub_cancel_left]
        exact ih j c i (fun c hc => hl c (by simp [hc])) (by simpa using h) hi
  refine ⟨rfl, h3, fun _ => ⟨_, rfl, fun j x hj => ?_⟩⟩
  have hj2 : j < css.length := by have := (List.getElem?_eq_some_iff.1 hj).1; omega
  have hc := List.getElem?_eq_getElem hj2
  refine ⟨css[j], hlen _ (List.getElem_mem hj2), h4 j x _ hj hc, fun i u hu => ?_⟩
  have hi : i < d.sz := by have := (List.getElem?_eq_some_iff.1 hu).1; rw [hlen _ (List.getElem_mem hj2)] at this; exact this
  have hg := flat css j _ i hlen hc hi
  have : (⟨b, 0, none⟩ : Addr).add (j * d.sz + i) = ⟨b, j * d.sz + i, none⟩ := by unfold Addr.add; split <;> simp_all
  rw [this, blk_cell h1 (j * d.sz + i)]
  simpa [hg] using hu
set_option maxHeartbeats 4000000 in
set_option maxRecDepth 100000 in
theorem bits_Mul.one (n : Int) (w : World) (hn : n = 1 ∨ n = 2 ∨ n = 3) : Calls Try.prog 97 #[.int .u64 1, .int .u64 n] w fun e w' => e = .returned (.tuple #[.int .u64 0, .int .u64 n]) ∧ w = w' := by
  rcases hn with rfl | rfl | rfl
  all_goals
    go_enter Try.func97, Try.ntmps97
    go_wp2
    go_ret2
    exact ⟨rfl, rfl⟩
theorem src3 {W : World} {b t : Nat} {x y z : Value} (h : W.heap[b]? = some (.cells #[x, y, z] t (0, 0))) : ∀ j v, [x, y, z][j]? = some v → W.cell? ((⟨b, 0, none⟩ : Addr).add j) = some v := by
  intro j v hj
  have : (⟨b, 0, none⟩ : Addr).add j = ⟨b, j, none⟩ := by unfold Addr.add; split <;> simp_all
  rw [this, blk_cell h j]
  simpa using hj
set_option maxHeartbeats 8000000 in
set_option maxRecDepth 100000 in
theorem slices_Repeat.calls (n : Nat) (hn : n = 1 ∨ n = 2 ∨ n = 3) (p0 : Int) (A1 : Option Addr) (n1 c1 : Nat) (A2 : Option Addr) (n2 c2 : Nat) (b : Nat) (w : World) (hb : w.heap[b]? = some (.cells #[.int .i64 p0, .slice A1 n1 c1, .slice A2 n2 c2] 25 (0, 0))) :
    Calls Try.prog 66 #[.slice (some ⟨b, 0, none⟩) 1 1, .int .i64 (n : Int)] w fun e w' => ∃ B, e = .returned (.slice (some ⟨B, 0, none⟩) n n) ∧ w'.heap[B]? = some (.cells (List.replicate n [.int .i64 p0, .slice A1 n1 c1, .slice A2 n2 c2]).flatten.toArray 25 (0, 0)) ∧ Below w.heap.size w w' := by
  have huP := Try.underlying93
  have hlt := blk_lt hb
  have hi : ∃ i, Try.prog.info? 25 = some i ∧ i.zero = some (.agg #[.int .i64 0, .slice none 0 0, .slice none 0 0]) ∧ i.size = 3 ∧ i.bytes = 56 := by
    have h := info25
    obtain ⟨i, h1, h2⟩ := Option.map_eq_some_iff.1 h
    simp only [Prod.mk.injEq] at h2
    exact ⟨i, h1, h2.1, h2.2.1, h2.2.2⟩
  have hsz : (Try.prog.info? 25).map (·.size) = some 3 := by
    obtain ⟨i, h1, _, h3, _⟩ := hi
    rw [h1]; simp [h3]
  have hmk : ∀ m : Nat, m ≤ 3 → ∀ W : World, (Instr.makeSlice 93 (.int .i64 (m : Int)) (.int .i64 (m : Int))).run Try.prog W = .ok (.slice (some ⟨W.heap.size, 0, none⟩) m m) (W.alloc (.cells (madeCells #[.int .i64 0, .slice none 0 0, .slice none 0 0] (m * 3)) 25)) := by
    intro m hm W
    obtain ⟨i, h1, h2, h3, h4⟩ := hi
    have := run_make (P := Try.prog) W 93 25 i _ huP h1 h2 .i64 .i64 (m : Int) (m : Int) (by omega) (Int.le_refl _) (by rw [h4]; omega) (by omega)
    rw [h3] at this
    simp only [Int.toNat_natCast] at this
    exact this
  have HB := Aside0.mk hb
  clear hi hb
  rcases hn with rfl | rfl | rfl
  · have hm : ∀ W : World, (Instr.makeSlice 93 (.int .i64 1) (.int .i64 1)).run Try.prog W = .ok (.slice (some ⟨W.heap.size, 0, none⟩) 1 1) (W.alloc (.cells #[.int .i64 0, .slice none 0 0, .slice none 0 0] 25)) := fun W => by have h9 := hmk 1 (by omega) W; rwa [show madeCells #[.int .i64 0, .slice none 0 0, .slice none 0 0] (1 * 3) = #[.int .i64 0, .slice none 0 0, .slice none 0 0] from by first | rfl | kernel_rfl] at h9
    clear hmk
    have b0 := bal (Below.refl w.heap.size w) (.cells #[.int .i64 0, .slice none 0 0, .slice none 0 0] 25)
    have z0 : (w.alloc (.cells #[.int .i64 0, .slice none 0 0, .slice none 0 0] 25)).heap[w.heap.size]? = some (.cells #[.int .i64 0, .slice none 0 0, .slice none 0 0] 25 (0, 0)) := blk_new _ _
    have d0 := blk_below HB.out b0
    obtain ⟨W0, hW0⟩ : ∃ X, w.alloc (.cells #[.int .i64 0, .slice none 0 0, .slice none 0 0] 25) = X := ⟨_, rfl⟩
    rw [hW0] at b0 z0 d0
    go_enter Try.func66, Try.ntmps66
    go_wp2_with (first | (go_at_call 97; refine (bits_Mul.one 1 _ (by decide)).mono ?_; rintro e W ⟨rfl, rfl⟩) | ((with_reducible refine gate_builtin (b := .copy) (xs := #[.tmp 31, .tmp 32]) rfl ?_); go_must (refine wpList_copy_rowk (P := Try.prog) (w := W0) rfl (.tmp 31) (.tmp 32) 93 93 rfl 25 3 huP hsz w.heap.size 0 1 1 ⟨b, 0, none⟩ 1 1 rfl rfl _ 25 z0 [.int .i64 p0, .slice A1 n1 c1, .slice A2 n2 c2] rfl (src3 d0) (by simp) (by simp [Value.oneCell']) #[.int .i64 p0, .slice A1 n1 c1, .slice A2 n2 c2] rfl ?_; intro W1 z1 b1 s1)))
    have s2 : W0.heap.size = w.heap.size + 1 := by rw [← hW0]; simp
    have SS := Aside0.mk (show w.heap.size + 1 ≤ W1.heap.size by omega)
    have BW := Aside0.mk (b0.trans (b1 _ (Nat.le_refl _)))
    have ROW := Aside0.mk z1
    clear z0 b0 d0 hW0 z1 b1 s1 s2 hm HB hlt
    go_loopg [8] 0 (fun kq v8 X => ((v8 = .int .i64 1 ∧ 1 + kq = 1 ∧ Aside0 (X.heap[w.heap.size]? = some (.cells #[.int .i64 p0, .slice A1 n1 c1, .slice A2 n2 c2] 25 (0, 0))))) ∧ Aside0 (Below w.heap.size w X))
    case atStart => exact ⟨⟨rfl, by decide, ROW⟩, BW⟩
    case round =>
      clear ROW BW SS
      obtain ⟨hrel, BW⟩ := hrel
      rcases hrel with ⟨rfl, hk, ROW⟩
      · obtain rfl : gk = 0 := by omega
        go_wp2
        go_ret
        exact ⟨_, rfl, ROW.out, BW.out⟩
  · have hm : ∀ W : World, (Instr.makeSlice 93 (.int .i64 2) (.int .i64 2)).run Try.prog W = .ok (.slice (some ⟨W.heap.size, 0, none⟩) 2 2) (W.alloc (.cells #[.int .i64 0, .slice none 0 0, .slice none 0 0, .int .i64 0, .slice none 0 0, .slice none 0 0] 25)) := fun W => by have h9 := hmk 2 (by omega) W; rwa [show madeCells #[.int .i64 0, .slice none 0 0, .slice none 0 0] (2 * 3) = #[.int .i64 0, .slice none 0 0, .slice none 0 0, .int .i64 0, .slice none 0 0, .slice none 0 0] from by first | rfl | kernel_rfl] at h9
    clear hmk
    have b0 := bal (Below.refl w.heap.size w) (.cells #[.int .i64 0, .slice none 0 0, .slice none 0 0, .int .i64 0, .slice none 0 0, .slice none 0 0] 25)
    have z0 : (w.alloc (.cells #[.int .i64 0, .slice none 0 0, .slice none 0 0, .int .i64 0, .slice none 0 0, .slice none 0 0] 25)).heap[w.heap.size]? = some (.cells #[.int .i64 0, .slice none 0 0, .slice none 0 0, .int .i64 0, .slice none 0 0, .slice none 0 0] 25 (0, 0)) := blk_new _ _
    have d0 := blk_below HB.out b0
    obtain ⟨W0, hW0⟩ : ∃ X, w.alloc (.cells #[.int .i64 0, .slice none 0 0, .slice none 0 0, .int .i64 0, .slice none 0 0, .slice none 0 0] 25) = X := ⟨_, rfl⟩
    rw [hW0] at b0 z0 d0
    go_enter Try.func66, Try.ntmps66
    go_wp2_with (first | (go_at_call 97; refine (bits_Mul.one 2 _ (by decide)).mono ?_; rintro e W ⟨rfl, rfl⟩) | ((with_reducible refine gate_builtin (b := .copy) (xs := #[.tmp 31, .tmp 32]) rfl ?_); go_must (refine wpList_copy_rowk (P := Try.prog) (w := W0) rfl (.tmp 31) (.tmp 32) 93 93 rfl 25 3 huP hsz w.heap.size 0 2 2 ⟨b, 0, none⟩ 1 1 rfl rfl _ 25 z0 [.int .i64 p0, .slice A1 n1 c1, .slice A2 n2 c2] rfl (src3 d0) (by simp) (by simp [Value.oneCell']) #[.int .i64 p0, .slice A1 n1 c1, .slice A2 n2 c2, .int .i64 0, .slice none 0 0, .slice none 0 0] rfl ?_; intro W1 z1 b1 s1)))
    have s2 : W0.heap.size = w.heap.size + 1 := by rw [← hW0]; simp
    have SS := Aside0.mk (show w.heap.size + 1 ≤ W1.heap.size by omega)
    have BW := Aside0.mk (b0.trans (b1 _ (Nat.le_refl _)))
    have ROW := Aside0.mk z1
    clear z0 b0 d0 hW0 z1 b1 s1 s2 hm HB hlt
    go_loopg [8] 1 (fun kq v8 X => ((v8 = .int .i64 1 ∧ 1 + kq = 2 ∧ Aside0 (X.heap[w.heap.size]? = some (.cells #[.int .i64 p0, .slice A1 n1 c1, .slice A2 n2 c2, .int .i64 0, .slice none 0 0, .slice none 0 0] 25 (0, 0)))) ∨ (v8 = .int .i64 2 ∧ 2 + kq = 2 ∧ Aside0 (X.heap[w.heap.size]? = some (.cells #[.int .i64 p0, .slice A1 n1 c1, .slice A2 n2 c2, .int .i64 p0, .slice A1 n1 c1, .slice A2 n2 c2] 25 (0, 0))))) ∧ Aside0 (Below w.heap.size w X))
    case atStart => exact ⟨.inl ⟨rfl, by decide, ROW⟩, BW⟩
    case round =>
      clear ROW BW SS
      obtain ⟨hrel, BW⟩ := hrel
      rcases hrel with ⟨rfl, hk, ROW⟩ | ⟨rfl, hk, ROW⟩
      · obtain rfl : gk = 1 := by omega
        go_wp2
        have RD := Aside0.mk (kdr ROW.out)
        have BD := Aside0.mk (below_drew BW.out)
        refine start_ (n := 10) (S := fun _ => True) (ds := []) #[false, false, false, false, false, false, false, false, false, false] (by kernel_rfl) rfl rfl trivial (fun hHeld => ?_)
        generalize wr.drew = Y at RD BD hHeld ⊢
        refine pu (i := 0) (N := some 38) #[true, false, false, false, false, false, false, false, false, false] rfl rfl (by kernel_rfl) ?_
        refine pu (i := 1) (N := some 39) #[true, true, false, false, false, false, false, false, false, false] rfl rfl (by kernel_rfl) ?_
        refine pu (i := 2) (N := some 40) #[true, true, true, false, false, false, false, false, false, false] rfl rfl (by kernel_rfl) ?_
        refine pu (i := 3) (N := some 41) #[true, true, true, true, false, false, false, false, false, false] rfl rfl (by kernel_rfl) ?_
        refine pu (i := 4) (N := some 42) #[true, true, true, true, true, false, false, false, false, false] rfl rfl (by kernel_rfl) ?_
        refine pu (i := 5) (N := some 43) #[true, true, true, true, true, true, false, false, false, false] rfl rfl (by kernel_rfl) ?_
        refine pu (i := 6) (N := some 44) #[true, true, true, true, true, true, true, false, false, false] rfl rfl (by kernel_rfl) ?_
        refine one_ (i := 7) (N := (some 45)) #[true, true, true, true, true, true, true, true, false, false] rfl rfl (by kernel_rfl) (by decide) (fun K hK => ?_)
        refine step_copy_rowk (P := Try.prog) (w := Y) (by rfl) (.tmp 41) (.tmp 44) 93 93 rfl 25 3 huP hsz w.heap.size 3 1 1 ⟨w.heap.size, 0, none⟩ 1 2 rfl rfl _ 25 RD.out [.int .i64 p0, .slice A1 n1 c1, .slice A2 n2 c2] rfl (srcn RD.out (by intro j v hj; rcases j with _ | _ | _ | j <;> simp_all)) (by simp) (by simp [Value.oneCell']) #[.int .i64 p0, .slice A1 n1 c1, .slice A2 n2 c2, .int .i64 p0, .slice A1 n1 c1, .slice A2 n2 c2] rfl ?_
        intro Y2 z2 b2 s2
        refine hK.out _ _ trivial (fun hHeld => ?_)
        clear hK K
        refine nm 45 ?_
        refine pu (i := 8) (N := some 46) #[true, true, true, true, true, true, true, true, true, false] rfl rfl (by kernel_rfl) ?_
        refine pu (i := 9) (N := some 8) #[true, true, true, true, true, true, true, true, true, true] rfl rfl (by kernel_rfl) ?_
        refine done_ (by kernel_rfl) ?_
        try simp only [Exit.then, Exit.inBlock]
        have bz := Aside0.mk (BD.out.trans (b2 _ (Nat.le_refl _)))
        have rz := Aside0.mk z2
        try go_wp2
        go_roundg 0
        case measure => omega
        case rel => exact ⟨.inr (⟨by first | rfl | (unfold wrap64; rfl) | (simp [wrap64]; done), by decide, rz⟩), bz⟩
      · obtain rfl : gk = 0 := by omega
        go_wp2
        go_ret
        exact ⟨_, rfl, ROW.out, BW.out⟩
  · have hm : ∀ W : World, (Instr.makeSlice 93 (.int .i64 3) (.int .i64 3)).run Try.prog W = .ok (.slice (some ⟨W.heap.size, 0, none⟩) 3 3) (W.alloc (.cells #[.int .i64 0, .slice none 0 0, .slice none 0 0, .int .i64 0, .slice none 0 0, .slice none 0 0, .int .i64 0, .slice none 0 0, .slice none 0 0] 25)) := fun W => by have h9 := hmk 3 (by omega) W; rwa [show madeCells #[.int .i64 0, .slice none 0 0, .slice none 0 0] (3 * 3) = #[.int .i64 0, .slice none 0 0, .slice none 0 0, .int .i64 0, .slice none 0 0, .slice none 0 0, .int .i64 0, .slice none 0 0, .slice none 0 0] from by first | rfl | kernel_rfl] at h9
    clear hmk
    have b0 := bal (Below.refl w.heap.size w) (.cells #[.int .i64 0, .slice none 0 0, .slice none 0 0, .int .i64 0, .slice none 0 0, .slice none 0 0, .int .i64 0, .slice none 0 0, .slice none 0 0] 25)
    have z0 : (w.alloc (.cells #[.int .i64 0, .slice none 0 0, .slice none 0 0, .int .i64 0, .slice none 0 0, .slice none 0 0, .int .i64 0, .slice none 0 0, .slice none 0 0] 25)).heap[w.heap.size]? = some (.cells #[.int .i64 0, .slice none 0 0, .slice none 0 0, .int .i64 0, .slice none 0 0, .slice none 0 0, .int .i64 0, .slice none 0 0, .slice none 0 0] 25 (0, 0)) := blk_new _ _
    have d0 := blk_below HB.out b0
    obtain ⟨W0, hW0⟩ : ∃ X, w.alloc (.cells #[.int .i64 0, .slice none 0 0, .slice none 0 0, .int .i64 0, .slice none 0 0, .slice none 0 0, .int .i64 0, .slice none 0 0, .slice none 0 0] 25) = X := ⟨_, rfl⟩
    rw [hW0] at b0 z0 d0
    go_enter Try.func66, Try.ntmps66
    go_wp2_with (first | (go_at_call 97; refine (bits_Mul.one 3 _ (by decide)).mono ?_; rintro e W ⟨rfl, rfl⟩) | ((with_reducible refine gate_builtin (b := .copy) (xs := #[.tmp 31, .tmp 32]) rfl ?_); go_must (refine wpList_copy_rowk (P := Try.prog) (w := W0) rfl (.tmp 31) (.tmp 32) 93 93 rfl 25 3 huP hsz w.heap.size 0 3 3 ⟨b, 0, none⟩ 1 1 rfl rfl _ 25 z0 [.int .i64 p0, .slice A1 n1 c1, .slice A2 n2 c2] rfl (src3 d0) (by simp) (by simp [Value.oneCell']) #[.int .i64 p0, .slice A1 n1 c1, .slice A2 n2 c2, .int .i64 0, .slice none 0 0, .slice none 0 0, .int .i64 0, .slice none 0 0, .slice none 0 0] rfl ?_; intro W1 z1 b1 s1)))
    have s2 : W0.heap.size = w.heap.size + 1 := by rw [← hW0]; simp
    have SS := Aside0.mk (show w.heap.size + 1 ≤ W1.heap.size by omega)
    have BW := Aside0.mk (b0.trans (b1 _ (Nat.le_refl _)))
    have ROW := Aside0.mk z1
    clear z0 b0 d0 hW0 z1 b1 s1 s2 hm HB hlt
    go_loopg [8] 2 (fun kq v8 X => ((v8 = .int .i64 1 ∧ 1 + kq = 3 ∧ Aside0 (X.heap[w.heap.size]? = some (.cells #[.int .i64 p0, .slice A1 n1 c1, .slice A2 n2 c2, .int .i64 0, .slice none 0 0, .slice none 0 0, .int .i64 0, .slice none 0 0, .slice none 0 0] 25 (0, 0)))) ∨ (v8 = .int .i64 2 ∧ 2 + kq = 3 ∧ Aside0 (X.heap[w.heap.size]? = some (.cells #[.int .i64 p0, .slice A1 n1 c1, .slice A2 n2 c2, .int .i64 p0, .slice A1 n1 c1, .slice A2 n2 c2, .int .i64 0, .slice none 0 0, .slice none 0 0] 25 (0, 0)))) ∨ (v8 = .int .i64 3 ∧ 3 + kq = 3 ∧ Aside0 (X.heap[w.heap.size]? = some (.cells #[.int .i64 p0, .slice A1 n1 c1, .slice A2 n2 c2, .int .i64 p0, .slice A1 n1 c1, .slice A2 n2 c2, .int .i64 p0, .slice A1 n1 c1, .slice A2 n2 c2] 25 (0, 0))))) ∧ Aside0 (Below w.heap.size w X))
    case atStart => exact ⟨.inl ⟨rfl, by decide, ROW⟩, BW⟩
    case round =>
      clear ROW BW SS
      obtain ⟨hrel, BW⟩ := hrel
      rcases hrel with ⟨rfl, hk, ROW⟩ | ⟨rfl, hk, ROW⟩ | ⟨rfl, hk, ROW⟩
      · obtain rfl : gk = 2 := by omega
        go_wp2
        have RD := Aside0.mk (kdr ROW.out)
        have BD := Aside0.mk (below_drew BW.out)
        refine start_ (n := 10) (S := fun _ => True) (ds := []) #[false, false, false, false, false, false, false, false, false, false] (by kernel_rfl) rfl rfl trivial (fun hHeld => ?_)
        generalize wr.drew = Y at RD BD hHeld ⊢
        refine pu (i := 0) (N := some 38) #[true, false, false, false, false, false, false, false, false, false] rfl rfl (by kernel_rfl) ?_
        refine pu (i := 1) (N := some 39) #[true, true, false, false, false, false, false, false, false, false] rfl rfl (by kernel_rfl) ?_
        refine pu (i := 2) (N := some 40) #[true, true, true, false, false, false, false, false, false, false] rfl rfl (by kernel_rfl) ?_
        refine pu (i := 3) (N := some 41) #[true, true, true, true, false, false, false, false, false, false] rfl rfl (by kernel_rfl) ?_
        refine pu (i := 4) (N := some 42) #[true, true, true, true, true, false, false, false, false, false] rfl rfl (by kernel_rfl) ?_
        refine pu (i := 5) (N := some 43) #[true, true, true, true, true, true, false, false, false, false] rfl rfl (by kernel_rfl) ?_
        refine pu (i := 6) (N := some 44) #[true, true, true, true, true, true, true, false, false, false] rfl rfl (by kernel_rfl) ?_
        refine one_ (i := 7) (N := (some 45)) #[true, true, true, true, true, true, true, true, false, false] rfl rfl (by kernel_rfl) (by decide) (fun K hK => ?_)
        refine step_copy_rowk (P := Try.prog) (w := Y) (by rfl) (.tmp 41) (.tmp 44) 93 93 rfl 25 3 huP hsz w.heap.size 3 2 2 ⟨w.heap.size, 0, none⟩ 1 3 rfl rfl _ 25 RD.out [.int .i64 p0, .slice A1 n1 c1, .slice A2 n2 c2] rfl (srcn RD.out (by intro j v hj; rcases j with _ | _ | _ | j <;> simp_all)) (by simp) (by simp [Value.oneCell']) #[.int .i64 p0, .slice A1 n1 c1, .slice A2 n2 c2, .int .i64 p0, .slice A1 n1 c1, .slice A2 n2 c2, .int .i64 0, .slice none 0 0, .slice none 0 0] rfl ?_
        intro Y2 z2 b2 s2
        refine hK.out _ _ trivial (fun hHeld => ?_)
        clear hK K
        refine nm 45 ?_
        refine pu (i := 8) (N := some 46) #[true, true, true, true, true, true, true, true, true, false] rfl rfl (by kernel_rfl) ?_
        refine pu (i := 9) (N := some 8) #[true, true, true, true, true, true, true, true, true, true] rfl rfl (by kernel_rfl) ?_
        refine done_ (by kernel_rfl) ?_
        try simp only [Exit.then, Exit.inBlock]
        have bz := Aside0.mk (BD.out.trans (b2 _ (Nat.le_refl _)))
        have rz := Aside0.mk z2
        try go_wp2
        go_roundg 1
        case measure => omega
        case rel => exact ⟨.inr (.inl ⟨by first | rfl | (unfold wrap64; rfl) | (simp [wrap64]; done), by decide, rz⟩), bz⟩
      · obtain rfl : gk = 1 := by omega
        go_wp2
        have RD := Aside0.mk (kdr ROW.out)
        have BD := Aside0.mk (below_drew BW.out)
        refine start_ (n := 10) (S := fun _ => True) (ds := []) #[false, false, false, false, false, false, false, false, false, false] (by kernel_rfl) rfl rfl trivial (fun hHeld => ?_)
        generalize wr.drew = Y at RD BD hHeld ⊢
        refine pu (i := 0) (N := some 38) #[true, false, false, false, false, false, false, false, false, false] rfl rfl (by kernel_rfl) ?_
        refine pu (i := 1) (N := some 39) #[true, true, false, false, false, false, false, false, false, false] rfl rfl (by kernel_rfl) ?_
        refine pu (i := 2) (N := some 40) #[true, true, true, false, false, false, false, false, false, false] rfl rfl (by kernel_rfl) ?_
        refine pu (i := 3) (N := some 41) #[true, true, true, true, false, false, false, false, false, false] rfl rfl (by kernel_rfl) ?_
        refine pu (i := 4) (N := some 42) #[true, true, true, true, true, false, false, false, false, false] rfl rfl (by kernel_rfl) ?_
        refine pu (i := 5) (N := some 43) #[true, true, true, true, true, true, false, false, false, false] rfl rfl (by kernel_rfl) ?_
        refine pu (i := 6) (N := some 44) #[true, true, true, true, true, true, true, false, false, false] rfl rfl (by kernel_rfl) ?_
        refine one_ (i := 7) (N := (some 45)) #[true, true, true, true, true, true, true, true, false, false] rfl rfl (by kernel_rfl) (by decide) (fun K hK => ?_)
        refine step_copy_rowk (P := Try.prog) (w := Y) (by rfl) (.tmp 41) (.tmp 44) 93 93 rfl 25 3 huP hsz w.heap.size 6 1 1 ⟨w.heap.size, 0, none⟩ 2 3 rfl rfl _ 25 RD.out [.int .i64 p0, .slice A1 n1 c1, .slice A2 n2 c2] rfl (srcn RD.out (by intro j v hj; rcases j with _ | _ | _ | j <;> simp_all)) (by simp) (by simp [Value.oneCell']) #[.int .i64 p0, .slice A1 n1 c1, .slice A2 n2 c2, .int .i64 p0, .slice A1 n1 c1, .slice A2 n2 c2, .int .i64 p0, .slice A1 n1 c1, .slice A2 n2 c2] rfl ?_
        intro Y2 z2 b2 s2
        refine hK.out _ _ trivial (fun hHeld => ?_)
        clear hK K
        refine nm 45 ?_
        refine pu (i := 8) (N := some 46) #[true, true, true, true, true, true, true, true, true, false] rfl rfl (by kernel_rfl) ?_
        refine pu (i := 9) (N := some 8) #[true, true, true, true, true, true, true, true, true, true] rfl rfl (by kernel_rfl) ?_
        refine done_ (by kernel_rfl) ?_
        try simp only [Exit.then, Exit.inBlock]
        have bz := Aside0.mk (BD.out.trans (b2 _ (Nat.le_refl _)))
        have rz := Aside0.mk z2
        try go_wp2
        go_roundg 0
        case measure => omega
        case rel => exact ⟨.inr (.inr (⟨by first | rfl | (unfold wrap64; rfl) | (simp [wrap64]; done), by decide, rz⟩)), bz⟩
      · obtain rfl : gk = 0 := by omega
        go_wp2
        go_ret
        exact ⟨_, rfl, ROW.out, BW.out⟩
def mvN (i fr op n : Int) : Int := if op = 0 then wrap64 (n + fr) else if op = 4 then wrap64 (n + fr) else if op = 3 then wrap64 (n + wrap64 (16 * i)) else n
mutual
def mvS (i fr : Int) : S64 → Option S64
  | ⟨op, n, a, t, e⟩ => (mvEs (fun _ => some fr) a).bind fun a' => (mvSs i fr t).bind fun t' => (mvSs i fr e).bind fun e' => some ⟨op, mvN i fr op n, a', t', e'⟩
def mvSs (i fr : Int) : List S64 → Option (List S64)
  | [] => some []
  | x :: r => (mvS i fr x).bind fun y => (mvSs i fr r).bind fun s => if r.length < 1000000 then some (y :: s) else none
end
theorem mvSs_get {i fr : Int} : ∀ {l l' : List S64}, mvSs i fr l = some l' → l'.length = l.length ∧ l.length ≤ 1000000 ∧ ∀ (j : Nat) (x : S64), l[j]? = some x → ∃ y, mvS i fr x = some y ∧ l'[j]? = some y
  | [], l', h => by
    rw [mvSs] at h
    obtain rfl := Option.some.inj h
    exact ⟨rfl, by simp, fun j x hj => by simp at hj⟩
  | x :: r, l', h => by
    rw [mvSs] at h
    obtain ⟨y, h1, h⟩ := Option.bind_eq_some_iff.mp h
    obtain ⟨s, h2, h⟩ := Option.bind_eq_some_iff.mp h
    obtain ⟨e1, e2, e3⟩ := mvSs_get h2
    by_cases hl : r.length < 1000000
    · rw [if_pos hl] at h
      obtain rfl := Option.some.inj h
      refine ⟨by simp [e1], by simp; omega, fun j z hj => ?_⟩
      cases j with
      | zero => obtain rfl : x = z := by simpa using hj
                exact ⟨y, h1, rfl⟩
      | succ j => exact e3 j z (by simpa using hj)
    · rw [if_neg hl] at h; cases h
theorem rows_ind {Q : List S64 → Prop} (h : ∀ l, (∀ x ∈ l, Q x.f3 ∧ Q x.f4) → Q l) : ∀ l, Q l :=
  fun l => h l (S64.rec_1 (motive_1 := fun x => Q x.f3 ∧ Q x.f4) (motive_2 := fun l => ∀ x ∈ l, Q x.f3 ∧ Q x.f4) (fun _ _ _ t e h1 h2 => ⟨h t h1, h e h2⟩) (fun _ h => by simp at h) (fun x r h1 h2 y hy => by rcases List.mem_cons.1 hy with rfl | h; exact h1; exact h2 y h) l)
theorem mv_takeS {l' : List S64} {i : Nat} {y : S64} (h : l'[i]? = some y) : l'.take (i + 1) = l'.take i ++ [y] := by
  rw [List.take_add_one, h]; rfl
set_option maxHeartbeats 2000000 in
theorem prod_Moved1.fn (w : World) (b : Nat) (fr : Int) (h : w.heap[b]? = some (.cells #[.int .i64 fr] 3 (0, 0))) : FnAt w (.func (.func 96) #[] #[.pointer (some ⟨b, 0, none⟩)]) (fun _ => some fr) := by
  refine ⟨_, _, rfl, enters_of Try.func96 (by kernel_rfl) rfl, fun W n r hW hr => ?_⟩
  obtain rfl : fr = r := Option.some.inj hr
  show Calls Try.prog 96 #[.int .i64 n, .pointer (some ⟨b, 0, none⟩)] W _
  have c0 : W.cell? ⟨b, 0, none⟩ = some (.int .i64 fr) := (blk_cell ((hW.block _ (blk_lt h)).trans h) 0).trans rfl
  go_enter Try.func96, Try.ntmps96
  go_wp2
  go_ret
  exact ⟨rfl, Below.refl _ _⟩
set_option maxHeartbeats 16000000 in
set_option maxRecDepth 100000 in
theorem prod_Moved.go (i fr : Int) : ∀ (l l' : List S64) (A : Option Addr) (c : Nat) (w : World), mvSs i fr l = some l' → Kd.C k64 w A l.length l → l.length ≤ c →
    Calls Try.prog 64 #[.slice A l.length c, .int .i64 i, .int .i64 fr] w fun en w' => ∃ v : Value, en = .returned v ∧ Kd.R k64 64 w' w.heap.size (fun _ => True) v l' ∧ Below w.heap.size w w' := by
  refine rows_ind fun l ih => ?_
  intro l' A c w h hr hc
  have huE := Try.underlying28
  have huS := Try.underlying64
  have HR := Aside0.mk hr
  have HC := Aside0.mk hc
  have IH := Aside0.mk ih
  obtain ⟨hll, hl6, hget⟩ := mvSs_get h
  have GET := Aside0.mk hget
  clear hr hc ih h hget
  have q0 : (w.alloc (.cells #[.int .i64 fr] 3)).heap[w.heap.size]? = some (.cells #[.int .i64 fr] 3 (0, 0)) := blk_new _ _
  have b0 := bal (Below.refl w.heap.size w) (.cells #[.int .i64 fr] 3)
  have hfn := Aside0.mk (prod_Moved1.fn _ _ _ q0)
  go_enter Try.func64, Try.ntmps64
  go_wp2_with (first | (go_at_call 48; refine (prod_moving.fn _ (fun _ => some fr) _ hfn.out).mono ?_; rintro e W1 ⟨rfl, hmv, hb1⟩))
  have s0 : (w.alloc (.cells #[.int .i64 fr] 3)).heap.size = w.heap.size + 1 := by simp
  rw [s0] at hmv hb1
  have MV := Aside0.mk hmv
  have BX := Aside0.mk ((hb1.block _ (by omega)).trans q0)
  have B1 := Aside0.mk (b0.trans (hb1.mono (by omega)))
  have hlt := blk_lt BX.out
  clear hmv hb1 q0 b0 hfn s0
  go_loopg [8, 18] l.length (fun kq v8 v18 X => ∃ (j : Nat) (A8 : Option Addr) (c8 : Nat), v18 = .int .i64 (j : Int) ∧ v8 = .slice A8 j c8 ∧ Aside0 (j + kq = l.length) ∧ Aside0 (Kd.R k64 64 X W1.heap.size (fun _ => True) (.slice A8 j c8) (l'.take j)) ∧ Aside0 (Below W1.heap.size W1 X))
  case atStart => exact ⟨0, none, 0, rfl, rfl, ⟨by omega⟩, ⟨Kd.R_nil _ _ _ _ _⟩, ⟨Below.refl _ _⟩⟩
  case round =>
    obtain ⟨j, A8, c8, rfl, rfl, HI, HO, BB⟩ := hrel
    cases gk with
    | zero =>
      have hj : j = l.length := by have := HI.out; omega
      subst hj
      have hd : decide ((l.length : Int) < (l.length : Int)) = false := decide_eq_false (by omega)
      have o1 : Kd.R k64 64 wr W1.heap.size (fun _ => True) (.slice A8 l.length c8) l' := by
        have := HO.out
        rwa [List.take_of_length_le (by omega)] at this
      go_wp2
      go_ret
      exact ⟨_, rfl, Kd.R_lower o1 B1.out.size, B1.out.trans (BB.out.mono B1.out.size)⟩
    | succ k1 =>
      obtain ⟨Wr, rfl⟩ : ∃ X, X = wr := ⟨_, rfl⟩
      have hj : j < l.length := by have := HI.out; omega
      have hd : decide ((j : Int) < (l.length : Int)) = true := decide_eq_true (by omega)
      have HBW := Aside0.mk (B1.out.trans (BB.out.mono B1.out.size))
      obtain ⟨ad, B2, b2, B3, b3, B4, b4, e3, q0, q1, q2, q3, q4, ql2, qr2, ql3, qr3, ql4, qr4⟩ := at_T64 HR.out (j : Int) (by omega) (by omega)
      subst e3
      have hxi : l[j]? = some (rd_T64 l (j : Int)) := by unfold rd_T64; rw [Int.toNat_natCast, List.getD_eq_getElem?_getD, List.getElem?_eq_getElem hj]; rfl
      generalize rd_T64 l (j : Int) = x at q0 q1 q2 q3 q4 ql2 qr2 ql3 qr3 ql4 qr4 hxi
      obtain ⟨y, hy, hyi⟩ := GET.out j x hxi
      have hxm : x ∈ l := List.mem_of_getElem? hxi
      obtain ⟨op, n, xa, xt, xe⟩ := x
      obtain ⟨iht, ihe⟩ := IH.out _ hxm
      dsimp only at q0 q1 q2 q3 q4 ql2 qr2 ql3 qr3 ql4 qr4 iht ihe
      rw [mvS] at hy
      obtain ⟨a', ha', hy⟩ := Option.bind_eq_some_iff.mp hy
      obtain ⟨t', ht', hy⟩ := Option.bind_eq_some_iff.mp hy
      obtain ⟨e', he', hy⟩ := Option.bind_eq_some_iff.mp hy
      obtain rfl := Option.some.inj hy
      obtain ⟨hal, ha6, hag⟩ := mvEs_get ha'
      simp only [Int.toNat_natCast] at q0 q1 q2 q3 q4
      replace q0 := (HBW.out.cell (World.block_lt_of_cell? w _ q0)).trans q0
      replace q1 := (HBW.out.cell (World.block_lt_of_cell? w _ q1)).trans q1
      replace q2 := (HBW.out.cell (World.block_lt_of_cell? w _ q2)).trans q2
      replace q3 := (HBW.out.cell (World.block_lt_of_cell? w _ q3)).trans q3
      replace q4 := (HBW.out.cell (World.block_lt_of_cell? w _ q4)).trans q4
      have QL2 := Aside0.mk ql2
      have QR2 := Aside0.mk qr2
      have QL3 := Aside0.mk ql3
      have QR3 := Aside0.mk qr3
      have QL4 := Aside0.mk ql4
      have QR4 := Aside0.mk qr4
      have IT := Aside0.mk iht
      have IE := Aside0.mk ihe
      have HAG := Aside0.mk hag
      have HT := Aside0.mk ht'
      have HE := Aside0.mk he'
      clear ql2 qr2 ql3 qr3 ql4 qr4 iht ihe hag ht' he' hy ha' hxi hxm
      have hBX := Aside0.mk ((BB.out.block _ hlt).trans BX.out)
      have mb : Wr.cell? ⟨w.heap.size, 0, none⟩ = some (.int .i64 fr) := (blk_cell hBX.out 0).trans rfl
      have hltr := blk_lt hBX.out
      have HMV := Aside0.mk (MV.out.below BB.out)
      have hSB := BB.out.size
      have hob := Kd.R_base HO.out
      have hol := Kd.R_lt HO.out
      have hjl : (l'.take j).length = j := by rw [List.length_take]; omega
      obtain ⟨n', hn'⟩ : ∃ n', mvN i fr op n = n' := ⟨_, rfl⟩
      obtain ⟨opn, hopn⟩ : ∃ z : Int, op = z := ⟨_, rfl⟩
      rw [hn', hopn] at hyi
      have HYI := Aside0.mk hyi
      have HOPN := Aside0.mk hopn
      clear hyi
      have hw1 : IntKind.i64.wrap ((j : Int) + 1) = (j : Int) + 1 := by rw [i64_w]; unfold wrap64; omega
      have ways : (op = 0 ∧ wrap64 (n + fr) = n') ∨ (op ≠ 0 ∧ op = 4 ∧ wrap64 (n + fr) = n') ∨ (op ≠ 0 ∧ op ≠ 4 ∧ op = 3 ∧ wrap64 (n + wrap64 (16 * i)) = n') ∨ (op ≠ 0 ∧ op ≠ 4 ∧ op ≠ 3 ∧ n = n') := by
        rw [← hn', mvN]
        by_cases h0 : op = 0
        · exact .inl ⟨h0, by rw [if_pos h0]⟩
        · by_cases h4 : op = 4
          · exact .inr (.inl ⟨h0, h4, by rw [if_neg h0, if_pos h4]⟩)
          · by_cases h3 : op = 3
            · exact .inr (.inr (.inl ⟨h0, h4, h3, by rw [if_neg h0, if_neg h4, if_pos h3]⟩))
            · exact .inr (.inr (.inr ⟨h0, h4, h3, by rw [if_neg h0, if_neg h4, if_neg h3]⟩))
      clear hn' hopn
      go_upto_if 24 with (fail)
      (try simp only [Act.put, List.setIfInBounds_toArray, List.set_cons_zero, List.set_cons_succ])
      rename_i Kr hKr Kb hKb
      refine (fun (key : ∀ (a : Act) (W : World), (∃ u11 u13 u19 u20 u21 u22 u23 u24 u25 u26 u27 u28 u29 u30 u31 u32 u33 u34 u35 u36 u37 u38 u39 u40 u41 u42 u43 u44 u45 u46 u47 u48 u49 u50 u51 u52 u53 u54 u55 u56 u57 u58 u59 u60 u61 u62 u63 u64 u65 u66 u67 u68 u69 u70 u71 u72 : Value, a = { tmps := #[.slice (some ad) l.length c, .int .i64 i, .int .i64 fr, undef, undef, .pointer (some ⟨w.heap.size, 0, none⟩), .slice none 0 0, .func (.func 83) #[] #[.pointer (some ⟨w.heap.size + 1, 0, none⟩), .pointer (some ⟨w.heap.size + 1 + 1, 0, none⟩)], .slice A8 j c8, undef, .pointer (some ⟨Wr.heap.size, 0, none⟩), u11, undef, u13, .func (.func 96) #[] #[.pointer (some ⟨w.heap.size, 0, none⟩)], .func (.func 83) #[] #[.pointer (some ⟨w.heap.size + 1, 0, none⟩), .pointer (some ⟨w.heap.size + 1 + 1, 0, none⟩)], .slice (some ad) l.length c, .int .i64 l.length, .int .i64 j, u19, u20, u21, u22, u23, u24, u25, u26, u27, u28, u29, u30, u31, u32, u33, u34, u35, u36, u37, u38, u39, u40, u41, u42, u43, u44, u45, u46, u47, u48, u49, u50, u51, u52, u53, u54, u55, u56, u57, u58, u59, u60, u61, u62, u63, u64, u65, u66, u67, u68, u69, u70, u71, u72, undef], defers := [] }) → W.heap[Wr.heap.size]? = some (.cells #[.int .i64 opn, .int .i64 n', .slice B2 xa.length b2, .slice B3 xt.length b3, .slice B4 xe.length b4] 64 (0, 0)) → Below Wr.heap.size Wr W → W.heap.size = Wr.heap.size + 1 → Kr a W) => ?main) ?key
      case main =>
        clear hKr
        rcases ways with ⟨h0, en⟩ | ⟨h0, h4, en⟩ | ⟨h0, h4, h3, en⟩ | ⟨h0, h4, h3, en⟩
        · subst h0
          go_wp2
          exact key _ _ ⟨_, _, _, _, _, _, _, _, _, _, _, _, _, _, _, _, _, _, _, _, _, _, _, _, _, _, _, _, _, _, _, _, _, _, _, _, _, _, _, _, _, _, _, _, _, _, _, _, _, _, _, _, _, _, _, _, rfl⟩ (by rw [← HOPN.out]; exact blk_new _ _) (bal (Below.refl _ _) _) (by simp)
        · subst h4
          go_wp2
          exact key _ _ ⟨_, _, _, _, _, _, _, _, _, _, _, _, _, _, _, _, _, _, _, _, _, _, _, _, _, _, _, _, _, _, _, _, _, _, _, _, _, _, _, _, _, _, _, _, _, _, _, _, _, _, _, _, _, _, _, _, rfl⟩ (by rw [← HOPN.out]; exact blk_new _ _) (bal (Below.refl _ _) _) (by simp)
        · subst h3
          go_wp2
          exact key _ _ ⟨_, _, _, _, _, _, _, _, _, _, _, _, _, _, _, _, _, _, _, _, _, _, _, _, _, _, _, _, _, _, _, _, _, _, _, _, _, _, _, _, _, _, _, _, _, _, _, _, _, _, _, _, _, _, _, _, rfl⟩ (by rw [← HOPN.out]; exact blk_new _ _) (bal (Below.refl _ _) _) (by simp)
        · have e0 := (beq_eq_false_iff_ne (a := op)).mpr h0; have e4 := (beq_eq_false_iff_ne (a := op)).mpr h4; have e3 := (beq_eq_false_iff_ne (a := op)).mpr h3; subst en; clear h0 h4 h3
          go_wp2
          exact key _ _ ⟨_, _, _, _, _, _, _, _, _, _, _, _, _, _, _, _, _, _, _, _, _, _, _, _, _, _, _, _, _, _, _, _, _, _, _, _, _, _, _, _, _, _, _, _, _, _, _, _, _, _, _, _, _, _, _, _, rfl⟩ (by rw [← HOPN.out]; exact blk_new _ _) (bal (Below.refl _ _) _) (by simp)
      case key =>
        clear q0 q1 q2 q3 q4 ways HOPN
        rintro a Wg ⟨u11, u13, u19, u20, u21, u22, u23, u24, u25, u26, u27, u28, u29, u30, u31, u32, u33, u34, u35, u36, u37, u38, u39, u40, u41, u42, u43, u44, u45, u46, u47, u48, u49, u50, u51, u52, u53, u54, u55, u56, u57, u58, u59, u60, u61, u62, u63, u64, u65, u66, u67, u68, u69, u70, u71, u72, rfl⟩ pg bg sg
        refine hKr _ _ ?_
        have g2 : Wg.cell? ⟨Wr.heap.size, 2, none⟩ = some (.slice B2 xa.length b2) := (blk_cell pg 2).trans rfl
        have PG := Aside0.mk pg
        have BG := Aside0.mk bg
        have SG := Aside0.mk sg
        clear pg bg sg hKb Kb
        go_wp2
        go_loopg [11, 43] xa.length (fun kq v11 v43 Y => ∃ (m : Nat) (A11 : Option Addr) (c11 : Nat), v43 = .int .i64 (m : Int) ∧ v11 = .slice A11 m c11 ∧ Aside0 (m + kq = xa.length) ∧ Aside0 (Kd.R k28 28 Y (Wr.heap.size + 1) (fun _ => True) (.slice A11 m c11) (a'.take m)) ∧ Aside0 (Y.heap[Wr.heap.size]? = some (.cells #[.int .i64 opn, .int .i64 n', .slice B2 xa.length b2, .slice B3 xt.length b3, .slice B4 xe.length b4] 64 (0, 0))) ∧ Aside0 (Below Wr.heap.size Wr Y) ∧ Aside0 (Wr.heap.size + 1 ≤ Y.heap.size))
        case atStart => exact ⟨0, none, 0, rfl, rfl, ⟨by omega⟩, ⟨Kd.R_nil _ _ _ _ _⟩, PG, BG, ⟨by have := SG.out; omega⟩⟩
        case round =>
          clear PG BG SG
          obtain ⟨m, A11, c11, rfl, rfl, MI, MO, PG, BG, SG⟩ := hrel
          cases gk with
          | zero =>
            have hm : m = xa.length := by have := MI.out; omega
            subst hm
            have hd2 : decide ((xa.length : Int) < (xa.length : Int)) = false := decide_eq_false (by omega)
            have o2 : Kd.R k28 28 wr (Wr.heap.size + 1) (fun _ => True) (.slice A11 xa.length c11) a' := by
              have := MO.out
              rwa [List.take_of_length_le (by omega)] at this
            have O2 := Aside0.mk o2
            clear o2 MO
            go_wp2
            have PD := Aside0.mk (kdr PG.out)
            have BD := Aside0.mk (below_drew BG.out)
            have OD := Aside0.mk (Kd.R_drew O2.out)
            have SD := Aside0.mk (show Wr.heap.size + 1 ≤ wr.drew.heap.size from SG.out)
            have XD := Aside0.mk ((BD.out.block _ hltr).trans hBX.out)
            refine start_ (n := 17) (S := fun w' => w'.cell? ⟨Wr.heap.size, 3, none⟩ = some (.slice B3 xt.length b3) ∧ w'.cell? ⟨Wr.heap.size, 4, none⟩ = some (.slice B4 xe.length b4) ∧ w'.cell? ⟨w.heap.size, 0, none⟩ = some (.int .i64 fr)) (ds := [12, 14, 16]) #[false, false, false, false, false, false, false, false, false, false, false, false, false, false, false, false, false] (by kernel_rfl) rfl rfl ⟨(blk_cell PD.out 3).trans rfl, (blk_cell PD.out 4).trans rfl, (blk_cell XD.out 0).trans rfl⟩ (fun hHeld => ?_)
            generalize wr.drew = Y at PD BD OD SD XD hHeld ⊢
            clear PG BG SG O2
            refine pu (i := 0) (N := some 54) #[true, false, false, false, false, false, false, false, false, false, false, false, false, false, false, false, false] rfl rfl (by kernel_rfl) ?_
            refine pu (i := 1) (N := some 55) #[true, true, false, false, false, false, false, false, false, false, false, false, false, false, false, false, false] rfl rfl (by kernel_rfl) ?_
            refine tk (i := 2) (N := some 56) #[true, true, true, false, false, false, false, false, false, false, false, false, false, false, false, false, false] rfl rfl (by kernel_rfl) hHeld ?_
            refine pu (i := 3) (N := some 57) #[true, true, true, true, false, false, false, false, false, false, false, false, false, false, false, false, false] rfl rfl (by kernel_rfl) ?_
            refine tk (i := 4) (N := some 58) #[true, true, true, true, true, false, false, false, false, false, false, false, false, false, false, false, false] rfl rfl (by kernel_rfl) hHeld ?_
            refine pu (i := 6) (N := some 60) #[true, true, true, true, true, false, true, false, false, false, false, false, false, false, false, false, false] rfl rfl (by kernel_rfl) ?_
            refine tk (i := 7) (N := some 61) #[true, true, true, true, true, false, true, true, false, false, false, false, false, false, false, false, false] rfl rfl (by kernel_rfl) hHeld ?_
            refine pu (i := 8) (N := some 62) #[true, true, true, true, true, false, true, true, true, false, false, false, false, false, false, false, false] rfl rfl (by kernel_rfl) ?_
            refine tk (i := 9) (N := some 63) #[true, true, true, true, true, false, true, true, true, true, false, false, false, false, false, false, false] rfl rfl (by kernel_rfl) hHeld ?_
            refine pu (i := 11) (N := some 65) #[true, true, true, true, true, false, true, true, true, true, false, true, false, false, false, false, false] rfl rfl (by kernel_rfl) ?_
            refine one_ (i := 5) (N := (some 59)) #[true, true, true, true, true, true, true, true, true, true, false, true, false, false, false, false, false] rfl rfl (by kernel_rfl) (by decide) (fun K hK => ?_)
            refine goes_ Try.func64 (by kernel_rfl) rfl #[.slice B3 xt.length b3, .int .i64 i, .int .i64 fr] (by rfl) rfl rfl (by (try simp only [List.map_toArray, List.map_cons, List.map_nil]); rfl) ?_
            refine (IT.out _ _ _ Y HT.out (Kd.C_below QR3.out (HBW.out.trans (BD.out.mono HBW.out.size))) QL3.out).mono ?_
            rintro e Y2 ⟨v3, rfl, o3, hb3⟩
            have PE := Aside0.mk (blk_below PD.out hb3)
            have BE := Aside0.mk (BD.out.trans (hb3.mono BD.out.size))
            have OE := Aside0.mk (Kd.R_below OD.out hb3)
            have XE := Aside0.mk ((BE.out.block _ hltr).trans hBX.out)
            have SE := Aside0.mk (Nat.le_trans SD.out hb3.size)
            have TE := Aside0.mk (Kd.R_lower o3 SD.out)
            clear PD BD OD XD SD o3 hb3
            refine ⟨_, rfl, ?_⟩
            refine hK.out _ _ ⟨(blk_cell PE.out 3).trans rfl, (blk_cell PE.out 4).trans rfl, (blk_cell XE.out 0).trans rfl⟩ (fun hHeld => ?_)
            clear hK K
            refine nm 59 ?_
            refine one_ (i := 10) (N := (some 64)) #[true, true, true, true, true, true, true, true, true, true, true, true, false, false, false, false, false] rfl rfl (by kernel_rfl) (by decide) (fun K hK => ?_)
            refine goes_ Try.func64 (by kernel_rfl) rfl #[.slice B4 xe.length b4, .int .i64 i, .int .i64 fr] (by rfl) rfl rfl (by (try simp only [List.map_toArray, List.map_cons, List.map_nil]); rfl) ?_
            refine (IE.out _ _ _ Y2 HE.out (Kd.C_below QR4.out (HBW.out.trans (BE.out.mono HBW.out.size))) QL4.out).mono ?_
            rintro e Y3 ⟨v4, rfl, o4, hb4⟩
            have PF := Aside0.mk (blk_below PE.out hb4)
            have BF := Aside0.mk (BE.out.trans (hb4.mono BE.out.size))
            have OF := Aside0.mk (Kd.R_below OE.out hb4)
            have XF := Aside0.mk ((BF.out.block _ hltr).trans hBX.out)
            have SF := Aside0.mk (Nat.le_trans SE.out hb4.size)
            have TF := Aside0.mk (Kd.R_below TE.out hb4)
            have UF := Aside0.mk (Kd.R_lower o4 SE.out)
            clear PE BE OE XE SE TE o4 hb4
            refine ⟨_, rfl, ?_⟩
            refine hK.out _ _ ⟨(blk_cell PF.out 3).trans rfl, (blk_cell PF.out 4).trans rfl, (blk_cell XF.out 0).trans rfl⟩ (fun hHeld => ?_)
            clear hK K
            refine nm 64 ?_
            obtain ⟨D3, d3, e3⟩ := Kd.R_slice TF.out
            subst e3
            obtain ⟨D4, d4, e4⟩ := Kd.R_slice UF.out
            subst e4
            refine last_ (i := 12) (N := none) #[true, true, true, true, true, true, true, true, true, true, true, true, true, false, false, false, false] rfl rfl (by kernel_rfl) (by decide) (fun K hK => ?_)
            refine skip_ (w1 := (Y3.setCell ⟨Wr.heap.size, 2, none⟩ (.slice A11 xa.length c11))) (by rfl) rfl ?st2 ?_
            case st2 =>
              have x0 : Y3.cell? ⟨Wr.heap.size, 2, none⟩ = some _ := (blk_cell PF.out 2).trans rfl
              have x1 : Y3.cell? ⟨Wr.heap.size, 3, none⟩ = some _ := (blk_cell PF.out 3).trans rfl
              have x2 : Y3.cell? ⟨Wr.heap.size, 4, none⟩ = some _ := (blk_cell PF.out 4).trans rfl
              have x3 := blk_frozen PF.out 2
              have x4 := blk_frozen PF.out 3
              have x5 := blk_frozen PF.out 4
              go_simp
            refine hK.out _ _ ?_
            clear hK K
            refine pu (i := 13) (N := some 66) #[true, true, true, true, true, true, true, true, true, true, true, true, true, true, false, false, false] rfl rfl (by kernel_rfl) ?_
            refine last_ (i := 14) (N := none) #[true, true, true, true, true, true, true, true, true, true, true, true, true, true, true, false, false] rfl rfl (by kernel_rfl) (by decide) (fun K hK => ?_)
            refine skip_ (w1 := ((Y3.setCell ⟨Wr.heap.size, 2, none⟩ (.slice A11 xa.length c11)).setCell ⟨Wr.heap.size, 3, none⟩ (.slice D3 t'.length d3))) (by rfl) rfl ?st3 ?_
            case st3 =>
              have x0 : Y3.cell? ⟨Wr.heap.size, 2, none⟩ = some _ := (blk_cell PF.out 2).trans rfl
              have x1 : Y3.cell? ⟨Wr.heap.size, 3, none⟩ = some _ := (blk_cell PF.out 3).trans rfl
              have x2 : Y3.cell? ⟨Wr.heap.size, 4, none⟩ = some _ := (blk_cell PF.out 4).trans rfl
              have x3 := blk_frozen PF.out 2
              have x4 := blk_frozen PF.out 3
              have x5 := blk_frozen PF.out 4
              go_simp
            refine hK.out _ _ ?_
            clear hK K
            refine pu (i := 15) (N := some 67) #[true, true, true, true, true, true, true, true, true, true, true, true, true, true, true, true, false] rfl rfl (by kernel_rfl) ?_
            refine last_ (i := 16) (N := none) #[true, true, true, true, true, true, true, true, true, true, true, true, true, true, true, true, true] rfl rfl (by kernel_rfl) (by decide) (fun K hK => ?_)
            refine skip_ (w1 := (((Y3.setCell ⟨Wr.heap.size, 2, none⟩ (.slice A11 xa.length c11)).setCell ⟨Wr.heap.size, 3, none⟩ (.slice D3 t'.length d3)).setCell ⟨Wr.heap.size, 4, none⟩ (.slice D4 e'.length d4))) (by rfl) rfl ?st4 ?_
            case st4 =>
              have x0 : Y3.cell? ⟨Wr.heap.size, 2, none⟩ = some _ := (blk_cell PF.out 2).trans rfl
              have x1 : Y3.cell? ⟨Wr.heap.size, 3, none⟩ = some _ := (blk_cell PF.out 3).trans rfl
              have x2 : Y3.cell? ⟨Wr.heap.size, 4, none⟩ = some _ := (blk_cell PF.out 4).trans rfl
              have x3 := blk_frozen PF.out 2
              have x4 := blk_frozen PF.out 3
              have x5 := blk_frozen PF.out 4
              go_simp
            refine hK.out _ _ ?_
            clear hK K
            refine done_ (by kernel_rfl) ?_
            have p7 := blk_put (blk_put (blk_put PF.out 2 (.slice A11 xa.length c11) (cs' := #[.int .i64 opn, .int .i64 n', .slice A11 xa.length c11, .slice B3 xt.length b3, .slice B4 xe.length b4]) rfl) 3 (.slice D3 t'.length d3) (cs' := #[.int .i64 opn, .int .i64 n', .slice A11 xa.length c11, .slice D3 t'.length d3, .slice B4 xe.length b4]) rfl) 4 (.slice D4 e'.length d4) (cs' := #[.int .i64 opn, .int .i64 n', .slice A11 xa.length c11, .slice D3 t'.length d3, .slice D4 e'.length d4]) rfl
            have b7 := ((BF.out.trans (below_cell Y3 (i := 2) (.slice A11 xa.length c11) (Nat.le_refl _))).trans (below_cell _ (i := 3) (.slice D3 t'.length d3) (Nat.le_refl _))).trans (below_cell _ (i := 4) (.slice D4 e'.length d4) (Nat.le_refl _))
            have k7 : ∀ k, Wr.heap.size + 1 ≤ k → (((Y3.setCell ⟨Wr.heap.size, 2, none⟩ (.slice A11 xa.length c11)).setCell ⟨Wr.heap.size, 3, none⟩ (.slice D3 t'.length d3)).setCell ⟨Wr.heap.size, 4, none⟩ (.slice D4 e'.length d4)).heap[k]? = Y3.heap[k]? := fun k hk => by rw [Below.heap_setCell _ _ _ _ (by simp; omega), Below.heap_setCell _ _ _ _ (by simp; omega), Below.heap_setCell _ _ _ _ (by simp; omega)]
            have O7 := Aside0.mk (Kd.R_mono (Kd.R_step (Kd.R_bound OF.out) (fun k hk _ => k7 k hk.2.1)) (fun k hk => (show Wr.heap.size ≤ k from Nat.le_of_succ_le hk.2.1)))
            have T7 := Aside0.mk (Kd.R_mono (Kd.R_step (Kd.R_bound TF.out) (fun k hk _ => k7 k hk.2.1)) (fun k hk => (show Wr.heap.size ≤ k from Nat.le_of_succ_le hk.2.1)))
            have U7 := Aside0.mk (Kd.R_mono (Kd.R_step (Kd.R_bound UF.out) (fun k hk _ => k7 k hk.2.1)) (fun k hk => (show Wr.heap.size ≤ k from Nat.le_of_succ_le hk.2.1)))
            have P7 := Aside0.mk p7
            have B7 := Aside0.mk b7
            clear p7 b7 k7 PF BF OF XF SF TF UF
            generalize (((Y3.setCell ⟨Wr.heap.size, 2, none⟩ (.slice A11 xa.length c11)).setCell ⟨Wr.heap.size, 3, none⟩ (.slice D3 t'.length d3)).setCell ⟨Wr.heap.size, 4, none⟩ (.slice D4 e'.length d4)) = W7 at P7 B7 O7 T7 U7 ⊢
            have x0 : W7.cell? ⟨Wr.heap.size, 0, none⟩ = some _ := (blk_cell P7.out 0).trans rfl
            have x1 : W7.cell? ⟨Wr.heap.size, 1, none⟩ = some _ := (blk_cell P7.out 1).trans rfl
            have x2 : W7.cell? ⟨Wr.heap.size, 2, none⟩ = some _ := (blk_cell P7.out 2).trans rfl
            have x3 : W7.cell? ⟨Wr.heap.size, 3, none⟩ = some _ := (blk_cell P7.out 3).trans rfl
            have x4 : W7.cell? ⟨Wr.heap.size, 4, none⟩ = some _ := (blk_cell P7.out 4).trans rfl
            have hS7 := B7.out.size
            go_wp2_with (first | ((with_reducible refine gate_builtin (b := .append) (xs := #[.tmp 68, .tmp 70]) rfl ?_); at_builtin; refine Kd.R_append k64 (w0 := W1) (W := W7) W1.heap.size rfl (.tmp 68) (.tmp 70) 23 64 (.agg #[(.int .i64 0), (.int .i64 0), (.slice none 0 0), (.slice none 0 0), (.slice none 0 0)]) 88 rfl Try.underlying23 info64 rfl (by decide) (by omega) (.slice A8 j c8) (l'.take j) (⟨opn, n', a', t', e'⟩ : S64) [.int .i64 opn, .int .i64 n', .slice A11 xa.length c11, .slice D3 t'.length d3, .slice D4 e'.length d4] (fun _ => True) (fun k => Wr.heap.size ≤ k) rfl rfl ?aP ?aK (fun _ _ => trivial) ?aO ?aB ?aS ?aL ?_; (case aP => exact k64_mkM _ _ _ (⟨opn, n', a', t', e'⟩ : S64) (Kd.R_lower O7.out (Nat.le_succ_of_le hSB)) (Kd.R_lower T7.out (Nat.le_succ_of_le hSB)) (Kd.R_lower U7.out (Nat.le_succ_of_le hSB))); (case aK => exact fun k hk => ⟨trivial, fun e => by have h9 := hol _ e.symm; omega⟩); (case aO => exact Kd.R_below HO.out B7.out); (case aB => exact BB.out.trans (B7.out.mono hSB)); (case aS => exact Nat.le_trans hSB hS7); (case aL => rw [hjl]; omega); intro v1 W8 o8 b8 g8 t8))
            obtain ⟨A9, c9, e9⟩ := Kd.R_slice o8
            subst e9
            have O8 := Aside0.mk o8
            have B8 := Aside0.mk b8
            clear o8 b8 g8 t8 B7 O7 T7 U7 P7 x0 x1 x2 x3 x4
            go_roundg k1
            case measure => omega
            case rel =>
              refine ⟨j + 1, A9, c9, by simp, by simp; omega, ⟨by have := HI.out; omega⟩, ⟨?_⟩, B8⟩
              have := O8.out
              rw [mv_takeS HYI.out]
              have e7 : (List.take j l' ++ [(⟨opn, n', a', t', e'⟩ : S64)]).length = j + 1 := by simp; omega
              rw [e7] at this
              exact this
          | succ k2 =>
            have hm : m < xa.length := by have := MI.out; omega
            have hd2 : decide ((m : Int) < (xa.length : Int)) = true := decide_eq_true (by omega)
            have HBY := Aside0.mk (HBW.out.trans (BG.out.mono HBW.out.size))
            obtain ⟨ad2, D3, d3, e3, s0, s1, s2, s3, sl3, sr3⟩ := at_T28 QR2.out (m : Int) (by omega) (by omega)
            subst e3
            have hzm : xa[m]? = some (rd_T28 xa (m : Int)) := by unfold rd_T28; rw [Int.toNat_natCast, List.getD_eq_getElem?_getD, List.getElem?_eq_getElem hm]; rfl
            generalize rd_T28 xa (m : Int) = z at s0 s1 s2 s3 sl3 sr3 hzm
            obtain ⟨u, hu, hum⟩ := HAG.out m z hzm
            simp only [Int.toNat_natCast] at s0 s1 s2 s3
            replace s0 := (HBY.out.cell (World.block_lt_of_cell? w _ s0)).trans s0
            replace s1 := (HBY.out.cell (World.block_lt_of_cell? w _ s1)).trans s1
            replace s2 := (HBY.out.cell (World.block_lt_of_cell? w _ s2)).trans s2
            replace s3 := (HBY.out.cell (World.block_lt_of_cell? w _ s3)).trans s3
            have hw2 : IntKind.i64.wrap ((m : Int) + 1) = (m : Int) + 1 := by rw [i64_w]; unfold wrap64; omega
            have W1B := bal (Below.refl wr.heap.size wr) (.cells #[.int .i64 z.f0, .int .i64 z.f1, .int .i64 z.f2, .slice D3 z.f3.length d3] 28)
            have hSY := SG.out
            have hob2 := Kd.R_base MO.out
            have hol2 := Kd.R_lt MO.out
            have htk : (a'.take m).length = m := by rw [List.length_take]; omega
            go_wp2_with (first | (go_at_call 83; refine (prod_moving1.calls _ z u D3 d3 (w.heap.size + 1) _ hu ((HMV.out.below BG.out).below W1B) (Kd.C_below (Kd.C_below sr3 HBY.out) W1B) sl3).mono ?_; rintro e W2 ⟨v, rfl, p2, hb2⟩) | ((with_reducible refine gate_builtin (b := .append) (xs := #[.tmp 47, .tmp 51]) rfl ?_); at_builtin; refine Kd.R_append k28 (w0 := wr) (W := W2) (Wr.heap.size + 1) rfl (.tmp 47) (.tmp 51) 26 28 (.agg #[(.int .i64 0), (.int .i64 0), (.int .i64 0), (.slice none 0 0)]) 48 rfl Try.underlying26 info28 rfl (by decide) (by omega) (.slice A11 m c11) (a'.take m) u [.int .i64 u.f0, .int .i64 u.f1, .int .i64 u.f2, v] (fun _ => True) (fun k => wr.heap.size ≤ k) rfl rfl ?aP ?aK (fun _ _ => trivial) ?aO ?aB ?aS ?aL ?_; (case aP => exact k28_mkM _ _ _ u (Kd.R_lower (Kd.R_mono (Kd.R_bound p2) (fun k hk => Nat.le_trans W1B.size hk.2.1)) (Nat.le_trans hSY W1B.size))); (case aK => exact fun k hk => ⟨trivial, fun e => by have h9 := hol2 _ e.symm; omega⟩); (case aO => exact Kd.R_below (Kd.R_below MO.out W1B) hb2); (case aB => exact (W1B.trans (hb2.mono W1B.size)).mono hSY); (case aS => exact Nat.le_trans hSY (Nat.le_trans W1B.size hb2.size)); (case aL => rw [htk]; omega); intro v1 W3 o3 b3 g3 t3))
            obtain ⟨A6, c6, e6⟩ := Kd.R_slice o3
            subst e6
            have hWW := W1B.trans (hb2.mono W1B.size)
            have pf := Aside0.mk (blk_grown (blk_below PG.out hWW) g3 (fun e => by have h9 := hob2 _ e.symm; omega))
            have bf := Aside0.mk (BG.out.trans (b3.mono (show Wr.heap.size ≤ Wr.heap.size + 1 by omega)))
            have sf := Aside0.mk (Nat.le_trans (Nat.le_trans hSY hWW.size) g3.size)
            have of := Aside0.mk o3
            clear o3 b3 g3 t3 hWW PG BG SG MO W1B hb2 p2
            go_roundg k2
            case measure => omega
            case rel =>
              refine ⟨m + 1, A6, c6, by simp, by simp; omega, ⟨by have := MI.out; omega⟩, ⟨?_⟩, pf, bf, sf⟩
              have := of.out
              rw [mv_take hum]
              have e7 : (List.take m a' ++ [u]).length = m + 1 := by simp; omega
              rw [e7] at this
              exact this
def prod_Moved.f (_ : Nat) (l0 : List S64) (a1 a2 : Int) : Option (List S64) := mvSs a1 a2 l0
theorem prod_Moved.calls (k : Nat) (A0 : Option Addr) (c0 : Nat) (l0 : List S64) (a1 a2 : Int) (r : List S64) (w : World) (hr0 : Kd.C k64 w A0 l0.length l0) (hc0 : l0.length ≤ c0) (h : prod_Moved.f k l0 a1 a2 = some r) :
    Calls Try.prog 64 #[.slice A0 l0.length c0, .int .i64 a1, .int .i64 a2] w fun e w' => ∃ v0_ : Value, e = .returned v0_ ∧ Kd.R k64 64 w' w.heap.size (fun _ => True) v0_ r ∧ Below w.heap.size w w' :=
  prod_Moved.go a1 a2 l0 r A0 c0 w h hr0 hc0
end Go.Proofs.Ytilebfkehmecaaa.Print
namespace Go.Proofs.Ytilebfkehmecaaa.Print
open Go.RowKit Go.Proofs.YtilebfkehmecaaaW.PrintWords Go.Proofs.YtilebfkehmecaaaW.PrintLast Go.Proofs.YtilebfkehmecaaaW.PrintMore
attribute [local go_sem] max2_int min2_int max_two min_two max_three min_three max_four min_four
set_option linter.unusedVariables false
set_option linter.unusedSimpArgs false
def prod_Of.l0 : Nat → List (S25) → Int → Int → Int → List (S66) → List (S64) → Option (Int × (List (S66)) × (List (S64)))
 | 0, _, _, _, _, _, _ => none
 | k + 1, x11, x12, x13, x204000, x204001, x204002 => if x13 < x12 then (if 0 ≤ x13 then (if x13 < (x11.length : Int) then ((prod_variables.f k ((rd_T25 x11 x13).f1) x13).bind fun t206 => (if x204001.length + t206.length < 4398046511104 then ((prod_Moved.f k ((rd_T25 x11 x13).f2) x13 (wrap64 (x13 * (((rd_T25 x11 x13).f1).length : Int)))).bind fun t212 => (if x204002.length + t212.length < 1599289640401 then (prod_Of.l0 k x11 x12 (wrap64 (x13 + 1)) x204000 (x204001 ++ t206) (x204002 ++ t212)) else (none))) else (none))) else (none)) else (none)) else (some (x204000, x204001, x204002))
def prod_Of.f (k : Nat) (l0 : List (S25)) : Option (Int × (List (S66)) × (List (S64))) := if 0 < (l0.length : Int) then (prod_Of.l0 k l0 (l0.length : Int) 0 ((rd_T25 l0 0).f0) ([] : List (S66)) ([] : List (S64))) else (none)
def prod_Of.T5 : Bool × List (List Nat × List Nat) := (true, [([], []), ([0], [0]), ([], []), ([2], [2]), ([], []), ([3, 4], [3, 4]), ([1, 5, 5], [1, 5]), ([0, 1, 2, 3, 4, 5, 6], []), ([7, 6, 6, 0, 1, 2, 3, 4, 5, 6], [6, 7])])
def prod_Of.B5 : List Nat := [0, 1, 0, 4, 0, 28, 63, 127, 255]
theorem prod_Of.tab5 : rtab .any (opsOf Try.f65 5) = prod_Of.T5 := by kernel_rfl
theorem prod_Of.bits5 : waitsOk prod_Of.T5.2 prod_Of.B5 = true := by kernel_rfl
def prod_Of.T6 : Bool × List (List Nat × List Nat) := (true, [([], []), ([0], [0]), ([], []), ([2], [2]), ([], []), ([], []), ([], []), ([6], [6]), ([7], [7]), ([5, 8], [5, 8]), ([3, 4, 9], [3, 4, 9]), ([1, 10, 10], [1, 10]), ([0, 1, 2, 3, 4, 5, 6, 7, 8, 9, 10, 11], []), ([12, 11, 11, 0, 1, 2, 3, 4, 5, 6, 7, 8, 9, 10, 11], [11, 12])])
def prod_Of.B6 : List Nat := [0, 1, 0, 4, 0, 0, 0, 64, 192, 480, 1020, 2047, 4095, 8191]
theorem prod_Of.tab6 : rtab .any (opsOf Try.f65 6) = prod_Of.T6 := by kernel_rfl
theorem prod_Of.bits6 : waitsOk prod_Of.T6.2 prod_Of.B6 = true := by kernel_rfl
set_option maxHeartbeats 8000000 in
set_option maxRecDepth 100000 in
theorem prod_Of.calls (k : Nat) (A0 : Option Addr) (c0 : Nat) (l0 : List (S25)) (r1 : Int) (r2 : List (S66)) (r3 : List (S64)) (w : World) (hr0 : Kd.C k25 w A0 l0.length l0) (hc0 : l0.length ≤ c0) (h : prod_Of.f k l0 = some (r1, r2, r3)) :
  Calls Try.prog 65 #[.slice A0 l0.length c0] w fun e w' => ∃ v1_ v2_ : Value, e = .returned (.agg #[.int .i64 r1, v1_, v2_]) ∧ Kd.R k66 66 w' w.heap.size (fun k_ => (w.heap.size ≤ k_)) v1_ r2 ∧ Kd.N k64 64 w' w.heap.size (fun k_ => (w.heap.size ≤ k_) ∧ some k_ ≠ (v1_ : Value).ownBlock) v2_ r3 ∧ Below w.heap.size w w' := by
 have hu25 := Try.underlying25
 have HR0 := Aside0.mk hr0
 have HC0 := Aside0.mk hc0
 clear hr0 hc0
 have HB := Aside0.mk (Below.refl w.heap.size w)
 have H : (if 0 < (l0.length : Int) then (prod_Of.l0 k l0 (l0.length : Int) 0 ((rd_T25 l0 0).f0) ([] : List (S66)) ([] : List (S64))) else (none)) = some (r1, r2, r3) := h
 clear h
 by_cases c2 : 0 < (l0.length : Int)
 rotate_left
 ·rw [if_neg c2] at H
  exact absurd H (by simp)
 rw [if_pos c2] at H
 have c2b0 : decide (0 < (l0.length : Int)) = true := decide_eq_true c2
 have c2b1 : decide (0 < l0.length) = true := decide_eq_true (by omega)
 clear c2
 have H' := Aside0.mk H
 clear H
 go_enter Try.func65, Try.ntmps65
 go_wp2_with (first | ((with_reducible refine gate_dst (N := 2) rfl ?_); refine bx 2 rfl rfl #[.int .i64 0, .slice none 0 0, .slice none 0 0] 25 ?_; intro gb201 hg w3 hbox hb; have BK201 := Aside0.mk (hbox); have GW201 := ge HB hg; have GE201 := ge HB hg; replace HB := sb HB hb; clear hb hbox hg; have p202 : 0 ≤ (0 : Int) := (by omega); have q202 : 0 < (l0.length : Int) := od; obtain ⟨ad202, A202_1, c202_1, A202_2, c202_2, e202, hx202_0, hx202_1, hx202_2, hl202_1, hi202_1, hl202_2, hi202_2⟩ := at_T25 HR0.out 0 p202 q202; cases e202; have qi202 : (0 < l0.length) = True := eq_true (by omega); (try rw [show ((0 : Int)).toNat = 0 from rfl] at hx202_0); (try rw [show 0 * 3 = 0 from rfl] at hx202_0); (try rw [Addr.add_zero'] at hx202_0); (try rw [show ((0 : Int)).toNat = 0 from rfl] at hx202_1); (try rw [show 0 * 3 = 0 from rfl] at hx202_1); (try rw [Addr.add_zero'] at hx202_1); (try rw [show ((0 : Int)).toNat = 0 from rfl] at hx202_2); (try rw [show 0 * 3 = 0 from rfl] at hx202_2); (try rw [Addr.add_zero'] at hx202_2); replace hx202_0 := bcell HB.out hx202_0; replace hx202_1 := bcell HB.out hx202_1; replace hx202_2 := bcell HB.out hx202_2; have HR202_1 := Aside0.mk hi202_1; have HC202_1 := Aside0.mk hl202_1; clear hi202_1 hl202_1; have HR202_2 := Aside0.mk hi202_2; have HC202_2 := Aside0.mk hl202_2; clear hi202_2 hl202_2; replace p202 := eq_true p202; replace q202 := eq_true q202) | ((with_reducible refine gate_dst (N := 3) rfl ?_); refine bx 3 rfl rfl #[.int .i64 0, .slice none 0 0, .slice none 0 0] 25 ?_; intro gb203 hg w4 hbox hb; have BK203 := Aside0.mk (hbox); have GW203 := ge HB hg; have GE203 := ge HB hg; have NB201_203 := nl BK201 hg; have NB203_201 := ng BK201 hg; replace BK201 := kb BK201 hb; replace HB := sb HB hb; clear hb hbox hg; have hnb5 := NB203_201.out; have hnc5 := NB201_203.out; obtain ⟨hcz6_0, hcz6_1, hcz6_2, hfz6_0, hfz6_1, hfz6_2⟩ := cf3 BK203.out))
 go_loopg [13] k (fun kq v13 w' => ∃ (x13_1 : Int) (x204001_1 : List (S66)) (x204002_1 : List (S64)) (u204001 : Value) (u204002 : Value), v13 = .int .i64 x13_1 ∧ Aside0 (prod_Of.l0 kq l0 (l0.length : Int) x13_1 ((rd_T25 l0 0).f0) x204001_1 x204002_1 = some (r1, r2, r3)) ∧ Aside0 (kq ≤ k) ∧ Aside0 (Kd.R k66 66 w' w.heap.size (fun k_ => (w.heap.size ≤ k_)) u204001 x204001_1) ∧ Aside0 (Kd.N k64 64 w' w.heap.size (fun k_ => (w.heap.size ≤ k_) ∧ some k_ ≠ (u204001 : Value).ownBlock ∧ k_ ≠ gb201 ∧ k_ ≠ gb203) u204002 x204002_1) ∧ Aside0 (w'.heap[gb201]? = some (.cells #[.int .i64 0, (.slice none 0 0), (.slice none 0 0)] 25 (0, 0))) ∧ Aside0 (w'.heap[gb203]? = some (.cells #[.int .i64 ((rd_T25 l0 0).f0), u204001, u204002] 25 (0, 0))) ∧ Aside0 (Below w.heap.size w w'))
 case atStart => exact ⟨(0), (([] : List (S66))), (([] : List (S64))), (.slice none 0 0), (.slice none 0 0), rs, H', ⟨Nat.le_refl _⟩, ⟨by first | exact Kd.R_nil _ _ _ _ _ | exact Kd.N_nil _ _ _ _ _ | exact Kd.V_nil _ _ _ _ _ | exact Kd.Q_nil _ _ _ _ _ | exact Kd.S_nil _ _ _ _ _⟩, ⟨by first | exact Kd.R_nil _ _ _ _ _ | exact Kd.N_nil _ _ _ _ _ | exact Kd.V_nil _ _ _ _ _ | exact Kd.Q_nil _ _ _ _ _ | exact Kd.S_nil _ _ _ _ _⟩, ⟨by (with_reducible repeat (first | refine kdN ?_ _ | refine kdr ?_ | refine kal ?_ _)); refine blk_far ?_ NB201_203.out _; (with_reducible repeat (first | refine kdN ?_ _ | refine kdr ?_ | refine kal ?_ _)); refine blk_far ?_ NB201_203.out _; (with_reducible repeat (first | refine kdN ?_ _ | refine kdr ?_ | refine kal ?_ _)); refine blk_far ?_ NB201_203.out _; (with_reducible repeat (first | refine kdN ?_ _ | refine kdr ?_ | refine kal ?_ _)); exact BK201.out⟩, ⟨by (with_reducible repeat (first | refine kdN ?_ _ | refine kdr ?_ | refine kal ?_ _)); refine blk_put (cs := #[.int .i64 ((rd_T25 l0 0).f0), .slice none 0 0, .slice none 0 0]) ?_ 2 _ rfl; (with_reducible repeat (first | refine kdN ?_ _ | refine kdr ?_ | refine kal ?_ _)); refine blk_put (cs := #[.int .i64 ((rd_T25 l0 0).f0), .slice none 0 0, .slice none 0 0]) ?_ 1 _ rfl; (with_reducible repeat (first | refine kdN ?_ _ | refine kdr ?_ | refine kal ?_ _)); refine blk_put (cs := #[.int .i64 0, .slice none 0 0, .slice none 0 0]) ?_ 0 _ rfl; (with_reducible repeat (first | refine kdN ?_ _ | refine kdr ?_ | refine kal ?_ _)); exact BK203.out⟩, ⟨bb HB⟩⟩
 case round =>
  clear H'
  try clear c2
  try clear c2b0
  try clear c2b1
  try clear p2
  try clear q2
  try clear hx2
  try clear qi2
  try clear c5
  try clear c6
  try clear hcz6_0 hcz6_1 hcz6_2 hfz6_0 hfz6_1 hfz6_2
  try clear hx202_0
  try clear hx202_1
  try clear hx202_2
  try clear p202
  try clear q202
  obtain ⟨x13_1, x204001_1, x204002_1, u204001, u204002, rfl, HA, HK1, HO_204001, HO_204002, BK201, BK203, HB⟩ := hrel
  cases gk with
  | zero => exact absurd HA.out (by simp [prod_Of.l0])
  | succ k1 =>
   have H := HA.out
   clear HA
   simp only [prod_Of.l0] at H
   by_cases c7 : x13_1 < (l0.length : Int)
   rotate_left
   ·rw [if_neg c7] at H
    have c7b0 : decide (x13_1 < (l0.length : Int)) = false := decide_eq_false c7
    clear c7
    simp only [Option.some.injEq, Prod.mk.injEq] at H
    obtain ⟨rfl, rfl, rfl⟩ := H
    have hnb32 := NB203_201.out
    have hnc32 := NB201_203.out
    obtain ⟨hcz33_0, hcz33_1, hcz33_2, hfz33_0, hfz33_1, hfz33_2⟩ := cf3 BK203.out
    obtain ⟨hcz34_0, hcz34_1, hcz34_2, hfz34_0, hfz34_1, hfz34_2⟩ := cf3 BK201.out
    obtain ⟨Ao35, co35, eo35⟩ := Kd.R_slice HO_204001.out
    subst eo35
    obtain ⟨Ao36, co36, eo36⟩ := Kd.N_slice HO_204002.out
    subst eo36
    go_wp2
    refine bodyPost_ret (results_cell_row rfl _ _ gb201 25 #[.int .i64 ((rd_T25 l0 0).f0), .slice Ao35 x204001_1.length co35, .slice Ao36 x204002_1.length co36] (0, 0) _ rfl (by (with_reducible repeat (first | refine kdN ?_ _ | refine kdr ?_ | refine kal ?_ _)); refine blk_put (cs := #[.int .i64 ((rd_T25 l0 0).f0), .slice Ao35 x204001_1.length co35, .slice none 0 0]) ?_ 2 _ rfl; (with_reducible repeat (first | refine kdN ?_ _ | refine kdr ?_ | refine kal ?_ _)); refine blk_put (cs := #[.int .i64 ((rd_T25 l0 0).f0), .slice none 0 0, .slice none 0 0]) ?_ 1 _ rfl; (with_reducible repeat (first | refine kdN ?_ _ | refine kdr ?_ | refine kal ?_ _)); refine blk_put (cs := #[.int .i64 0, .slice none 0 0, .slice none 0 0]) ?_ 0 _ rfl; (with_reducible repeat (first | refine kdN ?_ _ | refine kdr ?_ | refine kal ?_ _)); exact BK201.out) Try.underlying25 rfl (by kernel_rfl)) rfl ?_
    exact ⟨_, _, rr, by (with_reducible repeat (first | apply Kd.R_alloc | apply Kd.R_drewN | apply Kd.R_drew)); exact Kd.R_mono (Kd.R_far (p := ⟨gb201, 2, none⟩) (Kd.R_far (p := ⟨gb201, 1, none⟩) (Kd.R_far (p := ⟨gb201, 0, none⟩) (Kd.R_types HO_204001.out BK201.out (by decide)) (fun _ hk => hk.2) (.int .i64 ((rd_T25 l0 0).f0))) (fun _ hk => hk.2) (.slice Ao35 x204001_1.length co35)) (fun _ hk => hk.2) (.slice Ao36 x204002_1.length co36)) (fun _ hk => hk.1), by (with_reducible repeat (first | apply Kd.N_alloc | apply Kd.N_drewN | apply Kd.N_drew)); exact Kd.N_mono (Kd.N_far (p := ⟨gb201, 2, none⟩) (Kd.N_far (p := ⟨gb201, 1, none⟩) (Kd.N_far (p := ⟨gb201, 0, none⟩) (Kd.N_mono HO_204002.out (fun k_ hk => (⟨hk, hk.2.2.1⟩ : _ ∧ k_ ≠ gb201))) (fun _ hk => hk.2) (.int .i64 ((rd_T25 l0 0).f0))) (fun _ hk => hk.2) (.slice Ao35 x204001_1.length co35)) (fun _ hk => hk.2) (.slice Ao36 x204002_1.length co36)) (fun _ hk => ⟨hk.1.1, hk.1.2.1⟩), bb HB⟩
   rw [if_pos c7] at H
   have c7b0 : decide (x13_1 < (l0.length : Int)) = true := decide_eq_true c7
   clear c7
   by_cases c8 : 0 ≤ x13_1
   rotate_left
   ·rw [if_neg c8] at H
    exact absurd H (by simp)
   rw [if_pos c8] at H
   have c8b0 : decide (0 ≤ x13_1) = true := decide_eq_true c8
   clear c8
   by_cases c9 : x13_1 < (l0.length : Int)
   rotate_left
   ·rw [if_neg c9] at H
    exact absurd H (by simp)
   rw [if_pos c9] at H
   have c9b0 : decide (x13_1 < (l0.length : Int)) = true := decide_eq_true c9
   clear c9
   obtain ⟨t206, A10, H⟩ := be H
   replace H : (if x204001_1.length + t206.length < 4398046511104 then ((prod_Moved.f k1 ((rd_T25 l0 x13_1).f2) x13_1 (wrap64 (x13_1 * (((rd_T25 l0 x13_1).f1).length : Int)))).bind fun t212 => (if x204002_1.length + t212.length < 1599289640401 then (prod_Of.l0 k1 l0 (l0.length : Int) (wrap64 (x13_1 + 1)) ((rd_T25 l0 0).f0) (x204001_1 ++ t206) (x204002_1 ++ t212)) else (none))) else (none)) = some (r1, r2, r3) := H
   by_cases c11 : x204001_1.length + t206.length < 4398046511104
   rotate_left
   ·rw [if_neg c11] at H
    exact absurd H (by simp)
   rw [if_pos c11] at H
   have LMc11 := Aside0.mk c11
   clear c11
   obtain ⟨y209, hy209⟩ : ∃ y_ : List (S66), y_ = (x204001_1 ++ t206) := ⟨_, rfl⟩
   replace H : ((prod_Moved.f k1 ((rd_T25 l0 x13_1).f2) x13_1 (wrap64 (x13_1 * (((rd_T25 l0 x13_1).f1).length : Int)))).bind fun t212 => (if x204002_1.length + t212.length < 1599289640401 then (prod_Of.l0 k1 l0 (l0.length : Int) (wrap64 (x13_1 + 1)) ((rd_T25 l0 0).f0) y209 (x204002_1 ++ t212)) else (none))) = some (r1, r2, r3) := by first | (rw [hy209]; with_reducible exact H) | (have H2_ := (Option.bind_some _ _).symm.trans H; rw [hy209]; with_reducible exact H2_) | (have H2_ := (Option.bind_some _ _).symm.trans H; with_reducible exact H2_) | with_reducible exact H | (rw [hy209]; exact H) | exact H
   have Ny209 := Aside0.mk hy209
   clear hy209
   obtain ⟨t212, A12, H⟩ := be H
   replace H : (if x204002_1.length + t212.length < 1599289640401 then (prod_Of.l0 k1 l0 (l0.length : Int) (wrap64 (x13_1 + 1)) ((rd_T25 l0 0).f0) y209 (x204002_1 ++ t212)) else (none)) = some (r1, r2, r3) := H
   by_cases c13 : x204002_1.length + t212.length < 1599289640401
   rotate_left
   ·rw [if_neg c13] at H
    exact absurd H (by simp)
   rw [if_pos c13] at H
   have LMc13 := Aside0.mk c13
   clear c13
   obtain ⟨y215, hy215⟩ : ∃ y_ : List (S64), y_ = (x204002_1 ++ t212) := ⟨_, rfl⟩
   replace H : (prod_Of.l0 k1 l0 (l0.length : Int) (wrap64 (x13_1 + 1)) ((rd_T25 l0 0).f0) y209 y215) = some (r1, r2, r3) := by first | (rw [hy215]; with_reducible exact H) | (have H2_ := (Option.bind_some _ _).symm.trans H; rw [hy215]; with_reducible exact H2_) | (have H2_ := (Option.bind_some _ _).symm.trans H; with_reducible exact H2_) | with_reducible exact H | (rw [hy215]; exact H) | exact H
   have Ny215 := Aside0.mk hy215
   clear hy215
   have H' := Aside0.mk H
   clear H
   have p204 : 0 ≤ (x13_1 : Int) := od
   have q204 : x13_1 < (l0.length : Int) := od
   obtain ⟨ad204, A204_1, c204_1, A204_2, c204_2, e204, hx204_0, hx204_1, hx204_2, hl204_1, hi204_1, hl204_2, hi204_2⟩ := at_T25 HR0.out x13_1 p204 q204
   obtain rfl : ad202 = ad204 := (by injection e204)
   replace hx204_0 := bcell HB.out hx204_0
   replace hx204_1 := bcell HB.out hx204_1
   replace hx204_2 := bcell HB.out hx204_2
   have HR204_1 := Aside0.mk hi204_1
   have HC204_1 := Aside0.mk hl204_1
   clear hi204_1 hl204_1
   have HR204_2 := Aside0.mk hi204_2
   have HC204_2 := Aside0.mk hl204_2
   clear hi204_2 hl204_2
   replace p204 := eq_true p204
   replace q204 := eq_true q204
   try go_wp2_with (first | ((with_reducible refine gate_dst (N := 5) rfl ?_); refine bx 5 rfl rfl #[.int .i64 0, .slice none 0 0, .slice none 0 0] 25 ?_; intro gb205 hg w14 hbox hb; have BK205 := Aside0.mk (hbox); have GW205 := ge HB hg; have GE205 := ge HB hg; have NB201_205 := nl BK201 hg; have NB205_201 := ng BK201 hg; have NB203_205 := nl BK203 hg; have NB205_203 := ng BK203 hg; replace HO_204001 := Aside0.mk (Kd.R_below (by (with_reducible repeat (first | apply Kd.R_alloc | apply Kd.R_drewN | apply Kd.R_drew)); exact HO_204001.out) hb); replace HO_204002 := Aside0.mk (Kd.N_below (Kd.N_elderB (by (with_reducible repeat (first | apply Kd.N_alloc | apply Kd.N_drewN | apply Kd.N_drew)); exact HO_204002.out) gb205 (Nat.le_of_eq hg.symm)) hb); replace BK201 := kb BK201 hb; replace BK203 := kb BK203 hb; replace HB := sb HB hb; clear hb hbox hg; have hnb15 := NB205_201.out; have hnc15 := NB201_205.out; have hnb16 := NB205_203.out; have hnc16 := NB203_205.out; obtain ⟨hcz17_0, hcz17_1, hcz17_2, hfz17_0, hfz17_1, hfz17_2⟩ := cf3 BK205.out))
   have n0_ : Aside0 (Kd.R k66 66 (((w14.setCell ⟨gb205, 0, none⟩ (.int .i64 ((rd_T25 l0 x13_1).f0))).setCell ⟨gb205, 1, none⟩ (.slice A204_1 ((rd_T25 l0 x13_1).f1).length c204_1)).setCell ⟨gb205, 2, none⟩ (.slice A204_2 ((rd_T25 l0 x13_1).f2).length c204_2)) w.heap.size (fun k_ => (w.heap.size ≤ k_)) u204001 x204001_1) := ⟨by (with_reducible repeat (first | apply Kd.R_alloc | apply Kd.R_drewN | apply Kd.R_drew)); exact Kd.R_mono (Kd.R_far (p := ⟨gb205, 2, none⟩) (Kd.R_far (p := ⟨gb205, 1, none⟩) (Kd.R_far (p := ⟨gb205, 0, none⟩) (Kd.R_types HO_204001.out BK205.out (by decide)) (fun _ hk => hk.2) (.int .i64 ((rd_T25 l0 x13_1).f0))) (fun _ hk => hk.2) (.slice A204_1 ((rd_T25 l0 x13_1).f1).length c204_1)) (fun _ hk => hk.2) (.slice A204_2 ((rd_T25 l0 x13_1).f2).length c204_2)) (fun _ hk => hk.1)⟩
   have n1_ : Aside0 (Kd.N k64 64 (((w14.setCell ⟨gb205, 0, none⟩ (.int .i64 ((rd_T25 l0 x13_1).f0))).setCell ⟨gb205, 1, none⟩ (.slice A204_1 ((rd_T25 l0 x13_1).f1).length c204_1)).setCell ⟨gb205, 2, none⟩ (.slice A204_2 ((rd_T25 l0 x13_1).f2).length c204_2)) w.heap.size (fun k_ => (w.heap.size ≤ k_) ∧ some k_ ≠ (u204001 : Value).ownBlock ∧ k_ ≠ gb201 ∧ k_ ≠ gb203 ∧ k_ ≠ gb205) u204002 x204002_1) := ⟨by (with_reducible repeat (first | apply Kd.N_alloc | apply Kd.N_drewN | apply Kd.N_drew)); exact Kd.N_mono (Kd.N_far (p := ⟨gb205, 2, none⟩) (Kd.N_far (p := ⟨gb205, 1, none⟩) (Kd.N_far (p := ⟨gb205, 0, none⟩) (Kd.N_mono HO_204002.out (fun k_ hk => (⟨hk, hk.2⟩ : _ ∧ k_ ≠ gb205))) (fun _ hk => hk.2) (.int .i64 ((rd_T25 l0 x13_1).f0))) (fun _ hk => hk.2) (.slice A204_1 ((rd_T25 l0 x13_1).f1).length c204_1)) (fun _ hk => hk.2) (.slice A204_2 ((rd_T25 l0 x13_1).f2).length c204_2)) (fun _ hk => ⟨hk.1.1.1, ⟨hk.1.1.2.1, ⟨hk.1.1.2.2.1, ⟨hk.1.1.2.2.2, hk.1.2⟩⟩⟩⟩)⟩
   have n2_ : Aside0 ((((w14.setCell ⟨gb205, 0, none⟩ (.int .i64 ((rd_T25 l0 x13_1).f0))).setCell ⟨gb205, 1, none⟩ (.slice A204_1 ((rd_T25 l0 x13_1).f1).length c204_1)).setCell ⟨gb205, 2, none⟩ (.slice A204_2 ((rd_T25 l0 x13_1).f2).length c204_2)).heap[gb201]? = some (.cells #[.int .i64 0, .slice none 0 0, .slice none 0 0] 25 (0, 0))) := ⟨by (with_reducible repeat (first | refine kdN ?_ _ | refine kdr ?_ | refine kal ?_ _)); refine blk_far ?_ NB201_205.out _; (with_reducible repeat (first | refine kdN ?_ _ | refine kdr ?_ | refine kal ?_ _)); refine blk_far ?_ NB201_205.out _; (with_reducible repeat (first | refine kdN ?_ _ | refine kdr ?_ | refine kal ?_ _)); refine blk_far ?_ NB201_205.out _; (with_reducible repeat (first | refine kdN ?_ _ | refine kdr ?_ | refine kal ?_ _)); exact BK201.out⟩
   have n3_ : Aside0 ((((w14.setCell ⟨gb205, 0, none⟩ (.int .i64 ((rd_T25 l0 x13_1).f0))).setCell ⟨gb205, 1, none⟩ (.slice A204_1 ((rd_T25 l0 x13_1).f1).length c204_1)).setCell ⟨gb205, 2, none⟩ (.slice A204_2 ((rd_T25 l0 x13_1).f2).length c204_2)).heap[gb203]? = some (.cells #[.int .i64 ((rd_T25 l0 0).f0), u204001, u204002] 25 (0, 0))) := ⟨by (with_reducible repeat (first | refine kdN ?_ _ | refine kdr ?_ | refine kal ?_ _)); refine blk_far ?_ NB203_205.out _; (with_reducible repeat (first | refine kdN ?_ _ | refine kdr ?_ | refine kal ?_ _)); refine blk_far ?_ NB203_205.out _; (with_reducible repeat (first | refine kdN ?_ _ | refine kdr ?_ | refine kal ?_ _)); refine blk_far ?_ NB203_205.out _; (with_reducible repeat (first | refine kdN ?_ _ | refine kdr ?_ | refine kal ?_ _)); exact BK203.out⟩
   have n4_ : Aside0 ((((w14.setCell ⟨gb205, 0, none⟩ (.int .i64 ((rd_T25 l0 x13_1).f0))).setCell ⟨gb205, 1, none⟩ (.slice A204_1 ((rd_T25 l0 x13_1).f1).length c204_1)).setCell ⟨gb205, 2, none⟩ (.slice A204_2 ((rd_T25 l0 x13_1).f2).length c204_2)).heap[gb205]? = some (.cells #[.int .i64 ((rd_T25 l0 x13_1).f0), .slice A204_1 ((rd_T25 l0 x13_1).f1).length c204_1, .slice A204_2 ((rd_T25 l0 x13_1).f2).length c204_2] 25 (0, 0))) := ⟨by (with_reducible repeat (first | refine kdN ?_ _ | refine kdr ?_ | refine kal ?_ _)); refine blk_put (cs := #[.int .i64 ((rd_T25 l0 x13_1).f0), .slice A204_1 ((rd_T25 l0 x13_1).f1).length c204_1, .slice none 0 0]) ?_ 2 _ rfl; (with_reducible repeat (first | refine kdN ?_ _ | refine kdr ?_ | refine kal ?_ _)); refine blk_put (cs := #[.int .i64 ((rd_T25 l0 x13_1).f0), .slice none 0 0, .slice none 0 0]) ?_ 1 _ rfl; (with_reducible repeat (first | refine kdN ?_ _ | refine kdr ?_ | refine kal ?_ _)); refine blk_put (cs := #[.int .i64 0, .slice none 0 0, .slice none 0 0]) ?_ 0 _ rfl; (with_reducible repeat (first | refine kdN ?_ _ | refine kdr ?_ | refine kal ?_ _)); exact BK205.out⟩
   have n5_ : Aside0 (Below w.heap.size w (((w14.setCell ⟨gb205, 0, none⟩ (.int .i64 ((rd_T25 l0 x13_1).f0))).setCell ⟨gb205, 1, none⟩ (.slice A204_1 ((rd_T25 l0 x13_1).f1).length c204_1)).setCell ⟨gb205, 2, none⟩ (.slice A204_2 ((rd_T25 l0 x13_1).f2).length c204_2))) := ⟨bb HB⟩
   (try clear HO_204001)
   (try clear HO_204002)
   (try clear BK201)
   (try clear BK203)
   (try clear BK205)
   (try clear HB)
   generalize (((w14.setCell ⟨gb205, 0, none⟩ (.int .i64 ((rd_T25 l0 x13_1).f0))).setCell ⟨gb205, 1, none⟩ (.slice A204_1 ((rd_T25 l0 x13_1).f1).length c204_1)).setCell ⟨gb205, 2, none⟩ (.slice A204_2 ((rd_T25 l0 x13_1).f2).length c204_2)) = w18 at n0_ n1_ n2_ n3_ n4_ n5_ ⊢
   have HO_204001 := n0_
   have HO_204002 := n1_
   have BK201 := n2_
   have BK203 := n3_
   have BK205 := n4_
   have HB := n5_
   clear n0_ n1_ n2_ n3_ n4_ n5_
   replace HO_204001 := Aside0.mk (Kd.R_drew HO_204001.out)
   replace HO_204002 := Aside0.mk (Kd.N_drew HO_204002.out)
   replace BK201 := Aside0.mk (kdr BK201.out)
   replace BK203 := Aside0.mk (kdr BK203.out)
   replace BK205 := Aside0.mk (kdr BK205.out)
   replace HB := Aside0.mk (bd1 HB.out)
   refine start_ (n := 9) (S := fun w' => w'.cell? ⟨gb203, 0, none⟩ = some (.int .i64 ((rd_T25 l0 0).f0)) ∧ w'.cell? ⟨gb203, 1, none⟩ = some (u204001) ∧ w'.cell? ⟨gb203, 2, none⟩ = some (u204002) ∧ w'.cell? ⟨gb205, 0, none⟩ = some (.int .i64 ((rd_T25 l0 x13_1).f0)) ∧ w'.cell? ⟨gb205, 1, none⟩ = some (.slice A204_1 ((rd_T25 l0 x13_1).f1).length c204_1) ∧ w'.cell? ⟨gb205, 2, none⟩ = some (.slice A204_2 ((rd_T25 l0 x13_1).f2).length c204_2)) (ds := [8]) #[false, false, false, false, false, false, false, false, false] (by kernel_rfl) rfl rfl ⟨(blk_cell BK203.out 0).trans rfl, (blk_cell BK203.out 1).trans rfl, (blk_cell BK203.out 2).trans rfl, (blk_cell BK205.out 0).trans rfl, (blk_cell BK205.out 1).trans rfl, (blk_cell BK205.out 2).trans rfl⟩ (fun hHeld => ?_); refine with_tabW prod_Of.tab5 prod_Of.bits5 (fun HT_ HW_ => ?_)
   generalize w18.drew = w19 at HO_204001 HO_204002 BK201 BK203 BK205 HB hHeld ⊢
   refine pu (i := 0) (N := some 18) #[true, false, false, false, false, false, false, false, false] rfl rfl (any_of HT_.out (by kernel_rfl)) ?_
   refine pu (i := 2) (N := some 20) #[true, false, true, false, false, false, false, false, false] rfl rfl (any_of HT_.out (by kernel_rfl)) ?_
   refine pu (i := 4) (N := some 22) #[true, false, true, false, true, false, false, false, false] rfl rfl (any_of HT_.out (by kernel_rfl)) ?_
   refine tk (i := 1) (N := some 19) #[true, true, true, false, true, false, false, false, false] rfl rfl (take_ofW HT_.out HW_.out (by kernel_rfl)) hHeld ?_
   refine tk (i := 3) (N := some 21) #[true, true, true, true, true, false, false, false, false] rfl rfl (take_ofW HT_.out HW_.out (by kernel_rfl)) hHeld ?_
   refine one_ (i := 5) (N := some 23) #[true, true, true, true, true, true, false, false, false] rfl rfl (one_of HT_.out (by kernel_rfl)) (by decide) (fun K hK => ?_)
   refine gO Try.func45 #[.slice A204_1 ((rd_T25 l0 x13_1).f1).length c204_1, .int .i64 x13_1] (by rfl) rfl rfl ?_
   with_reducible refine (prod_variables.calls k1 _ _ ((rd_T25 l0 x13_1).f1) x13_1 t206 _ ?side1 ?side2 A10.out).mono ?_
   (case side1 => exact cb HR204_1 HB)
   (case side2 => exact HC204_1.out)
   rintro e w20 ⟨v207, rfl, ho0, hb⟩
   refine ⟨_, rfl, ?_⟩
   have HO208 := Aside0.mk (Kd.R_lower (Kd.R_new' (Kd.R_newM (M := fun k_ => (w.heap.size ≤ k_)) ho0 (bsz (bb HB)) (fun k_ h_ => h_)) (Kd.R_lt (by (with_reducible repeat (first | apply Kd.R_alloc | apply Kd.R_drewN | apply Kd.R_drew)); exact HO_204001.out))) (bsz (bb HB)))
   replace HO_204001 := Aside0.mk (Kd.R_elder' (by (with_reducible repeat (first | apply Kd.R_alloc | apply Kd.R_drewN | apply Kd.R_drew)); exact HO_204001.out) (Kd.R_base ho0) hb)
   replace HO_204002 := Aside0.mk (Kd.N_elder' (by (with_reducible repeat (first | apply Kd.N_alloc | apply Kd.N_drewN | apply Kd.N_drew)); exact HO_204002.out) (Kd.R_base ho0) hb)
   replace BK201 := kb BK201 hb
   replace BK203 := kb BK203 hb
   replace BK205 := kb BK205 hb
   replace HB := sb HB hb
   (try clear hb)
   (try clear hb2)
   (try clear hk)
   (try clear hi)
   (try clear ho0)
   obtain ⟨Ao22, co22, eo22⟩ := Kd.R_slice HO208.out
   (first | subst eo22 | (injection eo22 with f1_ f2_ f3_; have f4_ := f1_.symm; have f5_ := f3_.symm; clear f1_ f2_ f3_; subst f4_; subst f5_))
   refine hK.out _ _ ⟨(blk_cell BK203.out 0).trans rfl, (blk_cell BK203.out 1).trans rfl, (blk_cell BK203.out 2).trans rfl, (blk_cell BK205.out 0).trans rfl, (blk_cell BK205.out 1).trans rfl, (blk_cell BK205.out 2).trans rfl⟩ (fun hHeld => ?_)
   clear hK K
   refine nm 23 ?_
   refine one_ (i := 6) (N := some 24) #[true, true, true, true, true, true, true, false, false] rfl rfl (one_of HT_.out (by kernel_rfl)) (by decide) (fun K hK => ?_)
   refine Kd.R_append_rows_step k66 (w0 := w) w.heap.size (by rfl) (.tmp 19) (.tmp 23) 22 66 (.agg #[(.string ⟨#[]⟩), (.int .i64 0), (.int .i64 0)]) 32 rfl Try.underlying22 info66 rfl (by decide) (by omega) u204001 x204001_1 t206 _ _ _ (fun k_ => (w.heap.size ≤ k_) ∧ some k_ ≠ (.slice Ao22 t206.length co22 : Value).ownBlock) (fun _ => False) rfl rfl ?aO ?aR (fun _ _ h => h) (fun _ h => h.elim) ?aF ?aB ?aS ?aL ?_
   (case aR => repeat (first | exact (Kd.R_reads' HO208.out).2.2 | with_reducible first | apply Kd.C_alloc | apply Kd.C_drewN | apply Kd.C_drew))
   (case aB => exact (bb HB))
   (case aF => exact (fun k_ hk => ⟨(Nat.le_trans (bsz (bb HB)) hk), Kd.fresh' (Kd.R_lt (by (with_reducible repeat (first | apply Kd.R_alloc | apply Kd.R_drewN | apply Kd.R_drew)); exact HO208.out)) k_ hk⟩))
   (case aO => exact (by (with_reducible repeat (first | apply Kd.R_alloc | apply Kd.R_drewN | apply Kd.R_drew)); exact HO_204001.out))
   (case aS => exact (bsz (bb HB)))
   (case aL => have := LMc11.out; omega)
   intro v210 w21 ho hb hg hat
   rw [← Ny209.out] at ho
   have HO211 := Aside0.mk (ho)
   replace HO_204002 := Aside0.mk (Kd.N_afterv (ok := (fun k_ => (w.heap.size ≤ k_) ∧ some k_ ≠ (.slice Ao22 t206.length co22 : Value).ownBlock ∧ k_ ≠ gb201 ∧ k_ ≠ gb203 ∧ k_ ≠ gb205)) (by (with_reducible repeat (first | apply Kd.N_alloc | apply Kd.N_drewN | apply Kd.N_drew)); exact Kd.N_mono HO_204002.out (fun _ hk => ⟨⟨hk.1.1, ⟨hk.2, ⟨hk.1.2.2.1, ⟨hk.1.2.2.2.1, hk.1.2.2.2.2⟩⟩⟩⟩, hk.1.2.1⟩)) hg hat)
   replace BK201 := Aside0.mk (blk_grown (g := gb201) (o := .cells #[.int .i64 0, .slice none 0 0, .slice none 0 0] 25 (0, 0)) (by (with_reducible repeat (first | refine kdN ?_ _ | refine kdr ?_ | refine kal ?_ _)); exact BK201.out) hg (Kd.R_ne HO_204001.out BK201.out (by decide)))
   replace BK203 := Aside0.mk (blk_grown (g := gb203) (o := .cells #[.int .i64 ((rd_T25 l0 0).f0), u204001, u204002] 25 (0, 0)) (by (with_reducible repeat (first | refine kdN ?_ _ | refine kdr ?_ | refine kal ?_ _)); exact BK203.out) hg (Kd.R_ne HO_204001.out BK203.out (by decide)))
   replace BK205 := Aside0.mk (blk_grown (g := gb205) (o := .cells #[.int .i64 ((rd_T25 l0 x13_1).f0), .slice A204_1 ((rd_T25 l0 x13_1).f1).length c204_1, .slice A204_2 ((rd_T25 l0 x13_1).f2).length c204_2] 25 (0, 0)) (by (with_reducible repeat (first | refine kdN ?_ _ | refine kdr ?_ | refine kal ?_ _)); exact BK205.out) hg (Kd.R_ne HO_204001.out BK205.out (by decide)))
   replace HO208 := Aside0.mk (Kd.R_after (ok := (fun k_ => (w.heap.size ≤ k_))) (by (with_reducible repeat (first | apply Kd.R_alloc | apply Kd.R_drewN | apply Kd.R_drew)); exact Kd.R_mono HO208.out (fun _ hk => ⟨hk.1.1, hk.2⟩)) hg hat)
   replace HB := Aside0.mk (hb)
   clear HO_204001
   clear ho hb hg hat
   obtain ⟨Ao23, co23, eo23⟩ := Kd.R_slice HO211.out
   (first | subst eo23 | (injection eo23 with f1_ f2_ f3_; have f4_ := f1_.symm; have f5_ := f3_.symm; clear f1_ f2_ f3_; subst f4_; subst f5_))
   refine hK.out _ _ ⟨(blk_cell BK203.out 0).trans rfl, (blk_cell BK203.out 1).trans rfl, (blk_cell BK203.out 2).trans rfl, (blk_cell BK205.out 0).trans rfl, (blk_cell BK205.out 1).trans rfl, (blk_cell BK205.out 2).trans rfl⟩ (fun hHeld => ?_)
   clear hK K
   refine nm 24 ?_
   refine pu (i := 7) (N := some 25) #[true, true, true, true, true, true, true, true, false] rfl rfl (any_of HT_.out (by kernel_rfl)) ?_
   refine last_ (i := 8) (N := none) #[true, true, true, true, true, true, true, true, true] rfl rfl (one_of HT_.out (by kernel_rfl)) (by decide) (fun K hK => ?_)
   have hs24 : w21.cell? ⟨gb203, 1, none⟩ = some (u204001) := (blk_cell BK203.out 1).trans rfl
   have hfs24 := blk_frozen BK203.out 1
   have hns24_0 := NB201_203.out
   have hns24_2 := NB205_203.out
   have hms24_0 := NB203_201.out
   have hms24_2 := NB203_205.out
   refine skip_ (w1 := ?_) (by rfl) rfl ?_ ?_
   rotate_left
   ·go_simp
    rfl
   refine hK.out _ _ ?_
   clear hK K
   refine done_ (done_of HT_.out (by kernel_rfl)) ?_
   try go_wp2
   have n0_ : Aside0 (Kd.N k64 64 (w21.setCell ⟨gb203, 1, none⟩ (.slice Ao23 y209.length co23)) w.heap.size (fun k_ => (w.heap.size ≤ k_) ∧ some k_ ≠ (.slice Ao22 t206.length co22 : Value).ownBlock ∧ some k_ ≠ (.slice Ao23 y209.length co23 : Value).ownBlock ∧ k_ ≠ gb201 ∧ k_ ≠ gb203 ∧ k_ ≠ gb205) u204002 x204002_1) := ⟨by (with_reducible repeat (first | apply Kd.N_alloc | apply Kd.N_drewN | apply Kd.N_drew)); exact Kd.N_mono (Kd.N_far (p := ⟨gb203, 1, none⟩) (Kd.N_mono HO_204002.out (fun k_ hk => (⟨hk, hk.1.2.2.2.1⟩ : _ ∧ k_ ≠ gb203))) (fun _ hk => hk.2) (.slice Ao23 y209.length co23)) (fun _ hk => ⟨hk.1.1.1, ⟨hk.1.1.2.1, ⟨hk.1.2, ⟨hk.1.1.2.2.1, ⟨hk.1.1.2.2.2.1, hk.1.1.2.2.2.2⟩⟩⟩⟩⟩)⟩
   have n1_ : Aside0 (Kd.R k66 66 (w21.setCell ⟨gb203, 1, none⟩ (.slice Ao23 y209.length co23)) w.heap.size (fun k_ => (w.heap.size ≤ k_) ∧ some k_ ≠ (.slice Ao23 y209.length co23 : Value).ownBlock) (.slice Ao22 t206.length co22) t206) := ⟨by (with_reducible repeat (first | apply Kd.R_alloc | apply Kd.R_drewN | apply Kd.R_drew)); exact Kd.R_mono (Kd.R_far (p := ⟨gb203, 1, none⟩) (Kd.R_types HO208.out BK203.out (by decide)) (fun _ hk => hk.2) (.slice Ao23 y209.length co23)) (fun _ hk => ⟨hk.1.1, hk.1.2⟩)⟩
   have n2_ : Aside0 (Kd.R k66 66 (w21.setCell ⟨gb203, 1, none⟩ (.slice Ao23 y209.length co23)) w.heap.size (fun k_ => (w.heap.size ≤ k_) ∧ some k_ ≠ (.slice Ao22 t206.length co22 : Value).ownBlock) (.slice Ao23 y209.length co23) y209) := ⟨by (with_reducible repeat (first | apply Kd.R_alloc | apply Kd.R_drewN | apply Kd.R_drew)); exact Kd.R_mono (Kd.R_far (p := ⟨gb203, 1, none⟩) (Kd.R_types HO211.out BK203.out (by decide)) (fun _ hk => hk.2) (.slice Ao23 y209.length co23)) (fun _ hk => ⟨hk.1.1, hk.1.2⟩)⟩
   have n3_ : Aside0 ((w21.setCell ⟨gb203, 1, none⟩ (.slice Ao23 y209.length co23)).heap[gb201]? = some (.cells #[.int .i64 0, .slice none 0 0, .slice none 0 0] 25 (0, 0))) := ⟨by (with_reducible repeat (first | refine kdN ?_ _ | refine kdr ?_ | refine kal ?_ _)); refine blk_far ?_ NB201_203.out _; (with_reducible repeat (first | refine kdN ?_ _ | refine kdr ?_ | refine kal ?_ _)); exact BK201.out⟩
   have n4_ : Aside0 ((w21.setCell ⟨gb203, 1, none⟩ (.slice Ao23 y209.length co23)).heap[gb203]? = some (.cells #[.int .i64 ((rd_T25 l0 0).f0), .slice Ao23 y209.length co23, u204002] 25 (0, 0))) := ⟨by (with_reducible repeat (first | refine kdN ?_ _ | refine kdr ?_ | refine kal ?_ _)); refine blk_put (cs := #[.int .i64 ((rd_T25 l0 0).f0), u204001, u204002]) ?_ 1 _ rfl; (with_reducible repeat (first | refine kdN ?_ _ | refine kdr ?_ | refine kal ?_ _)); exact BK203.out⟩
   have n5_ : Aside0 ((w21.setCell ⟨gb203, 1, none⟩ (.slice Ao23 y209.length co23)).heap[gb205]? = some (.cells #[.int .i64 ((rd_T25 l0 x13_1).f0), .slice A204_1 ((rd_T25 l0 x13_1).f1).length c204_1, .slice A204_2 ((rd_T25 l0 x13_1).f2).length c204_2] 25 (0, 0))) := ⟨by (with_reducible repeat (first | refine kdN ?_ _ | refine kdr ?_ | refine kal ?_ _)); refine blk_far ?_ NB205_203.out _; (with_reducible repeat (first | refine kdN ?_ _ | refine kdr ?_ | refine kal ?_ _)); exact BK205.out⟩
   have n6_ : Aside0 (Below w.heap.size w (w21.setCell ⟨gb203, 1, none⟩ (.slice Ao23 y209.length co23))) := ⟨bb HB⟩
   (try clear HO_204002)
   (try clear HO208)
   (try clear HO211)
   (try clear BK201)
   (try clear BK203)
   (try clear BK205)
   (try clear HB)
   generalize (w21.setCell ⟨gb203, 1, none⟩ (.slice Ao23 y209.length co23)) = w25 at n0_ n1_ n2_ n3_ n4_ n5_ n6_ ⊢
   have HO_204002 := n0_
   have HO208 := n1_
   have HO211 := n2_
   have BK201 := n3_
   have BK203 := n4_
   have BK205 := n5_
   have HB := n6_
   clear n0_ n1_ n2_ n3_ n4_ n5_ n6_
   replace HO_204002 := Aside0.mk (Kd.N_drew HO_204002.out)
   replace HO208 := Aside0.mk (Kd.R_drew HO208.out)
   replace HO211 := Aside0.mk (Kd.R_drew HO211.out)
   replace BK201 := Aside0.mk (kdr BK201.out)
   replace BK203 := Aside0.mk (kdr BK203.out)
   replace BK205 := Aside0.mk (kdr BK205.out)
   replace HB := Aside0.mk (bd1 HB.out)
   refine start_ (n := 14) (S := fun w' => w'.cell? ⟨gb203, 0, none⟩ = some (.int .i64 ((rd_T25 l0 0).f0)) ∧ w'.cell? ⟨gb203, 1, none⟩ = some (.slice Ao23 y209.length co23) ∧ w'.cell? ⟨gb203, 2, none⟩ = some (u204002) ∧ w'.cell? ⟨gb205, 0, none⟩ = some (.int .i64 ((rd_T25 l0 x13_1).f0)) ∧ w'.cell? ⟨gb205, 1, none⟩ = some (.slice A204_1 ((rd_T25 l0 x13_1).f1).length c204_1) ∧ w'.cell? ⟨gb205, 2, none⟩ = some (.slice A204_2 ((rd_T25 l0 x13_1).f2).length c204_2)) (ds := [13]) #[false, false, false, false, false, false, false, false, false, false, false, false, false, false] (by kernel_rfl) rfl rfl ⟨(blk_cell BK203.out 0).trans rfl, (blk_cell BK203.out 1).trans rfl, (blk_cell BK203.out 2).trans rfl, (blk_cell BK205.out 0).trans rfl, (blk_cell BK205.out 1).trans rfl, (blk_cell BK205.out 2).trans rfl⟩ (fun hHeld => ?_); refine with_tabW prod_Of.tab6 prod_Of.bits6 (fun HT_ HW_ => ?_)
   generalize w25.drew = w26 at HO_204002 HO208 HO211 BK201 BK203 BK205 HB hHeld ⊢
   refine pu (i := 0) (N := some 26) #[true, false, false, false, false, false, false, false, false, false, false, false, false, false] rfl rfl (any_of HT_.out (by kernel_rfl)) ?_
   refine pu (i := 2) (N := some 28) #[true, false, true, false, false, false, false, false, false, false, false, false, false, false] rfl rfl (any_of HT_.out (by kernel_rfl)) ?_
   refine pu (i := 4) (N := some 30) #[true, false, true, false, true, false, false, false, false, false, false, false, false, false] rfl rfl (any_of HT_.out (by kernel_rfl)) ?_
   refine pu (i := 5) (N := some 31) #[true, false, true, false, true, true, false, false, false, false, false, false, false, false] rfl rfl (any_of HT_.out (by kernel_rfl)) ?_
   refine pu (i := 6) (N := some 32) #[true, false, true, false, true, true, true, false, false, false, false, false, false, false] rfl rfl (any_of HT_.out (by kernel_rfl)) ?_
   refine tk (i := 1) (N := some 27) #[true, true, true, false, true, true, true, false, false, false, false, false, false, false] rfl rfl (take_ofW HT_.out HW_.out (by kernel_rfl)) hHeld ?_
   refine tk (i := 3) (N := some 29) #[true, true, true, true, true, true, true, false, false, false, false, false, false, false] rfl rfl (take_ofW HT_.out HW_.out (by kernel_rfl)) hHeld ?_
   refine tk (i := 7) (N := some 33) #[true, true, true, true, true, true, true, true, false, false, false, false, false, false] rfl rfl (take_ofW HT_.out HW_.out (by kernel_rfl)) hHeld ?_
   refine pu (i := 8) (N := some 34) #[true, true, true, true, true, true, true, true, true, false, false, false, false, false] rfl rfl (any_of HT_.out (by kernel_rfl)) ?_
   refine pu (i := 9) (N := some 35) #[true, true, true, true, true, true, true, true, true, true, false, false, false, false] rfl rfl (any_of HT_.out (by kernel_rfl)) ?_
   refine one_ (i := 10) (N := some 36) #[true, true, true, true, true, true, true, true, true, true, true, false, false, false] rfl rfl (one_of HT_.out (by kernel_rfl)) (by decide) (fun K hK => ?_)
   refine gO Try.func64 #[.slice A204_2 ((rd_T25 l0 x13_1).f2).length c204_2, .int .i64 x13_1, .int .i64 (wrap64 (x13_1 * (((rd_T25 l0 x13_1).f1).length : Int)))] (by rfl) rfl rfl ?_
   with_reducible refine (prod_Moved.calls k1 _ _ ((rd_T25 l0 x13_1).f2) x13_1 (wrap64 (x13_1 * (((rd_T25 l0 x13_1).f1).length : Int))) t212 _ ?side1 ?side2 A12.out).mono ?_
   (case side1 => exact cb HR204_2 HB)
   (case side2 => exact HC204_2.out)
   rintro e w27 ⟨v213, rfl, ho0, hb⟩
   refine ⟨_, rfl, ?_⟩
   have HO214 := Aside0.mk (Kd.N_lower (Kd.N_mono (ok' := fun k_ => (w.heap.size ≤ k_) ∧ some k_ ≠ (u204002 : Value).ownBlock ∧ some k_ ≠ (.slice Ao22 t206.length co22 : Value).ownBlock ∧ some k_ ≠ (.slice Ao23 y209.length co23 : Value).ownBlock ∧ k_ ≠ gb201 ∧ k_ ≠ gb203 ∧ k_ ≠ gb205) (Kd.R_N (Kd.R_bound ho0)) (fun k_ hk_ => ⟨(Nat.le_trans (bsz (bb HB)) hk_.2.1), (Kd.fresh' (Kd.N_lt (by (with_reducible repeat (first | apply Kd.N_alloc | apply Kd.N_drewN | apply Kd.N_drew)); exact HO_204002.out)) k_ hk_.2.1), (Kd.fresh' (Kd.R_lt (by (with_reducible repeat (first | apply Kd.R_alloc | apply Kd.R_drewN | apply Kd.R_drew)); exact HO208.out)) k_ hk_.2.1), (Kd.fresh' (Kd.R_lt (by (with_reducible repeat (first | apply Kd.R_alloc | apply Kd.R_drewN | apply Kd.R_drew)); exact HO211.out)) k_ hk_.2.1), (Kd.freshB (g := gb201) (o := .cells #[.int .i64 0, .slice none 0 0, .slice none 0 0] 25 (0, 0)) (by (with_reducible repeat (first | refine kdN ?_ _ | refine kdr ?_ | refine kal ?_ _)); exact BK201.out) k_ hk_.2.1), (Kd.freshB (g := gb203) (o := .cells #[.int .i64 ((rd_T25 l0 0).f0), .slice Ao23 y209.length co23, u204002] 25 (0, 0)) (by (with_reducible repeat (first | refine kdN ?_ _ | refine kdr ?_ | refine kal ?_ _)); exact BK203.out) k_ hk_.2.1), (Kd.freshB (g := gb205) (o := .cells #[.int .i64 ((rd_T25 l0 x13_1).f0), .slice A204_1 ((rd_T25 l0 x13_1).f1).length c204_1, .slice A204_2 ((rd_T25 l0 x13_1).f2).length c204_2] 25 (0, 0)) (by (with_reducible repeat (first | refine kdN ?_ _ | refine kdr ?_ | refine kal ?_ _)); exact BK205.out) k_ hk_.2.1)⟩)) (bsz (bb HB)))
   replace HO_204002 := Aside0.mk (Kd.N_elder' (by (with_reducible repeat (first | apply Kd.N_alloc | apply Kd.N_drewN | apply Kd.N_drew)); exact HO_204002.out) (by first | exact Kd.N_base ho0 | exact Kd.R_base ho0) hb)
   replace HO208 := Aside0.mk (Kd.R_below (by (with_reducible repeat (first | apply Kd.R_alloc | apply Kd.R_drewN | apply Kd.R_drew)); exact HO208.out) hb)
   replace HO211 := Aside0.mk (Kd.R_below (by (with_reducible repeat (first | apply Kd.R_alloc | apply Kd.R_drewN | apply Kd.R_drew)); exact HO211.out) hb)
   replace BK201 := kb BK201 hb
   replace BK203 := kb BK203 hb
   replace BK205 := kb BK205 hb
   replace HB := sb HB hb
   (try clear hb)
   (try clear hb2)
   (try clear hk)
   (try clear hi)
   (try clear ho0)
   obtain ⟨Ao29, co29, eo29⟩ := Kd.N_slice HO214.out
   (first | subst eo29 | (injection eo29 with f1_ f2_ f3_; have f4_ := f1_.symm; have f5_ := f3_.symm; clear f1_ f2_ f3_; subst f4_; subst f5_))
   refine hK.out _ _ ⟨(blk_cell BK203.out 0).trans rfl, (blk_cell BK203.out 1).trans rfl, (blk_cell BK203.out 2).trans rfl, (blk_cell BK205.out 0).trans rfl, (blk_cell BK205.out 1).trans rfl, (blk_cell BK205.out 2).trans rfl⟩ (fun hHeld => ?_)
   clear hK K
   refine nm 36 ?_
   refine one_ (i := 11) (N := some 37) #[true, true, true, true, true, true, true, true, true, true, true, true, false, false] rfl rfl (one_of HT_.out (by kernel_rfl)) (by decide) (fun K hK => ?_)
   refine Kd.N_append_rows_step k64 (w0 := w) w.heap.size (by rfl) (.tmp 27) (.tmp 36) 23 64 (.agg #[(.int .i64 0), (.int .i64 0), (.slice none 0 0), (.slice none 0 0), (.slice none 0 0)]) 88 rfl Try.underlying23 info64 rfl (by decide) (by omega) u204002 x204002_1 t212 _ _ _ (fun k_ => (w.heap.size ≤ k_) ∧ some k_ ≠ (.slice Ao22 t206.length co22 : Value).ownBlock ∧ some k_ ≠ (.slice Ao23 y209.length co23 : Value).ownBlock ∧ k_ ≠ gb201 ∧ k_ ≠ gb203 ∧ k_ ≠ gb205) (fun k_ => ((fun k_ => (w.heap.size ≤ k_) ∧ some k_ ≠ (.slice Ao22 t206.length co22 : Value).ownBlock ∧ some k_ ≠ (.slice Ao23 y209.length co23 : Value).ownBlock ∧ k_ ≠ gb201 ∧ k_ ≠ gb203 ∧ k_ ≠ gb205)) k_ ∧ some k_ ≠ (u204002 : Value).ownBlock) rfl rfl ?aO ?aR (fun _ hk => hk) ?aF ?aB ?aS ?aL ?_
   (case aR => exact (by skip; exact Kd.N_F (Kd.N_mono (ok' := (fun k_ => ((fun k_ => (w.heap.size ≤ k_) ∧ some k_ ≠ (.slice Ao22 t206.length co22 : Value).ownBlock ∧ some k_ ≠ (.slice Ao23 y209.length co23 : Value).ownBlock ∧ k_ ≠ gb201 ∧ k_ ≠ gb203 ∧ k_ ≠ gb205)) k_ ∧ some k_ ≠ (u204002 : Value).ownBlock)) (HO214.out) (fun k_ hk => ⟨⟨hk.1, ⟨hk.2.2.1, ⟨hk.2.2.2.1, ⟨hk.2.2.2.2.1, ⟨hk.2.2.2.2.2.1, hk.2.2.2.2.2.2⟩⟩⟩⟩⟩, hk.2.1⟩))))
   (case aB => exact (bb HB))
   (case aF => exact (fun k_ hk => ⟨(Nat.le_trans (bsz (bb HB)) hk), Kd.fresh' (Kd.R_lt (by (with_reducible repeat (first | apply Kd.R_alloc | apply Kd.R_drewN | apply Kd.R_drew)); exact HO208.out)) k_ hk, Kd.fresh' (Kd.R_lt (by (with_reducible repeat (first | apply Kd.R_alloc | apply Kd.R_drewN | apply Kd.R_drew)); exact HO211.out)) k_ hk, Kd.freshB (g := gb201) (o := .cells #[.int .i64 0, .slice none 0 0, .slice none 0 0] 25 (0, 0)) (by (with_reducible repeat (first | refine kdN ?_ _ | refine kdr ?_ | refine kal ?_ _)); exact BK201.out) k_ hk, Kd.freshB (g := gb203) (o := .cells #[.int .i64 ((rd_T25 l0 0).f0), .slice Ao23 y209.length co23, u204002] 25 (0, 0)) (by (with_reducible repeat (first | refine kdN ?_ _ | refine kdr ?_ | refine kal ?_ _)); exact BK203.out) k_ hk, Kd.freshB (g := gb205) (o := .cells #[.int .i64 ((rd_T25 l0 x13_1).f0), .slice A204_1 ((rd_T25 l0 x13_1).f1).length c204_1, .slice A204_2 ((rd_T25 l0 x13_1).f2).length c204_2] 25 (0, 0)) (by (with_reducible repeat (first | refine kdN ?_ _ | refine kdr ?_ | refine kal ?_ _)); exact BK205.out) k_ hk⟩))
   (case aO => exact (by (with_reducible repeat (first | apply Kd.N_alloc | apply Kd.N_drewN | apply Kd.N_drew)); exact Kd.N_mono HO_204002.out (fun _ hk => ⟨hk.1.1, ⟨hk.1.2.1, ⟨hk.1.2.2.1, ⟨hk.1.2.2.2.1, ⟨hk.1.2.2.2.2.1, hk.1.2.2.2.2.2⟩⟩⟩⟩⟩)))
   (case aS => exact (bsz (bb HB)))
   (case aL => have := LMc13.out; omega)
   intro v216 w28 ho hb hg hat
   rw [← Ny215.out] at ho
   have HO217 := Aside0.mk (ho)
   replace BK201 := Aside0.mk (blk_grown (g := gb201) (o := .cells #[.int .i64 0, .slice none 0 0, .slice none 0 0] 25 (0, 0)) (by (with_reducible repeat (first | refine kdN ?_ _ | refine kdr ?_ | refine kal ?_ _)); exact BK201.out) hg (Kd.N_ne HO_204002.out BK201.out (by decide)))
   replace BK203 := Aside0.mk (blk_grown (g := gb203) (o := .cells #[.int .i64 ((rd_T25 l0 0).f0), .slice Ao23 y209.length co23, u204002] 25 (0, 0)) (by (with_reducible repeat (first | refine kdN ?_ _ | refine kdr ?_ | refine kal ?_ _)); exact BK203.out) hg (Kd.N_ne HO_204002.out BK203.out (by decide)))
   replace BK205 := Aside0.mk (blk_grown (g := gb205) (o := .cells #[.int .i64 ((rd_T25 l0 x13_1).f0), .slice A204_1 ((rd_T25 l0 x13_1).f1).length c204_1, .slice A204_2 ((rd_T25 l0 x13_1).f2).length c204_2] 25 (0, 0)) (by (with_reducible repeat (first | refine kdN ?_ _ | refine kdr ?_ | refine kal ?_ _)); exact BK205.out) hg (Kd.N_ne HO_204002.out BK205.out (by decide)))
   replace HO208 := Aside0.mk (Kd.R_over' (by (with_reducible repeat (first | apply Kd.R_alloc | apply Kd.R_drewN | apply Kd.R_drew)); exact HO208.out) (Kd.N_typed (by (with_reducible repeat (first | apply Kd.N_alloc | apply Kd.N_drewN | apply Kd.N_drew)); exact HO_204002.out)) (by decide) hg)
   replace HO211 := Aside0.mk (Kd.R_over' (by (with_reducible repeat (first | apply Kd.R_alloc | apply Kd.R_drewN | apply Kd.R_drew)); exact HO211.out) (Kd.N_typed (by (with_reducible repeat (first | apply Kd.N_alloc | apply Kd.N_drewN | apply Kd.N_drew)); exact HO_204002.out)) (by decide) hg)
   replace HO214 := Aside0.mk (Kd.N_afterv (ok := (fun k_ => (w.heap.size ≤ k_) ∧ some k_ ≠ (.slice Ao22 t206.length co22 : Value).ownBlock ∧ some k_ ≠ (.slice Ao23 y209.length co23 : Value).ownBlock ∧ k_ ≠ gb201 ∧ k_ ≠ gb203 ∧ k_ ≠ gb205)) (by (with_reducible repeat (first | apply Kd.N_alloc | apply Kd.N_drewN | apply Kd.N_drew)); exact Kd.N_mono HO214.out (fun _ hk => ⟨⟨hk.1, ⟨hk.2.2.1, ⟨hk.2.2.2.1, ⟨hk.2.2.2.2.1, ⟨hk.2.2.2.2.2.1, hk.2.2.2.2.2.2⟩⟩⟩⟩⟩, hk.2.1⟩)) hg hat)
   replace HB := Aside0.mk (hb)
   clear HO_204002
   clear ho hb hg hat
   obtain ⟨Ao30, co30, eo30⟩ := Kd.N_slice HO217.out
   (first | subst eo30 | (injection eo30 with f1_ f2_ f3_; have f4_ := f1_.symm; have f5_ := f3_.symm; clear f1_ f2_ f3_; subst f4_; subst f5_))
   refine hK.out _ _ ⟨(blk_cell BK203.out 0).trans rfl, (blk_cell BK203.out 1).trans rfl, (blk_cell BK203.out 2).trans rfl, (blk_cell BK205.out 0).trans rfl, (blk_cell BK205.out 1).trans rfl, (blk_cell BK205.out 2).trans rfl⟩ (fun hHeld => ?_)
   clear hK K
   refine nm 37 ?_
   refine pu (i := 12) (N := some 38) #[true, true, true, true, true, true, true, true, true, true, true, true, true, false] rfl rfl (any_of HT_.out (by kernel_rfl)) ?_
   refine last_ (i := 13) (N := none) #[true, true, true, true, true, true, true, true, true, true, true, true, true, true] rfl rfl (one_of HT_.out (by kernel_rfl)) (by decide) (fun K hK => ?_)
   have hs31 : w28.cell? ⟨gb203, 2, none⟩ = some (u204002) := (blk_cell BK203.out 2).trans rfl
   have hfs31 := blk_frozen BK203.out 2
   have hns31_0 := NB201_203.out
   have hns31_2 := NB205_203.out
   have hms31_0 := NB203_201.out
   have hms31_2 := NB203_205.out
   refine skip_ (w1 := ?_) (by rfl) rfl ?_ ?_
   rotate_left
   ·go_simp
    rfl
   refine hK.out _ _ ?_
   clear hK K
   refine done_ (done_of HT_.out (by kernel_rfl)) ?_
   try go_wp2
   go_roundg k1
   case measure => have := HK1.out; omega
   case rel => exact ⟨(wrap64 (x13_1 + 1)), (y209), (y215), (.slice Ao23 y209.length co23), (.slice Ao30 y215.length co30), rs, H', ⟨by have := HK1.out; omega⟩, ⟨by (with_reducible repeat (first | apply Kd.R_alloc | apply Kd.R_drewN | apply Kd.R_drew)); exact Kd.R_mono (Kd.R_far (p := ⟨gb203, 2, none⟩) (Kd.R_types HO211.out BK203.out (by decide)) (fun _ hk => hk.2) (.slice Ao30 y215.length co30)) (fun _ hk => hk.1.1)⟩, ⟨by (with_reducible repeat (first | apply Kd.N_alloc | apply Kd.N_drewN | apply Kd.N_drew)); exact Kd.N_mono (Kd.N_far (p := ⟨gb203, 2, none⟩) (Kd.N_mono HO217.out (fun k_ hk => (⟨hk, hk.2.2.2.2.1⟩ : _ ∧ k_ ≠ gb203))) (fun _ hk => hk.2) (.slice Ao30 y215.length co30)) (fun _ hk => ⟨hk.1.1, ⟨hk.1.2.2.1, ⟨hk.1.2.2.2.1, hk.1.2.2.2.2.1⟩⟩⟩)⟩, ⟨by (with_reducible repeat (first | refine kdN ?_ _ | refine kdr ?_ | refine kal ?_ _)); refine blk_far ?_ NB201_203.out _; (with_reducible repeat (first | refine kdN ?_ _ | refine kdr ?_ | refine kal ?_ _)); exact BK201.out⟩, ⟨by (with_reducible repeat (first | refine kdN ?_ _ | refine kdr ?_ | refine kal ?_ _)); refine blk_put (cs := #[.int .i64 ((rd_T25 l0 0).f0), .slice Ao23 y209.length co23, u204002]) ?_ 2 _ rfl; (with_reducible repeat (first | refine kdN ?_ _ | refine kdr ?_ | refine kal ?_ _)); exact BK203.out⟩, ⟨bb HB⟩⟩
def prod_made.f (k : Nat) (a0_0 : Int) (l0_1 : List (S66)) (l0_2 : List (S64)) : Option (Int × (List (S66)) × (List (S64)) × Int) := (prog_Check.f k a0_0 l0_1 l0_2).bind fun t182 => (if t182 = 0 then (some (a0_0, l0_1, l0_2, 0)) else (some (0, ([] : List (S66)), ([] : List (S64)), 2)))
set_option maxHeartbeats 8000000 in
set_option maxRecDepth 100000 in
theorem prod_made.calls (k : Nat) (a0_0 : Int) (P0_1_ : Nat → Prop) (u9000_ : Value) (l0_1 : List (S66)) (P0_2_ : Nat → Prop) (A0_2 : Option Addr) (c0_2 : Nat) (l0_2 : List (S64)) (r1 : Int) (r2 : List (S66)) (r3 : List (S64)) (r4 : Int) (w0 w : World) (hB : Below w0.heap.size w0 w) (ho0_1 : Kd.R k66 66 w w0.heap.size P0_1_ u9000_ l0_1) (hs0_2 : Kd.V k64 64 w w0.heap.size (fun k_ => P0_2_ k_ ∧ some k_ ≠ (u9000_ : Value).ownBlock) (.slice A0_2 l0_2.length c0_2) l0_2) (h : prod_made.f k a0_0 l0_1 l0_2 = some (r1, r2, r3, r4)) :
  Calls Try.prog 63 #[.agg #[.int .i64 a0_0, u9000_, .slice A0_2 l0_2.length c0_2]] w fun e w' => ∃ v1_ v2_ : Value, e = .returned (.tuple #[.agg #[.int .i64 r1, v1_, v2_], .int .i64 r4]) ∧ Kd.R k66 66 w' w0.heap.size (fun k_ => (P0_1_ k_ ∨ w.heap.size ≤ k_)) v1_ r2 ∧ Kd.V k64 64 w' w0.heap.size (fun k_ => ((P0_1_ k_ ∨ P0_2_ k_) ∨ w.heap.size ≤ k_) ∧ some k_ ≠ (v1_ : Value).ownBlock) v2_ r3 ∧ Below w0.heap.size w0 w' ∧ Kept w w' (fun k_ => P0_1_ k_) := by
 have hu25 := Try.underlying25
 have HO0_1 := Aside0.mk (show Kd.R k66 66 w w0.heap.size (fun k_ => (P0_1_ k_ ∨ w.heap.size ≤ k_)) u9000_ l0_1 from Kd.R_mono ho0_1 (fun k_ hk => (.inl hk)))
 have HO0_2 := Aside0.mk (show Kd.V k64 64 w w0.heap.size (fun k_ => ((P0_1_ k_ ∨ P0_2_ k_) ∨ w.heap.size ≤ k_) ∧ some k_ ≠ (u9000_ : Value).ownBlock) (.slice A0_2 l0_2.length c0_2) l0_2 from Kd.V_mono hs0_2 (fun k_ hk => ⟨.inl (.inr hk.1), hk.2⟩))
 have HK := Aside0.mk (Kept.refl w (fun k_ => P0_1_ k_))
 have HW0 := Aside0.mk hB.size
 have HB := Aside0.mk hB
 clear hB
 have H : ((prog_Check.f k a0_0 l0_1 l0_2).bind fun t182 => (if t182 = 0 then (some (a0_0, l0_1, l0_2, 0)) else (some (0, ([] : List (S66)), ([] : List (S64)), 2)))) = some (r1, r2, r3, r4) := h
 clear h
 obtain ⟨t182, A2, H⟩ := be H
 replace H : (if t182 = 0 then (some (a0_0, l0_1, l0_2, 0)) else (some (0, ([] : List (S66)), ([] : List (S64)), 2))) = some (r1, r2, r3, r4) := H
 by_cases c3 : t182 = 0
 rotate_left
 ·rw [if_neg c3] at H
  have c3b0 : (t182 == 0) = false := beq_eq_false_iff_ne.mpr c3
  have c3b1 : (t182 != 0) = true := bne_iff_ne.mpr c3
  simp only [Option.some.injEq, Prod.mk.injEq] at H
  obtain ⟨rfl, rfl, rfl, rfl⟩ := H
  obtain ⟨Ao12, co12, eo12⟩ := Kd.R_slice HO0_1.out
  subst eo12
  go_enter Try.func63, Try.ntmps63
  go_wp2_with (first | ((with_reducible refine gate_dst (N := 1) rfl ?_); refine bx 1 rfl rfl #[.int .i64 a0_0, .slice Ao12 l0_1.length co12, .slice A0_2 l0_2.length c0_2] 25 ?_; intro gb180 hg w13 hbox hb; have BK180 := Aside0.mk (hbox); have GW180 := Aside0.mk ((by rw [hg]; exact (by first | exact HK.out.1 | exact (show Kept w _ (fun k_ => P0_1_ k_) from by repeat (first | (with_reducible first | exact HK.out | apply Kept.alloc | apply Kept.drewN | apply Kept.drew) | exact HK.out)).1) : w.heap.size ≤ gb180)); have GE180 := Aside0.mk ((by rw [hg]; exact (bsz (bb HB)) : w0.heap.size ≤ gb180)); replace HO0_1 := Aside0.mk (Kd.R_below (by (with_reducible repeat (first | apply Kd.R_alloc | apply Kd.R_drewN | apply Kd.R_drew)); exact HO0_1.out) hb); replace HO0_2 := Aside0.mk (Kd.V_below (Kd.V_elderB (by (with_reducible repeat (first | apply Kd.V_alloc | apply Kd.V_drewN | apply Kd.V_drew)); exact HO0_2.out) gb180 (Nat.le_of_eq hg.symm)) hb); replace HK := Aside0.mk (Kept.below (S := (fun k_ => P0_1_ k_)) (by repeat (first | (with_reducible first | exact HK.out | apply Kept.alloc | apply Kept.drewN | apply Kept.drew) | exact HK.out)) hb); replace HB := sb HB hb; clear hb hbox hg) | ((with_reducible refine gate_dst (N := 2) rfl ?_); refine bx 2 rfl rfl #[.int .i64 0, .slice none 0 0, .slice none 0 0] 25 ?_; intro gb181 hg w14 hbox hb; have BK181 := Aside0.mk (hbox); have GW181 := Aside0.mk ((by rw [hg]; exact (by first | exact HK.out.1 | exact (show Kept w _ (fun k_ => P0_1_ k_) from by repeat (first | (with_reducible first | exact HK.out | apply Kept.alloc | apply Kept.drewN | apply Kept.drew | refine Kept.setCell ?_ (.inr GW180.out) _) | exact HK.out)).1) : w.heap.size ≤ gb181)); have GE181 := Aside0.mk ((by rw [hg]; exact (bsz (bb HB)) : w0.heap.size ≤ gb181)); have NB180_181 := nl BK180 hg; have NB181_180 := ng BK180 hg; replace HO0_1 := Aside0.mk (Kd.R_below (by (with_reducible repeat (first | apply Kd.R_alloc | apply Kd.R_drewN | apply Kd.R_drew)); exact HO0_1.out) hb); replace HO0_2 := Aside0.mk (Kd.V_below (Kd.V_elderB (by (with_reducible repeat (first | apply Kd.V_alloc | apply Kd.V_drewN | apply Kd.V_drew)); exact HO0_2.out) gb181 (Nat.le_of_eq hg.symm)) hb); replace BK180 := kb BK180 hb; replace HK := Aside0.mk (Kept.below (S := (fun k_ => P0_1_ k_)) (by repeat (first | (with_reducible first | exact HK.out | apply Kept.alloc | apply Kept.drewN | apply Kept.drew | refine Kept.setCell ?_ (.inr GW180.out) _) | exact HK.out)) hb); replace HB := sb HB hb; clear hb hbox hg; have hnb15 := NB180_181.out; have hnc15 := NB181_180.out; obtain ⟨hcz16_0, hcz16_1, hcz16_2, hfz16_0, hfz16_1, hfz16_2⟩ := cf3 BK180.out) | ((with_reducible refine gate_callee (f := 43) rfl ?_); refine gL (some 5) rfl rfl Try.func43 #[.agg #[.int .i64 a0_0, .slice Ao12 l0_1.length co12, .slice A0_2 l0_2.length c0_2]] rfl ?_; (with_reducible refine (prog_Check.calls k a0_0 _ _ l0_1 _ _ l0_2 t182 _ ?side1 ?side2 ?side3 ?side4 A2.out).mono ?_); (case side1 => repeat (first | exact (Kd.R_reads' HO0_1.out).2.2 | with_reducible first | apply Kd.C_alloc | apply Kd.C_drewN | apply Kd.C_drew)); (case side2 => exact (Kd.R_reads' HO0_1.out).2.1); (case side3 => repeat (first | exact (Kd.V_reads' HO0_2.out).2.2 | with_reducible first | apply Kd.C_alloc | apply Kd.C_drewN | apply Kd.C_drew)); (case side4 => exact (Kd.V_reads' HO0_2.out).2.1); rintro e w17 ⟨rfl, hb⟩; refine ⟨_, rfl, ?_⟩; replace HO0_1 := Aside0.mk (Kd.R_below (by (with_reducible repeat (first | apply Kd.R_alloc | apply Kd.R_drewN | apply Kd.R_drew)); exact HO0_1.out) hb); replace HO0_2 := Aside0.mk (Kd.V_below (by (with_reducible repeat (first | apply Kd.V_alloc | apply Kd.V_drewN | apply Kd.V_drew)); exact HO0_2.out) hb); replace BK180 := kb BK180 hb; replace BK181 := kb BK181 hb; replace HK := Aside0.mk (Kept.below (S := (fun k_ => P0_1_ k_)) (by repeat (first | (with_reducible first | exact HK.out | apply Kept.alloc | apply Kept.drewN | apply Kept.drew | refine Kept.setCell ?_ (.inr GW180.out) _ | refine Kept.setCell ?_ (.inr GW181.out) _) | exact HK.out)) hb); replace HB := sb HB hb; (try clear hb); (try clear hb2); (try clear hk); (try clear hi); obtain ⟨hcz18_0, hcz18_1, hcz18_2, hfz18_0, hfz18_1, hfz18_2⟩ := cf3 BK181.out))
  refine bodyPost_ret (results_ct rfl _ _ gb181 25 #[.int .i64 0, .slice none 0 0, .slice none 0 0] (0, 0) _ rfl (by (with_reducible repeat (first | refine kdN ?_ _ | refine kdr ?_ | refine kal ?_ _)); refine blk_put (cs := #[.int .i64 0, .slice none 0 0, .slice none 0 0]) ?_ 2 _ rfl; (with_reducible repeat (first | refine kdN ?_ _ | refine kdr ?_ | refine kal ?_ _)); refine blk_put (cs := #[.int .i64 0, .slice none 0 0, .slice none 0 0]) ?_ 1 _ rfl; (with_reducible repeat (first | refine kdN ?_ _ | refine kdr ?_ | refine kal ?_ _)); refine blk_put (cs := #[.int .i64 0, .slice none 0 0, .slice none 0 0]) ?_ 0 _ rfl; (with_reducible repeat (first | refine kdN ?_ _ | refine kdr ?_ | refine kal ?_ _)); exact BK181.out) Try.underlying25 rfl (by kernel_rfl)) rfl ?_
  exact ⟨_, _, rr, by first | exact Kd.R_nil _ _ _ _ _ | exact Kd.N_nil _ _ _ _ _ | exact Kd.V_nil _ _ _ _ _ | exact Kd.Q_nil _ _ _ _ _ | exact Kd.S_nil _ _ _ _ _, Kd.N_V (by first | exact Kd.R_nil _ _ _ _ _ | exact Kd.N_nil _ _ _ _ _ | exact Kd.V_nil _ _ _ _ _ | exact Kd.Q_nil _ _ _ _ _ | exact Kd.S_nil _ _ _ _ _ | exact Kd.N_nil _ _ _ 0 _ | exact Kd.R_nil _ _ _ 0 _), bb HB, by repeat (first | (with_reducible first | exact HK.out | apply Kept.alloc | apply Kept.drewN | apply Kept.drew | refine Kept.setCell ?_ (.inr GW180.out) _ | refine Kept.setCell ?_ (.inr GW181.out) _) | exact HK.out)⟩
 rw [if_pos c3] at H
 have c3b0 : (t182 == 0) = true := beq_iff_eq.mpr c3
 have c3b1 : (t182 != 0) = false := bne_eq_false_iff_eq.mpr c3
 clear c3
 simp only [Option.some.injEq, Prod.mk.injEq] at H
 obtain ⟨rfl, rfl, rfl, rfl⟩ := H
 obtain ⟨Ao4, co4, eo4⟩ := Kd.R_slice HO0_1.out
 subst eo4
 go_enter Try.func63, Try.ntmps63
 go_wp2_with (first | ((with_reducible refine gate_dst (N := 1) rfl ?_); refine bx 1 rfl rfl #[.int .i64 a0_0, .slice Ao4 l0_1.length co4, .slice A0_2 l0_2.length c0_2] 25 ?_; intro gb180 hg w5 hbox hb; have BK180 := Aside0.mk (hbox); have GW180 := Aside0.mk ((by rw [hg]; exact (by first | exact HK.out.1 | exact (show Kept w _ (fun k_ => P0_1_ k_) from by repeat (first | (with_reducible first | exact HK.out | apply Kept.alloc | apply Kept.drewN | apply Kept.drew) | exact HK.out)).1) : w.heap.size ≤ gb180)); have GE180 := Aside0.mk ((by rw [hg]; exact (bsz (bb HB)) : w0.heap.size ≤ gb180)); replace HO0_1 := Aside0.mk (Kd.R_below (by (with_reducible repeat (first | apply Kd.R_alloc | apply Kd.R_drewN | apply Kd.R_drew)); exact HO0_1.out) hb); replace HO0_2 := Aside0.mk (Kd.V_below (Kd.V_elderB (by (with_reducible repeat (first | apply Kd.V_alloc | apply Kd.V_drewN | apply Kd.V_drew)); exact HO0_2.out) gb180 (Nat.le_of_eq hg.symm)) hb); replace HK := Aside0.mk (Kept.below (S := (fun k_ => P0_1_ k_)) (by repeat (first | (with_reducible first | exact HK.out | apply Kept.alloc | apply Kept.drewN | apply Kept.drew) | exact HK.out)) hb); replace HB := sb HB hb; clear hb hbox hg) | ((with_reducible refine gate_dst (N := 2) rfl ?_); refine bx 2 rfl rfl #[.int .i64 0, .slice none 0 0, .slice none 0 0] 25 ?_; intro gb181 hg w6 hbox hb; have BK181 := Aside0.mk (hbox); have GW181 := Aside0.mk ((by rw [hg]; exact (by first | exact HK.out.1 | exact (show Kept w _ (fun k_ => P0_1_ k_) from by repeat (first | (with_reducible first | exact HK.out | apply Kept.alloc | apply Kept.drewN | apply Kept.drew | refine Kept.setCell ?_ (.inr GW180.out) _) | exact HK.out)).1) : w.heap.size ≤ gb181)); have GE181 := Aside0.mk ((by rw [hg]; exact (bsz (bb HB)) : w0.heap.size ≤ gb181)); have NB180_181 := nl BK180 hg; have NB181_180 := ng BK180 hg; replace HO0_1 := Aside0.mk (Kd.R_below (by (with_reducible repeat (first | apply Kd.R_alloc | apply Kd.R_drewN | apply Kd.R_drew)); exact HO0_1.out) hb); replace HO0_2 := Aside0.mk (Kd.V_below (Kd.V_elderB (by (with_reducible repeat (first | apply Kd.V_alloc | apply Kd.V_drewN | apply Kd.V_drew)); exact HO0_2.out) gb181 (Nat.le_of_eq hg.symm)) hb); replace BK180 := kb BK180 hb; replace HK := Aside0.mk (Kept.below (S := (fun k_ => P0_1_ k_)) (by repeat (first | (with_reducible first | exact HK.out | apply Kept.alloc | apply Kept.drewN | apply Kept.drew | refine Kept.setCell ?_ (.inr GW180.out) _) | exact HK.out)) hb); replace HB := sb HB hb; clear hb hbox hg; have hnb7 := NB180_181.out; have hnc7 := NB181_180.out; obtain ⟨hcz8_0, hcz8_1, hcz8_2, hfz8_0, hfz8_1, hfz8_2⟩ := cf3 BK180.out) | ((with_reducible refine gate_callee (f := 43) rfl ?_); refine gL (some 5) rfl rfl Try.func43 #[.agg #[.int .i64 a0_0, .slice Ao4 l0_1.length co4, .slice A0_2 l0_2.length c0_2]] rfl ?_; (with_reducible refine (prog_Check.calls k a0_0 _ _ l0_1 _ _ l0_2 t182 _ ?side1 ?side2 ?side3 ?side4 A2.out).mono ?_); (case side1 => repeat (first | exact (Kd.R_reads' HO0_1.out).2.2 | with_reducible first | apply Kd.C_alloc | apply Kd.C_drewN | apply Kd.C_drew)); (case side2 => exact (Kd.R_reads' HO0_1.out).2.1); (case side3 => repeat (first | exact (Kd.V_reads' HO0_2.out).2.2 | with_reducible first | apply Kd.C_alloc | apply Kd.C_drewN | apply Kd.C_drew)); (case side4 => exact (Kd.V_reads' HO0_2.out).2.1); rintro e w9 ⟨rfl, hb⟩; refine ⟨_, rfl, ?_⟩; replace HO0_1 := Aside0.mk (Kd.R_below (by (with_reducible repeat (first | apply Kd.R_alloc | apply Kd.R_drewN | apply Kd.R_drew)); exact HO0_1.out) hb); replace HO0_2 := Aside0.mk (Kd.V_below (by (with_reducible repeat (first | apply Kd.V_alloc | apply Kd.V_drewN | apply Kd.V_drew)); exact HO0_2.out) hb); replace BK180 := kb BK180 hb; replace BK181 := kb BK181 hb; replace HK := Aside0.mk (Kept.below (S := (fun k_ => P0_1_ k_)) (by repeat (first | (with_reducible first | exact HK.out | apply Kept.alloc | apply Kept.drewN | apply Kept.drew | refine Kept.setCell ?_ (.inr GW180.out) _ | refine Kept.setCell ?_ (.inr GW181.out) _) | exact HK.out)) hb); replace HB := sb HB hb; (try clear hb); (try clear hb2); (try clear hk); (try clear hi); obtain ⟨hcz10_0, hcz10_1, hcz10_2, hfz10_0, hfz10_1, hfz10_2⟩ := cf3 BK180.out; obtain ⟨hcz11_0, hcz11_1, hcz11_2, hfz11_0, hfz11_1, hfz11_2⟩ := cf3 BK181.out))
 refine bodyPost_ret (results_ct rfl _ _ gb181 25 #[.int .i64 a0_0, .slice Ao4 l0_1.length co4, .slice A0_2 l0_2.length c0_2] (0, 0) _ rfl (by (with_reducible repeat (first | refine kdN ?_ _ | refine kdr ?_ | refine kal ?_ _)); refine blk_put (cs := #[.int .i64 a0_0, .slice Ao4 l0_1.length co4, .slice none 0 0]) ?_ 2 _ rfl; (with_reducible repeat (first | refine kdN ?_ _ | refine kdr ?_ | refine kal ?_ _)); refine blk_put (cs := #[.int .i64 a0_0, .slice none 0 0, .slice none 0 0]) ?_ 1 _ rfl; (with_reducible repeat (first | refine kdN ?_ _ | refine kdr ?_ | refine kal ?_ _)); refine blk_put (cs := #[.int .i64 0, .slice none 0 0, .slice none 0 0]) ?_ 0 _ rfl; (with_reducible repeat (first | refine kdN ?_ _ | refine kdr ?_ | refine kal ?_ _)); exact BK181.out) Try.underlying25 rfl (by kernel_rfl)) rfl ?_
 exact ⟨_, _, rr, by (with_reducible repeat (first | apply Kd.R_alloc | apply Kd.R_drewN | apply Kd.R_drew)); exact Kd.R_mono (Kd.R_far (p := ⟨gb181, 2, none⟩) (Kd.R_far (p := ⟨gb181, 1, none⟩) (Kd.R_far (p := ⟨gb181, 0, none⟩) (Kd.R_types HO0_1.out BK181.out (by decide)) (fun _ hk => hk.2) (.int .i64 a0_0)) (fun _ hk => hk.2) (.slice Ao4 l0_1.length co4)) (fun _ hk => hk.2) (.slice A0_2 l0_2.length c0_2)) (fun _ hk => hk.1), by (with_reducible repeat (first | apply Kd.V_alloc | apply Kd.V_drewN | apply Kd.V_drew)); exact Kd.V_mono (Kd.V_far (p := ⟨gb181, 2, none⟩) (Kd.V_far (p := ⟨gb181, 1, none⟩) (Kd.V_far (p := ⟨gb181, 0, none⟩) (Kd.V_mono HO0_2.out (fun k_ hk => (⟨hk, hk.2⟩ : _ ∧ k_ ≠ gb181))) (fun _ hk => hk.2) (.int .i64 a0_0)) (fun _ hk => hk.2) (.slice Ao4 l0_1.length co4)) (fun _ hk => hk.2) (.slice A0_2 l0_2.length c0_2)) (fun _ hk => ⟨hk.1.1.1.1, hk.1.1.1.2⟩), bb HB, by repeat (first | (with_reducible first | exact HK.out | apply Kept.alloc | apply Kept.drewN | apply Kept.drew | refine Kept.setCell ?_ (.inr GW180.out) _ | refine Kept.setCell ?_ (.inr GW181.out) _) | exact HK.out)⟩
end Go.Proofs.Ytilebfkehmecaaa.Print
namespace Go.Proofs.Ytilebfkehmecaaa.Print
open Go.RowKit Go.Proofs.YtilebfkehmecaaaW.PrintWords Go.Proofs.YtilebfkehmecaaaW.PrintLast Go.Proofs.YtilebfkehmecaaaW.PrintMore
attribute [local go_sem] max2_int min2_int max_two min_two max_three min_three max_four min_four
set_option linter.unusedVariables false
set_option linter.unusedSimpArgs false
open Go.Shelf Go.RowKit
attribute [local go_sem] Oper.semAt_some
def prod_Self.f (k : Nat) (a0_0 : Int) (l0_1 : List S66) (l0_2 : List S64) (a1 : Int) : Option (Int × List S66 × List S64 × Int) :=
  (prog_Check.f k a0_0 l0_1 l0_2).bind fun t => if t = 0 then (if a1 < 1 then some (0, [], [], 1) else if a1 > 3 then some (0, [], [], 1) else
    (prod_single.f k a0_0 l0_1 l0_2).bind fun s => if s = 0 then ((prod_Of.f k (List.replicate a1.toNat (⟨a0_0, l0_1, l0_2⟩ : S25))).bind fun o => prod_made.f k o.1 o.2.1 o.2.2)
      else some (0, [], [], 1)) else some (0, [], [], 30)
theorem row3_put {W : World} {B t : Nat} {x0 x1 x2 : Value} (hz : W.heap[B]? = some (.cells #[x0, x1, x2] t (0, 0))) (a b c : Value) :
    (((W.setCell ⟨B, 0, none⟩ a).setCell ⟨B, 1, none⟩ b).setCell ⟨B, 2, none⟩ c).heap[B]? = some (.cells #[a, b, c] t (0, 0)) ∧
    (∀ k, k ≠ B → (((W.setCell ⟨B, 0, none⟩ a).setCell ⟨B, 1, none⟩ b).setCell ⟨B, 2, none⟩ c).heap[k]? = W.heap[k]?) ∧
    (∀ n, n ≤ B → Below n W (((W.setCell ⟨B, 0, none⟩ a).setCell ⟨B, 1, none⟩ b).setCell ⟨B, 2, none⟩ c)) := by
  have h0 := blk_put hz 0 a (cs' := #[a, x1, x2]) rfl
  have h1 := blk_put h0 1 b (cs' := #[a, b, x2]) rfl
  refine ⟨blk_put h1 2 c (cs' := #[a, b, c]) rfl, fun k hk => ?_, fun n hn => ?_⟩
  · rw [Below.heap_setCell _ _ _ _ hk, Below.heap_setCell _ _ _ _ hk, Below.heap_setCell _ _ _ _ hk]
  · exact ((below_cell _ _ hn).trans (below_cell _ _ hn)).trans (below_cell _ _ hn)
theorem rep_each {n : Nat} {a0_0 : Int} {A0_1 : Option Addr} {c0_1 : Nat} {l0_1 : List S66} {A0_2 : Option Addr} {c0_2 : Nat} {l0_2 : List S64} (W : World)
    (h1 : Kd.C k66 W A0_1 l0_1.length l0_1) (c1 : l0_1.length ≤ c0_1) (h2 : Kd.C k64 W A0_2 l0_2.length l0_2) (c2 : l0_2.length ≤ c0_2) :
    ∀ (j : Nat) (x : S25) (c : List Value), (List.replicate n (⟨a0_0, l0_1, l0_2⟩ : S25))[j]? = some x → (List.replicate n [Value.int .i64 a0_0, .slice A0_1 l0_1.length c0_1, .slice A0_2 l0_2.length c0_2])[j]? = some c → k25.K W x c := by
  intro j x c hx hc
  rw [List.getElem?_replicate] at hx hc
  by_cases hj : j < n
  · rw [if_pos hj] at hx hc
    obtain rfl := Option.some.inj hx
    obtain rfl := Option.some.inj hc
    exact k25_mk W _ c1 h1 c2 h2
  · rw [if_neg hj] at hx; cases hx
set_option maxHeartbeats 16000000 in
set_option maxRecDepth 100000 in
theorem prod_Self.calls (k : Nat) (a0_0 : Int) (A0_1 : Option Addr) (c0_1 : Nat) (l0_1 : List S66) (A0_2 : Option Addr) (c0_2 : Nat) (l0_2 : List S64) (a1 : Int) (r1 : Int) (r2 : List S66) (r3 : List S64) (r4 : Int) (w : World)
    (hr1 : Kd.C k66 w A0_1 l0_1.length l0_1) (hc1 : l0_1.length ≤ c0_1) (hr2 : Kd.C k64 w A0_2 l0_2.length l0_2) (hc2 : l0_2.length ≤ c0_2) (h : prod_Self.f k a0_0 l0_1 l0_2 a1 = some (r1, r2, r3, r4)) :
    Calls Try.prog 26 #[.agg #[.int .i64 a0_0, .slice A0_1 l0_1.length c0_1, .slice A0_2 l0_2.length c0_2], .int .i64 a1] w fun en w' => ∃ v1_ v2_ : Value, en = .returned (.tuple #[.agg #[.int .i64 r1, v1_, v2_], .int .i64 r4]) ∧
      Kd.R k66 66 w' w.heap.size (fun _ => True) v1_ r2 ∧ Kd.V k64 64 w' w.heap.size (fun k_ => w.heap.size ≤ k_ ∧ some k_ ≠ (v1_ : Value).ownBlock) v2_ r3 ∧ Below w.heap.size w w' := by
  have huP := Try.underlying25
  have HR1 := Aside0.mk hr1
  have HC1 := Aside0.mk hc1
  have HR2 := Aside0.mk hr2
  have HC2 := Aside0.mk hc2
  clear hr1 hc1 hr2 hc2
  unfold prod_Self.f at h
  obtain ⟨tc, ac, h⟩ := Option.bind_eq_some_iff.mp h
  have AC := Aside0.mk ac
  clear ac
  obtain ⟨W0, hW0⟩ : ∃ X, ((w.alloc (.cells #[.int .i64 a0_0, .slice A0_1 l0_1.length c0_1, .slice A0_2 l0_2.length c0_2] 25)).alloc (.cells #[.int .i64 0, .slice none 0 0, .slice none 0 0] 25)) = X := ⟨_, rfl⟩
  have b0 : Below w.heap.size w W0 := by rw [← hW0]; exact bal (bal (Below.refl _ _) _) _
  have p0 : W0.heap[w.heap.size]? = some (.cells #[.int .i64 a0_0, .slice A0_1 l0_1.length c0_1, .slice A0_2 l0_2.length c0_2] 25 (0, 0)) := by rw [← hW0]; exact kal (blk_new _ _) _
  have z0 : W0.heap[w.heap.size + 1]? = some (.cells #[.int .i64 0, .slice none 0 0, .slice none 0 0] 25 (0, 0)) := by
    rw [← hW0]
    have := blk_new (w.alloc (.cells #[.int .i64 a0_0, .slice A0_1 l0_1.length c0_1, .slice A0_2 l0_2.length c0_2] 25)) (.cells #[.int .i64 0, .slice none 0 0, .slice none 0 0] 25)
    simpa using this
  have x0 : W0.cell? ⟨w.heap.size, 0, none⟩ = some (.int .i64 a0_0) := (blk_cell p0 0).trans rfl
  have x1 : W0.cell? ⟨w.heap.size, 1, none⟩ = some (.slice A0_1 l0_1.length c0_1) := (blk_cell p0 1).trans rfl
  have x2 : W0.cell? ⟨w.heap.size, 2, none⟩ = some (.slice A0_2 l0_2.length c0_2) := (blk_cell p0 2).trans rfl
  by_cases htc : tc = 0
  case neg =>
    rw [if_neg htc] at h
    have H := Aside0.mk h
    have g2 : (tc != 0) = true := bne_iff_ne.mpr htc
    clear h
    go_enter Try.func26, Try.ntmps26
    go_wp2_with (first | (go_at_call 43; refine (prog_Check.calls k a0_0 _ _ l0_1 _ _ l0_2 _ W0 (Kd.C_below HR1.out b0) HC1.out (Kd.C_below HR2.out b0) HC2.out AC.out).mono ?_; rintro e W1 ⟨rfl, hb1⟩; have b1 := b0.trans (hb1.mono b0.size); have p1 := blk_below p0 hb1; have z1 := blk_below z0 hb1; have y0 : W1.cell? ⟨w.heap.size, 0, none⟩ = some (.int .i64 a0_0) := (blk_cell p1 0).trans rfl; have y1 : W1.cell? ⟨w.heap.size, 1, none⟩ = some (.slice A0_1 l0_1.length c0_1) := (blk_cell p1 1).trans rfl; have y2 : W1.cell? ⟨w.heap.size, 2, none⟩ = some (.slice A0_2 l0_2.length c0_2) := (blk_cell p1 2).trans rfl; have z_0 : W1.cell? ⟨w.heap.size + 1, 0, none⟩ = some (.int .i64 0) := (blk_cell z1 0).trans rfl; have z_1 : W1.cell? ⟨w.heap.size + 1, 1, none⟩ = some (.slice none 0 0) := (blk_cell z1 1).trans rfl; have z_2 : W1.cell? ⟨w.heap.size + 1, 2, none⟩ = some (.slice none 0 0) := (blk_cell z1 2).trans rfl; have f_0 := blk_frozen z1 0; have f_1 := blk_frozen z1 1; have f_2 := blk_frozen z1 2))
    obtain ⟨zc, zk, zb⟩ := row3_put z1 (.int .i64 0) (.slice none 0 0) (.slice none 0 0)
    refine bodyPost_ret (results_ct rfl _ _ (w.heap.size + 1) 25 #[.int .i64 0, .slice none 0 0, .slice none 0 0] (0, 0) _ rfl zc huP rfl (by kernel_rfl)) rfl ?_
    obtain ⟨rfl, rfl, rfl, rfl⟩ : r1 = 0 ∧ r2 = [] ∧ r3 = [] ∧ r4 = 30 := by
      injection (Option.some.inj H.out) with g1 g2; injection g2 with g2 g3; injection g3 with g3 g4
      exact ⟨g1.symm, g2.symm, g3.symm, g4.symm⟩
    exact ⟨_, _, rfl, Kd.R_nil _ _ _ _ _, Kd.V_nil _ _ _ _ _, b1.trans (zb _ (by omega))⟩
  subst htc
  rw [if_pos rfl] at h
  by_cases h1 : a1 < 1
  case pos =>
    rw [if_pos h1] at h
    have H := Aside0.mk h
    have g2 : decide (a1 < 1) = true := decide_eq_true h1
    clear h h1
    go_enter Try.func26, Try.ntmps26
    go_wp2_with (first | (go_at_call 43; refine (prog_Check.calls k a0_0 _ _ l0_1 _ _ l0_2 _ W0 (Kd.C_below HR1.out b0) HC1.out (Kd.C_below HR2.out b0) HC2.out AC.out).mono ?_; rintro e W1 ⟨rfl, hb1⟩; have b1 := b0.trans (hb1.mono b0.size); have p1 := blk_below p0 hb1; have z1 := blk_below z0 hb1; have y0 : W1.cell? ⟨w.heap.size, 0, none⟩ = some (.int .i64 a0_0) := (blk_cell p1 0).trans rfl; have y1 : W1.cell? ⟨w.heap.size, 1, none⟩ = some (.slice A0_1 l0_1.length c0_1) := (blk_cell p1 1).trans rfl; have y2 : W1.cell? ⟨w.heap.size, 2, none⟩ = some (.slice A0_2 l0_2.length c0_2) := (blk_cell p1 2).trans rfl; have z_0 : W1.cell? ⟨w.heap.size + 1, 0, none⟩ = some (.int .i64 0) := (blk_cell z1 0).trans rfl; have z_1 : W1.cell? ⟨w.heap.size + 1, 1, none⟩ = some (.slice none 0 0) := (blk_cell z1 1).trans rfl; have z_2 : W1.cell? ⟨w.heap.size + 1, 2, none⟩ = some (.slice none 0 0) := (blk_cell z1 2).trans rfl; have f_0 := blk_frozen z1 0; have f_1 := blk_frozen z1 1; have f_2 := blk_frozen z1 2))
    obtain ⟨zc, zk, zb⟩ := row3_put z1 (.int .i64 0) (.slice none 0 0) (.slice none 0 0)
    refine bodyPost_ret (results_ct rfl _ _ (w.heap.size + 1) 25 #[.int .i64 0, .slice none 0 0, .slice none 0 0] (0, 0) _ rfl zc huP rfl (by kernel_rfl)) rfl ?_
    obtain ⟨rfl, rfl, rfl, rfl⟩ : r1 = 0 ∧ r2 = [] ∧ r3 = [] ∧ r4 = 1 := by
      injection (Option.some.inj H.out) with g1 g2; injection g2 with g2 g3; injection g3 with g3 g4
      exact ⟨g1.symm, g2.symm, g3.symm, g4.symm⟩
    exact ⟨_, _, rfl, Kd.R_nil _ _ _ _ _, Kd.V_nil _ _ _ _ _, b1.trans (zb _ (by omega))⟩
  rw [if_neg h1] at h
  have g1 : decide (a1 < 1) = false := decide_eq_false h1
  by_cases h3 : a1 > 3
  case pos =>
    rw [if_pos h3] at h
    have H := Aside0.mk h
    have g2 : decide (3 < a1) = true := decide_eq_true h3
    have g3 : decide (a1 > 3) = true := decide_eq_true h3
    clear h h1 h3
    go_enter Try.func26, Try.ntmps26
    go_wp2_with (first | (go_at_call 43; refine (prog_Check.calls k a0_0 _ _ l0_1 _ _ l0_2 _ W0 (Kd.C_below HR1.out b0) HC1.out (Kd.C_below HR2.out b0) HC2.out AC.out).mono ?_; rintro e W1 ⟨rfl, hb1⟩; have b1 := b0.trans (hb1.mono b0.size); have p1 := blk_below p0 hb1; have z1 := blk_below z0 hb1; have y0 : W1.cell? ⟨w.heap.size, 0, none⟩ = some (.int .i64 a0_0) := (blk_cell p1 0).trans rfl; have y1 : W1.cell? ⟨w.heap.size, 1, none⟩ = some (.slice A0_1 l0_1.length c0_1) := (blk_cell p1 1).trans rfl; have y2 : W1.cell? ⟨w.heap.size, 2, none⟩ = some (.slice A0_2 l0_2.length c0_2) := (blk_cell p1 2).trans rfl; have z_0 : W1.cell? ⟨w.heap.size + 1, 0, none⟩ = some (.int .i64 0) := (blk_cell z1 0).trans rfl; have z_1 : W1.cell? ⟨w.heap.size + 1, 1, none⟩ = some (.slice none 0 0) := (blk_cell z1 1).trans rfl; have z_2 : W1.cell? ⟨w.heap.size + 1, 2, none⟩ = some (.slice none 0 0) := (blk_cell z1 2).trans rfl; have f_0 := blk_frozen z1 0; have f_1 := blk_frozen z1 1; have f_2 := blk_frozen z1 2))
    obtain ⟨zc, zk, zb⟩ := row3_put z1 (.int .i64 0) (.slice none 0 0) (.slice none 0 0)
    refine bodyPost_ret (results_ct rfl _ _ (w.heap.size + 1) 25 #[.int .i64 0, .slice none 0 0, .slice none 0 0] (0, 0) _ rfl zc huP rfl (by kernel_rfl)) rfl ?_
    obtain ⟨rfl, rfl, rfl, rfl⟩ : r1 = 0 ∧ r2 = [] ∧ r3 = [] ∧ r4 = 1 := by
      injection (Option.some.inj H.out) with g1 g2; injection g2 with g2 g3; injection g3 with g3 g4
      exact ⟨g1.symm, g2.symm, g3.symm, g4.symm⟩
    exact ⟨_, _, rfl, Kd.R_nil _ _ _ _ _, Kd.V_nil _ _ _ _ _, b1.trans (zb _ (by omega))⟩
  rw [if_neg h3] at h
  have g3 : decide (3 < a1) = false := decide_eq_false h3
  have g4 : decide (a1 > 3) = false := decide_eq_false h3
  obtain ⟨sc, as_, h⟩ := Option.bind_eq_some_iff.mp h
  have AS := Aside0.mk as_
  obtain ⟨n, hn, hna⟩ : ∃ n : Nat, (n = 1 ∨ n = 2 ∨ n = 3) ∧ a1 = (n : Int) := ⟨a1.toNat, by omega, by omega⟩
  clear as_ h1 h3
  by_cases hsc : sc = 0
  case neg =>
    rw [if_neg hsc] at h
    have H := Aside0.mk h
    have g5 : (sc != 0) = true := bne_iff_ne.mpr hsc
    clear h hsc
    go_enter Try.func26, Try.ntmps26
    go_wp2_with (first | (go_at_call 43; refine (prog_Check.calls k a0_0 _ _ l0_1 _ _ l0_2 _ W0 (Kd.C_below HR1.out b0) HC1.out (Kd.C_below HR2.out b0) HC2.out AC.out).mono ?_; rintro e W1 ⟨rfl, hb1⟩; have b1 := b0.trans (hb1.mono b0.size); have p1 := blk_below p0 hb1; have z1 := blk_below z0 hb1; have y0 : W1.cell? ⟨w.heap.size, 0, none⟩ = some (.int .i64 a0_0) := (blk_cell p1 0).trans rfl; have y1 : W1.cell? ⟨w.heap.size, 1, none⟩ = some (.slice A0_1 l0_1.length c0_1) := (blk_cell p1 1).trans rfl; have y2 : W1.cell? ⟨w.heap.size, 2, none⟩ = some (.slice A0_2 l0_2.length c0_2) := (blk_cell p1 2).trans rfl; have z_0 : W1.cell? ⟨w.heap.size + 1, 0, none⟩ = some (.int .i64 0) := (blk_cell z1 0).trans rfl; have z_1 : W1.cell? ⟨w.heap.size + 1, 1, none⟩ = some (.slice none 0 0) := (blk_cell z1 1).trans rfl; have z_2 : W1.cell? ⟨w.heap.size + 1, 2, none⟩ = some (.slice none 0 0) := (blk_cell z1 2).trans rfl; have f_0 := blk_frozen z1 0; have f_1 := blk_frozen z1 1; have f_2 := blk_frozen z1 2) | (go_at_call 44; refine (prod_single.calls k a0_0 _ _ l0_1 _ _ l0_2 _ W1 (Kd.C_below HR1.out b1) HC1.out (Kd.C_below HR2.out b1) HC2.out AS.out).mono ?_; rintro e W2 ⟨rfl, hb2⟩; have b2 := b1.trans (hb2.mono b1.size); have p2 := blk_below p1 hb2; have z2 := blk_below z1 hb2; have y0 : W2.cell? ⟨w.heap.size, 0, none⟩ = some (.int .i64 a0_0) := (blk_cell p2 0).trans rfl; have y1 : W2.cell? ⟨w.heap.size, 1, none⟩ = some (.slice A0_1 l0_1.length c0_1) := (blk_cell p2 1).trans rfl; have y2 : W2.cell? ⟨w.heap.size, 2, none⟩ = some (.slice A0_2 l0_2.length c0_2) := (blk_cell p2 2).trans rfl; have z_0 : W2.cell? ⟨w.heap.size + 1, 0, none⟩ = some (.int .i64 0) := (blk_cell z2 0).trans rfl; have z_1 : W2.cell? ⟨w.heap.size + 1, 1, none⟩ = some (.slice none 0 0) := (blk_cell z2 1).trans rfl; have z_2 : W2.cell? ⟨w.heap.size + 1, 2, none⟩ = some (.slice none 0 0) := (blk_cell z2 2).trans rfl; have f_0 := blk_frozen z2 0; have f_1 := blk_frozen z2 1; have f_2 := blk_frozen z2 2))
    obtain ⟨zc, zk, zb⟩ := row3_put z2 (.int .i64 0) (.slice none 0 0) (.slice none 0 0)
    refine bodyPost_ret (results_ct rfl _ _ (w.heap.size + 1) 25 #[.int .i64 0, .slice none 0 0, .slice none 0 0] (0, 0) _ rfl zc huP rfl (by kernel_rfl)) rfl ?_
    obtain ⟨rfl, rfl, rfl, rfl⟩ : r1 = 0 ∧ r2 = [] ∧ r3 = [] ∧ r4 = 1 := by
      injection (Option.some.inj H.out) with g1 g2; injection g2 with g2 g3; injection g3 with g3 g4
      exact ⟨g1.symm, g2.symm, g3.symm, g4.symm⟩
    exact ⟨_, _, rfl, Kd.R_nil _ _ _ _ _, Kd.V_nil _ _ _ _ _, b2.trans (zb _ (by omega))⟩
  subst hsc
  rw [if_pos rfl] at h
  obtain ⟨⟨o1, o2, o3⟩, ao, hmm⟩ := Option.bind_eq_some_iff.mp h
  rw [hna, Int.toNat_natCast] at ao
  subst hna
  have AO := Aside0.mk ao
  have HM := Aside0.mk hmm
  have hn3 : n ≤ 3 := by omega
  have hn := Aside0.mk hn
  clear ao h hmm
  go_enter Try.func26, Try.ntmps26
  go_wp2_with (first | (go_at_call 43; refine (prog_Check.calls k a0_0 _ _ l0_1 _ _ l0_2 _ W0 (Kd.C_below HR1.out b0) HC1.out (Kd.C_below HR2.out b0) HC2.out AC.out).mono ?_; rintro e W1 ⟨rfl, hb1⟩; have b1 := b0.trans (hb1.mono b0.size); have p1 := blk_below p0 hb1; have z1 := blk_below z0 hb1; have y0 : W1.cell? ⟨w.heap.size, 0, none⟩ = some (.int .i64 a0_0) := (blk_cell p1 0).trans rfl; have y1 : W1.cell? ⟨w.heap.size, 1, none⟩ = some (.slice A0_1 l0_1.length c0_1) := (blk_cell p1 1).trans rfl; have y2 : W1.cell? ⟨w.heap.size, 2, none⟩ = some (.slice A0_2 l0_2.length c0_2) := (blk_cell p1 2).trans rfl; have z_0 : W1.cell? ⟨w.heap.size + 1, 0, none⟩ = some (.int .i64 0) := (blk_cell z1 0).trans rfl; have z_1 : W1.cell? ⟨w.heap.size + 1, 1, none⟩ = some (.slice none 0 0) := (blk_cell z1 1).trans rfl; have z_2 : W1.cell? ⟨w.heap.size + 1, 2, none⟩ = some (.slice none 0 0) := (blk_cell z1 2).trans rfl; have f_0 := blk_frozen z1 0; have f_1 := blk_frozen z1 1; have f_2 := blk_frozen z1 2) | (go_at_call 44; refine (prod_single.calls k a0_0 _ _ l0_1 _ _ l0_2 _ W1 (Kd.C_below HR1.out b1) HC1.out (Kd.C_below HR2.out b1) HC2.out AS.out).mono ?_; rintro e W2 ⟨rfl, hb2⟩; have b2 := b1.trans (hb2.mono b1.size); have p2 := blk_below p1 hb2; have z2 := blk_below z1 hb2; have y0 : W2.cell? ⟨w.heap.size, 0, none⟩ = some (.int .i64 a0_0) := (blk_cell p2 0).trans rfl; have y1 : W2.cell? ⟨w.heap.size, 1, none⟩ = some (.slice A0_1 l0_1.length c0_1) := (blk_cell p2 1).trans rfl; have y2 : W2.cell? ⟨w.heap.size, 2, none⟩ = some (.slice A0_2 l0_2.length c0_2) := (blk_cell p2 2).trans rfl; have z_0 : W2.cell? ⟨w.heap.size + 1, 0, none⟩ = some (.int .i64 0) := (blk_cell z2 0).trans rfl; have z_1 : W2.cell? ⟨w.heap.size + 1, 1, none⟩ = some (.slice none 0 0) := (blk_cell z2 1).trans rfl; have z_2 : W2.cell? ⟨w.heap.size + 1, 2, none⟩ = some (.slice none 0 0) := (blk_cell z2 2).trans rfl; have f_0 := blk_frozen z2 0; have f_1 := blk_frozen z2 1; have f_2 := blk_frozen z2 2) | (go_at_call 66; refine (slices_Repeat.calls n hn.out a0_0 A0_1 l0_1.length c0_1 A0_2 l0_2.length c0_2 W2.heap.size _ (blk_new _ _)).mono ?_; rintro e W3 ⟨B3, rfl, h3, hb3⟩; have q2 := bal (Below.refl W2.heap.size W2) (.cells #[.int .i64 a0_0, .slice A0_1 l0_1.length c0_1, .slice A0_2 l0_2.length c0_2] 25); have hb23 := q2.trans (hb3.mono q2.size); have b3 := b2.trans (hb23.mono b2.size); have z3 := blk_below z2 hb23; have c3 := C_of_row (d := k25) (l := List.replicate n (⟨a0_0, l0_1, l0_2⟩ : S25)) (css := List.replicate n [.int .i64 a0_0, .slice A0_1 l0_1.length c0_1, .slice A0_2 l0_2.length c0_2]) h3 (by simp) (by simp; omega) (rep_each W3 (Kd.C_below HR1.out b3) HC1.out (Kd.C_below HR2.out b3) HC2.out)) | (go_at_call 65; refine calls_of_args (args' := #[.slice (some ⟨B3, 0, none⟩) (List.replicate n (⟨a0_0, l0_1, l0_2⟩ : S25)).length n]) (by rw [List.length_replicate]) ?_; refine (prod_Of.calls k (some ⟨B3, 0, none⟩) n (List.replicate n (⟨a0_0, l0_1, l0_2⟩ : S25)) o1 o2 o3 W3 c3 (by simp) AO.out).mono ?_; rintro e W4 ⟨v1, v2, rfl, r4_, n4_, hb4⟩; have b4 := b3.trans (hb4.mono b3.size); have z4 := blk_below z3 hb4; have V4 := Kd.N_V (base' := W3.heap.size) n4_; obtain ⟨D1, d1, e1⟩ := Kd.R_slice r4_; subst e1; obtain ⟨D2, d2, e2⟩ := Kd.V_slice V4; subst e2) | (go_at_call 63; refine (prod_made.calls k o1 (fun k_ => W3.heap.size ≤ k_) _ o2 (fun k_ => W3.heap.size ≤ k_) _ _ o3 r1 r2 r3 r4 W3 W4 hb4 r4_ V4 HM.out).mono ?_; rintro e W5 ⟨v1, v2, rfl, r5_, v5_, hb5, hk5⟩; obtain ⟨D3, d3, e3⟩ := Kd.R_slice r5_; subst e3; obtain ⟨D4, d4, e4⟩ := Kd.V_slice v5_; subst e4; have b5 := b3.trans (hb5.mono b3.size); have z5 := blk_below z3 hb5; have z_0 : W5.cell? ⟨w.heap.size + 1, 0, none⟩ = some (.int .i64 0) := (blk_cell z5 0).trans rfl; have z_1 : W5.cell? ⟨w.heap.size + 1, 1, none⟩ = some (.slice none 0 0) := (blk_cell z5 1).trans rfl; have z_2 : W5.cell? ⟨w.heap.size + 1, 2, none⟩ = some (.slice none 0 0) := (blk_cell z5 2).trans rfl; have f_0 := blk_frozen z5 0; have f_1 := blk_frozen z5 1; have f_2 := blk_frozen z5 2))
  have s3 := b3.size
  have lz := blk_lt z3
  obtain ⟨zc, zk, zb⟩ := row3_put z5 (.int .i64 r1) (.slice D3 r2.length d3) (.slice D4 r3.length d4)
  refine bodyPost_ret (results_ct rfl _ _ (w.heap.size + 1) 25 #[.int .i64 r1, .slice D3 r2.length d3, .slice D4 r3.length d4] (0, 0) _ rfl zc huP rfl (by kernel_rfl)) rfl ?_
  refine ⟨_, _, rfl, Kd.R_lower (Kd.R_mono (Kd.R_step (Kd.R_bound r5_) (fun q hq _ => zk q (by have := hq.2.1; omega))) (fun _ _ => trivial)) s3, ?_, b5.trans (zb _ (by omega))⟩
  refine Kd.V_mono (ok := fun k_ => (W3.heap.size ≤ k_ ∧ some k_ ≠ (Value.slice D3 r2.length d3).ownBlock)) (Kd.V_step (Kd.V_mono v5_ (fun q hq => ⟨?_, hq.2⟩)) (fun q hq _ => zk q (by have := hq.1; omega))) (fun q hq => ⟨by have := hq.1; omega, hq.2⟩)
  have s4 := hb4.size
  rcases hq.1 with (h9 | h9) | h9 <;> omega
end Go.Proofs.Ytilebfkehmecaaa.Print
namespace Go.Proofs.Ytilebfkehmecaaa.Print
open Go.RowKit Go.Proofs.YtilebfkehmecaaaW.PrintWords Go.Proofs.YtilebfkehmecaaaW.PrintLast Go.Proofs.YtilebfkehmecaaaW.PrintMore
attribute [local go_sem] max2_int min2_int max_two min_two max_three min_three max_four min_four
set_option linter.unusedVariables false
set_option linter.unusedSimpArgs false
def prod_cells.l0 : Nat → Int → List (S66) → Int → Int → Option (Int)
 | 0, _, _, _, _ => none
 | k + 1, x3, x7, x8, x9 => if x9 < x8 then (if 0 ≤ x9 then (if x9 < (x7.length : Int) then (prod_cells.l0 k (wrap64 (x3 + ((rd_T66 x7 x9).f2))) x7 x8 (wrap64 (x9 + 1))) else (none)) else (none)) else (some x3)
def prod_cells.f (k : Nat) (a0_0 : Int) (l0_1 : List (S66)) (l0_2 : List (S64)) : Option (Int) := prod_cells.l0 k 0 l0_1 (l0_1.length : Int) 0
set_option maxHeartbeats 8000000 in
set_option maxRecDepth 100000 in
theorem prod_cells.calls (k : Nat) (a0_0 : Int) (A0_1 : Option Addr) (c0_1 : Nat) (l0_1 : List (S66)) (A0_2 : Option Addr) (c0_2 : Nat) (l0_2 : List (S64)) (r : Int) (w : World) (hr0_1 : Kd.C k66 w A0_1 l0_1.length l0_1) (hc0_1 : l0_1.length ≤ c0_1) (hr0_2 : Kd.C k64 w A0_2 l0_2.length l0_2) (hc0_2 : l0_2.length ≤ c0_2) (h : prod_cells.f k a0_0 l0_1 l0_2 = some r) :
  Calls Try.prog 55 #[.agg #[.int .i64 a0_0, .slice A0_1 l0_1.length c0_1, .slice A0_2 l0_2.length c0_2]] w fun e w' => e = .returned (.int .i64 r) ∧ Below w.heap.size w w' := by
 have hu25 := Try.underlying25
 have hu66 := Try.underlying66
 have HR0_1 := Aside0.mk hr0_1
 have HC0_1 := Aside0.mk hc0_1
 clear hr0_1 hc0_1
 have HR0_2 := Aside0.mk hr0_2
 have HC0_2 := Aside0.mk hc0_2
 clear hr0_2 hc0_2
 have HB := Aside0.mk (Below.refl w.heap.size w)
 have H : (prod_cells.l0 k 0 l0_1 (l0_1.length : Int) 0) = some r := h
 clear h
 have H' := Aside0.mk H
 clear H
 go_enter Try.func55, Try.ntmps55
 go_wp2_with (first | ((with_reducible refine gate_dst (N := 1) rfl ?_); refine bx 1 rfl rfl #[.int .i64 a0_0, .slice A0_1 l0_1.length c0_1, .slice A0_2 l0_2.length c0_2] 25 ?_; intro gb165 hg w2 hbox hb; have BK165 := Aside0.mk (hbox); have GW165 := ge HB hg; have GE165 := ge HB hg; replace HB := sb HB hb; clear hb hbox hg; obtain ⟨hcz3_0, hcz3_1, hcz3_2, hfz3_0, hfz3_1, hfz3_2⟩ := cf3 BK165.out))
 go_loopg [3, 9] k (fun kq v3 v9 w' => ∃ (x3_1 : Int) (x9_1 : Int), v3 = .int .i64 x3_1 ∧ v9 = .int .i64 x9_1 ∧ Aside0 (prod_cells.l0 kq x3_1 l0_1 (l0_1.length : Int) x9_1 = some r) ∧ Aside0 (kq ≤ k) ∧ Aside0 (w'.heap[gb165]? = some (.cells #[.int .i64 a0_0, (.slice A0_1 l0_1.length c0_1), (.slice A0_2 l0_2.length c0_2)] 25 (0, 0))) ∧ Aside0 (Below w.heap.size w w'))
 case atStart => exact ⟨(0), (0), rs, rs, H', ⟨Nat.le_refl _⟩, ⟨by (with_reducible repeat (first | refine kdN ?_ _ | refine kdr ?_ | refine kal ?_ _)); exact BK165.out⟩, ⟨bb HB⟩⟩
 case round =>
  clear H'
  try clear p2
  try clear hcz3_0 hcz3_1 hcz3_2 hfz3_0 hfz3_1 hfz3_2
  obtain ⟨x3_1, x9_1, rfl, rfl, HA, HK1, BK165, HB⟩ := hrel
  cases gk with
  | zero => exact absurd HA.out (by simp [prod_cells.l0])
  | succ k1 =>
   have H := HA.out
   clear HA
   simp only [prod_cells.l0] at H
   by_cases c4 : x9_1 < (l0_1.length : Int)
   rotate_left
   ·rw [if_neg c4] at H
    have c4b0 : decide (x9_1 < (l0_1.length : Int)) = false := decide_eq_false c4
    clear c4
    obtain rfl := Option.some.inj H
    go_wp2
    go_ret
    exact ⟨rr, bb HB⟩
   rw [if_pos c4] at H
   have c4b0 : decide (x9_1 < (l0_1.length : Int)) = true := decide_eq_true c4
   clear c4
   by_cases c5 : 0 ≤ x9_1
   rotate_left
   ·rw [if_neg c5] at H
    exact absurd H (by simp)
   rw [if_pos c5] at H
   have c5b0 : decide (0 ≤ x9_1) = true := decide_eq_true c5
   clear c5
   by_cases c6 : x9_1 < (l0_1.length : Int)
   rotate_left
   ·rw [if_neg c6] at H
    exact absurd H (by simp)
   rw [if_pos c6] at H
   have c6b0 : decide (x9_1 < (l0_1.length : Int)) = true := decide_eq_true c6
   clear c6
   have H' := Aside0.mk H
   clear H
   have p166 : 0 ≤ (x9_1 : Int) := od
   have q166 : x9_1 < (l0_1.length : Int) := od
   obtain ⟨ad166, e166, hx166_0, hx166_1, hx166_2⟩ := at_T66 HR0_1.out x9_1 p166 q166
   cases e166
   replace hx166_0 := bcell HB.out hx166_0
   replace hx166_1 := bcell HB.out hx166_1
   replace hx166_2 := bcell HB.out hx166_2
   replace p166 := eq_true p166
   replace q166 := eq_true q166
   go_wp2_with (first | ((with_reducible refine gate_dst (N := 5) rfl ?_); refine bx 5 rfl rfl #[.string (⟨#[]⟩ : ByteArray), .int .i64 0, .int .i64 0] 66 ?_; intro gb167 hg w7 hbox hb; have BK167 := Aside0.mk (hbox); have GW167 := ge HB hg; have GE167 := ge HB hg; have NB165_167 := nl BK165 hg; have NB167_165 := ng BK165 hg; replace BK165 := kb BK165 hb; replace HB := sb HB hb; clear hb hbox hg; have hnb8 := NB167_165.out; have hnc8 := NB165_167.out; obtain ⟨hcz9_0, hcz9_1, hcz9_2, hfz9_0, hfz9_1, hfz9_2⟩ := cf3 BK167.out))
   go_roundg k1
   case measure => have := HK1.out; omega
   case rel => exact ⟨(wrap64 (x3_1 + ((rd_T66 l0_1 x9_1).f2))), (wrap64 (x9_1 + 1)), rs, rs, H', ⟨by have := HK1.out; omega⟩, ⟨by (with_reducible repeat (first | refine kdN ?_ _ | refine kdr ?_ | refine kal ?_ _)); refine blk_far ?_ NB165_167.out _; (with_reducible repeat (first | refine kdN ?_ _ | refine kdr ?_ | refine kal ?_ _)); refine blk_far ?_ NB165_167.out _; (with_reducible repeat (first | refine kdN ?_ _ | refine kdr ?_ | refine kal ?_ _)); refine blk_far ?_ NB165_167.out _; (with_reducible repeat (first | refine kdN ?_ _ | refine kdr ?_ | refine kal ?_ _)); exact BK165.out⟩, ⟨bb HB⟩⟩
def prod_words.l0 : Nat → Int → Int → Int → List Int → Int → Int → Option (Bool)
 | 0, _, _, _, _, _, _ => none
 | k + 1, x0, x5, x6, x18, x19, x20 => if x20 < x19 then (if 0 ≤ x20 then (if x20 < (x18.length : Int) then (prod_words.l0 k x0 (mn x5 (rd x18 x20)) (mx x6 (rd x18 x20)) x18 x19 (wrap64 (x20 + 1))) else (none)) else (none)) else (if x5 ≥ 0 then (if 0 ≤ (IntKind.u64.wrap (x0)) then (some (decide (x6 < (shl .i64 1 (IntKind.u64.wrap (x0)))))) else (none)) else (some false))
def prod_words.f (k : Nat) (a0 : Int) (l1 : List Int) : Option (Bool) := if (l1.length : Int) = 0 then (some true) else (if 0 < (l1.length : Int) then (prod_words.l0 k a0 (rd l1 0) (rd l1 0) l1 (l1.length : Int) 0) else (none))
set_option maxHeartbeats 8000000 in
set_option maxRecDepth 100000 in
theorem prod_words.calls (k : Nat) (a0 : Int) (A1 : Option Addr) (c1 : Nat) (l1 : List Int) (r : Bool) (w : World) (hr1 : Kd.C (Kd.int .i64) w A1 l1.length l1) (hc1 : l1.length ≤ c1) (h : prod_words.f k a0 l1 = some r) :
  Calls Try.prog 56 #[.int .i64 a0, .slice A1 l1.length c1] w fun e w' => e = .returned (.bool r) ∧ Below w.heap.size w w' := by
 have HR1 := Aside0.mk hr1
 have HC1 := Aside0.mk hc1
 clear hr1 hc1
 have HB := Aside0.mk (Below.refl w.heap.size w)
 have H : (if (l1.length : Int) = 0 then (some true) else (if 0 < (l1.length : Int) then (prod_words.l0 k a0 (rd l1 0) (rd l1 0) l1 (l1.length : Int) 0) else (none))) = some r := h
 clear h
 by_cases c3 : (l1.length : Int) = 0
 ·rw [if_pos c3] at H
  have c3b0 : ((l1.length : Int) == 0) = true := beq_iff_eq.mpr c3
  have c3b1 : ((l1.length : Int) != 0) = false := bne_eq_false_iff_eq.mpr c3
  clear c3
  obtain rfl := Option.some.inj H
  go_enter Try.func56, Try.ntmps56
  go_wp2
  repeat (go_quiet (fail); try go_wp2)
  go_ret
  exact ⟨rr, bb HB⟩
 rw [if_neg c3] at H
 have c3b0 : ((l1.length : Int) == 0) = false := beq_eq_false_iff_ne.mpr c3
 have c3b1 : ((l1.length : Int) != 0) = true := bne_iff_ne.mpr c3
 have c3b2 : ¬ (l1 = []) := fun h_ => c3 (by rw [h_]; rfl)
 by_cases c4 : 0 < (l1.length : Int)
 rotate_left
 ·rw [if_neg c4] at H
  exact absurd H (by simp)
 rw [if_pos c4] at H
 have c4b0 : decide (0 < (l1.length : Int)) = true := decide_eq_true c4
 have c4b1 : decide (0 < l1.length) = true := decide_eq_true (by omega)
 clear c4
 have H' := Aside0.mk H
 clear H
 have p168 : 0 ≤ (0 : Int) := (by omega)
 have q168 : 0 < (l1.length : Int) := od
 obtain ⟨ad168, e168, hx168_0⟩ := Kd.at_int HR1.out 0 p168 q168
 cases e168
 have qi168 : (0 < l1.length) = True := eq_true (by omega)
 (try rw [show ((0 : Int)).toNat = 0 from rfl] at hx168_0)
 (try rw [Addr.add_zero'] at hx168_0)
 replace p168 := eq_true p168
 replace q168 := eq_true q168
 have p169 : 0 ≤ (0 : Int) := (by omega)
 have q169 : 0 < (l1.length : Int) := od
 obtain ⟨ad169, e169, hx169_0⟩ := Kd.at_int HR1.out 0 p169 q169
 obtain rfl : ad168 = ad169 := (by injection e169)
 have qi169 : (0 < l1.length) = True := eq_true (by omega)
 (try rw [show ((0 : Int)).toNat = 0 from rfl] at hx169_0)
 (try rw [Addr.add_zero'] at hx169_0)
 replace p169 := eq_true p169
 replace q169 := eq_true q169
 go_enter Try.func56, Try.ntmps56
 go_wp2
 repeat (go_quiet (fail); try go_wp2)
 go_loopg [5, 6, 20] k (fun kq v5 v6 v20 w' => ∃ (x5_1 : Int) (x6_1 : Int) (x20_1 : Int), v5 = .int .i64 x5_1 ∧ v6 = .int .i64 x6_1 ∧ v20 = .int .i64 x20_1 ∧ Aside0 (prod_words.l0 kq a0 x5_1 x6_1 l1 (l1.length : Int) x20_1 = some r) ∧ Aside0 (kq ≤ k) ∧ Aside0 (Below w.heap.size w w'))
 case atStart => exact ⟨(rd l1 0), (rd l1 0), (0), rs, rs, rs, H', ⟨Nat.le_refl _⟩, ⟨bb HB⟩⟩
 case round =>
  clear H'
  try clear c1
  try clear p1
  try clear q1
  try clear hx1
  try clear qi1
  try clear p2
  try clear c3
  try clear c3b0
  try clear c3b1
  try clear c3b2
  try clear c4
  try clear c4b0
  try clear c4b1
  try clear hx168_0
  try clear hx169_0
  try clear p168
  try clear p169
  try clear q168
  try clear q169
  obtain ⟨x5_1, x6_1, x20_1, rfl, rfl, rfl, HA, HK1, HB⟩ := hrel
  cases gk with
  | zero => exact absurd HA.out (by simp [prod_words.l0])
  | succ k1 =>
   have H := HA.out
   clear HA
   simp only [prod_words.l0] at H
   by_cases c5 : x20_1 < (l1.length : Int)
   ·rw [if_pos c5] at H
    have c5b0 : decide (x20_1 < (l1.length : Int)) = true := decide_eq_true c5
    clear c5
    by_cases c6 : 0 ≤ x20_1
    rotate_left
    ·rw [if_neg c6] at H
     exact absurd H (by simp)
    rw [if_pos c6] at H
    have c6b0 : decide (0 ≤ x20_1) = true := decide_eq_true c6
    clear c6
    by_cases c7 : x20_1 < (l1.length : Int)
    rotate_left
    ·rw [if_neg c7] at H
     exact absurd H (by simp)
    rw [if_pos c7] at H
    have c7b0 : decide (x20_1 < (l1.length : Int)) = true := decide_eq_true c7
    clear c7
    obtain ⟨ji8, hji8⟩ : ∃ j_ : Int, (mn x5_1 (rd l1 x20_1)) = j_ := ⟨_, rfl⟩
    replace H : (prod_words.l0 k1 a0 ji8 (mx x6_1 (rd l1 x20_1)) l1 (l1.length : Int) (wrap64 (x20_1 + 1))) = some r := by first | (rw [hji8] at H; exact H) | (simp only [hji8] at H ⊢; exact H)
    have hji8_ : (if (rd l1 x20_1) < x5_1 then (rd l1 x20_1) else x5_1) = ji8 := hji8
    obtain ⟨ji9, hji9⟩ : ∃ j_ : Int, (mx x6_1 (rd l1 x20_1)) = j_ := ⟨_, rfl⟩
    replace H : (prod_words.l0 k1 a0 ji8 ji9 l1 (l1.length : Int) (wrap64 (x20_1 + 1))) = some r := by first | (rw [hji9] at H; exact H) | (simp only [hji9] at H ⊢; exact H)
    have hji9_ : (if x6_1 < (rd l1 x20_1) then (rd l1 x20_1) else x6_1) = ji9 := hji9
    have H' := Aside0.mk H
    clear H
    have p170 : 0 ≤ (x20_1 : Int) := od
    have q170 : x20_1 < (l1.length : Int) := od
    obtain ⟨ad170, e170, hx170_0⟩ := Kd.at_int HR1.out x20_1 p170 q170
    obtain rfl : ad168 = ad170 := (by injection e170)
    replace hx170_0 := bcell HB.out hx170_0
    replace p170 := eq_true p170
    replace q170 := eq_true q170
    go_wp2
    repeat (go_quiet (fail); try go_wp2)
    go_roundg k1
    case measure => have := HK1.out; omega
    case rel => exact ⟨(ji8), (ji9), (wrap64 (x20_1 + 1)), (by first | rfl | (simp; done) | (simp only [← hji8] <;> (first | rfl | simp)) | (simp [*]; done)), (by first | rfl | (simp; done) | (simp only [← hji9] <;> (first | rfl | simp)) | (simp [*]; done)), rs, H', ⟨by have := HK1.out; omega⟩, ⟨bb HB⟩⟩
   rw [if_neg c5] at H
   have c5b0 : decide (x20_1 < (l1.length : Int)) = false := decide_eq_false c5
   clear c5
   by_cases c10 : x5_1 ≥ 0
   rotate_left
   ·rw [if_neg c10] at H
    have c10b0 : decide (0 ≤ x5_1) = false := decide_eq_false c10
    clear c10
    obtain rfl := Option.some.inj H
    go_wp2
    repeat (go_quiet (fail); try go_wp2)
    go_ret
    exact ⟨rr, bb HB⟩
   rw [if_pos c10] at H
   have c10b0 : decide (0 ≤ x5_1) = true := decide_eq_true c10
   clear c10
   obtain ⟨ji11, hji11⟩ : ∃ j_ : Int, (IntKind.u64.wrap (a0)) = j_ := ⟨_, rfl⟩
   replace H : (if 0 ≤ (ji11) then (some (decide (x6_1 < (shl .i64 1 (ji11))))) else (none)) = some r := by first | (rw [hji11] at H; exact H) | (simp only [hji11] at H ⊢; exact H)
   by_cases c12 : 0 ≤ (ji11)
   rotate_left
   ·rw [if_neg c12] at H
    exact absurd H (by simp)
   rw [if_pos c12] at H
   have c12b0 := eq_true c12
   have c12b1 : decide (0 ≤ (ji11)) = true := decide_eq_true c12
   clear c12
   obtain ⟨ji13, hji13⟩ : ∃ j_ : Int, (shl .i64 1 (ji11)) = j_ := ⟨_, rfl⟩
   replace H : (some (decide (x6_1 < (ji13)))) = some r := by first | (rw [hji13] at H; exact H) | (simp only [hji13] at H ⊢; exact H)
   have hji13_ : (IntKind.i64.wrap (1 * 2 ^ min (ji11).toNat 64)) = ji13 := hji13
   have hji13z : (ji11) ≤ 64 → (IntKind.i64.wrap (1 * 2 ^ (ji11).toNat)) = ji13 := shl_small hji13
   have hji13u : (IntKind.i64.wrap (2 ^ min (ji11).toNat 64)) = ji13 := by have h_ := hji13_; rw [Int.one_mul] at h_; exact h_
   have hji13v : (ji11) ≤ 64 → (IntKind.i64.wrap (2 ^ (ji11).toNat)) = ji13 := fun hle_ => by have h_ := hji13z hle_; rw [Int.one_mul] at h_; exact h_
   have hji13y : (wrap64 (1 * 2 ^ min (ji11).toNat 64)) = ji13 := (i64_w _).symm.trans hji13_
   have hji13x : (ji11) ≤ 64 → (wrap64 (1 * 2 ^ (ji11).toNat)) = ji13 := fun h_ => (i64_w _).symm.trans (hji13z h_)
   obtain rfl := Option.some.inj H
   go_wp2
   repeat (go_quiet (fail); try go_wp2)
   go_ret
   exact ⟨by first | rfl | (simp [errW_none, errW_some] <;> rfl) | (simp only [← hji11, ← hji13]; first | rfl | (simp [errW_none, errW_some] <;> rfl)) | (simp [*, errW_none, errW_some] <;> rfl), bb HB⟩
mutual
def prod_Join.j0 : Nat → List (List Int) → Bool → Int → List (S66) → List (S64) → Option (List Int × Int)
 | 0, _, _, _, _, _ => none
 | k + 1, x1, x24, x172000, x172001, x172002 => if x24 = true then (some (([] : List Int), 1)) else (prod_Join.l0 k ([] : List Int) x1 (x1.length : Int) 0 x172000 x172001 x172002)
def prod_Join.l0 : Nat → List Int → List (List Int) → Int → Int → Int → List (S66) → List (S64) → Option (List Int × Int)
 | 0, _, _, _, _, _, _, _ => none
 | k + 1, x6, x25, x26, x27, x172000, x172001, x172002 => if x27 < x26 then (if 0 ≤ x27 then (if x27 < (x25.length : Int) then ((prod_cells.f k x172000 x172001 x172002).bind fun t175 => (if ((rd_L10 x25 x27).length : Int) = t175 then ((prod_words.f k x172000 (rd_L10 x25 x27)).bind fun t176 => (if t176 = true then (if x6.length + (rd_L10 x25 x27).length < 17592186044416 then (prod_Join.l0 k (x6 ++ (rd_L10 x25 x27)) x25 x26 (wrap64 (x27 + 1)) x172000 x172001 x172002) else (none)) else (some (([] : List Int), 1)))) else (some (([] : List Int), 1)))) else (none)) else (none)) else (some (x6, 0))
end
def prod_Join.f (k : Nat) (a0_0 : Int) (l0_1 : List (S66)) (l0_2 : List (S64)) (l1 : List (List Int)) : Option (List Int × Int) := (prog_Check.f k a0_0 l0_1 l0_2).bind fun t172 => (if t172 = 0 then (if (l1.length : Int) < 1 then (prod_Join.j0 k l1 true a0_0 l0_1 l0_2) else (if (l1.length : Int) > 3 then (prod_Join.j0 k l1 true a0_0 l0_1 l0_2) else ((prod_single.f k a0_0 l0_1 l0_2).bind fun t173 => (prod_Join.j0 k l1 (t173 != 0) a0_0 l0_1 l0_2)))) else (some (([] : List Int), 30)))
set_option maxHeartbeats 8000000 in
set_option maxRecDepth 100000 in
theorem prod_Join.calls (k : Nat) (a0_0 : Int) (A0_1 : Option Addr) (c0_1 : Nat) (l0_1 : List (S66)) (A0_2 : Option Addr) (c0_2 : Nat) (l0_2 : List (S64)) (A1 : Option Addr) (c1 : Nat) (l1 : List (List Int)) (r1 : List Int) (r2 : Int) (w : World) (hr0_1 : Kd.C k66 w A0_1 l0_1.length l0_1) (hc0_1 : l0_1.length ≤ c0_1) (hr0_2 : Kd.C k64 w A0_2 l0_2.length l0_2) (hc0_2 : l0_2.length ≤ c0_2) (hr1 : Kd.C (Kd.slice 3 (Kd.int .i64)) w A1 l1.length l1) (hc1 : l1.length ≤ c1) (h : prod_Join.f k a0_0 l0_1 l0_2 l1 = some (r1, r2)) :
  Calls Try.prog 21 #[.agg #[.int .i64 a0_0, .slice A0_1 l0_1.length c0_1, .slice A0_2 l0_2.length c0_2], .slice A1 l1.length c1] w fun e w' => ∃ v0_ : Value, e = .returned (.tuple #[v0_, .int .i64 r2]) ∧ Kd.R (Kd.int .i64) 3 w' w.heap.size (fun _ => True) v0_ r1 ∧ Below w.heap.size w w' := by
 have hu25 := Try.underlying25
 have HR0_1 := Aside0.mk hr0_1
 have HC0_1 := Aside0.mk hc0_1
 clear hr0_1 hc0_1
 have HR0_2 := Aside0.mk hr0_2
 have HC0_2 := Aside0.mk hc0_2
 clear hr0_2 hc0_2
 have HR1 := Aside0.mk hr1
 have HC1 := Aside0.mk hc1
 clear hr1 hc1
 have HB := Aside0.mk (Below.refl w.heap.size w)
 have H : ((prog_Check.f k a0_0 l0_1 l0_2).bind fun t172 => (if t172 = 0 then (if (l1.length : Int) < 1 then (prod_Join.j0 k l1 true a0_0 l0_1 l0_2) else (if (l1.length : Int) > 3 then (prod_Join.j0 k l1 true a0_0 l0_1 l0_2) else ((prod_single.f k a0_0 l0_1 l0_2).bind fun t173 => (prod_Join.j0 k l1 (t173 != 0) a0_0 l0_1 l0_2)))) else (some (([] : List Int), 30)))) = some (r1, r2) := h
 clear h
 obtain ⟨t172, A3, H⟩ := be H
 replace H : (if t172 = 0 then (if (l1.length : Int) < 1 then (prod_Join.j0 k l1 true a0_0 l0_1 l0_2) else (if (l1.length : Int) > 3 then (prod_Join.j0 k l1 true a0_0 l0_1 l0_2) else ((prod_single.f k a0_0 l0_1 l0_2).bind fun t173 => (prod_Join.j0 k l1 (t173 != 0) a0_0 l0_1 l0_2)))) else (some (([] : List Int), 30))) = some (r1, r2) := H
 by_cases c4 : t172 = 0
 rotate_left
 ·rw [if_neg c4] at H
  have c4b0 : (t172 == 0) = false := beq_eq_false_iff_ne.mpr c4
  have c4b1 : (t172 != 0) = true := bne_iff_ne.mpr c4
  simp only [Option.some.injEq, Prod.mk.injEq] at H
  obtain ⟨rfl, rfl⟩ := H
  go_enter Try.func21, Try.ntmps21
  go_wp2_with (first | ((with_reducible refine gate_dst (N := 2) rfl ?_); (try (refine gate_guard (by rfl) ?_; dsimp only)); refine bx 2 rfl rfl #[.int .i64 a0_0, .slice A0_1 l0_1.length c0_1, .slice A0_2 l0_2.length c0_2] 25 ?_; intro gb171 hg w34 hbox hb; have BK171 := Aside0.mk (hbox); have GW171 := ge HB hg; have GE171 := ge HB hg; replace HB := sb HB hb; clear hb hbox hg; obtain ⟨hcz35_0, hcz35_1, hcz35_2, hfz35_0, hfz35_1, hfz35_2⟩ := cf3 BK171.out) | ((with_reducible refine gate_callee (f := 43) rfl ?_); refine gL (some 10) rfl rfl Try.func43 #[.agg #[.int .i64 a0_0, .slice A0_1 l0_1.length c0_1, .slice A0_2 l0_2.length c0_2]] rfl ?_; (with_reducible refine (prog_Check.calls k a0_0 _ _ l0_1 _ _ l0_2 t172 _ ?side1 ?side2 ?side3 ?side4 A3.out).mono ?_); (case side1 => exact cb HR0_1 HB); (case side2 => exact HC0_1.out); (case side3 => exact cb HR0_2 HB); (case side4 => exact HC0_2.out); rintro e w36 ⟨rfl, hb⟩; refine ⟨_, rfl, ?_⟩; replace BK171 := kb BK171 hb; replace HB := sb HB hb; (try clear hb); (try clear hb2); (try clear hk); (try clear hi)))
  go_ret2
  exact ⟨_, rr, by first | exact Kd.R_nil _ _ _ _ _ | exact Kd.N_nil _ _ _ _ _ | exact Kd.V_nil _ _ _ _ _ | exact Kd.Q_nil _ _ _ _ _ | exact Kd.S_nil _ _ _ _ _, bb HB⟩
 rw [if_pos c4] at H
 have c4b0 : (t172 == 0) = true := beq_iff_eq.mpr c4
 have c4b1 : (t172 != 0) = false := bne_eq_false_iff_eq.mpr c4
 clear c4
 have HC5 := Aside0.mk H
 clear H
 go_enter Try.func21, Try.ntmps21
 go_upto_region 3 with (first | ((with_reducible refine gate_dst (N := 2) rfl ?_); (try (refine gate_guard (by rfl) ?_; dsimp only)); refine bx 2 rfl rfl #[.int .i64 a0_0, .slice A0_1 l0_1.length c0_1, .slice A0_2 l0_2.length c0_2] 25 ?_; intro gb171 hg w6 hbox hb; have BK171 := Aside0.mk (hbox); have GW171 := ge HB hg; have GE171 := ge HB hg; replace HB := sb HB hb; clear hb hbox hg; obtain ⟨hcz7_0, hcz7_1, hcz7_2, hfz7_0, hfz7_1, hfz7_2⟩ := cf3 BK171.out) | ((with_reducible refine gate_callee (f := 43) rfl ?_); refine gL (some 10) rfl rfl Try.func43 #[.agg #[.int .i64 a0_0, .slice A0_1 l0_1.length c0_1, .slice A0_2 l0_2.length c0_2]] rfl ?_; (with_reducible refine (prog_Check.calls k a0_0 _ _ l0_1 _ _ l0_2 t172 _ ?side1 ?side2 ?side3 ?side4 A3.out).mono ?_); (case side1 => exact cb HR0_1 HB); (case side2 => exact HC0_1.out); (case side3 => exact cb HR0_2 HB); (case side4 => exact HC0_2.out); rintro e w8 ⟨rfl, hb⟩; refine ⟨_, rfl, ?_⟩; replace BK171 := kb BK171 hb; replace HB := sb HB hb; (try clear hb); (try clear hb2); (try clear hk); (try clear hi)))
 (try simp only [Act.put, List.setIfInBounds_toArray, List.set_cons_zero, List.set_cons_succ])
 go_cut [24] (fun v24 wc => ∃ (kq : Nat) (x24_4 : Bool), v24 = .bool x24_4 ∧ Aside0 (prod_Join.j0 kq l1 x24_4 a0_0 l0_1 l0_2 = some (r1, r2)) ∧ Aside0 (kq ≤ k) ∧ Aside0 (wc.heap[gb171]? = some (.cells #[.int .i64 a0_0, (.slice A0_1 l0_1.length c0_1), (.slice A0_2 l0_2.length c0_2)] 25 (0, 0))) ∧ Aside0 (Below w.heap.size w wc))
 case first =>
  have H := HC5.out
  clear HC5
  by_cases c9 : (l1.length : Int) < 1
  ·rw [if_pos c9] at H
   have c9b0 : decide ((l1.length : Int) < 1) = true := decide_eq_true c9
   have c9b1 : decide (l1.length < 1) = true := decide_eq_true (by omega)
   clear c9
   (first | rw [c9b0] | (simp only [i64_w, i32_w]; rw [c9b0]) | skip)
   have H' := Aside0.mk H
   clear H
   go_wp2
   go_meet
   case rel => exact ⟨_, (true), rs, H', ⟨by first | omega | exact Nat.le_refl _⟩, ⟨by (with_reducible repeat (first | refine kdN ?_ _ | refine kdr ?_ | refine kal ?_ _)); exact BK171.out⟩, ⟨bb HB⟩⟩
  rw [if_neg c9] at H
  have c9b0 : decide ((l1.length : Int) < 1) = false := decide_eq_false c9
  have c9b1 : decide (l1.length < 1) = false := decide_eq_false (by omega)
  clear c9
  (first | rw [c9b0] | (simp only [i64_w, i32_w]; rw [c9b0]) | skip)
  by_cases c10 : (l1.length : Int) > 3
  ·rw [if_pos c10] at H
   have c10b0 : decide (3 < (l1.length : Int)) = true := decide_eq_true c10
   have c10b1 : decide (3 < l1.length) = true := decide_eq_true (by omega)
   clear c10
   have H' := Aside0.mk H
   clear H
   go_wp2
   go_meet
   case rel => exact ⟨_, (true), rs, H', ⟨by first | omega | exact Nat.le_refl _⟩, ⟨by (with_reducible repeat (first | refine kdN ?_ _ | refine kdr ?_ | refine kal ?_ _)); exact BK171.out⟩, ⟨bb HB⟩⟩
  rw [if_neg c10] at H
  have c10b0 : decide (3 < (l1.length : Int)) = false := decide_eq_false c10
  have c10b1 : decide (3 < l1.length) = false := decide_eq_false (by omega)
  clear c10
  obtain ⟨t173, A11, H⟩ := be H
  replace H : (prod_Join.j0 k l1 (t173 != 0) a0_0 l0_1 l0_2) = some (r1, r2) := H
  have H' := Aside0.mk H
  clear H
  obtain ⟨hcz12_0, hcz12_1, hcz12_2, hfz12_0, hfz12_1, hfz12_2⟩ := cf3 BK171.out
  go_wp2_with (first | (go_at_call 44; (with_reducible refine (prod_single.calls k a0_0 _ _ l0_1 _ _ l0_2 t173 _ ?side1 ?side2 ?side3 ?side4 A11.out).mono ?_); (case side1 => exact cb HR0_1 HB); (case side2 => exact HC0_1.out); (case side3 => exact cb HR0_2 HB); (case side4 => exact HC0_2.out); rintro e w13 ⟨rfl, hb⟩; replace BK171 := kb BK171 hb; replace HB := sb HB hb; (try clear hb); (try clear hb2); (try clear hk); (try clear hi)))
  go_meet
  case rel => exact ⟨_, ((t173 != 0)), rs, H', ⟨by first | omega | exact Nat.le_refl _⟩, ⟨by (with_reducible repeat (first | refine kdN ?_ _ | refine kdr ?_ | refine kal ?_ _)); exact BK171.out⟩, ⟨bb HB⟩⟩
 case rest =>
  clear HC5
  try clear c1
  try clear c2
  try clear p2
  try clear c4
  try clear c4b0
  try clear c4b1
  try clear c9
  try clear c9b0
  try clear c9b1
  try clear c10
  try clear c10b0
  try clear c10b1
  try clear hcz12_0 hcz12_1 hcz12_2
  try clear hcz7_0 hcz7_1 hcz7_2
  try clear hfz12_0 hfz12_1 hfz12_2
  try clear hfz7_0 hfz7_1 hfz7_2
  obtain ⟨kq, x24_4, rfl, HA, HJ4, BK171, HB⟩ := hcut
  cases kq with
  | zero => exact absurd HA.out (by simp [prod_Join.j0])
  | succ kj4 =>
   have H := HA.out
   clear HA
   simp only [prod_Join.j0] at H
   by_cases c14 : x24_4 = true
   ·subst c14
    have H1 : (some (([] : List Int), 1)) = some (r1, r2) := by rw [if_pos rfl] at H; exact H
    clear H
    have H := H1
    clear H1
    simp only [Option.some.injEq, Prod.mk.injEq] at H
    obtain ⟨rfl, rfl⟩ := H
    go_wp2
    go_ret2
    exact ⟨_, rr, by first | exact Kd.R_nil _ _ _ _ _ | exact Kd.N_nil _ _ _ _ _ | exact Kd.V_nil _ _ _ _ _ | exact Kd.Q_nil _ _ _ _ _ | exact Kd.S_nil _ _ _ _ _, bb HB⟩
   replace c14 := Bool.eq_false_iff.mpr c14
   subst c14
   have H1 : (prod_Join.l0 kj4 ([] : List Int) l1 (l1.length : Int) 0 a0_0 l0_1 l0_2) = some (r1, r2) := by rw [if_neg (show ¬ (false = true) by decide)] at H; exact H
   clear H
   have H := H1
   clear H1
   have H' := Aside0.mk H
   clear H
   go_wp2
   go_loopg [6, 27] kj4 (fun kq v6 v27 w' => ∃ (x6_2 : List Int) (x27_2 : Int), v27 = .int .i64 x27_2 ∧ Aside0 (prod_Join.l0 kq x6_2 l1 (l1.length : Int) x27_2 a0_0 l0_1 l0_2 = some (r1, r2)) ∧ Aside0 (kq ≤ kj4) ∧ Aside0 (Kd.R (Kd.int .i64) 3 w' w.heap.size (fun _ => True) v6 x6_2) ∧ Aside0 (w'.heap[gb171]? = some (.cells #[.int .i64 a0_0, (.slice A0_1 l0_1.length c0_1), (.slice A0_2 l0_2.length c0_2)] 25 (0, 0))) ∧ Aside0 (Below w.heap.size w w'))
   case atStart => exact ⟨(([] : List Int)), (0), rs, H', ⟨Nat.le_refl _⟩, ⟨by first | exact Kd.R_nil _ _ _ _ _ | exact Kd.N_nil _ _ _ _ _ | exact Kd.V_nil _ _ _ _ _ | exact Kd.Q_nil _ _ _ _ _ | exact Kd.S_nil _ _ _ _ _⟩, ⟨by (with_reducible repeat (first | refine kdN ?_ _ | refine kdr ?_ | refine kal ?_ _)); exact BK171.out⟩, ⟨bb HB⟩⟩
   case round =>
    clear H'
    try clear c1
    try clear c2
    try clear p2
    try clear c4
    try clear c4b0
    try clear c4b1
    try clear c9
    try clear c9b0
    try clear c9b1
    try clear c10
    try clear c10b0
    try clear c10b1
    try clear c14
    try clear hcz12_0 hcz12_1 hcz12_2
    try clear hcz7_0 hcz7_1 hcz7_2
    try clear hfz12_0 hfz12_1 hfz12_2
    try clear hfz7_0 hfz7_1 hfz7_2
    try clear p2
    obtain ⟨x6_2, x27_2, rfl, HA, HK2, HO_6, BK171, HB⟩ := hrel
    cases gk with
    | zero => exact absurd HA.out (by simp [prod_Join.l0])
    | succ k2 =>
     have H := HA.out
     clear HA
     simp only [prod_Join.l0] at H
     by_cases c15 : x27_2 < (l1.length : Int)
     rotate_left
     ·rw [if_neg c15] at H
      have c15b0 : decide (x27_2 < (l1.length : Int)) = false := decide_eq_false c15
      clear c15
      simp only [Option.some.injEq, Prod.mk.injEq] at H
      obtain ⟨rfl, rfl⟩ := H
      go_wp2
      go_ret2
      exact ⟨_, rr, by (with_reducible repeat (first | apply Kd.R_alloc | apply Kd.R_drewN | apply Kd.R_drew)); exact HO_6.out, bb HB⟩
     rw [if_pos c15] at H
     have c15b0 : decide (x27_2 < (l1.length : Int)) = true := decide_eq_true c15
     clear c15
     by_cases c16 : 0 ≤ x27_2
     rotate_left
     ·rw [if_neg c16] at H
      exact absurd H (by simp)
     rw [if_pos c16] at H
     have c16b0 : decide (0 ≤ x27_2) = true := decide_eq_true c16
     clear c16
     by_cases c17 : x27_2 < (l1.length : Int)
     rotate_left
     ·rw [if_neg c17] at H
      exact absurd H (by simp)
     rw [if_pos c17] at H
     have c17b0 : decide (x27_2 < (l1.length : Int)) = true := decide_eq_true c17
     clear c17
     obtain ⟨t175, A18, H⟩ := be H
     replace H : (if ((rd_L10 l1 x27_2).length : Int) = t175 then ((prod_words.f k2 a0_0 (rd_L10 l1 x27_2)).bind fun t176 => (if t176 = true then (if x6_2.length + (rd_L10 l1 x27_2).length < 17592186044416 then (prod_Join.l0 k2 (x6_2 ++ (rd_L10 l1 x27_2)) l1 (l1.length : Int) (wrap64 (x27_2 + 1)) a0_0 l0_1 l0_2) else (none)) else (some (([] : List Int), 1)))) else (some (([] : List Int), 1))) = some (r1, r2) := H
     by_cases c19 : ((rd_L10 l1 x27_2).length : Int) = t175
     rotate_left
     ·rw [if_neg c19] at H
      have c19b0 : (((rd_L10 l1 x27_2).length : Int) == t175) = false := beq_eq_false_iff_ne.mpr c19
      have c19b1 : (((rd_L10 l1 x27_2).length : Int) != t175) = true := bne_iff_ne.mpr c19
      simp only [Option.some.injEq, Prod.mk.injEq] at H
      obtain ⟨rfl, rfl⟩ := H
      have p174 : 0 ≤ (x27_2 : Int) := od
      have q174 : x27_2 < (l1.length : Int) := od
      obtain ⟨ad174, A174_0, c174_0, e174, hx174_0, hl174_0, hi174_0⟩ := at_L10 HR1.out x27_2 p174 q174
      cases e174
      replace hx174_0 := bcell HB.out hx174_0
      have HR174_0 := Aside0.mk hi174_0
      have HC174_0 := Aside0.mk hl174_0
      clear hi174_0 hl174_0
      replace p174 := eq_true p174
      replace q174 := eq_true q174
      obtain ⟨hcz32_0, hcz32_1, hcz32_2, hfz32_0, hfz32_1, hfz32_2⟩ := cf3 BK171.out
      go_wp2_with (first | ((with_reducible refine gate_callee (f := 55) rfl ?_); refine gL (some 34) rfl rfl Try.func55 #[.agg #[.int .i64 a0_0, .slice A0_1 l0_1.length c0_1, .slice A0_2 l0_2.length c0_2]] rfl ?_; (with_reducible refine (prod_cells.calls k2 a0_0 _ _ l0_1 _ _ l0_2 t175 _ ?side1 ?side2 ?side3 ?side4 A18.out).mono ?_); (case side1 => exact cb HR0_1 HB); (case side2 => exact HC0_1.out); (case side3 => exact cb HR0_2 HB); (case side4 => exact HC0_2.out); rintro e w33 ⟨rfl, hb⟩; refine ⟨_, rfl, ?_⟩; replace HO_6 := Aside0.mk (Kd.R_below (by (with_reducible repeat (first | apply Kd.R_alloc | apply Kd.R_drewN | apply Kd.R_drew)); exact HO_6.out) hb); replace BK171 := kb BK171 hb; replace HB := sb HB hb; (try clear hb); (try clear hb2); (try clear hk); (try clear hi)))
      go_ret2
      exact ⟨_, rr, by first | exact Kd.R_nil _ _ _ _ _ | exact Kd.N_nil _ _ _ _ _ | exact Kd.V_nil _ _ _ _ _ | exact Kd.Q_nil _ _ _ _ _ | exact Kd.S_nil _ _ _ _ _, bb HB⟩
     rw [if_pos c19] at H
     have c19b0 : (((rd_L10 l1 x27_2).length : Int) == t175) = true := beq_iff_eq.mpr c19
     have c19b1 : (((rd_L10 l1 x27_2).length : Int) != t175) = false := bne_eq_false_iff_eq.mpr c19
     clear c19
     obtain ⟨t176, A20, H⟩ := be H
     replace H : (if t176 = true then (if x6_2.length + (rd_L10 l1 x27_2).length < 17592186044416 then (prod_Join.l0 k2 (x6_2 ++ (rd_L10 l1 x27_2)) l1 (l1.length : Int) (wrap64 (x27_2 + 1)) a0_0 l0_1 l0_2) else (none)) else (some (([] : List Int), 1))) = some (r1, r2) := H
     by_cases c21 : t176 = true
     rotate_left
     ·replace c21 := Bool.eq_false_iff.mpr c21
      subst c21
      have H1 : (some (([] : List Int), 1)) = some (r1, r2) := by rw [if_neg (show ¬ (false = true) by decide)] at H; exact H
      clear H
      have H := H1
      clear H1
      simp only [Option.some.injEq, Prod.mk.injEq] at H
      obtain ⟨rfl, rfl⟩ := H
      have p174 : 0 ≤ (x27_2 : Int) := od
      have q174 : x27_2 < (l1.length : Int) := od
      obtain ⟨ad174, A174_0, c174_0, e174, hx174_0, hl174_0, hi174_0⟩ := at_L10 HR1.out x27_2 p174 q174
      cases e174
      replace hx174_0 := bcell HB.out hx174_0
      have HR174_0 := Aside0.mk hi174_0
      have HC174_0 := Aside0.mk hl174_0
      clear hi174_0 hl174_0
      replace p174 := eq_true p174
      replace q174 := eq_true q174
      obtain ⟨hcz28_0, hcz28_1, hcz28_2, hfz28_0, hfz28_1, hfz28_2⟩ := cf3 BK171.out
      go_wp2_with (first | ((with_reducible refine gate_callee (f := 55) rfl ?_); refine gL (some 34) rfl rfl Try.func55 #[.agg #[.int .i64 a0_0, .slice A0_1 l0_1.length c0_1, .slice A0_2 l0_2.length c0_2]] rfl ?_; (with_reducible refine (prod_cells.calls k2 a0_0 _ _ l0_1 _ _ l0_2 t175 _ ?side1 ?side2 ?side3 ?side4 A18.out).mono ?_); (case side1 => exact cb HR0_1 HB); (case side2 => exact HC0_1.out); (case side3 => exact cb HR0_2 HB); (case side4 => exact HC0_2.out); rintro e w29 ⟨rfl, hb⟩; refine ⟨_, rfl, ?_⟩; replace HO_6 := Aside0.mk (Kd.R_below (by (with_reducible repeat (first | apply Kd.R_alloc | apply Kd.R_drewN | apply Kd.R_drew)); exact HO_6.out) hb); replace BK171 := kb BK171 hb; replace HB := sb HB hb; (try clear hb); (try clear hb2); (try clear hk); (try clear hi); obtain ⟨hcz30_0, hcz30_1, hcz30_2, hfz30_0, hfz30_1, hfz30_2⟩ := cf3 BK171.out) | (go_at_call 56; (with_reducible refine (prod_words.calls k2 a0_0 _ _ (rd_L10 l1 x27_2) false _ ?side1 ?side2 A20.out).mono ?_); (case side1 => exact cb HR174_0 HB); (case side2 => exact HC174_0.out); rintro e w31 ⟨rfl, hb⟩; replace HO_6 := Aside0.mk (Kd.R_below (by (with_reducible repeat (first | apply Kd.R_alloc | apply Kd.R_drewN | apply Kd.R_drew)); exact HO_6.out) hb); replace BK171 := kb BK171 hb; replace HB := sb HB hb; (try clear hb); (try clear hb2); (try clear hk); (try clear hi)))
      go_ret2
      exact ⟨_, rr, by first | exact Kd.R_nil _ _ _ _ _ | exact Kd.N_nil _ _ _ _ _ | exact Kd.V_nil _ _ _ _ _ | exact Kd.Q_nil _ _ _ _ _ | exact Kd.S_nil _ _ _ _ _, bb HB⟩
     subst c21
     have H1 : (if x6_2.length + (rd_L10 l1 x27_2).length < 17592186044416 then (prod_Join.l0 k2 (x6_2 ++ (rd_L10 l1 x27_2)) l1 (l1.length : Int) (wrap64 (x27_2 + 1)) a0_0 l0_1 l0_2) else (none)) = some (r1, r2) := by rw [if_pos rfl] at H; exact H
     clear H
     have H := H1
     clear H1
     by_cases c22 : x6_2.length + (rd_L10 l1 x27_2).length < 17592186044416
     rotate_left
     ·rw [if_neg c22] at H
      exact absurd H (by simp)
     rw [if_pos c22] at H
     have LMc22 := Aside0.mk c22
     clear c22
     obtain ⟨y177, hy177⟩ : ∃ y_ : List Int, y_ = (x6_2 ++ (rd_L10 l1 x27_2)) := ⟨_, rfl⟩
     replace H : (prod_Join.l0 k2 y177 l1 (l1.length : Int) (wrap64 (x27_2 + 1)) a0_0 l0_1 l0_2) = some (r1, r2) := by first | (rw [hy177]; with_reducible exact H) | (have H2_ := (Option.bind_some _ _).symm.trans H; rw [hy177]; with_reducible exact H2_) | (have H2_ := (Option.bind_some _ _).symm.trans H; with_reducible exact H2_) | with_reducible exact H | (rw [hy177]; exact H) | exact H
     have Ny177 := Aside0.mk hy177
     clear hy177
     have H' := Aside0.mk H
     clear H
     have p174 : 0 ≤ (x27_2 : Int) := od
     have q174 : x27_2 < (l1.length : Int) := od
     obtain ⟨ad174, A174_0, c174_0, e174, hx174_0, hl174_0, hi174_0⟩ := at_L10 HR1.out x27_2 p174 q174
     cases e174
     replace hx174_0 := bcell HB.out hx174_0
     have HR174_0 := Aside0.mk hi174_0
     have HC174_0 := Aside0.mk hl174_0
     clear hi174_0 hl174_0
     replace p174 := eq_true p174
     replace q174 := eq_true q174
     obtain ⟨hcz23_0, hcz23_1, hcz23_2, hfz23_0, hfz23_1, hfz23_2⟩ := cf3 BK171.out
     go_wp2_with (first | ((with_reducible refine gate_callee (f := 55) rfl ?_); refine gL (some 34) rfl rfl Try.func55 #[.agg #[.int .i64 a0_0, .slice A0_1 l0_1.length c0_1, .slice A0_2 l0_2.length c0_2]] rfl ?_; (with_reducible refine (prod_cells.calls k2 a0_0 _ _ l0_1 _ _ l0_2 t175 _ ?side1 ?side2 ?side3 ?side4 A18.out).mono ?_); (case side1 => exact cb HR0_1 HB); (case side2 => exact HC0_1.out); (case side3 => exact cb HR0_2 HB); (case side4 => exact HC0_2.out); rintro e w24 ⟨rfl, hb⟩; refine ⟨_, rfl, ?_⟩; replace HO_6 := Aside0.mk (Kd.R_below (by (with_reducible repeat (first | apply Kd.R_alloc | apply Kd.R_drewN | apply Kd.R_drew)); exact HO_6.out) hb); replace BK171 := kb BK171 hb; replace HB := sb HB hb; (try clear hb); (try clear hb2); (try clear hk); (try clear hi); obtain ⟨hcz25_0, hcz25_1, hcz25_2, hfz25_0, hfz25_1, hfz25_2⟩ := cf3 BK171.out) | (go_at_call 56; (with_reducible refine (prod_words.calls k2 a0_0 _ _ (rd_L10 l1 x27_2) true _ ?side1 ?side2 A20.out).mono ?_); (case side1 => exact cb HR174_0 HB); (case side2 => exact HC174_0.out); rintro e w26 ⟨rfl, hb⟩; replace HO_6 := Aside0.mk (Kd.R_below (by (with_reducible repeat (first | apply Kd.R_alloc | apply Kd.R_drewN | apply Kd.R_drew)); exact HO_6.out) hb); replace BK171 := kb BK171 hb; replace HB := sb HB hb; (try clear hb); (try clear hb2); (try clear hk); (try clear hi)) | ((with_reducible refine gate_builtin (b := .append) (xs := #[.tmp 43, .tmp 44]) rfl ?_); (try (refine gate_guard (by rfl) ?_; dsimp only)); at_builtin; refine Kd.R_append_rows (Kd.int .i64) (w0 := w) w.heap.size rfl (.tmp 43) (.tmp 44) 45 3 (.int .i64 0) 8 rfl Try.underlying45 info3 rfl (by decide) (by omega) u6 x6_2 (rd_L10 l1 x27_2) _ _ _ (fun _ => True) (fun _ => False) rfl rfl ?aO ?aR (fun _ _ h => h) (fun _ h => h.elim) ?aF ?aB ?aS ?aL ?_; (case aR => repeat (first | exact (Kd.C_below HR174_0.out HB.out) | with_reducible first | apply Kd.C_alloc | apply Kd.C_drewN | apply Kd.C_drew)); (case aB => exact (bb HB)); (case aF => exact (fun _ _ => trivial)); (case aO => exact (by (with_reducible repeat (first | apply Kd.R_alloc | apply Kd.R_drewN | apply Kd.R_drew)); exact HO_6.out)); (case aS => exact (bsz (bb HB))); (case aL => have := LMc22.out; omega); intro v178 w27 ho hb hg hat; rw [← Ny177.out] at ho; have HO179 := Aside0.mk (ho); replace BK171 := Aside0.mk (blk_grown (g := gb171) (o := .cells #[.int .i64 a0_0, .slice A0_1 l0_1.length c0_1, .slice A0_2 l0_2.length c0_2] 25 (0, 0)) (by (with_reducible repeat (first | refine kdN ?_ _ | refine kdr ?_ | refine kal ?_ _)); exact BK171.out) hg (Kd.R_ne HO_6.out BK171.out (by decide))); replace HB := Aside0.mk (hb); clear HO_6; clear ho hb hg hat))
     go_roundg k2
     case measure => have := HJ4.out; have := HK2.out; omega
     case rel => exact ⟨(y177), (wrap64 (x27_2 + 1)), rs, H', ⟨by have := HJ4.out; have := HK2.out; omega⟩, ⟨by (with_reducible repeat (first | apply Kd.R_alloc | apply Kd.R_drewN | apply Kd.R_drew)); exact HO179.out⟩, ⟨by (with_reducible repeat (first | refine kdN ?_ _ | refine kdr ?_ | refine kal ?_ _)); exact BK171.out⟩, ⟨bb HB⟩⟩
end Go.Proofs.Ytilebfkehmecaaa.Print
