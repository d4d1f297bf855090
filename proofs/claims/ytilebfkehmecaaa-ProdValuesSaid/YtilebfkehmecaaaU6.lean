/- For every program, list of stores and expression the law ProdValues returns true, and what came in reads as before. No condition. -/
import Derived.Test.YtilebfkehmecaaaU5
import Derived.Deep.DeepCutAuto
set_option maxRecDepth 100000
set_option maxHeartbeats 16000000
namespace Go.Proofs.Ytilebfkehmecaaa.Print
open Go.RowKit Go.Proofs.YtilebfkehmecaaaW.PrintWords Go.Proofs.YtilebfkehmecaaaW.PrintLast Go.Proofs.YtilebfkehmecaaaW.PrintMore
attribute [local go_sem] max2_int min2_int max_two min_two max_three min_three max_four min_four
set_option linter.unusedVariables false
set_option linter.unusedSimpArgs false
def prod_made.f (k : Nat) (a0_0 : Int) (l0_1 : List (S66)) (l0_2 : List (S64)) : Option (Int × (List (S66)) × (List (S64)) × Int) := (prog_Check.f k a0_0 l0_1 l0_2).bind fun t182 => (if t182 = 0 then (some (a0_0, l0_1, l0_2, 0)) else (some (0, ([] : List (S66)), ([] : List (S64)), 2)))
theorem prod_made.calls (k : Nat) (a0_0 : Int) (P0_1_ : Nat → Prop) (u9000_ : Value) (l0_1 : List (S66)) (P0_2_ : Nat → Prop) (A0_2 : Option Addr) (c0_2 : Nat) (l0_2 : List (S64)) (r1 : Int) (r2 : List (S66)) (r3 : List (S64)) (r4 : Int) (w0 w : World) (hB : Below w0.heap.size w0 w) (ho0_1 : Kd.R k66 66 w w0.heap.size P0_1_ u9000_ l0_1) (hs0_2 : Kd.V k64 64 w w0.heap.size (fun k_ => P0_2_ k_ ∧ some k_ ≠ (u9000_ : Value).ownBlock) (.slice A0_2 l0_2.length c0_2) l0_2) (h : prod_made.f k a0_0 l0_1 l0_2 = some (r1, r2, r3, r4)) :
  Calls Try.prog 63 #[.agg #[.int .i64 a0_0, u9000_, .slice A0_2 l0_2.length c0_2]] w fun e w' => ∃ v1_ v2_ : Value, e = .returned (.tuple #[.agg #[.int .i64 r1, v1_, v2_], .int .i64 r4]) ∧ Kd.R k66 66 w' w0.heap.size (fun k_ => (P0_1_ k_ ∨ w.heap.size ≤ k_)) v1_ r2 ∧ Kd.V k64 64 w' w0.heap.size (fun k_ => ((P0_1_ k_ ∨ P0_2_ k_) ∨ w.heap.size ≤ k_) ∧ some k_ ≠ (v1_ : Value).ownBlock) v2_ r3 ∧ Below w0.heap.size w0 w' ∧ Kept w w' (fun k_ => P0_1_ k_) := by
 have hu25 := Try.underlying25
 have HO0_1 := Aside0.mk (show Kd.R k66 66 w w0.heap.size (fun k_ => (P0_1_ k_ ∨ w.heap.size ≤ k_)) u9000_ l0_1 from Kd.R_mono ho0_1 (fun k_ hk => (.inl hk)))
 have HO0_2 := Aside0.mk (show Kd.V k64 64 w w0.heap.size (fun k_ => ((P0_1_ k_ ∨ P0_2_ k_) ∨ w.heap.size ≤ k_) ∧ some k_ ≠ (u9000_ : Value).ownBlock) (.slice A0_2 l0_2.length c0_2) l0_2 from Kd.V_mono hs0_2 (fun k_ hk => ⟨.inl (.inr hk.1), hk.2⟩))
 have HK := Aside0.mk (Kept.refl w (fun k_ => P0_1_ k_))
 have HW0 := Aside0.mk hB.size
 have HB := Aside0.mk hB
 clear hB
 have H : ((prog_Check.f k a0_0 l0_1 l0_2).bind fun t182 => (if t182 = 0 then (some (a0_0, l0_1, l0_2, 0)) else (some (0, ([] : List (S66)), ([] : List (S64)), 2)))) = some (r1, r2, r3, r4) := h
 clear h
 obtain ⟨t182, A2, H⟩ := be H
 by_cases c3 : t182 = 0
 rotate_left
 ·rw [if_neg c3] at H
  have c3b0 : (t182 == 0) = false := beq_eq_false_iff_ne.mpr c3
  have c3b1 : (t182 != 0) = true := bne_iff_ne.mpr c3
  simp only [Option.some.injEq, Prod.mk.injEq] at H
  obtain ⟨rfl, rfl, rfl, rfl⟩ := H
  obtain ⟨Ao12, co12, eo12⟩ := Kd.R_slice HO0_1.out
  subst eo12
  go_enter Try.func63, Try.ntmps63
  go_wp2_with (first | ((with_reducible refine gate_dst (N := 1) rfl ?_); refine bx 1 rfl rfl #[.int .i64 a0_0, .slice Ao12 l0_1.length co12, .slice A0_2 l0_2.length c0_2] 25 ?_; intro gb180 hg w13 hbox hb; have BK180 := Aside0.mk (hbox); have GW180 := Aside0.mk ((by rw [hg]; exact (by first | exact HK.out.1 | exact (show Kept w _ (fun k_ => P0_1_ k_) from by repeat (first | (with_reducible first | exact HK.out | apply Kept.alloc | apply Kept.drewN | apply Kept.drew) | exact HK.out)).1) : w.heap.size ≤ gb180)); have GE180 := Aside0.mk ((by rw [hg]; exact (bsz (bb HB)) : w0.heap.size ≤ gb180)); replace HO0_1 := Aside0.mk (Kd.R_below (iR HO0_1) hb); replace HO0_2 := Aside0.mk (Kd.V_below (Kd.V_elderB (by (with_reducible repeat (first | apply Kd.V_alloc | apply Kd.V_drewN | apply Kd.V_drew)); exact HO0_2.out) gb180 (Nat.le_of_eq hg.symm)) hb); replace HK := Aside0.mk (Kept.below (S := (fun k_ => P0_1_ k_)) (by repeat (first | (with_reducible first | exact HK.out | apply Kept.alloc | apply Kept.drewN | apply Kept.drew) | exact HK.out)) hb); replace HB := sb HB hb; clear hb hbox hg) | ((with_reducible refine gate_dst (N := 2) rfl ?_); refine bx 2 rfl rfl #[.int .i64 0, .slice none 0 0, .slice none 0 0] 25 ?_; intro gb181 hg w14 hbox hb; have BK181 := Aside0.mk (hbox); have GW181 := Aside0.mk ((by rw [hg]; exact (by first | exact HK.out.1 | exact (show Kept w _ (fun k_ => P0_1_ k_) from by repeat (first | (with_reducible first | exact HK.out | apply Kept.alloc | apply Kept.drewN | apply Kept.drew | refine Kept.setCell ?_ (.inr GW180.out) _) | exact HK.out)).1) : w.heap.size ≤ gb181)); have GE181 := Aside0.mk ((by rw [hg]; exact (bsz (bb HB)) : w0.heap.size ≤ gb181)); have NB180_181 := Aside0.mk ((by rw [hg]; exact Nat.ne_of_lt (blk_lt (kk BK180)) : gb180 ≠ gb181)); have NB181_180 := Aside0.mk ((by rw [hg]; exact Nat.ne_of_gt (blk_lt (kk BK180)) : gb181 ≠ gb180)); replace HO0_1 := Aside0.mk (Kd.R_below (iR HO0_1) hb); replace HO0_2 := Aside0.mk (Kd.V_below (Kd.V_elderB (by (with_reducible repeat (first | apply Kd.V_alloc | apply Kd.V_drewN | apply Kd.V_drew)); exact HO0_2.out) gb181 (Nat.le_of_eq hg.symm)) hb); replace BK180 := kb BK180 hb; replace HK := Aside0.mk (Kept.below (S := (fun k_ => P0_1_ k_)) (by repeat (first | (with_reducible first | exact HK.out | apply Kept.alloc | apply Kept.drewN | apply Kept.drew | refine Kept.setCell ?_ (.inr GW180.out) _) | exact HK.out)) hb); replace HB := sb HB hb; clear hb hbox hg; have hnb15 := NB180_181.out; have hnc15 := NB181_180.out; obtain ⟨hcz16_0, hcz16_1, hcz16_2, hfz16_0, hfz16_1, hfz16_2⟩ := cf3 BK180.out) | ((with_reducible refine gate_callee (f := 43) rfl ?_); refine gL (some 5) rfl rfl Try.func43 #[.agg #[.int .i64 a0_0, .slice Ao12 l0_1.length co12, .slice A0_2 l0_2.length c0_2]] rfl ?_; (with_reducible refine (prog_Check.calls k a0_0 _ _ l0_1 _ _ l0_2 t182 _ ?side1 ?side2 ?side3 ?side4 A2.out).mono ?_); (case side1 => repeat (first | exact (Kd.R_reads' HO0_1.out).2.2 | with_reducible first | apply Kd.C_alloc | apply Kd.C_drewN | apply Kd.C_drew)); (case side2 => exact (Kd.R_reads' HO0_1.out).2.1); (case side3 => repeat (first | exact (Kd.V_reads' HO0_2.out).2.2 | with_reducible first | apply Kd.C_alloc | apply Kd.C_drewN | apply Kd.C_drew)); (case side4 => exact (Kd.V_reads' HO0_2.out).2.1); rintro e w17 ⟨rfl, hb⟩; refine ⟨_, rfl, ?_⟩; replace HO0_1 := Aside0.mk (Kd.R_below (iR HO0_1) hb); replace HO0_2 := Aside0.mk (Kd.V_below (by (with_reducible repeat (first | apply Kd.V_alloc | apply Kd.V_drewN | apply Kd.V_drew)); exact HO0_2.out) hb); replace BK180 := kb BK180 hb; replace BK181 := kb BK181 hb; replace HK := Aside0.mk (Kept.below (S := (fun k_ => P0_1_ k_)) (by repeat (first | (with_reducible first | exact HK.out | apply Kept.alloc | apply Kept.drewN | apply Kept.drew | refine Kept.setCell ?_ (.inr GW180.out) _ | refine Kept.setCell ?_ (.inr GW181.out) _) | exact HK.out)) hb); replace HB := sb HB hb; (try clear hb); obtain ⟨hcz18_0, hcz18_1, hcz18_2, hfz18_0, hfz18_1, hfz18_2⟩ := cf3 BK181.out))
  refine bodyPost_ret (results_ct rfl _ _ gb181 25 #[.int .i64 0, .slice none 0 0, .slice none 0 0] (0, 0) _ rfl (by (with_reducible repeat (first | refine kdN ?_ _ | refine kdr ?_ | refine kal ?_ _)); refine blk_put (cs := #[.int .i64 0, .slice none 0 0, .slice none 0 0]) ?_ 2 _ rfl; (with_reducible repeat (first | refine kdN ?_ _ | refine kdr ?_ | refine kal ?_ _)); refine blk_put (cs := #[.int .i64 0, .slice none 0 0, .slice none 0 0]) ?_ 1 _ rfl; (with_reducible repeat (first | refine kdN ?_ _ | refine kdr ?_ | refine kal ?_ _)); refine blk_put (cs := #[.int .i64 0, .slice none 0 0, .slice none 0 0]) ?_ 0 _ rfl; (with_reducible repeat (first | refine kdN ?_ _ | refine kdr ?_ | refine kal ?_ _)); exact BK181.out) Try.underlying25 rfl (by kernel_rfl)) rfl ?_
  exact ⟨_, _, rr, by first | exact Kd.R_nil _ _ _ _ _ | exact Kd.N_nil _ _ _ _ _ | exact Kd.V_nil _ _ _ _ _ | exact Kd.Q_nil _ _ _ _ _ | exact Kd.S_nil _ _ _ _ _, Kd.N_V (by first | exact Kd.R_nil _ _ _ _ _ | exact Kd.N_nil _ _ _ _ _ | exact Kd.V_nil _ _ _ _ _ | exact Kd.Q_nil _ _ _ _ _ | exact Kd.S_nil _ _ _ _ _ | exact Kd.N_nil _ _ _ 0 _ | exact Kd.R_nil _ _ _ 0 _), bb HB, by repeat (first | (with_reducible first | exact HK.out | apply Kept.alloc | apply Kept.drewN | apply Kept.drew | refine Kept.setCell ?_ (.inr GW180.out) _ | refine Kept.setCell ?_ (.inr GW181.out) _) | exact HK.out)⟩
 rw [if_pos c3] at H
 have c3b0 : (t182 == 0) = true := beq_iff_eq.mpr c3
 have c3b1 : (t182 != 0) = false := bne_eq_false_iff_eq.mpr c3
 clear c3
 simp only [Option.some.injEq, Prod.mk.injEq] at H
 obtain ⟨rfl, rfl, rfl, rfl⟩ := H
 obtain ⟨Ao4, co4, eo4⟩ := Kd.R_slice HO0_1.out
 subst eo4
 go_enter Try.func63, Try.ntmps63
 go_wp2_with (first | ((with_reducible refine gate_dst (N := 1) rfl ?_); refine bx 1 rfl rfl #[.int .i64 a0_0, .slice Ao4 l0_1.length co4, .slice A0_2 l0_2.length c0_2] 25 ?_; intro gb180 hg w5 hbox hb; have BK180 := Aside0.mk (hbox); have GW180 := Aside0.mk ((by rw [hg]; exact (by first | exact HK.out.1 | exact (show Kept w _ (fun k_ => P0_1_ k_) from by repeat (first | (with_reducible first | exact HK.out | apply Kept.alloc | apply Kept.drewN | apply Kept.drew) | exact HK.out)).1) : w.heap.size ≤ gb180)); have GE180 := Aside0.mk ((by rw [hg]; exact (bsz (bb HB)) : w0.heap.size ≤ gb180)); replace HO0_1 := Aside0.mk (Kd.R_below (iR HO0_1) hb); replace HO0_2 := Aside0.mk (Kd.V_below (Kd.V_elderB (by (with_reducible repeat (first | apply Kd.V_alloc | apply Kd.V_drewN | apply Kd.V_drew)); exact HO0_2.out) gb180 (Nat.le_of_eq hg.symm)) hb); replace HK := Aside0.mk (Kept.below (S := (fun k_ => P0_1_ k_)) (by repeat (first | (with_reducible first | exact HK.out | apply Kept.alloc | apply Kept.drewN | apply Kept.drew) | exact HK.out)) hb); replace HB := sb HB hb; clear hb hbox hg) | ((with_reducible refine gate_dst (N := 2) rfl ?_); refine bx 2 rfl rfl #[.int .i64 0, .slice none 0 0, .slice none 0 0] 25 ?_; intro gb181 hg w6 hbox hb; have BK181 := Aside0.mk (hbox); have GW181 := Aside0.mk ((by rw [hg]; exact (by first | exact HK.out.1 | exact (show Kept w _ (fun k_ => P0_1_ k_) from by repeat (first | (with_reducible first | exact HK.out | apply Kept.alloc | apply Kept.drewN | apply Kept.drew | refine Kept.setCell ?_ (.inr GW180.out) _) | exact HK.out)).1) : w.heap.size ≤ gb181)); have GE181 := Aside0.mk ((by rw [hg]; exact (bsz (bb HB)) : w0.heap.size ≤ gb181)); have NB180_181 := Aside0.mk ((by rw [hg]; exact Nat.ne_of_lt (blk_lt (kk BK180)) : gb180 ≠ gb181)); have NB181_180 := Aside0.mk ((by rw [hg]; exact Nat.ne_of_gt (blk_lt (kk BK180)) : gb181 ≠ gb180)); replace HO0_1 := Aside0.mk (Kd.R_below (iR HO0_1) hb); replace HO0_2 := Aside0.mk (Kd.V_below (Kd.V_elderB (by (with_reducible repeat (first | apply Kd.V_alloc | apply Kd.V_drewN | apply Kd.V_drew)); exact HO0_2.out) gb181 (Nat.le_of_eq hg.symm)) hb); replace BK180 := kb BK180 hb; replace HK := Aside0.mk (Kept.below (S := (fun k_ => P0_1_ k_)) (by repeat (first | (with_reducible first | exact HK.out | apply Kept.alloc | apply Kept.drewN | apply Kept.drew | refine Kept.setCell ?_ (.inr GW180.out) _) | exact HK.out)) hb); replace HB := sb HB hb; clear hb hbox hg; have hnb7 := NB180_181.out; have hnc7 := NB181_180.out; obtain ⟨hcz8_0, hcz8_1, hcz8_2, hfz8_0, hfz8_1, hfz8_2⟩ := cf3 BK180.out) | ((with_reducible refine gate_callee (f := 43) rfl ?_); refine gL (some 5) rfl rfl Try.func43 #[.agg #[.int .i64 a0_0, .slice Ao4 l0_1.length co4, .slice A0_2 l0_2.length c0_2]] rfl ?_; (with_reducible refine (prog_Check.calls k a0_0 _ _ l0_1 _ _ l0_2 t182 _ ?side1 ?side2 ?side3 ?side4 A2.out).mono ?_); (case side1 => repeat (first | exact (Kd.R_reads' HO0_1.out).2.2 | with_reducible first | apply Kd.C_alloc | apply Kd.C_drewN | apply Kd.C_drew)); (case side2 => exact (Kd.R_reads' HO0_1.out).2.1); (case side3 => repeat (first | exact (Kd.V_reads' HO0_2.out).2.2 | with_reducible first | apply Kd.C_alloc | apply Kd.C_drewN | apply Kd.C_drew)); (case side4 => exact (Kd.V_reads' HO0_2.out).2.1); rintro e w9 ⟨rfl, hb⟩; refine ⟨_, rfl, ?_⟩; replace HO0_1 := Aside0.mk (Kd.R_below (iR HO0_1) hb); replace HO0_2 := Aside0.mk (Kd.V_below (by (with_reducible repeat (first | apply Kd.V_alloc | apply Kd.V_drewN | apply Kd.V_drew)); exact HO0_2.out) hb); replace BK180 := kb BK180 hb; replace BK181 := kb BK181 hb; replace HK := Aside0.mk (Kept.below (S := (fun k_ => P0_1_ k_)) (by repeat (first | (with_reducible first | exact HK.out | apply Kept.alloc | apply Kept.drewN | apply Kept.drew | refine Kept.setCell ?_ (.inr GW180.out) _ | refine Kept.setCell ?_ (.inr GW181.out) _) | exact HK.out)) hb); replace HB := sb HB hb; (try clear hb); obtain ⟨hcz10_0, hcz10_1, hcz10_2, hfz10_0, hfz10_1, hfz10_2⟩ := cf3 BK180.out; obtain ⟨hcz11_0, hcz11_1, hcz11_2, hfz11_0, hfz11_1, hfz11_2⟩ := cf3 BK181.out))
 refine bodyPost_ret (results_ct rfl _ _ gb181 25 #[.int .i64 a0_0, .slice Ao4 l0_1.length co4, .slice A0_2 l0_2.length c0_2] (0, 0) _ rfl (by (with_reducible repeat (first | refine kdN ?_ _ | refine kdr ?_ | refine kal ?_ _)); refine blk_put (cs := #[.int .i64 a0_0, .slice Ao4 l0_1.length co4, .slice none 0 0]) ?_ 2 _ rfl; (with_reducible repeat (first | refine kdN ?_ _ | refine kdr ?_ | refine kal ?_ _)); refine blk_put (cs := #[.int .i64 a0_0, .slice none 0 0, .slice none 0 0]) ?_ 1 _ rfl; (with_reducible repeat (first | refine kdN ?_ _ | refine kdr ?_ | refine kal ?_ _)); refine blk_put (cs := #[.int .i64 0, .slice none 0 0, .slice none 0 0]) ?_ 0 _ rfl; (with_reducible repeat (first | refine kdN ?_ _ | refine kdr ?_ | refine kal ?_ _)); exact BK181.out) Try.underlying25 rfl (by kernel_rfl)) rfl ?_
 exact ⟨_, _, rr, by (with_reducible repeat (first | apply Kd.R_alloc | apply Kd.R_drewN | apply Kd.R_drew)); exact Kd.R_mono (Kd.R_far (p := ⟨gb181, 2, none⟩) (Kd.R_far (p := ⟨gb181, 1, none⟩) (Kd.R_far (p := ⟨gb181, 0, none⟩) (Kd.R_types HO0_1.out BK181.out (by decide)) (fun _ hk => hk.2) (.int .i64 a0_0)) (fun _ hk => hk.2) (.slice Ao4 l0_1.length co4)) (fun _ hk => hk.2) (.slice A0_2 l0_2.length c0_2)) (fun _ hk => hk.1), by (with_reducible repeat (first | apply Kd.V_alloc | apply Kd.V_drewN | apply Kd.V_drew)); exact Kd.V_mono (Kd.V_far (p := ⟨gb181, 2, none⟩) (Kd.V_far (p := ⟨gb181, 1, none⟩) (Kd.V_far (p := ⟨gb181, 0, none⟩) (Kd.V_mono HO0_2.out (fun k_ hk => (⟨hk, hk.2⟩ : _ ∧ k_ ≠ gb181))) (fun _ hk => hk.2) (.int .i64 a0_0)) (fun _ hk => hk.2) (.slice Ao4 l0_1.length co4)) (fun _ hk => hk.2) (.slice A0_2 l0_2.length c0_2)) (fun _ hk => ⟨hk.1.1.1.1, hk.1.1.1.2⟩), bb HB, by repeat (first | (with_reducible first | exact HK.out | apply Kept.alloc | apply Kept.drewN | apply Kept.drew | refine Kept.setCell ?_ (.inr GW180.out) _ | refine Kept.setCell ?_ (.inr GW181.out) _) | exact HK.out)⟩
end Go.Proofs.Ytilebfkehmecaaa.Print
namespace Go.Proofs.Ytilebfkehmecaaa.Print
open Go.RowKit Go.Proofs.YtilebfkehmecaaaW.PrintWords Go.Proofs.YtilebfkehmecaaaW.PrintLast Go.Proofs.YtilebfkehmecaaaW.PrintMore
attribute [local go_sem] max2_int min2_int max_two min_two max_three min_three max_four min_four
set_option linter.unusedVariables false
set_option linter.unusedSimpArgs false
open Go.Shelf Go.RowKit
attribute [local go_sem] Oper.semAt_some
def prod_Self.f (k : Nat) (a0_0 : Int) (l0_1 : List S66) (l0_2 : List S64) (a1 : Int) : Option (Int × List S66 × List S64 × Int) :=
  (prog_Check.f k a0_0 l0_1 l0_2).bind fun t => if t = 0 then (if a1 < 1 then some (0, [], [], 1) else if a1 > 3 then some (0, [], [], 1) else
    (prod_single.f k a0_0 l0_1 l0_2).bind fun s => if s = 0 then ((prod_Of.f k (List.replicate a1.toNat (⟨a0_0, l0_1, l0_2⟩ : S25))).bind fun o => prod_made.f k o.1 o.2.1 o.2.2)
      else some (0, [], [], 1)) else some (0, [], [], 30)
theorem row3_put {W : World} {B t : Nat} {x0 x1 x2 : Value} (hz : W.heap[B]? = some (.cells #[x0, x1, x2] t (0, 0))) (a b c : Value) :
    (((W.setCell ⟨B, 0, none⟩ a).setCell ⟨B, 1, none⟩ b).setCell ⟨B, 2, none⟩ c).heap[B]? = some (.cells #[a, b, c] t (0, 0)) ∧
    (∀ k, k ≠ B → (((W.setCell ⟨B, 0, none⟩ a).setCell ⟨B, 1, none⟩ b).setCell ⟨B, 2, none⟩ c).heap[k]? = W.heap[k]?) ∧
    (∀ n, n ≤ B → Below n W (((W.setCell ⟨B, 0, none⟩ a).setCell ⟨B, 1, none⟩ b).setCell ⟨B, 2, none⟩ c)) := by
  have h0 := blk_put hz 0 a (cs' := #[a, x1, x2]) rfl
  have h1 := blk_put h0 1 b (cs' := #[a, b, x2]) rfl
  refine ⟨blk_put h1 2 c (cs' := #[a, b, c]) rfl, fun k hk => ?_, fun n hn => ?_⟩
  · rw [Below.heap_setCell _ _ _ _ hk, Below.heap_setCell _ _ _ _ hk, Below.heap_setCell _ _ _ _ hk]
  · exact ((below_cell _ _ hn).trans (below_cell _ _ hn)).trans (below_cell _ _ hn)
theorem rep_each {n : Nat} {a0_0 : Int} {A0_1 : Option Addr} {c0_1 : Nat} {l0_1 : List S66} {A0_2 : Option Addr} {c0_2 : Nat} {l0_2 : List S64} (W : World)
    (h1 : Kd.C k66 W A0_1 l0_1.length l0_1) (c1 : l0_1.length ≤ c0_1) (h2 : Kd.C k64 W A0_2 l0_2.length l0_2) (c2 : l0_2.length ≤ c0_2) :
    ∀ (j : Nat) (x : S25) (c : List Value), (List.replicate n (⟨a0_0, l0_1, l0_2⟩ : S25))[j]? = some x → (List.replicate n [Value.int .i64 a0_0, .slice A0_1 l0_1.length c0_1, .slice A0_2 l0_2.length c0_2])[j]? = some c → k25.K W x c := by
  intro j x c hx hc
  rw [List.getElem?_replicate] at hx hc
  by_cases hj : j < n
  · rw [if_pos hj] at hx hc
    obtain rfl := Option.some.inj hx
    obtain rfl := Option.some.inj hc
    exact k25_mk W _ c1 h1 c2 h2
  · rw [if_neg hj] at hx; cases hx
theorem prod_Self.calls (k : Nat) (a0_0 : Int) (A0_1 : Option Addr) (c0_1 : Nat) (l0_1 : List S66) (A0_2 : Option Addr) (c0_2 : Nat) (l0_2 : List S64) (a1 : Int) (r1 : Int) (r2 : List S66) (r3 : List S64) (r4 : Int) (w : World)
    (hr1 : Kd.C k66 w A0_1 l0_1.length l0_1) (hc1 : l0_1.length ≤ c0_1) (hr2 : Kd.C k64 w A0_2 l0_2.length l0_2) (hc2 : l0_2.length ≤ c0_2) (h : prod_Self.f k a0_0 l0_1 l0_2 a1 = some (r1, r2, r3, r4)) :
    Calls Try.prog 26 #[.agg #[.int .i64 a0_0, .slice A0_1 l0_1.length c0_1, .slice A0_2 l0_2.length c0_2], .int .i64 a1] w fun en w' => ∃ v1_ v2_ : Value, en = .returned (.tuple #[.agg #[.int .i64 r1, v1_, v2_], .int .i64 r4]) ∧
      Kd.R k66 66 w' w.heap.size (fun _ => True) v1_ r2 ∧ Kd.V k64 64 w' w.heap.size (fun k_ => w.heap.size ≤ k_ ∧ some k_ ≠ (v1_ : Value).ownBlock) v2_ r3 ∧ Below w.heap.size w w' := by
  have huP := Try.underlying25
  have HR1 := Aside0.mk hr1
  have HC1 := Aside0.mk hc1
  have HR2 := Aside0.mk hr2
  have HC2 := Aside0.mk hc2
  clear hr1 hc1 hr2 hc2
  unfold prod_Self.f at h
  obtain ⟨tc, ac, h⟩ := Option.bind_eq_some_iff.mp h
  have AC := Aside0.mk ac
  clear ac
  obtain ⟨W0, hW0⟩ : ∃ X, ((w.alloc (.cells #[.int .i64 a0_0, .slice A0_1 l0_1.length c0_1, .slice A0_2 l0_2.length c0_2] 25)).alloc (.cells #[.int .i64 0, .slice none 0 0, .slice none 0 0] 25)) = X := ⟨_, rfl⟩
  have b0 : Below w.heap.size w W0 := by rw [← hW0]; exact bal (bal (Below.refl _ _) _) _
  have p0 : W0.heap[w.heap.size]? = some (.cells #[.int .i64 a0_0, .slice A0_1 l0_1.length c0_1, .slice A0_2 l0_2.length c0_2] 25 (0, 0)) := by rw [← hW0]; exact kal (blk_new _ _) _
  have z0 : W0.heap[w.heap.size + 1]? = some (.cells #[.int .i64 0, .slice none 0 0, .slice none 0 0] 25 (0, 0)) := by
    rw [← hW0]
    have := blk_new (w.alloc (.cells #[.int .i64 a0_0, .slice A0_1 l0_1.length c0_1, .slice A0_2 l0_2.length c0_2] 25)) (.cells #[.int .i64 0, .slice none 0 0, .slice none 0 0] 25)
    simpa using this
  have x0 : W0.cell? ⟨w.heap.size, 0, none⟩ = some (.int .i64 a0_0) := (blk_cell p0 0).trans rfl
  have x1 : W0.cell? ⟨w.heap.size, 1, none⟩ = some (.slice A0_1 l0_1.length c0_1) := (blk_cell p0 1).trans rfl
  have x2 : W0.cell? ⟨w.heap.size, 2, none⟩ = some (.slice A0_2 l0_2.length c0_2) := (blk_cell p0 2).trans rfl
  by_cases htc : tc = 0
  case neg =>
    rw [if_neg htc] at h
    have H := Aside0.mk h
    have g2 : (tc != 0) = true := bne_iff_ne.mpr htc
    clear h
    go_enter Try.func26, Try.ntmps26
    go_wp2_with (first | (go_at_call 43; refine (prog_Check.calls k a0_0 _ _ l0_1 _ _ l0_2 _ W0 (Kd.C_below HR1.out b0) HC1.out (Kd.C_below HR2.out b0) HC2.out AC.out).mono ?_; rintro e W1 ⟨rfl, hb1⟩; have b1 := b0.trans (hb1.mono b0.size); have p1 := blk_below p0 hb1; have z1 := blk_below z0 hb1; have y0 : W1.cell? ⟨w.heap.size, 0, none⟩ = some (.int .i64 a0_0) := (blk_cell p1 0).trans rfl; have y1 : W1.cell? ⟨w.heap.size, 1, none⟩ = some (.slice A0_1 l0_1.length c0_1) := (blk_cell p1 1).trans rfl; have y2 : W1.cell? ⟨w.heap.size, 2, none⟩ = some (.slice A0_2 l0_2.length c0_2) := (blk_cell p1 2).trans rfl; have z_0 : W1.cell? ⟨w.heap.size + 1, 0, none⟩ = some (.int .i64 0) := (blk_cell z1 0).trans rfl; have z_1 : W1.cell? ⟨w.heap.size + 1, 1, none⟩ = some (.slice none 0 0) := (blk_cell z1 1).trans rfl; have z_2 : W1.cell? ⟨w.heap.size + 1, 2, none⟩ = some (.slice none 0 0) := (blk_cell z1 2).trans rfl; have f_0 := blk_frozen z1 0; have f_1 := blk_frozen z1 1; have f_2 := blk_frozen z1 2))
    obtain ⟨zc, zk, zb⟩ := row3_put z1 (.int .i64 0) (.slice none 0 0) (.slice none 0 0)
    refine bodyPost_ret (results_ct rfl _ _ (w.heap.size + 1) 25 #[.int .i64 0, .slice none 0 0, .slice none 0 0] (0, 0) _ rfl zc huP rfl (by kernel_rfl)) rfl ?_
    obtain ⟨rfl, rfl, rfl, rfl⟩ : r1 = 0 ∧ r2 = [] ∧ r3 = [] ∧ r4 = 30 := by
      injection (Option.some.inj H.out) with g1 g2; injection g2 with g2 g3; injection g3 with g3 g4
      exact ⟨g1.symm, g2.symm, g3.symm, g4.symm⟩
    exact ⟨_, _, rfl, Kd.R_nil _ _ _ _ _, Kd.V_nil _ _ _ _ _, b1.trans (zb _ (by omega))⟩
  subst htc
  rw [if_pos rfl] at h
  by_cases h1 : a1 < 1
  case pos =>
    rw [if_pos h1] at h
    have H := Aside0.mk h
    have g2 : decide (a1 < 1) = true := decide_eq_true h1
    clear h h1
    go_enter Try.func26, Try.ntmps26
    go_wp2_with (first | (go_at_call 43; refine (prog_Check.calls k a0_0 _ _ l0_1 _ _ l0_2 _ W0 (Kd.C_below HR1.out b0) HC1.out (Kd.C_below HR2.out b0) HC2.out AC.out).mono ?_; rintro e W1 ⟨rfl, hb1⟩; have b1 := b0.trans (hb1.mono b0.size); have p1 := blk_below p0 hb1; have z1 := blk_below z0 hb1; have y0 : W1.cell? ⟨w.heap.size, 0, none⟩ = some (.int .i64 a0_0) := (blk_cell p1 0).trans rfl; have y1 : W1.cell? ⟨w.heap.size, 1, none⟩ = some (.slice A0_1 l0_1.length c0_1) := (blk_cell p1 1).trans rfl; have y2 : W1.cell? ⟨w.heap.size, 2, none⟩ = some (.slice A0_2 l0_2.length c0_2) := (blk_cell p1 2).trans rfl; have z_0 : W1.cell? ⟨w.heap.size + 1, 0, none⟩ = some (.int .i64 0) := (blk_cell z1 0).trans rfl; have z_1 : W1.cell? ⟨w.heap.size + 1, 1, none⟩ = some (.slice none 0 0) := (blk_cell z1 1).trans rfl; have z_2 : W1.cell? ⟨w.heap.size + 1, 2, none⟩ = some (.slice none 0 0) := (blk_cell z1 2).trans rfl; have f_0 := blk_frozen z1 0; have f_1 := blk_frozen z1 1; have f_2 := blk_frozen z1 2))
    obtain ⟨zc, zk, zb⟩ := row3_put z1 (.int .i64 0) (.slice none 0 0) (.slice none 0 0)
    refine bodyPost_ret (results_ct rfl _ _ (w.heap.size + 1) 25 #[.int .i64 0, .slice none 0 0, .slice none 0 0] (0, 0) _ rfl zc huP rfl (by kernel_rfl)) rfl ?_
    obtain ⟨rfl, rfl, rfl, rfl⟩ : r1 = 0 ∧ r2 = [] ∧ r3 = [] ∧ r4 = 1 := by
      injection (Option.some.inj H.out) with g1 g2; injection g2 with g2 g3; injection g3 with g3 g4
      exact ⟨g1.symm, g2.symm, g3.symm, g4.symm⟩
    exact ⟨_, _, rfl, Kd.R_nil _ _ _ _ _, Kd.V_nil _ _ _ _ _, b1.trans (zb _ (by omega))⟩
  rw [if_neg h1] at h
  have g1 : decide (a1 < 1) = false := decide_eq_false h1
  by_cases h3 : a1 > 3
  case pos =>
    rw [if_pos h3] at h
    have H := Aside0.mk h
    have g2 : decide (3 < a1) = true := decide_eq_true h3
    have g3 : decide (a1 > 3) = true := decide_eq_true h3
    clear h h1 h3
    go_enter Try.func26, Try.ntmps26
    go_wp2_with (first | (go_at_call 43; refine (prog_Check.calls k a0_0 _ _ l0_1 _ _ l0_2 _ W0 (Kd.C_below HR1.out b0) HC1.out (Kd.C_below HR2.out b0) HC2.out AC.out).mono ?_; rintro e W1 ⟨rfl, hb1⟩; have b1 := b0.trans (hb1.mono b0.size); have p1 := blk_below p0 hb1; have z1 := blk_below z0 hb1; have y0 : W1.cell? ⟨w.heap.size, 0, none⟩ = some (.int .i64 a0_0) := (blk_cell p1 0).trans rfl; have y1 : W1.cell? ⟨w.heap.size, 1, none⟩ = some (.slice A0_1 l0_1.length c0_1) := (blk_cell p1 1).trans rfl; have y2 : W1.cell? ⟨w.heap.size, 2, none⟩ = some (.slice A0_2 l0_2.length c0_2) := (blk_cell p1 2).trans rfl; have z_0 : W1.cell? ⟨w.heap.size + 1, 0, none⟩ = some (.int .i64 0) := (blk_cell z1 0).trans rfl; have z_1 : W1.cell? ⟨w.heap.size + 1, 1, none⟩ = some (.slice none 0 0) := (blk_cell z1 1).trans rfl; have z_2 : W1.cell? ⟨w.heap.size + 1, 2, none⟩ = some (.slice none 0 0) := (blk_cell z1 2).trans rfl; have f_0 := blk_frozen z1 0; have f_1 := blk_frozen z1 1; have f_2 := blk_frozen z1 2))
    obtain ⟨zc, zk, zb⟩ := row3_put z1 (.int .i64 0) (.slice none 0 0) (.slice none 0 0)
    refine bodyPost_ret (results_ct rfl _ _ (w.heap.size + 1) 25 #[.int .i64 0, .slice none 0 0, .slice none 0 0] (0, 0) _ rfl zc huP rfl (by kernel_rfl)) rfl ?_
    obtain ⟨rfl, rfl, rfl, rfl⟩ : r1 = 0 ∧ r2 = [] ∧ r3 = [] ∧ r4 = 1 := by
      injection (Option.some.inj H.out) with g1 g2; injection g2 with g2 g3; injection g3 with g3 g4
      exact ⟨g1.symm, g2.symm, g3.symm, g4.symm⟩
    exact ⟨_, _, rfl, Kd.R_nil _ _ _ _ _, Kd.V_nil _ _ _ _ _, b1.trans (zb _ (by omega))⟩
  rw [if_neg h3] at h
  have g3 : decide (3 < a1) = false := decide_eq_false h3
  have g4 : decide (a1 > 3) = false := decide_eq_false h3
  obtain ⟨sc, as_, h⟩ := Option.bind_eq_some_iff.mp h
  have AS := Aside0.mk as_
  obtain ⟨n, hn, hna⟩ : ∃ n : Nat, (n = 1 ∨ n = 2 ∨ n = 3) ∧ a1 = (n : Int) := ⟨a1.toNat, by omega, by omega⟩
  clear as_ h1 h3
  by_cases hsc : sc = 0
  case neg =>
    rw [if_neg hsc] at h
    have H := Aside0.mk h
    have g5 : (sc != 0) = true := bne_iff_ne.mpr hsc
    clear h hsc
    go_enter Try.func26, Try.ntmps26
    go_wp2_with (first | (go_at_call 43; refine (prog_Check.calls k a0_0 _ _ l0_1 _ _ l0_2 _ W0 (Kd.C_below HR1.out b0) HC1.out (Kd.C_below HR2.out b0) HC2.out AC.out).mono ?_; rintro e W1 ⟨rfl, hb1⟩; have b1 := b0.trans (hb1.mono b0.size); have p1 := blk_below p0 hb1; have z1 := blk_below z0 hb1; have y0 : W1.cell? ⟨w.heap.size, 0, none⟩ = some (.int .i64 a0_0) := (blk_cell p1 0).trans rfl; have y1 : W1.cell? ⟨w.heap.size, 1, none⟩ = some (.slice A0_1 l0_1.length c0_1) := (blk_cell p1 1).trans rfl; have y2 : W1.cell? ⟨w.heap.size, 2, none⟩ = some (.slice A0_2 l0_2.length c0_2) := (blk_cell p1 2).trans rfl; have z_0 : W1.cell? ⟨w.heap.size + 1, 0, none⟩ = some (.int .i64 0) := (blk_cell z1 0).trans rfl; have z_1 : W1.cell? ⟨w.heap.size + 1, 1, none⟩ = some (.slice none 0 0) := (blk_cell z1 1).trans rfl; have z_2 : W1.cell? ⟨w.heap.size + 1, 2, none⟩ = some (.slice none 0 0) := (blk_cell z1 2).trans rfl; have f_0 := blk_frozen z1 0; have f_1 := blk_frozen z1 1; have f_2 := blk_frozen z1 2) | (go_at_call 44; refine (prod_single.calls k a0_0 _ _ l0_1 _ _ l0_2 _ W1 (Kd.C_below HR1.out b1) HC1.out (Kd.C_below HR2.out b1) HC2.out AS.out).mono ?_; rintro e W2 ⟨rfl, hb2⟩; have b2 := b1.trans (hb2.mono b1.size); have p2 := blk_below p1 hb2; have z2 := blk_below z1 hb2; have y0 : W2.cell? ⟨w.heap.size, 0, none⟩ = some (.int .i64 a0_0) := (blk_cell p2 0).trans rfl; have y1 : W2.cell? ⟨w.heap.size, 1, none⟩ = some (.slice A0_1 l0_1.length c0_1) := (blk_cell p2 1).trans rfl; have y2 : W2.cell? ⟨w.heap.size, 2, none⟩ = some (.slice A0_2 l0_2.length c0_2) := (blk_cell p2 2).trans rfl; have z_0 : W2.cell? ⟨w.heap.size + 1, 0, none⟩ = some (.int .i64 0) := (blk_cell z2 0).trans rfl; have z_1 : W2.cell? ⟨w.heap.size + 1, 1, none⟩ = some (.slice none 0 0) := (blk_cell z2 1).trans rfl; have z_2 : W2.cell? ⟨w.heap.size + 1, 2, none⟩ = some (.slice none 0 0) := (blk_cell z2 2).trans rfl; have f_0 := blk_frozen z2 0; have f_1 := blk_frozen z2 1; have f_2 := blk_frozen z2 2))
    obtain ⟨zc, zk, zb⟩ := row3_put z2 (.int .i64 0) (.slice none 0 0) (.slice none 0 0)
    refine bodyPost_ret (results_ct rfl _ _ (w.heap.size + 1) 25 #[.int .i64 0, .slice none 0 0, .slice none 0 0] (0, 0) _ rfl zc huP rfl (by kernel_rfl)) rfl ?_
    obtain ⟨rfl, rfl, rfl, rfl⟩ : r1 = 0 ∧ r2 = [] ∧ r3 = [] ∧ r4 = 1 := by
      injection (Option.some.inj H.out) with g1 g2; injection g2 with g2 g3; injection g3 with g3 g4
      exact ⟨g1.symm, g2.symm, g3.symm, g4.symm⟩
    exact ⟨_, _, rfl, Kd.R_nil _ _ _ _ _, Kd.V_nil _ _ _ _ _, b2.trans (zb _ (by omega))⟩
  subst hsc
  rw [if_pos rfl] at h
  obtain ⟨⟨o1, o2, o3⟩, ao, hmm⟩ := Option.bind_eq_some_iff.mp h
  rw [hna, Int.toNat_natCast] at ao
  subst hna
  have AO := Aside0.mk ao
  have HM := Aside0.mk hmm
  have hn3 : n ≤ 3 := by omega
  have hn := Aside0.mk hn
  clear ao h hmm
  go_enter Try.func26, Try.ntmps26
  go_wp2_with (first | (go_at_call 43; refine (prog_Check.calls k a0_0 _ _ l0_1 _ _ l0_2 _ W0 (Kd.C_below HR1.out b0) HC1.out (Kd.C_below HR2.out b0) HC2.out AC.out).mono ?_; rintro e W1 ⟨rfl, hb1⟩; have b1 := b0.trans (hb1.mono b0.size); have p1 := blk_below p0 hb1; have z1 := blk_below z0 hb1; have y0 : W1.cell? ⟨w.heap.size, 0, none⟩ = some (.int .i64 a0_0) := (blk_cell p1 0).trans rfl; have y1 : W1.cell? ⟨w.heap.size, 1, none⟩ = some (.slice A0_1 l0_1.length c0_1) := (blk_cell p1 1).trans rfl; have y2 : W1.cell? ⟨w.heap.size, 2, none⟩ = some (.slice A0_2 l0_2.length c0_2) := (blk_cell p1 2).trans rfl; have z_0 : W1.cell? ⟨w.heap.size + 1, 0, none⟩ = some (.int .i64 0) := (blk_cell z1 0).trans rfl; have z_1 : W1.cell? ⟨w.heap.size + 1, 1, none⟩ = some (.slice none 0 0) := (blk_cell z1 1).trans rfl; have z_2 : W1.cell? ⟨w.heap.size + 1, 2, none⟩ = some (.slice none 0 0) := (blk_cell z1 2).trans rfl; have f_0 := blk_frozen z1 0; have f_1 := blk_frozen z1 1; have f_2 := blk_frozen z1 2) | (go_at_call 44; refine (prod_single.calls k a0_0 _ _ l0_1 _ _ l0_2 _ W1 (Kd.C_below HR1.out b1) HC1.out (Kd.C_below HR2.out b1) HC2.out AS.out).mono ?_; rintro e W2 ⟨rfl, hb2⟩; have b2 := b1.trans (hb2.mono b1.size); have p2 := blk_below p1 hb2; have z2 := blk_below z1 hb2; have y0 : W2.cell? ⟨w.heap.size, 0, none⟩ = some (.int .i64 a0_0) := (blk_cell p2 0).trans rfl; have y1 : W2.cell? ⟨w.heap.size, 1, none⟩ = some (.slice A0_1 l0_1.length c0_1) := (blk_cell p2 1).trans rfl; have y2 : W2.cell? ⟨w.heap.size, 2, none⟩ = some (.slice A0_2 l0_2.length c0_2) := (blk_cell p2 2).trans rfl; have z_0 : W2.cell? ⟨w.heap.size + 1, 0, none⟩ = some (.int .i64 0) := (blk_cell z2 0).trans rfl; have z_1 : W2.cell? ⟨w.heap.size + 1, 1, none⟩ = some (.slice none 0 0) := (blk_cell z2 1).trans rfl; have z_2 : W2.cell? ⟨w.heap.size + 1, 2, none⟩ = some (.slice none 0 0) := (blk_cell z2 2).trans rfl; have f_0 := blk_frozen z2 0; have f_1 := blk_frozen z2 1; have f_2 := blk_frozen z2 2) | (go_at_call 66; refine (slices_Repeat.calls n hn.out a0_0 A0_1 l0_1.length c0_1 A0_2 l0_2.length c0_2 W2.heap.size _ (blk_new _ _)).mono ?_; rintro e W3 ⟨B3, rfl, h3, hb3⟩; have q2 := bal (Below.refl W2.heap.size W2) (.cells #[.int .i64 a0_0, .slice A0_1 l0_1.length c0_1, .slice A0_2 l0_2.length c0_2] 25); have hb23 := q2.trans (hb3.mono q2.size); have b3 := b2.trans (hb23.mono b2.size); have z3 := blk_below z2 hb23; have c3 := C_of_row (d := k25) (l := List.replicate n (⟨a0_0, l0_1, l0_2⟩ : S25)) (css := List.replicate n [.int .i64 a0_0, .slice A0_1 l0_1.length c0_1, .slice A0_2 l0_2.length c0_2]) h3 (by simp) (by simp; omega) (rep_each W3 (Kd.C_below HR1.out b3) HC1.out (Kd.C_below HR2.out b3) HC2.out)) | (go_at_call 65; refine calls_of_args (args' := #[.slice (some ⟨B3, 0, none⟩) (List.replicate n (⟨a0_0, l0_1, l0_2⟩ : S25)).length n]) (by rw [List.length_replicate]) ?_; refine (prod_Of.calls k (some ⟨B3, 0, none⟩) n (List.replicate n (⟨a0_0, l0_1, l0_2⟩ : S25)) o1 o2 o3 W3 c3 (by simp) AO.out).mono ?_; rintro e W4 ⟨v1, v2, rfl, r4_, n4_, hb4⟩; have b4 := b3.trans (hb4.mono b3.size); have z4 := blk_below z3 hb4; have V4 := Kd.N_V (base' := W3.heap.size) n4_; obtain ⟨D1, d1, e1⟩ := Kd.R_slice r4_; subst e1; obtain ⟨D2, d2, e2⟩ := Kd.V_slice V4; subst e2) | (go_at_call 63; refine (prod_made.calls k o1 (fun k_ => W3.heap.size ≤ k_) _ o2 (fun k_ => W3.heap.size ≤ k_) _ _ o3 r1 r2 r3 r4 W3 W4 hb4 r4_ V4 HM.out).mono ?_; rintro e W5 ⟨v1, v2, rfl, r5_, v5_, hb5, hk5⟩; obtain ⟨D3, d3, e3⟩ := Kd.R_slice r5_; subst e3; obtain ⟨D4, d4, e4⟩ := Kd.V_slice v5_; subst e4; have b5 := b3.trans (hb5.mono b3.size); have z5 := blk_below z3 hb5; have z_0 : W5.cell? ⟨w.heap.size + 1, 0, none⟩ = some (.int .i64 0) := (blk_cell z5 0).trans rfl; have z_1 : W5.cell? ⟨w.heap.size + 1, 1, none⟩ = some (.slice none 0 0) := (blk_cell z5 1).trans rfl; have z_2 : W5.cell? ⟨w.heap.size + 1, 2, none⟩ = some (.slice none 0 0) := (blk_cell z5 2).trans rfl; have f_0 := blk_frozen z5 0; have f_1 := blk_frozen z5 1; have f_2 := blk_frozen z5 2))
  have s3 := b3.size
  have lz := blk_lt z3
  obtain ⟨zc, zk, zb⟩ := row3_put z5 (.int .i64 r1) (.slice D3 r2.length d3) (.slice D4 r3.length d4)
  refine bodyPost_ret (results_ct rfl _ _ (w.heap.size + 1) 25 #[.int .i64 r1, .slice D3 r2.length d3, .slice D4 r3.length d4] (0, 0) _ rfl zc huP rfl (by kernel_rfl)) rfl ?_
  refine ⟨_, _, rfl, Kd.R_lower (Kd.R_mono (Kd.R_step (Kd.R_bound r5_) (fun q hq _ => zk q (by have := hq.2.1; omega))) (fun _ _ => trivial)) s3, ?_, b5.trans (zb _ (by omega))⟩
  refine Kd.V_mono (ok := fun k_ => (W3.heap.size ≤ k_ ∧ some k_ ≠ (Value.slice D3 r2.length d3).ownBlock)) (Kd.V_step (Kd.V_mono v5_ (fun q hq => ⟨?_, hq.2⟩)) (fun q hq _ => zk q (by have := hq.1; omega))) (fun q hq => ⟨by have := hq.1; omega, hq.2⟩)
  have s4 := hb4.size
  rcases hq.1 with (h9 | h9) | h9 <;> omega
end Go.Proofs.Ytilebfkehmecaaa.Print
namespace Go.Proofs.Ytilebfkehmecaaa.Print
open Go.RowKit Go.Proofs.YtilebfkehmecaaaW.PrintWords Go.Proofs.YtilebfkehmecaaaW.PrintLast Go.Proofs.YtilebfkehmecaaaW.PrintMore
attribute [local go_sem] max2_int min2_int max_two min_two max_three min_three max_four min_four
set_option linter.unusedVariables false
set_option linter.unusedSimpArgs false
def prod_Copy.j0 : Nat → Int → Bool → Int → List (S66) → List (S64) → Option (Int × (List (S66)) × (List (S64)) × Int)
 | 0, _, _, _, _, _ => none
 | k + 1, x1, x20, x184000, x184001, x184002 => if x20 = true then (some (0, ([] : List (S66)), ([] : List (S64)), 1)) else ((prod_variables.f k x184001 x1).bind fun t187 => ((prod_Moved.f k x184002 x1 0).bind fun t190 => ((prod_made.f k x184000 t187 t190).bind fun bt193 => (some (bt193.1, bt193.2.1, bt193.2.2.1, bt193.2.2.2)))))
def prod_Copy.f (k : Nat) (a0_0 : Int) (l0_1 : List (S66)) (l0_2 : List (S64)) (a1 : Int) : Option (Int × (List (S66)) × (List (S64)) × Int) := (prog_Check.f k a0_0 l0_1 l0_2).bind fun t185 => (if t185 = 0 then (if a1 < 0 then (prod_Copy.j0 k a1 true a0_0 l0_1 l0_2) else (if a1 ≥ 3 then (prod_Copy.j0 k a1 true a0_0 l0_1 l0_2) else ((prod_single.f k a0_0 l0_1 l0_2).bind fun t186 => (prod_Copy.j0 k a1 (t186 != 0) a0_0 l0_1 l0_2)))) else (some (0, ([] : List (S66)), ([] : List (S64)), 30)))
def prod_Copy.T5 : Bool × List (List Nat × List Nat) := (true, [([], []), ([0], [0]), ([], []), ([2], [2]), ([], []), ([3, 4], [3, 4]), ([], []), ([6], [6]), ([], []), ([7, 8, 5], [7, 8]), ([1, 5, 9], [1, 5, 9]), ([10, 9], [10]), ([11], [11]), ([11], [11]), ([12, 11, 0, 1, 2, 3, 4, 5, 6, 7, 8, 9, 10, 11, 12, 13], [12]), ([13, 14, 0, 1, 2, 3, 4, 5, 6, 7, 8, 9, 10, 11, 12, 13, 14], [13])])
def prod_Copy.B5 : List Nat := [0, 1, 0, 4, 0, 28, 0, 64, 0, 508, 1023, 2047, 4095, 4095, 16383, 32767]
theorem prod_Copy.tab5 : rtab .any (opsOf Try.f25 5) = prod_Copy.T5 := by kernel_rfl
theorem prod_Copy.bits5 : waitsOk prod_Copy.T5.2 prod_Copy.B5 = true := by kernel_rfl
theorem prod_Copy.calls (k : Nat) (a0_0 : Int) (A0_1 : Option Addr) (c0_1 : Nat) (l0_1 : List (S66)) (A0_2 : Option Addr) (c0_2 : Nat) (l0_2 : List (S64)) (a1 : Int) (r1 : Int) (r2 : List (S66)) (r3 : List (S64)) (r4 : Int) (w : World) (hr0_1 : Kd.C k66 w A0_1 l0_1.length l0_1) (hc0_1 : l0_1.length ≤ c0_1) (hr0_2 : Kd.C k64 w A0_2 l0_2.length l0_2) (hc0_2 : l0_2.length ≤ c0_2) (h : prod_Copy.f k a0_0 l0_1 l0_2 a1 = some (r1, r2, r3, r4)) :
  Calls Try.prog 25 #[.agg #[.int .i64 a0_0, .slice A0_1 l0_1.length c0_1, .slice A0_2 l0_2.length c0_2], .int .i64 a1] w fun e w' => ∃ v1_ v2_ : Value, e = .returned (.tuple #[.agg #[.int .i64 r1, v1_, v2_], .int .i64 r4]) ∧ Kd.R k66 66 w' w.heap.size (fun k_ => (w.heap.size ≤ k_)) v1_ r2 ∧ Kd.V k64 64 w' w.heap.size (fun k_ => (w.heap.size ≤ k_) ∧ some k_ ≠ (v1_ : Value).ownBlock) v2_ r3 ∧ Below w.heap.size w w' := by
 have hu25 := Try.underlying25
 have HR0_1 := Aside0.mk hr0_1
 have HC0_1 := Aside0.mk hc0_1
 clear hr0_1 hc0_1
 have HR0_2 := Aside0.mk hr0_2
 have HC0_2 := Aside0.mk hc0_2
 clear hr0_2 hc0_2
 have HB := Aside0.mk (Below.refl w.heap.size w)
 have H : ((prog_Check.f k a0_0 l0_1 l0_2).bind fun t185 => (if t185 = 0 then (if a1 < 0 then (prod_Copy.j0 k a1 true a0_0 l0_1 l0_2) else (if a1 ≥ 3 then (prod_Copy.j0 k a1 true a0_0 l0_1 l0_2) else ((prod_single.f k a0_0 l0_1 l0_2).bind fun t186 => (prod_Copy.j0 k a1 (t186 != 0) a0_0 l0_1 l0_2)))) else (some (0, ([] : List (S66)), ([] : List (S64)), 30)))) = some (r1, r2, r3, r4) := h
 clear h
 obtain ⟨t185, A3, H⟩ := be H
 by_cases c4 : t185 = 0
 rotate_left
 ·rw [if_neg c4] at H
  have c4b0 : (t185 == 0) = false := beq_eq_false_iff_ne.mpr c4
  have c4b1 : (t185 != 0) = true := bne_iff_ne.mpr c4
  simp only [Option.some.injEq, Prod.mk.injEq] at H
  obtain ⟨rfl, rfl, rfl, rfl⟩ := H
  go_enter Try.func25, Try.ntmps25
  go_wp2_with (first | ((with_reducible refine gate_dst (N := 2) rfl ?_); refine bx 2 rfl rfl #[.int .i64 a0_0, .slice A0_1 l0_1.length c0_1, .slice A0_2 l0_2.length c0_2] 25 ?_; intro gb183 hg w34 hbox hb; have BK183 := Aside0.mk (hbox); have GE183 := ge HB hg; replace HB := sb HB hb; clear hb hbox hg) | ((with_reducible refine gate_dst (N := 4) rfl ?_); refine bx 4 rfl rfl #[.int .i64 0, .slice none 0 0, .slice none 0 0] 25 ?_; intro gb184 hg w35 hbox hb; have BK184 := Aside0.mk (hbox); have GE184 := ge HB hg; have NB183_184 := Aside0.mk ((by rw [hg]; exact Nat.ne_of_lt (blk_lt (kk BK183)) : gb183 ≠ gb184)); have NB184_183 := Aside0.mk ((by rw [hg]; exact Nat.ne_of_gt (blk_lt (kk BK183)) : gb184 ≠ gb183)); replace BK183 := kb BK183 hb; replace HB := sb HB hb; clear hb hbox hg; have hnb36 := NB183_184.out; have hnc36 := NB184_183.out; obtain ⟨hcz37_0, hcz37_1, hcz37_2, hfz37_0, hfz37_1, hfz37_2⟩ := cf3 BK183.out) | ((with_reducible refine gate_callee (f := 43) rfl ?_); refine gL (some 7) rfl rfl Try.func43 #[.agg #[.int .i64 a0_0, .slice A0_1 l0_1.length c0_1, .slice A0_2 l0_2.length c0_2]] rfl ?_; (with_reducible refine (prog_Check.calls k a0_0 _ _ l0_1 _ _ l0_2 t185 _ ?side1 ?side2 ?side3 ?side4 A3.out).mono ?_); (case side1 => exact cb HR0_1 HB); (case side2 => exact HC0_1.out); (case side3 => exact cb HR0_2 HB); (case side4 => exact HC0_2.out); rintro e w38 ⟨rfl, hb⟩; refine ⟨_, rfl, ?_⟩; replace BK183 := kb BK183 hb; replace BK184 := kb BK184 hb; replace HB := sb HB hb; (try clear hb); obtain ⟨hcz39_0, hcz39_1, hcz39_2, hfz39_0, hfz39_1, hfz39_2⟩ := cf3 BK184.out))
  refine bodyPost_ret (results_ct rfl _ _ gb184 25 #[.int .i64 0, .slice none 0 0, .slice none 0 0] (0, 0) _ rfl (by (with_reducible repeat (first | refine kdN ?_ _ | refine kdr ?_ | refine kal ?_ _)); refine blk_put (cs := #[.int .i64 0, .slice none 0 0, .slice none 0 0]) ?_ 2 _ rfl; (with_reducible repeat (first | refine kdN ?_ _ | refine kdr ?_ | refine kal ?_ _)); refine blk_put (cs := #[.int .i64 0, .slice none 0 0, .slice none 0 0]) ?_ 1 _ rfl; (with_reducible repeat (first | refine kdN ?_ _ | refine kdr ?_ | refine kal ?_ _)); refine blk_put (cs := #[.int .i64 0, .slice none 0 0, .slice none 0 0]) ?_ 0 _ rfl; (with_reducible repeat (first | refine kdN ?_ _ | refine kdr ?_ | refine kal ?_ _)); exact BK184.out) Try.underlying25 rfl (by kernel_rfl)) rfl ?_
  exact ⟨_, _, rr, by first | exact Kd.R_nil _ _ _ _ _ | exact Kd.N_nil _ _ _ _ _ | exact Kd.V_nil _ _ _ _ _ | exact Kd.Q_nil _ _ _ _ _ | exact Kd.S_nil _ _ _ _ _, Kd.R_V (by first | exact Kd.R_nil _ _ _ _ _ | exact Kd.N_nil _ _ _ _ _ | exact Kd.V_nil _ _ _ _ _ | exact Kd.Q_nil _ _ _ _ _ | exact Kd.S_nil _ _ _ _ _ | exact Kd.N_nil _ _ _ 0 _ | exact Kd.R_nil _ _ _ 0 _), bb HB⟩
 rw [if_pos c4] at H
 have c4b0 : (t185 == 0) = true := beq_iff_eq.mpr c4
 have c4b1 : (t185 != 0) = false := bne_eq_false_iff_eq.mpr c4
 clear c4
 have HC5 := Aside0.mk H
 clear H
 go_enter Try.func25, Try.ntmps25
 go_upto_region 3 with (first | ((with_reducible refine gate_dst (N := 2) rfl ?_); refine bx 2 rfl rfl #[.int .i64 a0_0, .slice A0_1 l0_1.length c0_1, .slice A0_2 l0_2.length c0_2] 25 ?_; intro gb183 hg w6 hbox hb; have BK183 := Aside0.mk (hbox); have GE183 := ge HB hg; replace HB := sb HB hb; clear hb hbox hg) | ((with_reducible refine gate_dst (N := 4) rfl ?_); refine bx 4 rfl rfl #[.int .i64 0, .slice none 0 0, .slice none 0 0] 25 ?_; intro gb184 hg w7 hbox hb; have BK184 := Aside0.mk (hbox); have GE184 := ge HB hg; have NB183_184 := Aside0.mk ((by rw [hg]; exact Nat.ne_of_lt (blk_lt (kk BK183)) : gb183 ≠ gb184)); have NB184_183 := Aside0.mk ((by rw [hg]; exact Nat.ne_of_gt (blk_lt (kk BK183)) : gb184 ≠ gb183)); replace BK183 := kb BK183 hb; replace HB := sb HB hb; clear hb hbox hg; have hnb8 := NB183_184.out; have hnc8 := NB184_183.out; obtain ⟨hcz9_0, hcz9_1, hcz9_2, hfz9_0, hfz9_1, hfz9_2⟩ := cf3 BK183.out) | ((with_reducible refine gate_callee (f := 43) rfl ?_); refine gL (some 7) rfl rfl Try.func43 #[.agg #[.int .i64 a0_0, .slice A0_1 l0_1.length c0_1, .slice A0_2 l0_2.length c0_2]] rfl ?_; (with_reducible refine (prog_Check.calls k a0_0 _ _ l0_1 _ _ l0_2 t185 _ ?side1 ?side2 ?side3 ?side4 A3.out).mono ?_); (case side1 => exact cb HR0_1 HB); (case side2 => exact HC0_1.out); (case side3 => exact cb HR0_2 HB); (case side4 => exact HC0_2.out); rintro e w10 ⟨rfl, hb⟩; refine ⟨_, rfl, ?_⟩; replace BK183 := kb BK183 hb; replace BK184 := kb BK184 hb; replace HB := sb HB hb; (try clear hb)))
 (try simp only [Act.put, List.setIfInBounds_toArray, List.set_cons_zero, List.set_cons_succ])
 go_cut [20] (fun v20 wc => ∃ (kq : Nat) (x20_4 : Bool), v20 = .bool x20_4 ∧ Aside0 (prod_Copy.j0 kq a1 x20_4 a0_0 l0_1 l0_2 = some (r1, r2, r3, r4)) ∧ Aside0 (kq ≤ k) ∧ Aside0 (wc.heap[gb183]? = some (.cells #[.int .i64 a0_0, (.slice A0_1 l0_1.length c0_1), (.slice A0_2 l0_2.length c0_2)] 25 (0, 0))) ∧ Aside0 (wc.heap[gb184]? = some (.cells #[.int .i64 0, (.slice none 0 0), (.slice none 0 0)] 25 (0, 0))) ∧ Aside0 (Below w.heap.size w wc))
 case first =>
  have H := HC5.out
  clear HC5
  by_cases c11 : a1 < 0
  ·rw [if_pos c11] at H
   have c11b0 : decide (a1 < 0) = true := decide_eq_true c11
   clear c11
   (first | rw [c11b0] | (simp only [i64_w, i32_w]; rw [c11b0]) | skip)
   have H' := Aside0.mk H
   clear H
   go_wp2
   go_meet
   case rel => exact ⟨_, (true), rs, H', ⟨by first | omega | exact Nat.le_refl _⟩, ⟨kk BK183⟩, ⟨kk BK184⟩, ⟨bb HB⟩⟩
  rw [if_neg c11] at H
  have c11b0 : decide (a1 < 0) = false := decide_eq_false c11
  clear c11
  (first | rw [c11b0] | (simp only [i64_w, i32_w]; rw [c11b0]) | skip)
  by_cases c12 : a1 ≥ 3
  ·rw [if_pos c12] at H
   have c12b0 : decide (3 ≤ a1) = true := decide_eq_true c12
   clear c12
   have H' := Aside0.mk H
   clear H
   go_wp2
   go_meet
   case rel => exact ⟨_, (true), rs, H', ⟨by first | omega | exact Nat.le_refl _⟩, ⟨kk BK183⟩, ⟨kk BK184⟩, ⟨bb HB⟩⟩
  rw [if_neg c12] at H
  have c12b0 : decide (3 ≤ a1) = false := decide_eq_false c12
  clear c12
  obtain ⟨t186, A13, H⟩ := be H
  have H' := Aside0.mk H
  clear H
  have hnb14 := NB183_184.out
  have hnc14 := NB184_183.out
  obtain ⟨hcz15_0, hcz15_1, hcz15_2, hfz15_0, hfz15_1, hfz15_2⟩ := cf3 BK183.out
  go_wp2_with (first | (go_at_call 44; (with_reducible refine (prod_single.calls k a0_0 _ _ l0_1 _ _ l0_2 t186 _ ?side1 ?side2 ?side3 ?side4 A13.out).mono ?_); (case side1 => exact cb HR0_1 HB); (case side2 => exact HC0_1.out); (case side3 => exact cb HR0_2 HB); (case side4 => exact HC0_2.out); rintro e w16 ⟨rfl, hb⟩; replace BK183 := kb BK183 hb; replace BK184 := kb BK184 hb; replace HB := sb HB hb; (try clear hb)))
  go_meet
  case rel => exact ⟨_, ((t186 != 0)), rs, H', ⟨by first | omega | exact Nat.le_refl _⟩, ⟨kk BK183⟩, ⟨kk BK184⟩, ⟨bb HB⟩⟩
 case rest =>
  clear HC5
  try clear c1
  try clear c2
  try clear p2
  try clear c4
  try clear c4b0
  try clear c4b1
  try clear c8
  try clear c11
  try clear c11b0
  try clear c12
  try clear c12b0
  try clear c14
  try clear hcz15_0 hcz15_1 hcz15_2
  try clear hcz9_0 hcz9_1 hcz9_2
  try clear hfz15_0 hfz15_1 hfz15_2
  try clear hfz9_0 hfz9_1 hfz9_2
  obtain ⟨kq, x20_4, rfl, HA, HJ4, BK183, BK184, HB⟩ := hcut
  cases kq with
  | zero => exact absurd HA.out (by simp [prod_Copy.j0])
  | succ kj4 =>
   have H := HA.out
   clear HA
   simp only [prod_Copy.j0] at H
   by_cases c17 : x20_4 = true
   ·subst c17
    replace H := it H
    simp only [Option.some.injEq, Prod.mk.injEq] at H
    obtain ⟨rfl, rfl, rfl, rfl⟩ := H
    have hnb18 := NB184_183.out
    have hnc18 := NB183_184.out
    obtain ⟨hcz19_0, hcz19_1, hcz19_2, hfz19_0, hfz19_1, hfz19_2⟩ := cf3 BK184.out
    go_wp2
    refine bodyPost_ret (results_ct rfl _ _ gb184 25 #[.int .i64 0, .slice none 0 0, .slice none 0 0] (0, 0) _ rfl (by (with_reducible repeat (first | refine kdN ?_ _ | refine kdr ?_ | refine kal ?_ _)); refine blk_put (cs := #[.int .i64 0, .slice none 0 0, .slice none 0 0]) ?_ 2 _ rfl; (with_reducible repeat (first | refine kdN ?_ _ | refine kdr ?_ | refine kal ?_ _)); refine blk_put (cs := #[.int .i64 0, .slice none 0 0, .slice none 0 0]) ?_ 1 _ rfl; (with_reducible repeat (first | refine kdN ?_ _ | refine kdr ?_ | refine kal ?_ _)); refine blk_put (cs := #[.int .i64 0, .slice none 0 0, .slice none 0 0]) ?_ 0 _ rfl; (with_reducible repeat (first | refine kdN ?_ _ | refine kdr ?_ | refine kal ?_ _)); exact BK184.out) Try.underlying25 rfl (by kernel_rfl)) rfl ?_
    exact ⟨_, _, rr, by first | exact Kd.R_nil _ _ _ _ _ | exact Kd.N_nil _ _ _ _ _ | exact Kd.V_nil _ _ _ _ _ | exact Kd.Q_nil _ _ _ _ _ | exact Kd.S_nil _ _ _ _ _, Kd.R_V (by first | exact Kd.R_nil _ _ _ _ _ | exact Kd.N_nil _ _ _ _ _ | exact Kd.V_nil _ _ _ _ _ | exact Kd.Q_nil _ _ _ _ _ | exact Kd.S_nil _ _ _ _ _ | exact Kd.N_nil _ _ _ 0 _ | exact Kd.R_nil _ _ _ 0 _), bb HB⟩
   replace c17 := Bool.eq_false_iff.mpr c17
   subst c17
   replace H := fi H
   obtain ⟨t187, A20, H⟩ := be H
   obtain ⟨t190, A21, H⟩ := be H
   replace H := Option.bind_eq_some_iff.mp H
   obtain ⟨⟨t193, t194, t197, t200⟩, A220, H⟩ := H
   replace H : (some (t193, t194, t197, t200)) = some (r1, r2, r3, r4) := H
   have A22 := Aside0.mk A220
   clear A220
   simp only [Option.some.injEq, Prod.mk.injEq] at H
   obtain ⟨rfl, rfl, rfl, rfl⟩ := H
   try go_wp2
   replace BK183 := Aside0.mk (kdr BK183.out)
   replace BK184 := Aside0.mk (kdr BK184.out)
   replace HB := Aside0.mk (bd1 HB.out)
   refine start_ (n := 16) (S := fun w' => w'.cell? ⟨gb183, 0, none⟩ = some (.int .i64 a0_0) ∧ w'.cell? ⟨gb183, 1, none⟩ = some (.slice A0_1 l0_1.length c0_1) ∧ w'.cell? ⟨gb183, 2, none⟩ = some (.slice A0_2 l0_2.length c0_2)) (ds := []) #[false, false, false, false, false, false, false, false, false, false, false, false, false, false, false, false] (by kernel_rfl) rfl rfl ⟨(blk_cell BK183.out 0).trans rfl, (blk_cell BK183.out 1).trans rfl, (blk_cell BK183.out 2).trans rfl⟩ (fun hHeld => ?_); refine with_tabW prod_Copy.tab5 prod_Copy.bits5 (fun HT_ HW_ => ?_)
   generalize wc.drew = w23 at BK183 BK184 HB hHeld ⊢
   refine pT 0 22 (bl 16 1) HT_ rfl rfl ?_
   refine pT 2 24 (bl 16 5) HT_ rfl rfl ?_
   refine pT 4 26 (bl 16 21) HT_ rfl rfl ?_
   refine pT 6 28 (bl 16 85) HT_ rfl rfl ?_
   refine pT 8 30 (bl 16 341) HT_ rfl rfl ?_
   refine tk (i := 1) (N := some 23) (bl 16 343) rfl rfl (take_ofW HT_.out HW_.out (by kernel_rfl)) hHeld ?_
   refine tk (i := 3) (N := some 25) (bl 16 351) rfl rfl (take_ofW HT_.out HW_.out (by kernel_rfl)) hHeld ?_
   refine tk (i := 7) (N := some 29) (bl 16 479) rfl rfl (take_ofW HT_.out HW_.out (by kernel_rfl)) hHeld ?_
   refine one_ (i := 5) (N := some 27) (bl 16 511) rfl rfl (one_of HT_.out (by kernel_rfl)) (by decide) (fun K hK => ?_)
   refine gO Try.func45 #[.slice A0_1 l0_1.length c0_1, .int .i64 a1] (by rfl) rfl rfl ?_
   with_reducible refine (prod_variables.calls kj4 _ _ l0_1 a1 t187 _ ?side1 ?side2 A20.out).mono ?_
   (case side1 => exact cb HR0_1 HB)
   (case side2 => exact HC0_1.out)
   rintro e w24 ⟨v188, rfl, ho0, hb⟩
   refine ⟨_, rfl, ?_⟩
   have HO189 := Aside0.mk (Kd.R_lower (Kd.R_newM (M := fun k_ => (w.heap.size ≤ k_)) ho0 (bsz (bb HB)) (fun k_ h_ => h_)) (bsz (bb HB)))
   replace BK183 := kb BK183 hb
   replace BK184 := kb BK184 hb
   replace HB := sb HB hb
   (try clear hb)
   (try clear hb2)
   (try clear hk)
   (try clear hi)
   (try clear ho0)
   refine hK.out _ _ ⟨(blk_cell BK183.out 0).trans rfl, (blk_cell BK183.out 1).trans rfl, (blk_cell BK183.out 2).trans rfl⟩ (fun hHeld => ?_)
   clear hK K
   refine nm 27 ?_
   refine one_ (i := 9) (N := some 31) (bl 16 1023) rfl rfl (one_of HT_.out (by kernel_rfl)) (by decide) (fun K hK => ?_)
   refine gO Try.func64 #[.slice A0_2 l0_2.length c0_2, .int .i64 a1, .int .i64 0] (by rfl) rfl rfl ?_
   with_reducible refine (prod_Moved.calls kj4 _ _ l0_2 a1 0 t190 _ ?side1 ?side2 A21.out).mono ?_
   (case side1 => exact cb HR0_2 HB)
   (case side2 => exact HC0_2.out)
   rintro e w25 ⟨v191, rfl, ho0, hb⟩
   refine ⟨_, rfl, ?_⟩
   have HO192 := Aside0.mk (Kd.R_lower (Kd.R_newM (M := fun k_ => (w.heap.size ≤ k_)) ho0 (bsz (bb HB)) (fun k_ h_ => h_)) (bsz (bb HB)))
   replace HO189 := Aside0.mk (Kd.R_below (iR HO189) hb)
   replace BK183 := kb BK183 hb
   replace BK184 := kb BK184 hb
   replace HB := sb HB hb
   (try clear hb)
   (try clear hb2)
   (try clear hk)
   (try clear hi)
   (try clear ho0)
   obtain ⟨Ao26, co26, eo26⟩ := Kd.R_slice HO192.out
   (first | subst eo26 | (injection eo26 with f1_ f2_ f3_; have f4_ := f1_.symm; have f5_ := f3_.symm; clear f1_ f2_ f3_; subst f4_; subst f5_))
   obtain ⟨Ao27, co27, eo27⟩ := Kd.R_slice HO189.out
   (first | subst eo27 | (injection eo27 with f1_ f2_ f3_; have f4_ := f1_.symm; have f5_ := f3_.symm; clear f1_ f2_ f3_; subst f4_; subst f5_))
   refine hK.out _ _ ⟨(blk_cell BK183.out 0).trans rfl, (blk_cell BK183.out 1).trans rfl, (blk_cell BK183.out 2).trans rfl⟩ (fun hHeld => ?_)
   clear hK K
   refine nm 31 ?_
   refine pT 10 32 (bl 16 2047) HT_ rfl rfl ?_
   refine one_ (i := 11) (N := some 33) (bl 16 4095) rfl rfl (one_of HT_.out (by kernel_rfl)) (by decide) (fun K hK => ?_)
   refine gO Try.func63 #[.agg #[.int .i64 a0_0, .slice Ao27 t187.length co27, .slice Ao26 t190.length co26]] (by rfl) rfl rfl ?_
   with_reducible refine (prod_made.calls kj4 a0_0 (fun k_ => some k_ = (.slice Ao27 t187.length co27 : Value).ownBlock) (.slice Ao27 t187.length co27) t187 (fun k_ => (((((w.heap.size ≤ k_) ∧ True) ∧ some k_ ≠ (.slice Ao27 t187.length co27 : Value).ownBlock) ∧ k_ ≠ gb183) ∧ k_ ≠ gb184)) _ _ t190 t193 t194 t197 t200 w _ ?side1 ?side2 ?side3 A22.out).mono ?_
   (case side1 => repeat (first | (with_reducible first | exact HB.out | apply bal | apply bdN | apply bd1 | refine bst ?_ GE183.out | refine bst ?_ GE184.out) | exact HB.out))
   (case side2 => exact Kd.R_tight rfl HO189.out)
   (case side3 => exact Kd.V_mono (Kd.R_V (Kd.R_types (Kd.R_types (Kd.R_apart' (HO192.out) (Kd.R_typed HO189.out) (by decide)) BK183.out (by decide)) BK184.out (by decide))) (fun k_ hk_ => ⟨hk_, hk_.1.1.2⟩))
   rintro e w28 ⟨v195, v198, rfl, ho0, ho1, hb, hkp⟩
   refine ⟨_, rfl, ?_⟩
   have HO196 := Aside0.mk (Kd.R_mono (ok' := fun k_ => (w.heap.size ≤ k_)) ho0 (fun k_ hk_ => Or.elim hk_ (fun hs_ => (HO189.out.1 k_ (hs_).symm).1) (fun hn_ => (Nat.le_trans (bsz (bb HB)) hn_))))
   have HO199 := Aside0.mk (Kd.V_mono (ok' := fun k_ => (w.heap.size ≤ k_) ∧ some k_ ≠ (v195 : Value).ownBlock ∧ k_ ≠ gb183 ∧ k_ ≠ gb184) ho1 (fun k_ hk_ => ⟨Or.elim hk_.1 (fun hs_ => Or.elim hs_ (fun hs_ => (HO189.out.1 k_ (hs_).symm).1) (fun hs_ => hs_.1.1.1.1)) (fun hn_ => (Nat.le_trans (bsz (bb HB)) hn_)), hk_.2, Or.elim hk_.1 (fun hs_ => Or.elim hs_ (fun hs_ => fun e_ => (Kd.R_ne HO189.out BK183.out (by decide)) (by rw [← e_]; exact hs_)) (fun hs_ => hs_.1.2)) (fun hn_ => (Kd.freshB (kk BK183) k_ hn_)), Or.elim hk_.1 (fun hs_ => Or.elim hs_ (fun hs_ => fun e_ => (Kd.R_ne HO189.out BK184.out (by decide)) (by rw [← e_]; exact hs_)) (fun hs_ => hs_.2)) (fun hn_ => (Kd.freshB (kk BK184) k_ hn_))⟩))
   replace BK183 := Aside0.mk (blk_kept (kk BK183) hkp (fun hs_ => (fun e_ => (Kd.R_ne HO189.out BK183.out (by decide)) e_) hs_))
   replace BK184 := Aside0.mk (blk_kept (kk BK184) hkp (fun hs_ => (fun e_ => (Kd.R_ne HO189.out BK184.out (by decide)) e_) hs_))
   replace HO192 := Aside0.mk (Kd.R_mono (ok' := fun k_ => (w.heap.size ≤ k_)) (Kd.R_keptB ((Kd.R_apart' HO192.out (Kd.R_typed HO189.out) (by decide))) hkp (fun k_ hk_ hs_ => (hk_.2) hs_)) (fun k_ hk_ => hk_.1.1.1))
   replace HB := Aside0.mk (hb)
   clear HO189
   (try clear hb)
   (try clear hkp)
   (try clear ho0)
   (try clear ho1)
   obtain ⟨Ao30, co30, eo30⟩ := Kd.R_slice HO196.out
   (first | subst eo30 | (injection eo30 with f1_ f2_ f3_; have f4_ := f1_.symm; have f5_ := f3_.symm; clear f1_ f2_ f3_; subst f4_; subst f5_))
   obtain ⟨Ao32, co32, eo32⟩ := Kd.V_slice HO199.out
   (first | subst eo32 | (injection eo32 with f1_ f2_ f3_; have f4_ := f1_.symm; have f5_ := f3_.symm; clear f1_ f2_ f3_; subst f4_; subst f5_))
   refine hK.out _ _ ⟨(blk_cell BK183.out 0).trans rfl, (blk_cell BK183.out 1).trans rfl, (blk_cell BK183.out 2).trans rfl⟩ (fun hHeld => ?_)
   clear hK K
   refine nm 33 ?_
   refine pT 12 34 (bl 16 8191) HT_ rfl rfl ?_
   refine pT 13 35 (bl 16 16383) HT_ rfl rfl ?_
   refine one_ (i := 14) (N := none) (bl 16 32767) rfl rfl (one_of HT_.out (by kernel_rfl)) (by decide) (fun K hK => ?_)
   have hs29 : w28.cell? ⟨gb184, 0, none⟩ = some (.int .i64 0) := (blk_cell BK184.out 0).trans rfl
   have hfs29 := blk_frozen BK184.out 0
   have hns29_0 := NB183_184.out
   have hms29_0 := NB184_183.out
   have hs31 : w28.cell? ⟨gb184, 1, none⟩ = some (.slice none 0 0) := (blk_cell BK184.out 1).trans rfl
   have hfs31 := blk_frozen BK184.out 1
   have hns31_0 := NB183_184.out
   have hms31_0 := NB184_183.out
   have hs33 : w28.cell? ⟨gb184, 2, none⟩ = some (.slice none 0 0) := (blk_cell BK184.out 2).trans rfl
   have hfs33 := blk_frozen BK184.out 2
   have hns33_0 := NB183_184.out
   have hms33_0 := NB184_183.out
   refine skip_ (w1 := ?_) (by rfl) rfl ?_ ?_
   rotate_left
   ·go_simp
    rfl
   refine hK.out _ _ ⟨((cell_far (p := ⟨gb184, _, none⟩) NB183_184.out _).trans (((cell_far (p := ⟨gb184, _, none⟩) NB183_184.out _).trans (((cell_far (p := ⟨gb184, _, none⟩) NB183_184.out _).trans (hHeld.1)))))), ((cell_far (p := ⟨gb184, _, none⟩) NB183_184.out _).trans (((cell_far (p := ⟨gb184, _, none⟩) NB183_184.out _).trans (((cell_far (p := ⟨gb184, _, none⟩) NB183_184.out _).trans (hHeld.2.1)))))), ((cell_far (p := ⟨gb184, _, none⟩) NB183_184.out _).trans (((cell_far (p := ⟨gb184, _, none⟩) NB183_184.out _).trans (((cell_far (p := ⟨gb184, _, none⟩) NB183_184.out _).trans (hHeld.2.2))))))⟩ (fun hHeld => ?_)
   clear hK K
   refine pT 15 5 (bl 16 65535) HT_ rfl rfl ?_
   refine done_ (done_of HT_.out (by kernel_rfl)) ?_
   try go_wp2
   refine bodyPost_ret (results_ct rfl _ _ gb184 25 #[.int .i64 t193, .slice Ao30 t194.length co30, .slice Ao32 t197.length co32] (0, 0) _ rfl (by (with_reducible repeat (first | refine kdN ?_ _ | refine kdr ?_ | refine kal ?_ _)); refine blk_put (cs := #[.int .i64 t193, .slice Ao30 t194.length co30, .slice none 0 0]) ?_ 2 _ rfl; (with_reducible repeat (first | refine kdN ?_ _ | refine kdr ?_ | refine kal ?_ _)); refine blk_put (cs := #[.int .i64 t193, .slice none 0 0, .slice none 0 0]) ?_ 1 _ rfl; (with_reducible repeat (first | refine kdN ?_ _ | refine kdr ?_ | refine kal ?_ _)); refine blk_put (cs := #[.int .i64 0, .slice none 0 0, .slice none 0 0]) ?_ 0 _ rfl; (with_reducible repeat (first | refine kdN ?_ _ | refine kdr ?_ | refine kal ?_ _)); exact BK184.out) Try.underlying25 rfl (by kernel_rfl)) rfl ?_
   exact ⟨_, _, rr, by (with_reducible repeat (first | apply Kd.R_alloc | apply Kd.R_drewN | apply Kd.R_drew)); exact Kd.R_mono (Kd.R_far (p := ⟨gb184, 2, none⟩) (Kd.R_far (p := ⟨gb184, 1, none⟩) (Kd.R_far (p := ⟨gb184, 0, none⟩) (Kd.R_types HO196.out BK184.out (by decide)) (fun _ hk => hk.2) (.int .i64 t193)) (fun _ hk => hk.2) (.slice Ao30 t194.length co30)) (fun _ hk => hk.2) (.slice Ao32 t197.length co32)) (fun _ hk => hk.1), by (with_reducible repeat (first | apply Kd.V_alloc | apply Kd.V_drewN | apply Kd.V_drew)); exact Kd.V_mono (Kd.V_far (p := ⟨gb184, 2, none⟩) (Kd.V_far (p := ⟨gb184, 1, none⟩) (Kd.V_far (p := ⟨gb184, 0, none⟩) (Kd.V_mono HO199.out (fun k_ hk => (⟨hk, hk.2.2.2⟩ : _ ∧ k_ ≠ gb184))) (fun _ hk => hk.2) (.int .i64 t193)) (fun _ hk => hk.2) (.slice Ao30 t194.length co30)) (fun _ hk => hk.2) (.slice Ao32 t197.length co32)) (fun _ hk => ⟨hk.1.1, hk.1.2.1⟩), bb HB⟩
mutual
def prod_Told.j0 : Nat → List (S74) → Int → Bool → Option ((List (S74)))
 | 0, _, _, _ => none
 | k + 1, x0, x1, x13 => if x13 = true then (some ([] : List (S74))) else (prod_Told.l0 k x1 ([] : List (S74)) x0 (x0.length : Int) 0)
def prod_Told.l0 : Nat → Int → List (S74) → List (S74) → Int → Int → Option ((List (S74)))
 | 0, _, _, _, _, _ => none
 | k + 1, x1, x5, x14, x15, x16 => if x16 < x15 then (if 0 ≤ x16 then (if x16 < (x14.length : Int) then (if ((rd_T74 x14 x16).f0) ≥ (wrap64 (16 * x1)) then (if ((rd_T74 x14 x16).f0) ≤ (wrap64 ((wrap64 (16 * x1)) + 15)) then (if x5.length < 8796093022208 then (prod_Told.l0 k x1 (x5 ++ [(⟨wrap64 (((rd_T74 x14 x16).f0) - (wrap64 (16 * x1))), (rd_T74 x14 x16).f1⟩ : S74)]) x14 x15 (wrap64 (x16 + 1))) else (none)) else (prod_Told.l0 k x1 x5 x14 x15 (wrap64 (x16 + 1)))) else (prod_Told.l0 k x1 x5 x14 x15 (wrap64 (x16 + 1)))) else (none)) else (none)) else (some x5)
end
def prod_Told.f (k : Nat) (l0 : List (S74)) (a1 : Int) : Option ((List (S74))) := if a1 < 0 then (prod_Told.j0 k l0 a1 true) else (prod_Told.j0 k l0 a1 (decide (a1 ≥ 3)))
theorem prod_Told.calls (k : Nat) (A0 : Option Addr) (c0 : Nat) (l0 : List (S74)) (a1 : Int) (r : List (S74)) (w : World) (hr0 : Kd.C k74 w A0 l0.length l0) (hc0 : l0.length ≤ c0) (h : prod_Told.f k l0 a1 = some r) :
  Calls Try.prog 16 #[.slice A0 l0.length c0, .int .i64 a1] w fun e w' => ∃ v0_ : Value, e = .returned (v0_) ∧ Kd.R k74 74 w' w.heap.size (fun _ => True) v0_ r ∧ Below w.heap.size w w' := by
 have hu74 := Try.underlying74
 have HR0 := Aside0.mk hr0
 have HC0 := Aside0.mk hc0
 clear hr0 hc0
 have HB := Aside0.mk (Below.refl w.heap.size w)
 have H : (if a1 < 0 then (prod_Told.j0 k l0 a1 true) else (prod_Told.j0 k l0 a1 (decide (a1 ≥ 3)))) = some r := h
 clear h
 have HC3 := Aside0.mk H
 clear H
 go_enter Try.func16, Try.ntmps16
 go_upto_region 1 with (fail)
 go_cut [13] (fun v13 wc => ∃ (kq : Nat) (x13_2 : Bool), v13 = .bool x13_2 ∧ Aside0 (prod_Told.j0 kq l0 a1 x13_2 = some r) ∧ Aside0 (kq ≤ k) ∧ Aside0 (Below w.heap.size w wc))
 case first =>
  have H := HC3.out
  clear HC3
  by_cases c4 : a1 < 0
  ·rw [if_pos c4] at H
   have c4b0 : decide (a1 < 0) = true := decide_eq_true c4
   clear c4
   (first | rw [c4b0] | (simp only [i64_w, i32_w]; rw [c4b0]) | skip)
   have H' := Aside0.mk H
   clear H
   go_wp2
   go_meet
   case rel => exact ⟨_, (true), rs, H', ⟨by first | omega | exact Nat.le_refl _⟩, ⟨bb HB⟩⟩
  rw [if_neg c4] at H
  have c4b0 : decide (a1 < 0) = false := decide_eq_false c4
  clear c4
  (first | rw [c4b0] | (simp only [i64_w, i32_w]; rw [c4b0]) | skip)
  have H' := Aside0.mk H
  clear H
  go_wp2
  go_meet
  case rel => exact ⟨_, (decide (a1 ≥ 3)), rs, H', ⟨by first | omega | exact Nat.le_refl _⟩, ⟨bb HB⟩⟩
 case rest =>
  clear HC3
  try clear c1
  try clear p2
  try clear c4
  try clear c4b0
  obtain ⟨kq, x13_2, rfl, HA, HJ2, HB⟩ := hcut
  cases kq with
  | zero => exact absurd HA.out (by simp [prod_Told.j0])
  | succ kj2 =>
   have H := HA.out
   clear HA
   simp only [prod_Told.j0] at H
   by_cases c5 : x13_2 = true
   ·subst c5
    replace H := it H
    obtain rfl := Option.some.inj H
    go_wp2
    go_ret
    exact ⟨_, rr, by first | exact Kd.R_nil _ _ _ _ _ | exact Kd.N_nil _ _ _ _ _ | exact Kd.V_nil _ _ _ _ _ | exact Kd.Q_nil _ _ _ _ _ | exact Kd.S_nil _ _ _ _ _, bb HB⟩
   replace c5 := Bool.eq_false_iff.mpr c5
   subst c5
   replace H := fi H
   have H' := Aside0.mk H
   clear H
   go_wp2
   go_loopg [5, 16] kj2 (fun kq v5 v16 w' => ∃ (x5_2 : List (S74)) (x16_2 : Int), v16 = .int .i64 x16_2 ∧ Aside0 (prod_Told.l0 kq a1 x5_2 l0 (l0.length : Int) x16_2 = some r) ∧ Aside0 (kq ≤ kj2) ∧ Aside0 (Kd.R k74 74 w' w.heap.size (fun _ => True) v5 x5_2) ∧ Aside0 (Below w.heap.size w w'))
   case atStart => exact ⟨(([] : List (S74))), (0), rs, H', ⟨Nat.le_refl _⟩, ⟨by first | exact Kd.R_nil _ _ _ _ _ | exact Kd.N_nil _ _ _ _ _ | exact Kd.V_nil _ _ _ _ _ | exact Kd.Q_nil _ _ _ _ _ | exact Kd.S_nil _ _ _ _ _⟩, ⟨bb HB⟩⟩
   case round =>
    clear H'
    try clear c1
    try clear p2
    try clear c4
    try clear c4b0
    try clear c5
    try clear p2
    obtain ⟨x5_2, x16_2, rfl, HA, HK2, HO_5, HB⟩ := hrel
    cases gk with
    | zero => exact absurd HA.out (by simp [prod_Told.l0])
    | succ k2 =>
     have H := HA.out
     clear HA
     simp only [prod_Told.l0] at H
     by_cases c6 : x16_2 < (l0.length : Int)
     rotate_left
     ·rw [if_neg c6] at H
      have c6b0 : decide (x16_2 < (l0.length : Int)) = false := decide_eq_false c6
      clear c6
      obtain rfl := Option.some.inj H
      go_wp2
      go_ret
      exact ⟨_, rr, by (with_reducible repeat (first | apply Kd.R_alloc | apply Kd.R_drewN | apply Kd.R_drew)); exact HO_5.out, bb HB⟩
     rw [if_pos c6] at H
     have c6b0 : decide (x16_2 < (l0.length : Int)) = true := decide_eq_true c6
     clear c6
     by_cases c7 : 0 ≤ x16_2
     rotate_left
     ·rw [if_neg c7] at H
      exact absurd H (by simp)
     rw [if_pos c7] at H
     have c7b0 : decide (0 ≤ x16_2) = true := decide_eq_true c7
     clear c7
     by_cases c8 : x16_2 < (l0.length : Int)
     rotate_left
     ·rw [if_neg c8] at H
      exact absurd H (by simp)
     rw [if_pos c8] at H
     have c8b0 : decide (x16_2 < (l0.length : Int)) = true := decide_eq_true c8
     clear c8
     by_cases c9 : ((rd_T74 l0 x16_2).f0) ≥ (wrap64 (16 * a1))
     rotate_left
     ·rw [if_neg c9] at H
      have c9b0 : decide ((wrap64 (16 * a1)) ≤ ((rd_T74 l0 x16_2).f0)) = false := decide_eq_false c9
      clear c9
      have H' := Aside0.mk H
      clear H
      have p160 : 0 ≤ (x16_2 : Int) := od
      have q160 : x16_2 < (l0.length : Int) := od
      obtain ⟨ad160, e160, hx160_0, hx160_1⟩ := at_T74 HR0.out x16_2 p160 q160
      cases e160
      replace hx160_0 := bcell HB.out hx160_0
      replace hx160_1 := bcell HB.out hx160_1
      replace p160 := eq_true p160
      replace q160 := eq_true q160
      go_wp2_with (first | ((with_reducible refine gate_dst (N := 7) rfl ?_); refine bx 7 rfl rfl #[.int .i64 0, .int .i64 0] 74 ?_; intro gb161 hg w17 hbox hb; have BK161 := Aside0.mk (hbox); have GE161 := ge HB hg; replace HO_5 := Aside0.mk (Kd.R_below (Kd.R_elderB (iR HO_5) gb161 (Nat.le_of_eq hg.symm)) hb); replace HB := sb HB hb; clear hb hbox hg; obtain ⟨hcz18_0, hcz18_1, hfz18_0, hfz18_1⟩ := cf2 BK161.out))
      go_roundg k2
      case measure => have := HJ2.out; have := HK2.out; omega
      case rel => exact ⟨(x5_2), (wrap64 (x16_2 + 1)), rs, H', ⟨by have := HJ2.out; have := HK2.out; omega⟩, ⟨by (with_reducible repeat (first | apply Kd.R_alloc | apply Kd.R_drewN | apply Kd.R_drew)); exact Kd.R_mono (Kd.R_far (p := ⟨gb161, 1, none⟩) (Kd.R_far (p := ⟨gb161, 0, none⟩) (Kd.R_mono HO_5.out (fun k_ hk => (⟨hk, hk.2⟩ : _ ∧ k_ ≠ gb161))) (fun _ hk => hk.2) (.int .i64 ((rd_T74 l0 x16_2).f0))) (fun _ hk => hk.2) (.int .i64 ((rd_T74 l0 x16_2).f1))) (fun _ hk => trivial)⟩, ⟨bb HB⟩⟩
     rw [if_pos c9] at H
     have c9b0 : decide ((wrap64 (16 * a1)) ≤ ((rd_T74 l0 x16_2).f0)) = true := decide_eq_true c9
     clear c9
     by_cases c10 : ((rd_T74 l0 x16_2).f0) ≤ (wrap64 ((wrap64 (16 * a1)) + 15))
     rotate_left
     ·rw [if_neg c10] at H
      have c10b0 : decide (((rd_T74 l0 x16_2).f0) ≤ (wrap64 ((wrap64 (16 * a1)) + 15))) = false := decide_eq_false c10
      clear c10
      have H' := Aside0.mk H
      clear H
      have p160 : 0 ≤ (x16_2 : Int) := od
      have q160 : x16_2 < (l0.length : Int) := od
      obtain ⟨ad160, e160, hx160_0, hx160_1⟩ := at_T74 HR0.out x16_2 p160 q160
      cases e160
      replace hx160_0 := bcell HB.out hx160_0
      replace hx160_1 := bcell HB.out hx160_1
      replace p160 := eq_true p160
      replace q160 := eq_true q160
      go_wp2_with (first | ((with_reducible refine gate_dst (N := 7) rfl ?_); refine bx 7 rfl rfl #[.int .i64 0, .int .i64 0] 74 ?_; intro gb161 hg w15 hbox hb; have BK161 := Aside0.mk (hbox); have GE161 := ge HB hg; replace HO_5 := Aside0.mk (Kd.R_below (Kd.R_elderB (iR HO_5) gb161 (Nat.le_of_eq hg.symm)) hb); replace HB := sb HB hb; clear hb hbox hg; obtain ⟨hcz16_0, hcz16_1, hfz16_0, hfz16_1⟩ := cf2 BK161.out))
      go_roundg k2
      case measure => have := HJ2.out; have := HK2.out; omega
      case rel => exact ⟨(x5_2), (wrap64 (x16_2 + 1)), rs, H', ⟨by have := HJ2.out; have := HK2.out; omega⟩, ⟨by (with_reducible repeat (first | apply Kd.R_alloc | apply Kd.R_drewN | apply Kd.R_drew)); exact Kd.R_mono (Kd.R_far (p := ⟨gb161, 1, none⟩) (Kd.R_far (p := ⟨gb161, 0, none⟩) (Kd.R_mono HO_5.out (fun k_ hk => (⟨hk, hk.2⟩ : _ ∧ k_ ≠ gb161))) (fun _ hk => hk.2) (.int .i64 ((rd_T74 l0 x16_2).f0))) (fun _ hk => hk.2) (.int .i64 ((rd_T74 l0 x16_2).f1))) (fun _ hk => trivial)⟩, ⟨bb HB⟩⟩
     rw [if_pos c10] at H
     have c10b0 : decide (((rd_T74 l0 x16_2).f0) ≤ (wrap64 ((wrap64 (16 * a1)) + 15))) = true := decide_eq_true c10
     clear c10
     by_cases c11 : x5_2.length < 8796093022208
     rotate_left
     ·rw [if_neg c11] at H
      exact absurd H (by simp)
     rw [if_pos c11] at H
     have LMc11 := Aside0.mk c11
     clear c11
     obtain ⟨y162, hy162⟩ : ∃ y_ : List (S74), y_ = (x5_2 ++ [(⟨wrap64 (((rd_T74 l0 x16_2).f0) - (wrap64 (16 * a1))), (rd_T74 l0 x16_2).f1⟩ : S74)]) := ⟨_, rfl⟩
     replace H : (prod_Told.l0 k2 a1 y162 l0 (l0.length : Int) (wrap64 (x16_2 + 1))) = some r := by first | (rw [hy162]; with_reducible exact H) | (have H2_ := (Option.bind_some _ _).symm.trans H; rw [hy162]; with_reducible exact H2_) | (have H2_ := (Option.bind_some _ _).symm.trans H; with_reducible exact H2_) | with_reducible exact H | (rw [hy162]; exact H) | exact H
     have Ny162 := Aside0.mk hy162
     clear hy162
     have H' := Aside0.mk H
     clear H
     have p160 : 0 ≤ (x16_2 : Int) := od
     have q160 : x16_2 < (l0.length : Int) := od
     obtain ⟨ad160, e160, hx160_0, hx160_1⟩ := at_T74 HR0.out x16_2 p160 q160
     cases e160
     replace hx160_0 := bcell HB.out hx160_0
     replace hx160_1 := bcell HB.out hx160_1
     replace p160 := eq_true p160
     replace q160 := eq_true q160
     go_wp2_with (first | ((with_reducible refine gate_dst (N := 7) rfl ?_); refine bx 7 rfl rfl #[.int .i64 0, .int .i64 0] 74 ?_; intro gb161 hg w12 hbox hb; have BK161 := Aside0.mk (hbox); have GE161 := ge HB hg; replace HO_5 := Aside0.mk (Kd.R_below (Kd.R_elderB (iR HO_5) gb161 (Nat.le_of_eq hg.symm)) hb); replace HB := sb HB hb; clear hb hbox hg; obtain ⟨hcz13_0, hcz13_1, hfz13_0, hfz13_1⟩ := cf2 BK161.out) | ((with_reducible refine gate_builtin (b := .append) (xs := #[.tmp 33, .tmp 42]) rfl ?_); at_builtin; refine Kd.R_append k74 (w0 := w) w.heap.size rfl (.tmp 33) (.tmp 42) 37 74 (.agg #[(.int .i64 0), (.int .i64 0)]) 16 rfl Try.underlying37 info74 rfl (by decide) (by omega) u5 x5_2 (⟨wrap64 (((rd_T74 l0 x16_2).f0) - (wrap64 (16 * a1))), (rd_T74 l0 x16_2).f1⟩ : S74) [.int .i64 (wrap64 (((rd_T74 l0 x16_2).f0) - (wrap64 (16 * a1)))), .int .i64 ((rd_T74 l0 x16_2).f1)] (fun k_ => k_ ≠ gb161) (fun _ => False) rfl (by first | (go_simp; done) | (go_simp; rfl)) ?aP (fun _ hk => hk.elim) ?aF ?aO ?aB ?aS ?aL ?_; (case aP => exact k74_mkM _ _ _ (⟨wrap64 (((rd_T74 l0 x16_2).f0) - (wrap64 (16 * a1))), (rd_T74 l0 x16_2).f1⟩ : S74)); (case aB => exact (bb HB)); (case aF => exact (fun k_ hk => Kd.freshB (g := gb161) (o := .cells #[.int .i64 ((rd_T74 l0 x16_2).f0), .int .i64 ((rd_T74 l0 x16_2).f1)] 74 (0, 0)) (by (with_reducible repeat (first | refine kdN ?_ _ | refine kdr ?_ | refine kal ?_ _)); refine blk_put (cs := #[.int .i64 ((rd_T74 l0 x16_2).f0), .int .i64 0]) ?_ 1 _ rfl; (with_reducible repeat (first | refine kdN ?_ _ | refine kdr ?_ | refine kal ?_ _)); refine blk_put (cs := #[.int .i64 0, .int .i64 0]) ?_ 0 _ rfl; (with_reducible repeat (first | refine kdN ?_ _ | refine kdr ?_ | refine kal ?_ _)); exact BK161.out) k_ hk)); (case aO => exact (by (with_reducible repeat (first | apply Kd.R_alloc | apply Kd.R_drewN | apply Kd.R_drew)); exact Kd.R_mono (Kd.R_far (p := ⟨gb161, 1, none⟩) (Kd.R_far (p := ⟨gb161, 0, none⟩) (Kd.R_mono HO_5.out (fun k_ hk => (⟨hk, hk.2⟩ : _ ∧ k_ ≠ gb161))) (fun _ hk => hk.2) (.int .i64 ((rd_T74 l0 x16_2).f0))) (fun _ hk => hk.2) (.int .i64 ((rd_T74 l0 x16_2).f1))) (fun _ hk => hk.1.2))); (case aS => exact (bsz (bb HB))); (case aL => have := LMc11.out; omega); intro v163 w14 ho hb hg hat; rw [← Ny162.out] at ho; have HO164 := Aside0.mk (ho); replace BK161 := Aside0.mk (blk_grown (g := gb161) (o := .cells #[.int .i64 ((rd_T74 l0 x16_2).f0), .int .i64 ((rd_T74 l0 x16_2).f1)] 74 (0, 0)) (by (with_reducible repeat (first | refine kdN ?_ _ | refine kdr ?_ | refine kal ?_ _)); refine blk_put (cs := #[.int .i64 ((rd_T74 l0 x16_2).f0), .int .i64 0]) ?_ 1 _ rfl; (with_reducible repeat (first | refine kdN ?_ _ | refine kdr ?_ | refine kal ?_ _)); refine blk_put (cs := #[.int .i64 0, .int .i64 0]) ?_ 0 _ rfl; (with_reducible repeat (first | refine kdN ?_ _ | refine kdr ?_ | refine kal ?_ _)); exact BK161.out) hg (Kd.R_away HO_5.out (fun _ hk => hk.2))); replace HB := Aside0.mk (hb); clear HO_5; clear ho hb hg hat))
     go_roundg k2
     case measure => have := HJ2.out; have := HK2.out; omega
     case rel => exact ⟨(y162), (wrap64 (x16_2 + 1)), rs, H', ⟨by have := HJ2.out; have := HK2.out; omega⟩, ⟨by (with_reducible repeat (first | apply Kd.R_alloc | apply Kd.R_drewN | apply Kd.R_drew)); exact Kd.R_mono HO164.out (fun _ hk => trivial)⟩, ⟨bb HB⟩⟩
def r2_Of.f (a0 : Int) (l1 : List (S28)) : Option (Int × Int × Int × (List (S28))) := some (a0, 0, 0, l1)
theorem r2_Of.calls (a0 : Int) (P1_ : Nat → Prop) (A1 : Option Addr) (c1 : Nat) (l1 : List (S28)) (r1 : Int) (r2 : Int) (r3 : Int) (r4 : List (S28)) (w : World) (hs1 : Kd.V k28 28 w w.heap.size (fun k_ => P1_ k_) (.slice A1 l1.length c1) l1) (h : r2_Of.f a0 l1 = some (r1, r2, r3, r4)) :
  Calls Try.prog 42 #[.int .i64 a0, .slice A1 l1.length c1] w fun e w' => ∃ v3_ : Value, e = .returned (.agg #[.int .i64 r1, .int .i64 r2, .int .i64 r3, v3_]) ∧ Kd.V k28 28 w' w.heap.size (fun k_ => (P1_ k_ ∨ w.heap.size ≤ k_)) v3_ r4 ∧ Below w.heap.size w w' := by
 have hu28 := Try.underlying28
 have HO1 := Aside0.mk (show Kd.V k28 28 w w.heap.size (fun k_ => (P1_ k_ ∨ w.heap.size ≤ k_)) (.slice A1 l1.length c1) l1 from Kd.V_mono hs1 (fun k_ hk => .inl hk))
 have HB := Aside0.mk (Below.refl w.heap.size w)
 have H : (some (a0, 0, 0, l1)) = some (r1, r2, r3, r4) := h
 clear h
 simp only [Option.some.injEq, Prod.mk.injEq] at H
 obtain ⟨rfl, rfl, rfl, rfl⟩ := H
 go_enter Try.func42, Try.ntmps42
 go_wp2_with (first | ((with_reducible refine gate_dst (N := 4) rfl ?_); refine bx 4 rfl rfl #[.int .i64 0, .int .i64 0, .int .i64 0, .slice none 0 0] 28 ?_; intro gb248 hg w3 hbox hb; have BK248 := Aside0.mk (hbox); have GE248 := ge HB hg; replace HO1 := Aside0.mk (Kd.V_below (Kd.V_elderB (by (with_reducible repeat (first | apply Kd.V_alloc | apply Kd.V_drewN | apply Kd.V_drew)); exact HO1.out) gb248 (Nat.le_of_eq hg.symm)) hb); replace HB := sb HB hb; clear hb hbox hg; obtain ⟨hcz4_0, hcz4_1, hcz4_2, hcz4_3, hfz4_0, hfz4_1, hfz4_2, hfz4_3⟩ := cf4 BK248.out))
 refine bodyPost_ret (results_cell_row rfl _ _ gb248 28 #[.int .i64 a0, .int .i64 0, .int .i64 0, .slice A1 l1.length c1] (0, 0) _ rfl (by (with_reducible repeat (first | refine kdN ?_ _ | refine kdr ?_ | refine kal ?_ _)); refine blk_put (cs := #[.int .i64 a0, .int .i64 0, .int .i64 0, .slice none 0 0]) ?_ 3 _ rfl; (with_reducible repeat (first | refine kdN ?_ _ | refine kdr ?_ | refine kal ?_ _)); refine blk_put (cs := #[.int .i64 a0, .int .i64 0, .int .i64 0, .slice none 0 0]) ?_ 2 _ rfl; (with_reducible repeat (first | refine kdN ?_ _ | refine kdr ?_ | refine kal ?_ _)); refine blk_put (cs := #[.int .i64 a0, .int .i64 0, .int .i64 0, .slice none 0 0]) ?_ 1 _ rfl; (with_reducible repeat (first | refine kdN ?_ _ | refine kdr ?_ | refine kal ?_ _)); refine blk_put (cs := #[.int .i64 0, .int .i64 0, .int .i64 0, .slice none 0 0]) ?_ 0 _ rfl; (with_reducible repeat (first | refine kdN ?_ _ | refine kdr ?_ | refine kal ?_ _)); exact BK248.out) Try.underlying28 rfl (by kernel_rfl)) rfl ?_
 exact ⟨_, rr, by (with_reducible repeat (first | apply Kd.V_alloc | apply Kd.V_drewN | apply Kd.V_drew)); exact Kd.V_mono (Kd.V_far (p := ⟨gb248, 3, none⟩) (Kd.V_far (p := ⟨gb248, 2, none⟩) (Kd.V_far (p := ⟨gb248, 1, none⟩) (Kd.V_far (p := ⟨gb248, 0, none⟩) (Kd.V_mono HO1.out (fun k_ hk => (⟨hk, hk.2⟩ : _ ∧ k_ ≠ gb248))) (fun _ hk => hk.2) (.int .i64 a0)) (fun _ hk => hk.2) (.int .i64 0)) (fun _ hk => hk.2) (.int .i64 0)) (fun _ hk => hk.2) (.slice A1 l1.length c1)) (fun _ hk => hk.1.1), bb HB⟩
def r2_Read.f (a0 : Int) (a1 : Int) : Option (Int × Int × Int × (List (S28))) := some (1, a0, a1, ([] : List (S28)))
theorem r2_Read.calls (a0 : Int) (a1 : Int) (r1 : Int) (r2 : Int) (r3 : Int) (r4 : List (S28)) (w : World) (h : r2_Read.f a0 a1 = some (r1, r2, r3, r4)) :
  Calls Try.prog 41 #[.int .i64 a0, .int .i64 a1] w fun e w' => ∃ v3_ : Value, e = .returned (.agg #[.int .i64 r1, .int .i64 r2, .int .i64 r3, v3_]) ∧ Kd.R k28 28 w' w.heap.size (fun _ => True) v3_ r4 ∧ Below w.heap.size w w' := by
 have hu28 := Try.underlying28
 have HB := Aside0.mk (Below.refl w.heap.size w)
 have H : (some (1, a0, a1, ([] : List (S28)))) = some (r1, r2, r3, r4) := h
 clear h
 simp only [Option.some.injEq, Prod.mk.injEq] at H
 obtain ⟨rfl, rfl, rfl, rfl⟩ := H
 go_enter Try.func41, Try.ntmps41
 go_wp2_with (first | ((with_reducible refine gate_dst (N := 4) rfl ?_); refine bx 4 rfl rfl #[.int .i64 0, .int .i64 0, .int .i64 0, .slice none 0 0] 28 ?_; intro gb247 hg w3 hbox hb; have BK247 := Aside0.mk (hbox); have GE247 := ge HB hg; replace HB := sb HB hb; clear hb hbox hg; obtain ⟨hcz4_0, hcz4_1, hcz4_2, hcz4_3, hfz4_0, hfz4_1, hfz4_2, hfz4_3⟩ := cf4 BK247.out))
 refine bodyPost_ret (results_cell_row rfl _ _ gb247 28 #[.int .i64 1, .int .i64 a0, .int .i64 a1, .slice none 0 0] (0, 0) _ rfl (by (with_reducible repeat (first | refine kdN ?_ _ | refine kdr ?_ | refine kal ?_ _)); refine blk_put (cs := #[.int .i64 1, .int .i64 a0, .int .i64 a1, .slice none 0 0]) ?_ 3 _ rfl; (with_reducible repeat (first | refine kdN ?_ _ | refine kdr ?_ | refine kal ?_ _)); refine blk_put (cs := #[.int .i64 1, .int .i64 a0, .int .i64 0, .slice none 0 0]) ?_ 2 _ rfl; (with_reducible repeat (first | refine kdN ?_ _ | refine kdr ?_ | refine kal ?_ _)); refine blk_put (cs := #[.int .i64 1, .int .i64 0, .int .i64 0, .slice none 0 0]) ?_ 1 _ rfl; (with_reducible repeat (first | refine kdN ?_ _ | refine kdr ?_ | refine kal ?_ _)); refine blk_put (cs := #[.int .i64 0, .int .i64 0, .int .i64 0, .slice none 0 0]) ?_ 0 _ rfl; (with_reducible repeat (first | refine kdN ?_ _ | refine kdr ?_ | refine kal ?_ _)); exact BK247.out) Try.underlying28 rfl (by kernel_rfl)) rfl ?_
 exact ⟨_, rr, by first | exact Kd.R_nil _ _ _ _ _ | exact Kd.N_nil _ _ _ _ _ | exact Kd.V_nil _ _ _ _ _ | exact Kd.Q_nil _ _ _ _ _ | exact Kd.S_nil _ _ _ _ _, bb HB⟩
theorem eqA74 (d : Nat) (w : World) (x0 y0 : Int) (x1 y1 : Int) :
  (Op.equalIn (d + 2) 74 (.agg #[.int .i64 x0, .int .i64 x1]) (.agg #[.int .i64 y0, .int .i64 y1])).run Try.prog w = .ok (x0 == y0 && (x1 == y1)) w := by
 refine eqA_of Try.underlying74 (by kernel_rfl) ?_
 refine eqf_cons (by rfl) (by go_simp; rfl) (by go_simp; rfl) (by go_simp) ?_
 exact eqf_last (by rfl) (by go_simp; rfl) (by go_simp; rfl) (by go_simp)
end Go.Proofs.Ytilebfkehmecaaa.Print
namespace Go.Proofs.Ytilebfkehmecaaa.Print
open Go.RowKit Go.Proofs.YtilebfkehmecaaaW.PrintWords Go.Proofs.YtilebfkehmecaaaW.PrintLast Go.Proofs.YtilebfkehmecaaaW.PrintMore
attribute [local go_sem] max2_int min2_int max_two min_two max_three min_three max_four min_four
set_option linter.unusedVariables false
set_option linter.unusedSimpArgs false
attribute [local go_sem high] eqA74
def r5_Outs.l0 : Nat → List (S74) → List (S74) → Int → Option (Bool)
 | 0, _, _, _ => none
 | k + 1, x0, x1, x5 => if x5 < (x0.length : Int) then (if 0 ≤ x5 then (if x5 < (x1.length : Int) then (if (!(((rd_T74 x0 x5).f0) == ((rd_T74 x1 x5).f0)) || (!(((rd_T74 x0 x5).f1) == ((rd_T74 x1 x5).f1)))) = true then (some false) else (r5_Outs.l0 k x0 x1 (wrap64 (x5 + 1)))) else (none)) else (none)) else (some true)
def r5_Outs.f (k : Nat) (l0 : List (S74)) (l1 : List (S74)) : Option (Bool) := if (l0.length : Int) = (l1.length : Int) then (r5_Outs.l0 k l0 l1 0) else (some false)
theorem r5_Outs.calls (k : Nat) (A0 : Option Addr) (c0 : Nat) (l0 : List (S74)) (A1 : Option Addr) (c1 : Nat) (l1 : List (S74)) (r : Bool) (w : World) (hr0 : Kd.C k74 w A0 l0.length l0) (hc0 : l0.length ≤ c0) (hr1 : Kd.C k74 w A1 l1.length l1) (hc1 : l1.length ≤ c1) (h : r5_Outs.f k l0 l1 = some r) :
  Calls Try.prog 15 #[.slice A0 l0.length c0, .slice A1 l1.length c1] w fun e w' => e = .returned (.bool r) ∧ Drawn0 w w' := by
 have hu74 := Try.underlying74
 have HR0 := Aside0.mk hr0
 have HC0 := Aside0.mk hc0
 clear hr0 hc0
 have HR1 := Aside0.mk hr1
 have HC1 := Aside0.mk hc1
 clear hr1 hc1
 have H : (if (l0.length : Int) = (l1.length : Int) then (r5_Outs.l0 k l0 l1 0) else (some false)) = some r := h
 clear h
 by_cases c3 : (l0.length : Int) = (l1.length : Int)
 rotate_left
 ·rw [if_neg c3] at H
  have c3b0 : ((l0.length : Int) == (l1.length : Int)) = false := beq_eq_false_iff_ne.mpr c3
  have c3b1 : ((l0.length : Int) != (l1.length : Int)) = true := bne_iff_ne.mpr c3
  have c3b2 : (l0.length == l1.length) = false := by first | simpa using c3 | (simp at c3 ⊢; omega)
  obtain rfl := Option.some.inj H
  go_enter Try.func15, Try.ntmps15
  go_wp2
  repeat (go_quiet (fail); try go_wp2)
  go_ret
  exact ⟨rs, dr⟩
 rw [if_pos c3] at H
 have c3b0 : ((l0.length : Int) == (l1.length : Int)) = true := beq_iff_eq.mpr c3
 have c3b1 : ((l0.length : Int) != (l1.length : Int)) = false := bne_eq_false_iff_eq.mpr c3
 have c3b2 : (l0.length == l1.length) = true := by first | simpa using c3 | (simp at c3 ⊢; omega)
 clear c3
 have H' := Aside0.mk H
 clear H
 go_enter Try.func15, Try.ntmps15
 go_wp2
 repeat (go_quiet (fail); try go_wp2)
 go_loopg [5] k (fun kq v5 w' => ∃ (x5_1 : Int), v5 = .int .i64 x5_1 ∧ Aside0 (r5_Outs.l0 kq l0 l1 x5_1 = some r) ∧ Aside0 (kq ≤ k) ∧ Drawn0 w w')
 case atStart => exact ⟨(0), rs, H', ⟨Nat.le_refl _⟩, dr⟩
 case round =>
  clear H'
  try clear c1
  try clear p2
  try clear c3
  try clear c3b0
  try clear c3b1
  try clear c3b2
  obtain ⟨x5_1, rfl, HA, HK1, ⟨m1, rfl⟩⟩ := hrel
  cases gk with
  | zero => exact absurd HA.out (by simp [r5_Outs.l0])
  | succ k1 =>
   have H := HA.out
   clear HA
   simp only [r5_Outs.l0] at H
   by_cases c4 : x5_1 < (l0.length : Int)
   rotate_left
   ·rw [if_neg c4] at H
    have c4b0 : decide (x5_1 < (l0.length : Int)) = false := decide_eq_false c4
    clear c4
    obtain rfl := Option.some.inj H
    go_wp2
    repeat (go_quiet (fail); try go_wp2)
    go_ret
    exact ⟨rs, dr⟩
   rw [if_pos c4] at H
   have c4b0 : decide (x5_1 < (l0.length : Int)) = true := decide_eq_true c4
   clear c4
   by_cases c5 : 0 ≤ x5_1
   rotate_left
   ·rw [if_neg c5] at H
    exact absurd H (by simp)
   rw [if_pos c5] at H
   have c5b0 : decide (0 ≤ x5_1) = true := decide_eq_true c5
   clear c5
   by_cases c6 : x5_1 < (l1.length : Int)
   rotate_left
   ·rw [if_neg c6] at H
    exact absurd H (by simp)
   rw [if_pos c6] at H
   have c6b0 : decide (x5_1 < (l1.length : Int)) = true := decide_eq_true c6
   clear c6
   by_cases c7 : (!(((rd_T74 l0 x5_1).f0) == ((rd_T74 l1 x5_1).f0)) || (!(((rd_T74 l0 x5_1).f1) == ((rd_T74 l1 x5_1).f1)))) = true
   ·rw [if_pos c7] at H
    have c7b0 : (!(((rd_T74 l0 x5_1).f0) == ((rd_T74 l1 x5_1).f0)) || (!(((rd_T74 l0 x5_1).f1) == ((rd_T74 l1 x5_1).f1)))) = true := c7
    clear c7
    obtain rfl := Option.some.inj H
    have p158 : 0 ≤ (x5_1 : Int) := od
    have q158 : x5_1 < (l0.length : Int) := od
    obtain ⟨ad158, e158, hx158_0, hx158_1⟩ := at_T74 HR0.out x5_1 p158 q158
    cases e158
    replace p158 := eq_true p158
    replace q158 := eq_true q158
    have p159 : 0 ≤ (x5_1 : Int) := od
    have q159 : x5_1 < (l1.length : Int) := od
    obtain ⟨ad159, e159, hx159_0, hx159_1⟩ := at_T74 HR1.out x5_1 p159 q159
    cases e159
    replace p159 := eq_true p159
    replace q159 := eq_true q159
    go_wp2
    repeat (go_quiet (fail); try go_wp2)
    go_ret
    exact ⟨rs, dr⟩
   rw [if_neg c7] at H
   have c7b0 : (!(((rd_T74 l0 x5_1).f0) == ((rd_T74 l1 x5_1).f0)) || (!(((rd_T74 l0 x5_1).f1) == ((rd_T74 l1 x5_1).f1)))) = false := by simpa using c7
   clear c7
   have H' := Aside0.mk H
   clear H
   have p158 : 0 ≤ (x5_1 : Int) := od
   have q158 : x5_1 < (l0.length : Int) := od
   obtain ⟨ad158, e158, hx158_0, hx158_1⟩ := at_T74 HR0.out x5_1 p158 q158
   cases e158
   replace p158 := eq_true p158
   replace q158 := eq_true q158
   have p159 : 0 ≤ (x5_1 : Int) := od
   have q159 : x5_1 < (l1.length : Int) := od
   obtain ⟨ad159, e159, hx159_0, hx159_1⟩ := at_T74 HR1.out x5_1 p159 q159
   cases e159
   replace p159 := eq_true p159
   replace q159 := eq_true q159
   go_wp2
   repeat (go_quiet (fail); try go_wp2)
   go_roundg k1
   case measure => have := HK1.out; omega
   case rel => exact ⟨(wrap64 (x5_1 + 1)), rs, H', ⟨by have := HK1.out; omega⟩, dr⟩
end Go.Proofs.Ytilebfkehmecaaa.Print
namespace Go.Proofs.Ytilebfkehmecaaa.Print
open Go.RowKit Go.Proofs.YtilebfkehmecaaaW.PrintWords Go.Proofs.YtilebfkehmecaaaW.PrintLast Go.Proofs.YtilebfkehmecaaaW.PrintMore
attribute [local go_sem] max2_int min2_int max_two min_two max_three min_three max_four min_four
set_option linter.unusedVariables false
set_option linter.unusedSimpArgs false
def aw_r (a b : Int) : S28 := ⟨1, a, b, []⟩
def aw_vars : List S66 := [⟨⟨#[104]⟩, 1, 1⟩, ⟨⟨#[108]⟩, 0, 1⟩]
def aw_body : List S64 := [⟨0, 0, [aw_r 1 0], [], []⟩, ⟨3, 2, [aw_r 0 0], [], []⟩]
def aw_qv : List S66 := [⟨⟨#[104, 95, 48]⟩, 1, 1⟩, ⟨⟨#[108, 95, 48]⟩, 0, 1⟩, ⟨⟨#[104, 95, 49]⟩, 17, 1⟩, ⟨⟨#[108, 95, 49]⟩, 16, 1⟩]
def aw_qb : List S64 := [⟨0, 0, [aw_r 1 0], [], []⟩, ⟨3, 2, [aw_r 0 0], [], []⟩, ⟨0, 2, [aw_r 3 0], [], []⟩, ⟨3, 18, [aw_r 2 0], [], []⟩]
theorem aw_read (a b : Int) : r2_Read.f a b = some (1, a, b, []) := rfl
theorem aw_of : r2_Of.f 13 [aw_r 0 0, aw_r 1 1] = some (13, 0, 0, [aw_r 0 0, aw_r 1 1]) := by kernel_rfl
theorem aw_of2 : r2_Of.f 13 [aw_r 0 0, aw_r 3 0] = some (13, 0, 0, [aw_r 0 0, aw_r 3 0]) := by kernel_rfl
theorem aw_self : prod_Self.f 60 2 aw_vars aw_body 2 = some (2, aw_qv, aw_qb, 0) := by kernel_rfl
theorem aw_plain : prod_Plain.f 60 2 aw_vars aw_body 2 13 0 0 [aw_r 0 0, aw_r 1 1] = some (13, 0, 0, [aw_r 0 0, aw_r 3 0], 0) := by kernel_rfl
theorem aw_join : prod_Join.f 60 2 aw_vars aw_body [[1, 2], [3, 0]] = some ([1, 2, 3, 0], 0) := by kernel_rfl
theorem aw_copy : prod_Copy.f 60 2 aw_vars aw_body 3 = some (0, [], [], 1) := by kernel_rfl
theorem aw_told : prod_Told.f 60 [⟨17, 3⟩, ⟨1, 2⟩] 1 = some [⟨1, 3⟩] := by kernel_rfl
theorem aw_sameE : r2_Same.f 60 13 0 0 [aw_r 0 0, aw_r 3 0] 13 0 0 [aw_r 0 0, aw_r 3 0] = some true := by kernel_rfl
theorem aw_sameI : r1_Same.f 60 [1, 2, 3, 0] [1, 2, 3, 0] = some true := by kernel_rfl
theorem aw_outs : r5_Outs.f 60 [⟨1, 3⟩] [⟨1, 3⟩] = some true := by kernel_rfl
end Go.Proofs.Ytilebfkehmecaaa.Print
namespace Go.Proofs.Ytilebfkehmecaaa.Print
open Go.RowKit Go.Proofs.YtilebfkehmecaaaW.PrintWords Go.Proofs.YtilebfkehmecaaaW.PrintLast Go.Proofs.YtilebfkehmecaaaW.PrintMore
attribute [local go_sem] max2_int min2_int max_two min_two max_three min_three max_four min_four
set_option linter.unusedVariables false
set_option linter.unusedSimpArgs false
open Go.Shelf Go.RowKit
attribute [local go_sem] Oper.semAt_some
attribute [local go_sem high] eqA66
theorem aw_nil (W : World) (A : Option Addr) : Kd.C k28 W A ([] : List S28).length [] := Kd.F_now (F_zero (W := W) A (fun _ => True))
theorem aw_nilS (W : World) (A : Option Addr) : Kd.C k64 W A ([] : List S64).length [] := Kd.F_now (F_zero (W := W) A (fun _ => True))
theorem each1' {α : Type} {Q : α → List Value → Prop} {x : α} {c : List Value} (h : Q x c) : ∀ (j : Nat) (y : α) (d : List Value), [x][j]? = some y → [c][j]? = some d → Q y d := by
  intro j y d hy hd
  match j with
  | 0 => simp at hy hd; subst hy; subst hd; exact h
  | j + 1 => simp at hy
theorem each2' {α : Type} {Q : α → List Value → Prop} {x1 x2 : α} {c1 c2 : List Value} (h1 : Q x1 c1) (h2 : Q x2 c2) : ∀ (j : Nat) (y : α) (d : List Value), [x1, x2][j]? = some y → [c1, c2][j]? = some d → Q y d := by
  intro j y d hy hd
  match j with
  | 0 => simp at hy hd; subst hy; subst hd; exact h1
  | 1 => simp at hy hd; subst hy; subst hd; exact h2
  | j + 2 => simp at hy
theorem each4' {α : Type} {Q : α → List Value → Prop} {x1 x2 x3 x4 : α} {c1 c2 c3 c4 : List Value} (h1 : Q x1 c1) (h2 : Q x2 c2) (h3 : Q x3 c3) (h4 : Q x4 c4) : ∀ (j : Nat) (y : α) (d : List Value), [x1, x2, x3, x4][j]? = some y → [c1, c2, c3, c4][j]? = some d → Q y d := by
  intro j y d hy hd
  match j with
  | 0 => simp at hy hd; subst hy; subst hd; exact h1
  | 1 => simp at hy hd; subst hy; subst hd; exact h2
  | 2 => simp at hy hd; subst hy; subst hd; exact h3
  | 3 => simp at hy hd; subst hy; subst hd; exact h4
  | j + 4 => simp at hy
theorem aw_row2 (W : World) (m1 n1 m2 n2 : Int) (Ea : Option Addr) (fa : Nat) (Eb : Option Addr) (fb : Nat) : Kd.V k28 28 (W.alloc (.cells #[.int .i64 1, .int .i64 m1, .int .i64 n1, .slice Ea 0 fa, .int .i64 1, .int .i64 m2, .int .i64 n2, .slice Eb 0 fb] 28)) 0 (fun _ => True) (.slice (some ⟨W.heap.size, 0, none⟩) [aw_r m1 n1, aw_r m2 n2].length 2) [aw_r m1 n1, aw_r m2 n2] := by
  obtain ⟨A, e1, hf⟩ := (IsRow.new (d := k28) (B := 0) (e := 28) (W := W) (l := [aw_r m1 n1, aw_r m2 n2]) (Nat.zero_le _) [[.int .i64 1, .int .i64 m1, .int .i64 n1, .slice Ea 0 fa], [.int .i64 1, .int .i64 m2, .int .i64 n2, .slice Eb 0 fb]] rfl rfl (by simp)
    (each2' (Q := fun x c => Kd.FK k28 W (fun k => 0 ≤ k ∧ k < W.heap.size) x c) (k28_mkF W _ (aw_r m1 n1) (Nat.zero_le _) (F_zero Ea _)) (k28_mkF W _ (aw_r m2 n2) (Nat.zero_le _) (F_zero Eb _)))).foot
  cases e1
  exact Kd.V_mk (Nat.le_refl _) (Kd.F_mono hf (fun _ _ => trivial))
theorem aw_int2 {W : World} {b : Nat} {m n : Int} (h : W.heap[b]? = some (.cells #[.int .i64 m, .int .i64 n] 3 (0, 0))) : Kd.C (Kd.int .i64) W (some ⟨b, 0, none⟩) [m, n].length [m, n] := C_of_row (css := [[.int .i64 m], [.int .i64 n]]) h rfl (by simp) (each2' rfl rfl)
theorem aw_w7 (W : World) : Kd.C (Kd.slice 3 (Kd.int .i64)) (((W.alloc (.cells #[.int .i64 1, .int .i64 2] 3)).alloc (.cells #[.int .i64 3, .int .i64 0] 3)).alloc (.cells #[.slice (some ⟨W.heap.size, 0, none⟩) 2 2, .slice (some ⟨W.heap.size + 1, 0, none⟩) 2 2] 45)) (some ⟨W.heap.size + 1 + 1, 0, none⟩) [[1, 2], [3, 0]].length [[1, 2], [3, 0]] ∧ Below W.heap.size W (((W.alloc (.cells #[.int .i64 1, .int .i64 2] 3)).alloc (.cells #[.int .i64 3, .int .i64 0] 3)).alloc (.cells #[.slice (some ⟨W.heap.size, 0, none⟩) 2 2, .slice (some ⟨W.heap.size + 1, 0, none⟩) 2 2] 45)) := by
  have h1 : (((W.alloc (.cells #[.int .i64 1, .int .i64 2] 3)).alloc (.cells #[.int .i64 3, .int .i64 0] 3)).alloc (.cells #[.slice (some ⟨W.heap.size, 0, none⟩) 2 2, .slice (some ⟨W.heap.size + 1, 0, none⟩) 2 2] 45)).heap[W.heap.size]? = some (.cells #[.int .i64 1, .int .i64 2] 3 (0, 0)) := kal (kal (blk_new _ _) _) _
  have h2 : (((W.alloc (.cells #[.int .i64 1, .int .i64 2] 3)).alloc (.cells #[.int .i64 3, .int .i64 0] 3)).alloc (.cells #[.slice (some ⟨W.heap.size, 0, none⟩) 2 2, .slice (some ⟨W.heap.size + 1, 0, none⟩) 2 2] 45)).heap[W.heap.size + 1]? = some (.cells #[.int .i64 3, .int .i64 0] 3 (0, 0)) := by
    have e : (W.alloc (.cells #[.int .i64 1, .int .i64 2] 3)).heap.size = W.heap.size + 1 := by simp
    rw [← e]
    exact kal (blk_new _ _) _
  have h3 : (((W.alloc (.cells #[.int .i64 1, .int .i64 2] 3)).alloc (.cells #[.int .i64 3, .int .i64 0] 3)).alloc (.cells #[.slice (some ⟨W.heap.size, 0, none⟩) 2 2, .slice (some ⟨W.heap.size + 1, 0, none⟩) 2 2] 45)).heap[W.heap.size + 1 + 1]? = some (.cells #[.slice (some ⟨W.heap.size, 0, none⟩) 2 2, .slice (some ⟨W.heap.size + 1, 0, none⟩) 2 2] 45 (0, 0)) := by
    have e : ((W.alloc (.cells #[.int .i64 1, .int .i64 2] 3)).alloc (.cells #[.int .i64 3, .int .i64 0] 3)).heap.size = W.heap.size + 1 + 1 := by simp
    rw [← e]
    exact blk_new _ _
  refine ⟨C_of_row (css := [[.slice (some ⟨W.heap.size, 0, none⟩) 2 2], [.slice (some ⟨W.heap.size + 1, 0, none⟩) 2 2]]) h3 rfl (by decide) (each2' ⟨_, _, rfl, by decide, aw_int2 h1⟩ ⟨_, _, rfl, by decide, aw_int2 h2⟩), bal (bal (bal (Below.refl _ _) _) _) _⟩
theorem aw_outs2 (W : World) (A9 : Option Addr) (c9 : Nat) (A10 : Option Addr) (c10 : Nat) : Kd.C k74 ((W.alloc (.cells #[.int .i64 0, .slice A9 0 c9, .slice A10 0 c10] 25)).alloc (.cells #[.int .i64 17, .int .i64 3, .int .i64 1, .int .i64 2] 74)) (some ⟨W.heap.size + 1, 0, none⟩) [(⟨17, 3⟩ : S74), ⟨1, 2⟩].length [⟨17, 3⟩, ⟨1, 2⟩] := by
  have e : (W.alloc (.cells #[.int .i64 0, .slice A9 0 c9, .slice A10 0 c10] 25)).heap.size = W.heap.size + 1 := by simp
  rw [← e]
  exact C_of_row (css := [[.int .i64 17, .int .i64 3], [.int .i64 1, .int .i64 2]]) (blk_new _ _) rfl (by decide) (each2' (k74_mk _ _) (k74_mk _ _))
theorem aw_int4 {W : World} {b : Nat} {m n o p : Int} (h : W.heap[b]? = some (.cells #[.int .i64 m, .int .i64 n, .int .i64 o, .int .i64 p] 3 (0, 0))) : Kd.C (Kd.int .i64) W (some ⟨b, 0, none⟩) [m, n, o, p].length [m, n, o, p] := C_of_row (css := [[.int .i64 m], [.int .i64 n], [.int .i64 o], [.int .i64 p]]) h rfl (by simp) (each4' rfl rfl rfl rfl)
theorem aw_out1 {W : World} {b : Nat} (h : W.heap[b]? = some (.cells #[.int .i64 1, .int .i64 3] 74 (0, 0))) : Kd.C k74 W (some ⟨b, 0, none⟩) [(⟨1, 3⟩ : S74)].length [⟨1, 3⟩] := C_of_row (css := [[.int .i64 1, .int .i64 3]]) h rfl (by simp) (each1' (k74_mk W (⟨1, 3⟩ : S74)))
theorem aw_cv {W : World} {b : Nat} (h : W.heap[b]? = some (.cells #[.string ⟨#[104]⟩, .int .i64 1, .int .i64 1, .string ⟨#[108]⟩, .int .i64 0, .int .i64 1] 66 (0, 0))) : Kd.C k66 W (some ⟨b, 0, none⟩) aw_vars.length aw_vars :=
  C_of_row (css := [[.string ⟨#[104]⟩, .int .i64 1, .int .i64 1], [.string ⟨#[108]⟩, .int .i64 0, .int .i64 1]]) h rfl (by decide) (each2' (k66_mk W _) (k66_mk W _))
theorem aw_cx {W : World} {b : Nat} {m n : Int} {A : Option Addr} {c : Nat} (h : W.heap[b]? = some (.cells #[.int .i64 1, .int .i64 m, .int .i64 n, .slice A 0 c] 28 (0, 0))) : Kd.C k28 W (some ⟨b, 0, none⟩) [aw_r m n].length [aw_r m n] :=
  C_of_row (css := [[.int .i64 1, .int .i64 m, .int .i64 n, .slice A 0 c]]) h rfl (by simp) (each1' (k28_mk W (aw_r m n) (Nat.zero_le _) (aw_nil W A)))
theorem aw_cb {W : World} {b1 b2 b3 : Nat} {E1 E2 : Option Addr} {f1 f2 : Nat} (h1 : W.heap[b1]? = some (.cells #[.int .i64 1, .int .i64 1, .int .i64 0, .slice E1 0 f1] 28 (0, 0))) (h2 : W.heap[b2]? = some (.cells #[.int .i64 1, .int .i64 0, .int .i64 0, .slice E2 0 f2] 28 (0, 0)))
    (h3 : W.heap[b3]? = some (.cells #[.int .i64 0, .int .i64 0, .slice (some ⟨b1, 0, none⟩) 1 1, .slice none 0 0, .slice none 0 0, .int .i64 3, .int .i64 2, .slice (some ⟨b2, 0, none⟩) 1 1, .slice none 0 0, .slice none 0 0] 64 (0, 0))) : Kd.C k64 W (some ⟨b3, 0, none⟩) aw_body.length aw_body :=
  C_of_row (css := [[.int .i64 0, .int .i64 0, .slice (some ⟨b1, 0, none⟩) 1 1, .slice none 0 0, .slice none 0 0], [.int .i64 3, .int .i64 2, .slice (some ⟨b2, 0, none⟩) 1 1, .slice none 0 0, .slice none 0 0]]) h3 rfl (by decide)
    (each2' (k64_mk W (⟨0, 0, [aw_r 1 0], [], []⟩ : S64) (by decide) (aw_cx h1) (Nat.le_refl _) (aw_nilS W _) (Nat.le_refl _) (aw_nilS W _)) (k64_mk W (⟨3, 2, [aw_r 0 0], [], []⟩ : S64) (by decide) (aw_cx h2) (Nat.le_refl _) (aw_nilS W _) (Nat.le_refl _) (aw_nilS W _)))
theorem aw_w3 (W2 : World) (E2 : Option Addr) (f2 b1 bv : Nat) : let W := ((W2.alloc (.cells #[.int .i64 1, .int .i64 0, .int .i64 0, .slice E2 0 f2] 28)).alloc (.cells #[.int .i64 0, .int .i64 0, .slice (some ⟨b1, 0, none⟩) 1 1, .slice none 0 0, .slice none 0 0, .int .i64 3, .int .i64 2, .slice (some ⟨W2.heap.size, 0, none⟩) 1 1, .slice none 0 0, .slice none 0 0] 64)).alloc (.cells #[.int .i64 2, .slice (some ⟨bv, 0, none⟩) 2 2, .slice (some ⟨W2.heap.size + 1, 0, none⟩) 2 2] 25)
    W.heap[W2.heap.size]? = some (.cells #[.int .i64 1, .int .i64 0, .int .i64 0, .slice E2 0 f2] 28 (0, 0)) ∧ W.heap[W2.heap.size + 1]? = some (.cells #[.int .i64 0, .int .i64 0, .slice (some ⟨b1, 0, none⟩) 1 1, .slice none 0 0, .slice none 0 0, .int .i64 3, .int .i64 2, .slice (some ⟨W2.heap.size, 0, none⟩) 1 1, .slice none 0 0, .slice none 0 0] 64 (0, 0)) ∧
    W.heap[W2.heap.size + 1 + 1]? = some (.cells #[.int .i64 2, .slice (some ⟨bv, 0, none⟩) 2 2, .slice (some ⟨W2.heap.size + 1, 0, none⟩) 2 2] 25 (0, 0)) ∧ Below W2.heap.size W2 W := by
  intro W
  refine ⟨kal (kal (blk_new _ _) _) _, kal ?_ _, ?_, bal (bal (bal (Below.refl _ _) _) _) _⟩
  · have := blk_new (W2.alloc (.cells #[.int .i64 1, .int .i64 0, .int .i64 0, .slice E2 0 f2] 28)) (.cells #[.int .i64 0, .int .i64 0, .slice (some ⟨b1, 0, none⟩) 1 1, .slice none 0 0, .slice none 0 0, .int .i64 3, .int .i64 2, .slice (some ⟨W2.heap.size, 0, none⟩) 1 1, .slice none 0 0, .slice none 0 0] 64)
    simpa using this
  · have e : ((W2.alloc (.cells #[.int .i64 1, .int .i64 0, .int .i64 0, .slice E2 0 f2] 28)).alloc (.cells #[.int .i64 0, .int .i64 0, .slice (some ⟨b1, 0, none⟩) 1 1, .slice none 0 0, .slice none 0 0, .int .i64 3, .int .i64 2, .slice (some ⟨W2.heap.size, 0, none⟩) 1 1, .slice none 0 0, .slice none 0 0] 64)).heap.size = W2.heap.size + 1 + 1 := by simp
    rw [← e]
    exact blk_new _ _
def w12_awake.f (_ : Nat) : Option Bool := some true
theorem w12_awake.calls (k : Nat) (r : Bool) (w : World) (h : w12_awake.f k = some r) : Calls Try.prog 11 #[] w fun e w' => e = .returned (.bool r) ∧ Below w.heap.size w w' := by
  obtain rfl := Option.some.inj h
  clear h
  have huP := Try.underlying25
  have huS := Try.underlying64
  have huE := Try.underlying28
  have huV := Try.underlying66
  go_enter Try.func11, Try.ntmps11
  go_wp2_with (first | (go_at_call 41; refine (r2_Read.calls 1 0 1 1 0 [] (w.alloc (.cells #[.string ⟨#[104]⟩, .int .i64 1, .int .i64 1, .string ⟨#[108]⟩, .int .i64 0, .int .i64 1] 66)) (aw_read 1 0)).mono ?_; rintro e W1 ⟨v, rfl, o_, hb_⟩; obtain ⟨E1, f1, e_⟩ := Kd.R_slice o_; subst e_; have V1 := (hb_.block _ (by simp)).trans (blk_new w (.cells #[.string ⟨#[104]⟩, .int .i64 1, .int .i64 1, .string ⟨#[108]⟩, .int .i64 0, .int .i64 1] 66)); have b1 : Below w.heap.size w W1 := (bal (Below.refl _ _) _).trans (hb_.mono (by simp)); have s1 : w.heap.size < W1.heap.size := blk_lt V1; clear hb_ o_) | (go_at_call 41; refine (r2_Read.calls 0 0 1 0 0 [] (W1.alloc (.cells #[.int .i64 1, .int .i64 1, .int .i64 0, .slice E1 0 f1] 28)) (aw_read 0 0)).mono ?_; rintro e W2 ⟨v, rfl, o_, hb_⟩; obtain ⟨E2, f2, e_⟩ := Kd.R_slice o_; subst e_; have Y1 := (hb_.block _ (by simp)).trans (blk_new W1 (.cells #[.int .i64 1, .int .i64 1, .int .i64 0, .slice E1 0 f1] 28)); have b2 : Below W1.heap.size W1 W2 := (bal (Below.refl _ _) _).trans (hb_.mono (by simp)); have s2 : W1.heap.size < W2.heap.size := blk_lt Y1; have V2 := (b2.block _ s1).trans V1; clear hb_ o_; have hq := aw_w3 W2 E2 f2 W1.heap.size w.heap.size; obtain ⟨W3, hW3⟩ : ∃ X, ((W2.alloc (.cells #[.int .i64 1, .int .i64 0, .int .i64 0, .slice E2 0 f2] 28)).alloc (.cells #[.int .i64 0, .int .i64 0, .slice (some ⟨W1.heap.size, 0, none⟩) 1 1, .slice none 0 0, .slice none 0 0, .int .i64 3, .int .i64 2, .slice (some ⟨W2.heap.size, 0, none⟩) 1 1, .slice none 0 0, .slice none 0 0] 64)).alloc (.cells #[.int .i64 2, .slice (some ⟨w.heap.size, 0, none⟩) 2 2, .slice (some ⟨W2.heap.size + 1, 0, none⟩) 2 2] 25) = X := ⟨_, rfl⟩; simp only [hW3] at hq; obtain ⟨Y2, S3, P3, B3⟩ := hq; have p0 : W3.cell? ⟨W2.heap.size + 1 + 1, 0, none⟩ = some (.int .i64 2) := (blk_cell P3 0).trans rfl; have p1 : W3.cell? ⟨W2.heap.size + 1 + 1, 1, none⟩ = some (.slice (some ⟨w.heap.size, 0, none⟩) 2 2) := (blk_cell P3 1).trans rfl; have p2 : W3.cell? ⟨W2.heap.size + 1 + 1, 2, none⟩ = some (.slice (some ⟨W2.heap.size + 1, 0, none⟩) 2 2) := (blk_cell P3 2).trans rfl; have V3 := (B3.block _ (Nat.lt_trans s1 s2)).trans V2; have Y3 := (B3.block _ s2).trans Y1; have CV := aw_cv V3; have CB := aw_cb Y3 Y2 S3) | (go_at_call 26; refine (prod_Self.calls 60 2 (some ⟨w.heap.size, 0, none⟩) 2 aw_vars (some ⟨W2.heap.size + 1, 0, none⟩) 2 aw_body 2 2 aw_qv aw_qb 0 W3 CV (by decide) CB (by decide) aw_self).mono ?_; rintro e W4 ⟨v1, v2, rfl, rq1, nq2, hb4⟩; obtain ⟨D1, d1, e_⟩ := Kd.R_slice rq1; subst e_; obtain ⟨D2, d2, e_⟩ := Kd.V_slice nq2; subst e_))
  have k25e : aw_qv.length = 4 := rfl
  have k25f : aw_qb.length = 4 := rfl
  have hq := blk_new W4 (.cells #[.int .i64 2, .slice D1 aw_qv.length d1, .slice D2 aw_qb.length d2] 25)
  have bq := bal (Below.refl W4.heap.size W4) (.cells #[.int .i64 2, .slice D1 aw_qv.length d1, .slice D2 aw_qb.length d2] 25)
  generalize W4.alloc (.cells #[.int .i64 2, .slice D1 aw_qv.length d1, .slice D2 aw_qb.length d2] 25) = WQ at hq bq ⊢
  have b3 := hb4.trans (bq.mono hb4.size)
  have QR := Aside0.mk hq
  have PQ := Aside0.mk ((b3.block _ (blk_lt P3)).trans P3)
  have CVQ := Aside0.mk (Kd.C_below CV b3)
  have CBQ := Aside0.mk (Kd.C_below CB b3)
  have C1 := Aside0.mk (Kd.C_below (Kd.R_reads' rq1).2.2 bq)
  have C2 := Aside0.mk (Kd.C_below (Kd.V_reads' nq2).2.2 bq)
  have BW := Aside0.mk ((b1.trans (b2.mono b1.size)).trans ((B3.trans (b3.mono B3.size)).mono (Nat.le_trans b1.size b2.size)))
  clear hq bq b3 rq1 nq2 hb4 CV CB p0 p1 p2 V3 Y3 P3 S3 Y2 B3 V2 Y1 V1 b1 b2 hW3
  obtain ⟨bp, hbp⟩ : ∃ x, W2.heap.size + 1 + 1 = x := ⟨_, rfl⟩
  obtain ⟨bv, hbv⟩ : ∃ x, w.heap.size = x := ⟨_, rfl⟩
  obtain ⟨bb, hbb⟩ : ∃ x, W2.heap.size + 1 = x := ⟨_, rfl⟩
  have PQ := Aside0.mk (show WQ.heap[bp]? = some (.cells #[.int .i64 2, .slice (some ⟨bv, 0, none⟩) 2 2, .slice (some ⟨bb, 0, none⟩) 2 2] 25 (0, 0)) from by rw [← hbp, ← hbv, ← hbb]; exact PQ.out)
  have pS : ∀ W, Below WQ.heap.size WQ W → W.cell? ⟨bp, 0, none⟩ = some (.int .i64 2) ∧ W.cell? ⟨bp, 1, none⟩ = some (.slice (some ⟨bv, 0, none⟩) 2 2) ∧ W.cell? ⟨bp, 2, none⟩ = some (.slice (some ⟨bb, 0, none⟩) 2 2) := fun W hW => by
    have h := (hW.block _ (blk_lt PQ.out)).trans PQ.out
    exact ⟨(blk_cell h 0).trans rfl, (blk_cell h 1).trans rfl, (blk_cell h 2).trans rfl⟩
  rw [hbp]
  (try simp only [hbv, hbb, hbp])
  go_cut [4, 5] (fun v4 v5 wc => ∃ (G : Nat) (D : Option Addr) (d : Nat), v4 = .pointer (some ⟨G, 0, none⟩) ∧ v5 = .int .i64 0 ∧ Aside0 (wc.heap[G]? = some (.cells #[.int .i64 13, .int .i64 0, .int .i64 0, .slice D 2 d] 28 (0, 0))) ∧ Aside0 (Kd.C k28 wc D [aw_r 0 0, aw_r 3 0].length [aw_r 0 0, aw_r 3 0]) ∧ Aside0 (2 ≤ d) ∧ Aside0 (Below WQ.heap.size WQ wc))
  case first =>
    refine start_ (n := 12) (S := fun W => W.cell? ⟨bp, 0, none⟩ = some (.int .i64 2) ∧ W.cell? ⟨bp, 1, none⟩ = some (.slice (some ⟨bv, 0, none⟩) 2 2) ∧ W.cell? ⟨bp, 2, none⟩ = some (.slice (some ⟨bb, 0, none⟩) 2 2)) (ds := [10]) #[false, false, false, false, false, false, false, false, false, false, false, false] (by kernel_rfl) rfl rfl (pS _ (below_drew (Below.refl _ _))) (fun hHeld => ?_)
    have b0 := below_drew (Below.refl WQ.heap.size WQ)
    generalize WQ.drew = U0 at b0 hHeld ⊢
    refine tk (i := 0) (N := some 28) (bl 12 1) rfl rfl (by kernel_rfl) hHeld ?_
    refine two_ (i := 1) (j := 9) (Ni := some 29) (Nj := some 4) #[true, true, false, false, false, false, false, false, false, false, false, false] #[true, false, false, false, false, false, false, false, false, true, false, false] rfl rfl rfl rfl (by kernel_rfl) (by decide) (by decide) (fun K hK => ?_) (fun K hK => ?_)
    · refine goes_ Try.func41 (by kernel_rfl) rfl #[.int .i64 0, .int .i64 0] (by rfl) rfl rfl (by (try simp only [List.map_toArray, List.map_cons, List.map_nil]); rfl) ?_
      refine (r2_Read.calls 0 0 1 0 0 [] U0 (aw_read 0 0)).mono ?_
      rintro e U1 ⟨v, rfl, o_, h2⟩
      obtain ⟨Ea, fa, e_⟩ := Kd.R_slice o_
      subst e_
      clear o_
      have b3 := b0.trans (h2.mono b0.size)
      refine ⟨_, rfl, ?_⟩
      refine hK.out _ _ (pS _ b3) (fun hHeld => ?_)
      clear hK K
      refine nm 29 ?_
      refine two_ (i := 2) (j := 9) (Ni := some 30) (Nj := some 4) #[true, true, true, false, false, false, false, false, false, false, false, false] #[true, true, false, false, false, false, false, false, false, true, false, false] rfl rfl rfl rfl (by kernel_rfl) (by decide) (by decide) (fun K hK => ?_) (fun K hK => ?_)
      · refine goes_ Try.func41 (by kernel_rfl) rfl #[.int .i64 1, .int .i64 1] (by rfl) rfl rfl (by (try simp only [List.map_toArray, List.map_cons, List.map_nil]); rfl) ?_
        refine (r2_Read.calls 1 1 1 1 1 [] U1 (aw_read 1 1)).mono ?_
        rintro e U4 ⟨v, rfl, o_, h5⟩
        obtain ⟨Eb, fb, e_⟩ := Kd.R_slice o_
        subst e_
        clear o_
        have b6 := b3.trans (h5.mono b3.size)
        refine ⟨_, rfl, ?_⟩
        refine hK.out _ _ (pS _ b6) (fun hHeld => ?_)
        clear hK K
        refine nm 30 ?_
        refine two_ (i := 3) (j := 9) (Ni := some 31) (Nj := some 4) #[true, true, true, true, false, false, false, false, false, false, false, false] #[true, true, true, false, false, false, false, false, false, true, false, false] rfl rfl rfl rfl (by kernel_rfl) (by decide) (by decide) (fun K hK => ?_) (fun K hK => ?_)
        · refine value_ (w1 := ?_) (v := ?_) (by rfl) rfl ?_ ?_
          rotate_left 2
          · go_simp
            constructor
            · rfl
            · rfl
          have v9 := aw_row2 U4 0 0 1 1 Ea fa Eb fb
          have h8 := bal (Below.refl U4.heap.size U4) (.cells #[.int .i64 1, .int .i64 0, .int .i64 0, .slice Ea 0 fa, .int .i64 1, .int .i64 1, .int .i64 1, .slice Eb 0 fb] 28)
          (try simp only [List.length_nil])
          generalize U4.alloc (.cells #[.int .i64 1, .int .i64 0, .int .i64 0, .slice Ea 0 fa, .int .i64 1, .int .i64 1, .int .i64 1, .slice Eb 0 fb] 28) = U7 at v9 h8 ⊢
          have b11 := b6.trans (h8.mono b6.size)
          refine hK.out _ _ (pS _ b11) (fun hHeld => ?_)
          clear hK K
          refine nm 31 ?_
          refine two_ (i := 4) (j := 9) (Ni := some 32) (Nj := some 4) #[true, true, true, true, true, false, false, false, false, false, false, false] #[true, true, true, true, false, false, false, false, false, true, false, false] rfl rfl rfl rfl (by kernel_rfl) (by decide) (by decide) (fun K hK => ?_) (fun K hK => ?_)
          · refine goes_ Try.func42 (by kernel_rfl) rfl #[.int .i64 13, .slice (some ⟨U4.heap.size, 0, none⟩) 2 2] (by rfl) rfl rfl (by (try simp only [List.map_toArray, List.map_cons, List.map_nil]); rfl) ?_
            refine (r2_Of.calls 13 (fun _ => True) (some ⟨U4.heap.size, 0, none⟩) 2 [aw_r 0 0, aw_r 1 1] 13 0 0 [aw_r 0 0, aw_r 1 1] U7 v9 aw_of).mono ?_
            rintro e U12 ⟨v, rfl, o14, h13⟩
            obtain ⟨Ec, fc, e_⟩ := Kd.V_slice o14
            subst e_
            have b15 := b11.trans (h13.mono b11.size)
            refine ⟨_, rfl, ?_⟩
            refine hK.out _ _ (pS _ b15) (fun hHeld => ?_)
            clear hK K
            refine nm 32 ?_
            refine two_ (i := 5) (j := 9) (Ni := some 33) (Nj := some 4) #[true, true, true, true, true, true, false, false, false, false, false, false] #[true, true, true, true, true, false, false, false, false, true, false, false] rfl rfl rfl rfl (by kernel_rfl) (by decide) (by decide) (fun K hK => ?_) (fun K hK => ?_)
            · refine goes_ Try.func12 (by kernel_rfl) rfl #[.agg #[.int .i64 2, .slice (some ⟨bv, 0, none⟩) 2 2, .slice (some ⟨bb, 0, none⟩) 2 2], .int .i64 2, .agg #[.int .i64 13, .int .i64 0, .int .i64 0, .slice Ec 2 fc]] (by rfl) rfl rfl (by (try simp only [List.map_toArray, List.map_cons, List.map_nil]); rfl) ?_
              refine (prod_Plain.calls 60 2 (some ⟨bv, 0, none⟩) 2 aw_vars (some ⟨bb, 0, none⟩) 2 aw_body 2 13 0 0 Ec fc [aw_r 0 0, aw_r 1 1] 13 0 0 [aw_r 0 0, aw_r 3 0] 0 U12 (by rw [← hbv]; exact Kd.C_below CVQ.out b15) (by decide) (by rw [← hbb]; exact Kd.C_below CBQ.out b15) (by decide) (Kd.V_reads' o14).2.2 (Kd.V_reads' o14).2.1 aw_plain).mono ?_
              rintro e U16 ⟨v, rfl, r18, h17⟩
              obtain ⟨Ed, fd, e_⟩ := Kd.R_slice r18
              subst e_
              have b19 := b15.trans (h17.mono b15.size)
              refine ⟨_, rfl, ?_⟩
              refine hK.out _ _ (pS _ b19) (fun hHeld => ?_)
              clear hK K
              refine nm 33 ?_
              refine pu (i := 6) (N := some 27) (bl 12 127) rfl rfl (by kernel_rfl) ?_
              refine pu (i := 7) (N := some 34) (bl 12 255) rfl rfl (by kernel_rfl) ?_
              refine pu (i := 8) (N := some 35) (bl 12 511) rfl rfl (by kernel_rfl) ?_
              refine one_ (i := 9) (N := (some 4)) (bl 12 1023) rfl rfl (by kernel_rfl) (by decide) (fun K hK => ?_)
              refine value_ (w1 := ?_) (v := ?_) (by rfl) rfl ?_ ?_
              rotate_left 2
              · go_simp
                constructor
                · rfl
                · rfl
              have h21 := bal (Below.refl U16.heap.size U16) (.cells #[.int .i64 0, .int .i64 0, .int .i64 0, .slice none 0 0] 28)
              have z23 := blk_new U16 (.cells #[.int .i64 0, .int .i64 0, .int .i64 0, .slice none 0 0] 28)
              generalize U16.alloc (.cells #[.int .i64 0, .int .i64 0, .int .i64 0, .slice none 0 0] 28) = U20 at h21 z23 ⊢
              have b22 := b19.trans (h21.mono b19.size)
              have f24 := Kd.R_below (Kd.R_bound r18) h21
              have gle := b19.size
              refine hK.out _ _ (pS _ b22) (fun hHeld => ?_)
              clear hK K
              refine nm 4 ?_
              refine last_ (i := 10) (N := none) (bl 12 2047) rfl rfl (by kernel_rfl) (by decide) (fun K hK => ?_)
              obtain ⟨zc, zk, zb⟩ := row4_put z23 (.int .i64 13) (.int .i64 0) (.int .i64 0) (.slice Ed 2 fd)
              have bG := b22.size
              have lG := blk_lt z23
              have hGw : WQ.heap.size ≤ U16.heap.size := gle
              refine skip_ (w1 := ((((U20.setCell ⟨U16.heap.size, 0, none⟩ (.int .i64 13)).setCell ⟨U16.heap.size, 1, none⟩ (.int .i64 0)).setCell ⟨U16.heap.size, 2, none⟩ (.int .i64 0)).setCell ⟨U16.heap.size, 3, none⟩ (.slice Ed 2 fd))) (by rfl) rfl ?st ?_
              case st =>
                have q0 : U20.cell? ⟨U16.heap.size, 0, none⟩ = some (.int .i64 0) := (blk_cell z23 0).trans rfl
                have g0 := blk_frozen z23 0
                have q1 : U20.cell? ⟨U16.heap.size, 1, none⟩ = some (.int .i64 0) := (blk_cell z23 1).trans rfl
                have g1 := blk_frozen z23 1
                have q2 : U20.cell? ⟨U16.heap.size, 2, none⟩ = some (.int .i64 0) := (blk_cell z23 2).trans rfl
                have g2 := blk_frozen z23 2
                have q3 : U20.cell? ⟨U16.heap.size, 3, none⟩ = some (.slice none 0 0) := (blk_cell z23 3).trans rfl
                have g3 := blk_frozen z23 3
                go_simp
                try rfl
              refine hK.out _ _ ?_
              clear hK K
              refine pu (i := 11) (N := some 5) (bl 12 4095) rfl rfl (by kernel_rfl) ?_
              refine done_ (by kernel_rfl) ?_
              try simp only [Exit.then]
              try go_wp2
              go_meet
              case rel => exact ⟨_, Ed, fd, rfl, rfl, ⟨zc⟩, ⟨(Kd.R_reads' (Kd.R_step f24 (fun q hq _ => zk q (by have h9 := hq.2.2.1; omega)))).2.2⟩, ⟨(Kd.R_reads' f24).2.1⟩, ⟨b22.trans (zb _ hGw)⟩⟩
            · refine value_ (w1 := ?_) (v := ?_) (by rfl) rfl ?_ ?_
              rotate_left 2
              · go_simp
                constructor
                · rfl
                · rfl
              have h26 := bal (Below.refl U12.heap.size U12) (.cells #[.int .i64 0, .int .i64 0, .int .i64 0, .slice none 0 0] 28)
              have z28 := blk_new U12 (.cells #[.int .i64 0, .int .i64 0, .int .i64 0, .slice none 0 0] 28)
              generalize U12.alloc (.cells #[.int .i64 0, .int .i64 0, .int .i64 0, .slice none 0 0] 28) = U25 at h26 z28 ⊢
              have b27 := b15.trans (h26.mono b15.size)
              have f29 := Kd.V_below o14 h26
              have gle := b15.size
              refine hK.out _ _ (pS _ b27) (fun hHeld => ?_)
              clear hK K
              refine nm 4 ?_
              refine one_ (i := 5) (N := (some 33)) (bl 12 575) rfl rfl (by kernel_rfl) (by decide) (fun K hK => ?_)
              refine goes_ Try.func12 (by kernel_rfl) rfl #[.agg #[.int .i64 2, .slice (some ⟨bv, 0, none⟩) 2 2, .slice (some ⟨bb, 0, none⟩) 2 2], .int .i64 2, .agg #[.int .i64 13, .int .i64 0, .int .i64 0, .slice Ec 2 fc]] (by rfl) rfl rfl (by (try simp only [List.map_toArray, List.map_cons, List.map_nil]); rfl) ?_
              have lz := blk_lt z28
              refine (prod_Plain.calls 60 2 (some ⟨bv, 0, none⟩) 2 aw_vars (some ⟨bb, 0, none⟩) 2 aw_body 2 13 0 0 Ec fc [aw_r 0 0, aw_r 1 1] 13 0 0 [aw_r 0 0, aw_r 3 0] 0 U25 (by rw [← hbv]; exact Kd.C_below CVQ.out b27) (by decide) (by rw [← hbb]; exact Kd.C_below CBQ.out b27) (by decide) (Kd.V_reads' f29).2.2 (Kd.V_reads' f29).2.1 aw_plain).mono ?_
              rintro e U30 ⟨v, rfl, r32, h31⟩
              obtain ⟨Ed, fd, e_⟩ := Kd.R_slice r32
              subst e_
              have b33 := b27.trans (h31.mono b27.size)
              have z34 := blk_below z28 h31
              refine ⟨_, rfl, ?_⟩
              refine hK.out _ _ (pS _ b33) (fun hHeld => ?_)
              clear hK K
              refine nm 33 ?_
              refine pu (i := 6) (N := some 27) (bl 12 639) rfl rfl (by kernel_rfl) ?_
              refine pu (i := 7) (N := some 34) (bl 12 767) rfl rfl (by kernel_rfl) ?_
              refine pu (i := 8) (N := some 35) (bl 12 1023) rfl rfl (by kernel_rfl) ?_
              refine last_ (i := 10) (N := none) (bl 12 2047) rfl rfl (by kernel_rfl) (by decide) (fun K hK => ?_)
              obtain ⟨zc, zk, zb⟩ := row4_put z34 (.int .i64 13) (.int .i64 0) (.int .i64 0) (.slice Ed 2 fd)
              have bG := b33.size
              have lG := blk_lt z34
              have hGw : WQ.heap.size ≤ U12.heap.size := gle
              refine skip_ (w1 := ((((U30.setCell ⟨U12.heap.size, 0, none⟩ (.int .i64 13)).setCell ⟨U12.heap.size, 1, none⟩ (.int .i64 0)).setCell ⟨U12.heap.size, 2, none⟩ (.int .i64 0)).setCell ⟨U12.heap.size, 3, none⟩ (.slice Ed 2 fd))) (by rfl) rfl ?st ?_
              case st =>
                have q0 : U30.cell? ⟨U12.heap.size, 0, none⟩ = some (.int .i64 0) := (blk_cell z34 0).trans rfl
                have g0 := blk_frozen z34 0
                have q1 : U30.cell? ⟨U12.heap.size, 1, none⟩ = some (.int .i64 0) := (blk_cell z34 1).trans rfl
                have g1 := blk_frozen z34 1
                have q2 : U30.cell? ⟨U12.heap.size, 2, none⟩ = some (.int .i64 0) := (blk_cell z34 2).trans rfl
                have g2 := blk_frozen z34 2
                have q3 : U30.cell? ⟨U12.heap.size, 3, none⟩ = some (.slice none 0 0) := (blk_cell z34 3).trans rfl
                have g3 := blk_frozen z34 3
                go_simp
                try rfl
              refine hK.out _ _ ?_
              clear hK K
              refine pu (i := 11) (N := some 5) (bl 12 4095) rfl rfl (by kernel_rfl) ?_
              refine done_ (by kernel_rfl) ?_
              try simp only [Exit.then]
              try go_wp2
              go_meet
              case rel => exact ⟨_, Ed, fd, rfl, rfl, ⟨zc⟩, ⟨(Kd.R_reads' (Kd.R_step (Kd.R_bound r32) (fun q hq _ => zk q (by have h9 := hq.2.1; omega)))).2.2⟩, ⟨(Kd.R_reads' r32).2.1⟩, ⟨b33.trans (zb _ hGw)⟩⟩
          · refine value_ (w1 := ?_) (v := ?_) (by rfl) rfl ?_ ?_
            rotate_left 2
            · go_simp
              constructor
              · rfl
              · rfl
            have h36 := bal (Below.refl U7.heap.size U7) (.cells #[.int .i64 0, .int .i64 0, .int .i64 0, .slice none 0 0] 28)
            have z38 := blk_new U7 (.cells #[.int .i64 0, .int .i64 0, .int .i64 0, .slice none 0 0] 28)
            generalize U7.alloc (.cells #[.int .i64 0, .int .i64 0, .int .i64 0, .slice none 0 0] 28) = U35 at h36 z38 ⊢
            have b37 := b11.trans (h36.mono b11.size)
            have f39 := Kd.V_below v9 h36
            have gle := b11.size
            refine hK.out _ _ (pS _ b37) (fun hHeld => ?_)
            clear hK K
            refine nm 4 ?_
            refine one_ (i := 4) (N := (some 32)) (bl 12 543) rfl rfl (by kernel_rfl) (by decide) (fun K hK => ?_)
            refine goes_ Try.func42 (by kernel_rfl) rfl #[.int .i64 13, .slice (some ⟨U4.heap.size, 0, none⟩) 2 2] (by rfl) rfl rfl (by (try simp only [List.map_toArray, List.map_cons, List.map_nil]); rfl) ?_
            refine (r2_Of.calls 13 (fun _ => True) (some ⟨U4.heap.size, 0, none⟩) 2 [aw_r 0 0, aw_r 1 1] 13 0 0 [aw_r 0 0, aw_r 1 1] U35 f39 aw_of).mono ?_
            rintro e U40 ⟨v, rfl, o42, h41⟩
            obtain ⟨Ec, fc, e_⟩ := Kd.V_slice o42
            subst e_
            have b43 := b37.trans (h41.mono b37.size)
            have z44 := blk_below z38 h41
            refine ⟨_, rfl, ?_⟩
            refine hK.out _ _ (pS _ b43) (fun hHeld => ?_)
            clear hK K
            refine nm 32 ?_
            refine one_ (i := 5) (N := (some 33)) (bl 12 575) rfl rfl (by kernel_rfl) (by decide) (fun K hK => ?_)
            refine goes_ Try.func12 (by kernel_rfl) rfl #[.agg #[.int .i64 2, .slice (some ⟨bv, 0, none⟩) 2 2, .slice (some ⟨bb, 0, none⟩) 2 2], .int .i64 2, .agg #[.int .i64 13, .int .i64 0, .int .i64 0, .slice Ec 2 fc]] (by rfl) rfl rfl (by (try simp only [List.map_toArray, List.map_cons, List.map_nil]); rfl) ?_
            have lz := blk_lt z44
            refine (prod_Plain.calls 60 2 (some ⟨bv, 0, none⟩) 2 aw_vars (some ⟨bb, 0, none⟩) 2 aw_body 2 13 0 0 Ec fc [aw_r 0 0, aw_r 1 1] 13 0 0 [aw_r 0 0, aw_r 3 0] 0 U40 (by rw [← hbv]; exact Kd.C_below CVQ.out b43) (by decide) (by rw [← hbb]; exact Kd.C_below CBQ.out b43) (by decide) (Kd.V_reads' o42).2.2 (Kd.V_reads' o42).2.1 aw_plain).mono ?_
            rintro e U45 ⟨v, rfl, r47, h46⟩
            obtain ⟨Ed, fd, e_⟩ := Kd.R_slice r47
            subst e_
            have b48 := b43.trans (h46.mono b43.size)
            have z49 := blk_below z44 h46
            refine ⟨_, rfl, ?_⟩
            refine hK.out _ _ (pS _ b48) (fun hHeld => ?_)
            clear hK K
            refine nm 33 ?_
            refine pu (i := 6) (N := some 27) (bl 12 639) rfl rfl (by kernel_rfl) ?_
            refine pu (i := 7) (N := some 34) (bl 12 767) rfl rfl (by kernel_rfl) ?_
            refine pu (i := 8) (N := some 35) (bl 12 1023) rfl rfl (by kernel_rfl) ?_
            refine last_ (i := 10) (N := none) (bl 12 2047) rfl rfl (by kernel_rfl) (by decide) (fun K hK => ?_)
            obtain ⟨zc, zk, zb⟩ := row4_put z49 (.int .i64 13) (.int .i64 0) (.int .i64 0) (.slice Ed 2 fd)
            have bG := b48.size
            have lG := blk_lt z49
            have hGw : WQ.heap.size ≤ U7.heap.size := gle
            refine skip_ (w1 := ((((U45.setCell ⟨U7.heap.size, 0, none⟩ (.int .i64 13)).setCell ⟨U7.heap.size, 1, none⟩ (.int .i64 0)).setCell ⟨U7.heap.size, 2, none⟩ (.int .i64 0)).setCell ⟨U7.heap.size, 3, none⟩ (.slice Ed 2 fd))) (by rfl) rfl ?st ?_
            case st =>
              have q0 : U45.cell? ⟨U7.heap.size, 0, none⟩ = some (.int .i64 0) := (blk_cell z49 0).trans rfl
              have g0 := blk_frozen z49 0
              have q1 : U45.cell? ⟨U7.heap.size, 1, none⟩ = some (.int .i64 0) := (blk_cell z49 1).trans rfl
              have g1 := blk_frozen z49 1
              have q2 : U45.cell? ⟨U7.heap.size, 2, none⟩ = some (.int .i64 0) := (blk_cell z49 2).trans rfl
              have g2 := blk_frozen z49 2
              have q3 : U45.cell? ⟨U7.heap.size, 3, none⟩ = some (.slice none 0 0) := (blk_cell z49 3).trans rfl
              have g3 := blk_frozen z49 3
              go_simp
              try rfl
            refine hK.out _ _ ?_
            clear hK K
            refine pu (i := 11) (N := some 5) (bl 12 4095) rfl rfl (by kernel_rfl) ?_
            refine done_ (by kernel_rfl) ?_
            try simp only [Exit.then]
            try go_wp2
            go_meet
            case rel => exact ⟨_, Ed, fd, rfl, rfl, ⟨zc⟩, ⟨(Kd.R_reads' (Kd.R_step (Kd.R_bound r47) (fun q hq _ => zk q (by have h9 := hq.2.1; omega)))).2.2⟩, ⟨(Kd.R_reads' r47).2.1⟩, ⟨b48.trans (zb _ hGw)⟩⟩
        · refine value_ (w1 := ?_) (v := ?_) (by rfl) rfl ?_ ?_
          rotate_left 2
          · go_simp
            constructor
            · rfl
            · rfl
          have h51 := bal (Below.refl U4.heap.size U4) (.cells #[.int .i64 0, .int .i64 0, .int .i64 0, .slice none 0 0] 28)
          have z53 := blk_new U4 (.cells #[.int .i64 0, .int .i64 0, .int .i64 0, .slice none 0 0] 28)
          generalize U4.alloc (.cells #[.int .i64 0, .int .i64 0, .int .i64 0, .slice none 0 0] 28) = U50 at h51 z53 ⊢
          have b52 := b6.trans (h51.mono b6.size)
          have gle := b6.size
          refine hK.out _ _ (pS _ b52) (fun hHeld => ?_)
          clear hK K
          refine nm 4 ?_
          refine one_ (i := 3) (N := (some 31)) (bl 12 527) rfl rfl (by kernel_rfl) (by decide) (fun K hK => ?_)
          refine value_ (w1 := ?_) (v := ?_) (by rfl) rfl ?_ ?_
          rotate_left 2
          · go_simp
            constructor
            · rfl
            · rfl
          have v56 := aw_row2 U50 0 0 1 1 Ea fa Eb fb
          have h55 := bal (Below.refl U50.heap.size U50) (.cells #[.int .i64 1, .int .i64 0, .int .i64 0, .slice Ea 0 fa, .int .i64 1, .int .i64 1, .int .i64 1, .slice Eb 0 fb] 28)
          (try simp only [List.length_nil])
          generalize U50.alloc (.cells #[.int .i64 1, .int .i64 0, .int .i64 0, .slice Ea 0 fa, .int .i64 1, .int .i64 1, .int .i64 1, .slice Eb 0 fb] 28) = U54 at v56 h55 ⊢
          have b58 := b52.trans (h55.mono b52.size)
          have z59 := blk_below z53 h55
          refine hK.out _ _ (pS _ b58) (fun hHeld => ?_)
          clear hK K
          refine nm 31 ?_
          refine one_ (i := 4) (N := (some 32)) (bl 12 543) rfl rfl (by kernel_rfl) (by decide) (fun K hK => ?_)
          refine goes_ Try.func42 (by kernel_rfl) rfl #[.int .i64 13, .slice (some ⟨U50.heap.size, 0, none⟩) 2 2] (by rfl) rfl rfl (by (try simp only [List.map_toArray, List.map_cons, List.map_nil]); rfl) ?_
          refine (r2_Of.calls 13 (fun _ => True) (some ⟨U50.heap.size, 0, none⟩) 2 [aw_r 0 0, aw_r 1 1] 13 0 0 [aw_r 0 0, aw_r 1 1] U54 v56 aw_of).mono ?_
          rintro e U60 ⟨v, rfl, o62, h61⟩
          obtain ⟨Ec, fc, e_⟩ := Kd.V_slice o62
          subst e_
          have b63 := b58.trans (h61.mono b58.size)
          have z64 := blk_below z59 h61
          refine ⟨_, rfl, ?_⟩
          refine hK.out _ _ (pS _ b63) (fun hHeld => ?_)
          clear hK K
          refine nm 32 ?_
          refine one_ (i := 5) (N := (some 33)) (bl 12 575) rfl rfl (by kernel_rfl) (by decide) (fun K hK => ?_)
          refine goes_ Try.func12 (by kernel_rfl) rfl #[.agg #[.int .i64 2, .slice (some ⟨bv, 0, none⟩) 2 2, .slice (some ⟨bb, 0, none⟩) 2 2], .int .i64 2, .agg #[.int .i64 13, .int .i64 0, .int .i64 0, .slice Ec 2 fc]] (by rfl) rfl rfl (by (try simp only [List.map_toArray, List.map_cons, List.map_nil]); rfl) ?_
          have lz := blk_lt z64
          refine (prod_Plain.calls 60 2 (some ⟨bv, 0, none⟩) 2 aw_vars (some ⟨bb, 0, none⟩) 2 aw_body 2 13 0 0 Ec fc [aw_r 0 0, aw_r 1 1] 13 0 0 [aw_r 0 0, aw_r 3 0] 0 U60 (by rw [← hbv]; exact Kd.C_below CVQ.out b63) (by decide) (by rw [← hbb]; exact Kd.C_below CBQ.out b63) (by decide) (Kd.V_reads' o62).2.2 (Kd.V_reads' o62).2.1 aw_plain).mono ?_
          rintro e U65 ⟨v, rfl, r67, h66⟩
          obtain ⟨Ed, fd, e_⟩ := Kd.R_slice r67
          subst e_
          have b68 := b63.trans (h66.mono b63.size)
          have z69 := blk_below z64 h66
          refine ⟨_, rfl, ?_⟩
          refine hK.out _ _ (pS _ b68) (fun hHeld => ?_)
          clear hK K
          refine nm 33 ?_
          refine pu (i := 6) (N := some 27) (bl 12 639) rfl rfl (by kernel_rfl) ?_
          refine pu (i := 7) (N := some 34) (bl 12 767) rfl rfl (by kernel_rfl) ?_
          refine pu (i := 8) (N := some 35) (bl 12 1023) rfl rfl (by kernel_rfl) ?_
          refine last_ (i := 10) (N := none) (bl 12 2047) rfl rfl (by kernel_rfl) (by decide) (fun K hK => ?_)
          obtain ⟨zc, zk, zb⟩ := row4_put z69 (.int .i64 13) (.int .i64 0) (.int .i64 0) (.slice Ed 2 fd)
          have bG := b68.size
          have lG := blk_lt z69
          have hGw : WQ.heap.size ≤ U4.heap.size := gle
          refine skip_ (w1 := ((((U65.setCell ⟨U4.heap.size, 0, none⟩ (.int .i64 13)).setCell ⟨U4.heap.size, 1, none⟩ (.int .i64 0)).setCell ⟨U4.heap.size, 2, none⟩ (.int .i64 0)).setCell ⟨U4.heap.size, 3, none⟩ (.slice Ed 2 fd))) (by rfl) rfl ?st ?_
          case st =>
            have q0 : U65.cell? ⟨U4.heap.size, 0, none⟩ = some (.int .i64 0) := (blk_cell z69 0).trans rfl
            have g0 := blk_frozen z69 0
            have q1 : U65.cell? ⟨U4.heap.size, 1, none⟩ = some (.int .i64 0) := (blk_cell z69 1).trans rfl
            have g1 := blk_frozen z69 1
            have q2 : U65.cell? ⟨U4.heap.size, 2, none⟩ = some (.int .i64 0) := (blk_cell z69 2).trans rfl
            have g2 := blk_frozen z69 2
            have q3 : U65.cell? ⟨U4.heap.size, 3, none⟩ = some (.slice none 0 0) := (blk_cell z69 3).trans rfl
            have g3 := blk_frozen z69 3
            go_simp
            try rfl
          refine hK.out _ _ ?_
          clear hK K
          refine pu (i := 11) (N := some 5) (bl 12 4095) rfl rfl (by kernel_rfl) ?_
          refine done_ (by kernel_rfl) ?_
          try simp only [Exit.then]
          try go_wp2
          go_meet
          case rel => exact ⟨_, Ed, fd, rfl, rfl, ⟨zc⟩, ⟨(Kd.R_reads' (Kd.R_step (Kd.R_bound r67) (fun q hq _ => zk q (by have h9 := hq.2.1; omega)))).2.2⟩, ⟨(Kd.R_reads' r67).2.1⟩, ⟨b68.trans (zb _ hGw)⟩⟩
      · refine value_ (w1 := ?_) (v := ?_) (by rfl) rfl ?_ ?_
        rotate_left 2
        · go_simp
          constructor
          · rfl
          · rfl
        have h71 := bal (Below.refl U1.heap.size U1) (.cells #[.int .i64 0, .int .i64 0, .int .i64 0, .slice none 0 0] 28)
        have z73 := blk_new U1 (.cells #[.int .i64 0, .int .i64 0, .int .i64 0, .slice none 0 0] 28)
        generalize U1.alloc (.cells #[.int .i64 0, .int .i64 0, .int .i64 0, .slice none 0 0] 28) = U70 at h71 z73 ⊢
        have b72 := b3.trans (h71.mono b3.size)
        have gle := b3.size
        refine hK.out _ _ (pS _ b72) (fun hHeld => ?_)
        clear hK K
        refine nm 4 ?_
        refine one_ (i := 2) (N := (some 30)) (bl 12 519) rfl rfl (by kernel_rfl) (by decide) (fun K hK => ?_)
        refine goes_ Try.func41 (by kernel_rfl) rfl #[.int .i64 1, .int .i64 1] (by rfl) rfl rfl (by (try simp only [List.map_toArray, List.map_cons, List.map_nil]); rfl) ?_
        refine (r2_Read.calls 1 1 1 1 1 [] U70 (aw_read 1 1)).mono ?_
        rintro e U74 ⟨v, rfl, o_, h75⟩
        obtain ⟨Eb, fb, e_⟩ := Kd.R_slice o_
        subst e_
        clear o_
        have b76 := b72.trans (h75.mono b72.size)
        have z77 := blk_below z73 h75
        refine ⟨_, rfl, ?_⟩
        refine hK.out _ _ (pS _ b76) (fun hHeld => ?_)
        clear hK K
        refine nm 30 ?_
        refine one_ (i := 3) (N := (some 31)) (bl 12 527) rfl rfl (by kernel_rfl) (by decide) (fun K hK => ?_)
        refine value_ (w1 := ?_) (v := ?_) (by rfl) rfl ?_ ?_
        rotate_left 2
        · go_simp
          constructor
          · rfl
          · rfl
        have v80 := aw_row2 U74 0 0 1 1 Ea fa Eb fb
        have h79 := bal (Below.refl U74.heap.size U74) (.cells #[.int .i64 1, .int .i64 0, .int .i64 0, .slice Ea 0 fa, .int .i64 1, .int .i64 1, .int .i64 1, .slice Eb 0 fb] 28)
        (try simp only [List.length_nil])
        generalize U74.alloc (.cells #[.int .i64 1, .int .i64 0, .int .i64 0, .slice Ea 0 fa, .int .i64 1, .int .i64 1, .int .i64 1, .slice Eb 0 fb] 28) = U78 at v80 h79 ⊢
        have b82 := b76.trans (h79.mono b76.size)
        have z83 := blk_below z77 h79
        refine hK.out _ _ (pS _ b82) (fun hHeld => ?_)
        clear hK K
        refine nm 31 ?_
        refine one_ (i := 4) (N := (some 32)) (bl 12 543) rfl rfl (by kernel_rfl) (by decide) (fun K hK => ?_)
        refine goes_ Try.func42 (by kernel_rfl) rfl #[.int .i64 13, .slice (some ⟨U74.heap.size, 0, none⟩) 2 2] (by rfl) rfl rfl (by (try simp only [List.map_toArray, List.map_cons, List.map_nil]); rfl) ?_
        refine (r2_Of.calls 13 (fun _ => True) (some ⟨U74.heap.size, 0, none⟩) 2 [aw_r 0 0, aw_r 1 1] 13 0 0 [aw_r 0 0, aw_r 1 1] U78 v80 aw_of).mono ?_
        rintro e U84 ⟨v, rfl, o86, h85⟩
        obtain ⟨Ec, fc, e_⟩ := Kd.V_slice o86
        subst e_
        have b87 := b82.trans (h85.mono b82.size)
        have z88 := blk_below z83 h85
        refine ⟨_, rfl, ?_⟩
        refine hK.out _ _ (pS _ b87) (fun hHeld => ?_)
        clear hK K
        refine nm 32 ?_
        refine one_ (i := 5) (N := (some 33)) (bl 12 575) rfl rfl (by kernel_rfl) (by decide) (fun K hK => ?_)
        refine goes_ Try.func12 (by kernel_rfl) rfl #[.agg #[.int .i64 2, .slice (some ⟨bv, 0, none⟩) 2 2, .slice (some ⟨bb, 0, none⟩) 2 2], .int .i64 2, .agg #[.int .i64 13, .int .i64 0, .int .i64 0, .slice Ec 2 fc]] (by rfl) rfl rfl (by (try simp only [List.map_toArray, List.map_cons, List.map_nil]); rfl) ?_
        have lz := blk_lt z88
        refine (prod_Plain.calls 60 2 (some ⟨bv, 0, none⟩) 2 aw_vars (some ⟨bb, 0, none⟩) 2 aw_body 2 13 0 0 Ec fc [aw_r 0 0, aw_r 1 1] 13 0 0 [aw_r 0 0, aw_r 3 0] 0 U84 (by rw [← hbv]; exact Kd.C_below CVQ.out b87) (by decide) (by rw [← hbb]; exact Kd.C_below CBQ.out b87) (by decide) (Kd.V_reads' o86).2.2 (Kd.V_reads' o86).2.1 aw_plain).mono ?_
        rintro e U89 ⟨v, rfl, r91, h90⟩
        obtain ⟨Ed, fd, e_⟩ := Kd.R_slice r91
        subst e_
        have b92 := b87.trans (h90.mono b87.size)
        have z93 := blk_below z88 h90
        refine ⟨_, rfl, ?_⟩
        refine hK.out _ _ (pS _ b92) (fun hHeld => ?_)
        clear hK K
        refine nm 33 ?_
        refine pu (i := 6) (N := some 27) (bl 12 639) rfl rfl (by kernel_rfl) ?_
        refine pu (i := 7) (N := some 34) (bl 12 767) rfl rfl (by kernel_rfl) ?_
        refine pu (i := 8) (N := some 35) (bl 12 1023) rfl rfl (by kernel_rfl) ?_
        refine last_ (i := 10) (N := none) (bl 12 2047) rfl rfl (by kernel_rfl) (by decide) (fun K hK => ?_)
        obtain ⟨zc, zk, zb⟩ := row4_put z93 (.int .i64 13) (.int .i64 0) (.int .i64 0) (.slice Ed 2 fd)
        have bG := b92.size
        have lG := blk_lt z93
        have hGw : WQ.heap.size ≤ U1.heap.size := gle
        refine skip_ (w1 := ((((U89.setCell ⟨U1.heap.size, 0, none⟩ (.int .i64 13)).setCell ⟨U1.heap.size, 1, none⟩ (.int .i64 0)).setCell ⟨U1.heap.size, 2, none⟩ (.int .i64 0)).setCell ⟨U1.heap.size, 3, none⟩ (.slice Ed 2 fd))) (by rfl) rfl ?st ?_
        case st =>
          have q0 : U89.cell? ⟨U1.heap.size, 0, none⟩ = some (.int .i64 0) := (blk_cell z93 0).trans rfl
          have g0 := blk_frozen z93 0
          have q1 : U89.cell? ⟨U1.heap.size, 1, none⟩ = some (.int .i64 0) := (blk_cell z93 1).trans rfl
          have g1 := blk_frozen z93 1
          have q2 : U89.cell? ⟨U1.heap.size, 2, none⟩ = some (.int .i64 0) := (blk_cell z93 2).trans rfl
          have g2 := blk_frozen z93 2
          have q3 : U89.cell? ⟨U1.heap.size, 3, none⟩ = some (.slice none 0 0) := (blk_cell z93 3).trans rfl
          have g3 := blk_frozen z93 3
          go_simp
          try rfl
        refine hK.out _ _ ?_
        clear hK K
        refine pu (i := 11) (N := some 5) (bl 12 4095) rfl rfl (by kernel_rfl) ?_
        refine done_ (by kernel_rfl) ?_
        try simp only [Exit.then]
        try go_wp2
        go_meet
        case rel => exact ⟨_, Ed, fd, rfl, rfl, ⟨zc⟩, ⟨(Kd.R_reads' (Kd.R_step (Kd.R_bound r91) (fun q hq _ => zk q (by have h9 := hq.2.1; omega)))).2.2⟩, ⟨(Kd.R_reads' r91).2.1⟩, ⟨b92.trans (zb _ hGw)⟩⟩
    · refine value_ (w1 := ?_) (v := ?_) (by rfl) rfl ?_ ?_
      rotate_left 2
      · go_simp
        constructor
        · rfl
        · rfl
      have h95 := bal (Below.refl U0.heap.size U0) (.cells #[.int .i64 0, .int .i64 0, .int .i64 0, .slice none 0 0] 28)
      have z97 := blk_new U0 (.cells #[.int .i64 0, .int .i64 0, .int .i64 0, .slice none 0 0] 28)
      generalize U0.alloc (.cells #[.int .i64 0, .int .i64 0, .int .i64 0, .slice none 0 0] 28) = U94 at h95 z97 ⊢
      have b96 := b0.trans (h95.mono b0.size)
      have gle := b0.size
      refine hK.out _ _ (pS _ b96) (fun hHeld => ?_)
      clear hK K
      refine nm 4 ?_
      refine one_ (i := 1) (N := (some 29)) (bl 12 515) rfl rfl (by kernel_rfl) (by decide) (fun K hK => ?_)
      refine goes_ Try.func41 (by kernel_rfl) rfl #[.int .i64 0, .int .i64 0] (by rfl) rfl rfl (by (try simp only [List.map_toArray, List.map_cons, List.map_nil]); rfl) ?_
      refine (r2_Read.calls 0 0 1 0 0 [] U94 (aw_read 0 0)).mono ?_
      rintro e U98 ⟨v, rfl, o_, h99⟩
      obtain ⟨Ea, fa, e_⟩ := Kd.R_slice o_
      subst e_
      clear o_
      have b100 := b96.trans (h99.mono b96.size)
      have z101 := blk_below z97 h99
      refine ⟨_, rfl, ?_⟩
      refine hK.out _ _ (pS _ b100) (fun hHeld => ?_)
      clear hK K
      refine nm 29 ?_
      refine one_ (i := 2) (N := (some 30)) (bl 12 519) rfl rfl (by kernel_rfl) (by decide) (fun K hK => ?_)
      refine goes_ Try.func41 (by kernel_rfl) rfl #[.int .i64 1, .int .i64 1] (by rfl) rfl rfl (by (try simp only [List.map_toArray, List.map_cons, List.map_nil]); rfl) ?_
      refine (r2_Read.calls 1 1 1 1 1 [] U98 (aw_read 1 1)).mono ?_
      rintro e U102 ⟨v, rfl, o_, h103⟩
      obtain ⟨Eb, fb, e_⟩ := Kd.R_slice o_
      subst e_
      clear o_
      have b104 := b100.trans (h103.mono b100.size)
      have z105 := blk_below z101 h103
      refine ⟨_, rfl, ?_⟩
      refine hK.out _ _ (pS _ b104) (fun hHeld => ?_)
      clear hK K
      refine nm 30 ?_
      refine one_ (i := 3) (N := (some 31)) (bl 12 527) rfl rfl (by kernel_rfl) (by decide) (fun K hK => ?_)
      refine value_ (w1 := ?_) (v := ?_) (by rfl) rfl ?_ ?_
      rotate_left 2
      · go_simp
        constructor
        · rfl
        · rfl
      have v108 := aw_row2 U102 0 0 1 1 Ea fa Eb fb
      have h107 := bal (Below.refl U102.heap.size U102) (.cells #[.int .i64 1, .int .i64 0, .int .i64 0, .slice Ea 0 fa, .int .i64 1, .int .i64 1, .int .i64 1, .slice Eb 0 fb] 28)
      (try simp only [List.length_nil])
      generalize U102.alloc (.cells #[.int .i64 1, .int .i64 0, .int .i64 0, .slice Ea 0 fa, .int .i64 1, .int .i64 1, .int .i64 1, .slice Eb 0 fb] 28) = U106 at v108 h107 ⊢
      have b110 := b104.trans (h107.mono b104.size)
      have z111 := blk_below z105 h107
      refine hK.out _ _ (pS _ b110) (fun hHeld => ?_)
      clear hK K
      refine nm 31 ?_
      refine one_ (i := 4) (N := (some 32)) (bl 12 543) rfl rfl (by kernel_rfl) (by decide) (fun K hK => ?_)
      refine goes_ Try.func42 (by kernel_rfl) rfl #[.int .i64 13, .slice (some ⟨U102.heap.size, 0, none⟩) 2 2] (by rfl) rfl rfl (by (try simp only [List.map_toArray, List.map_cons, List.map_nil]); rfl) ?_
      refine (r2_Of.calls 13 (fun _ => True) (some ⟨U102.heap.size, 0, none⟩) 2 [aw_r 0 0, aw_r 1 1] 13 0 0 [aw_r 0 0, aw_r 1 1] U106 v108 aw_of).mono ?_
      rintro e U112 ⟨v, rfl, o114, h113⟩
      obtain ⟨Ec, fc, e_⟩ := Kd.V_slice o114
      subst e_
      have b115 := b110.trans (h113.mono b110.size)
      have z116 := blk_below z111 h113
      refine ⟨_, rfl, ?_⟩
      refine hK.out _ _ (pS _ b115) (fun hHeld => ?_)
      clear hK K
      refine nm 32 ?_
      refine one_ (i := 5) (N := (some 33)) (bl 12 575) rfl rfl (by kernel_rfl) (by decide) (fun K hK => ?_)
      refine goes_ Try.func12 (by kernel_rfl) rfl #[.agg #[.int .i64 2, .slice (some ⟨bv, 0, none⟩) 2 2, .slice (some ⟨bb, 0, none⟩) 2 2], .int .i64 2, .agg #[.int .i64 13, .int .i64 0, .int .i64 0, .slice Ec 2 fc]] (by rfl) rfl rfl (by (try simp only [List.map_toArray, List.map_cons, List.map_nil]); rfl) ?_
      have lz := blk_lt z116
      refine (prod_Plain.calls 60 2 (some ⟨bv, 0, none⟩) 2 aw_vars (some ⟨bb, 0, none⟩) 2 aw_body 2 13 0 0 Ec fc [aw_r 0 0, aw_r 1 1] 13 0 0 [aw_r 0 0, aw_r 3 0] 0 U112 (by rw [← hbv]; exact Kd.C_below CVQ.out b115) (by decide) (by rw [← hbb]; exact Kd.C_below CBQ.out b115) (by decide) (Kd.V_reads' o114).2.2 (Kd.V_reads' o114).2.1 aw_plain).mono ?_
      rintro e U117 ⟨v, rfl, r119, h118⟩
      obtain ⟨Ed, fd, e_⟩ := Kd.R_slice r119
      subst e_
      have b120 := b115.trans (h118.mono b115.size)
      have z121 := blk_below z116 h118
      refine ⟨_, rfl, ?_⟩
      refine hK.out _ _ (pS _ b120) (fun hHeld => ?_)
      clear hK K
      refine nm 33 ?_
      refine pu (i := 6) (N := some 27) (bl 12 639) rfl rfl (by kernel_rfl) ?_
      refine pu (i := 7) (N := some 34) (bl 12 767) rfl rfl (by kernel_rfl) ?_
      refine pu (i := 8) (N := some 35) (bl 12 1023) rfl rfl (by kernel_rfl) ?_
      refine last_ (i := 10) (N := none) (bl 12 2047) rfl rfl (by kernel_rfl) (by decide) (fun K hK => ?_)
      obtain ⟨zc, zk, zb⟩ := row4_put z121 (.int .i64 13) (.int .i64 0) (.int .i64 0) (.slice Ed 2 fd)
      have bG := b120.size
      have lG := blk_lt z121
      have hGw : WQ.heap.size ≤ U0.heap.size := gle
      refine skip_ (w1 := ((((U117.setCell ⟨U0.heap.size, 0, none⟩ (.int .i64 13)).setCell ⟨U0.heap.size, 1, none⟩ (.int .i64 0)).setCell ⟨U0.heap.size, 2, none⟩ (.int .i64 0)).setCell ⟨U0.heap.size, 3, none⟩ (.slice Ed 2 fd))) (by rfl) rfl ?st ?_
      case st =>
        have q0 : U117.cell? ⟨U0.heap.size, 0, none⟩ = some (.int .i64 0) := (blk_cell z121 0).trans rfl
        have g0 := blk_frozen z121 0
        have q1 : U117.cell? ⟨U0.heap.size, 1, none⟩ = some (.int .i64 0) := (blk_cell z121 1).trans rfl
        have g1 := blk_frozen z121 1
        have q2 : U117.cell? ⟨U0.heap.size, 2, none⟩ = some (.int .i64 0) := (blk_cell z121 2).trans rfl
        have g2 := blk_frozen z121 2
        have q3 : U117.cell? ⟨U0.heap.size, 3, none⟩ = some (.slice none 0 0) := (blk_cell z121 3).trans rfl
        have g3 := blk_frozen z121 3
        go_simp
        try rfl
      refine hK.out _ _ ?_
      clear hK K
      refine pu (i := 11) (N := some 5) (bl 12 4095) rfl rfl (by kernel_rfl) ?_
      refine done_ (by kernel_rfl) ?_
      try simp only [Exit.then]
      try go_wp2
      go_meet
      case rel => exact ⟨_, Ed, fd, rfl, rfl, ⟨zc⟩, ⟨(Kd.R_reads' (Kd.R_step (Kd.R_bound r119) (fun q hq _ => zk q (by have h9 := hq.2.1; omega)))).2.2⟩, ⟨(Kd.R_reads' r119).2.1⟩, ⟨b120.trans (zb _ hGw)⟩⟩
  case rest =>
    obtain ⟨G, D, d, rfl, rfl, XG, XC, Xd, XB⟩ := hcut
    have CVw : ∀ W, Below WQ.heap.size WQ W → Kd.C k66 W (some ⟨bv, 0, none⟩) aw_vars.length aw_vars := fun W h => by rw [← hbv]; exact Kd.C_below CVQ.out h
    have CBw : ∀ W, Below WQ.heap.size WQ W → Kd.C k64 W (some ⟨bb, 0, none⟩) aw_body.length aw_body := fun W h => by rw [← hbb]; exact Kd.C_below CBQ.out h
    clear hbv hbb hbp
    obtain ⟨x0, x1, x2⟩ := pS _ XB.out
    obtain ⟨CS7, b67⟩ := aw_w7 wc
    obtain ⟨W7, hW7⟩ : ∃ X, (((wc.alloc (.cells #[.int .i64 1, .int .i64 2] 3)).alloc (.cells #[.int .i64 3, .int .i64 0] 3)).alloc (.cells #[.slice (some ⟨wc.heap.size, 0, none⟩) 2 2, .slice (some ⟨wc.heap.size + 1, 0, none⟩) 2 2] 45)) = X := ⟨_, rfl⟩
    rw [hW7] at CS7 b67
    have B7 := XB.out.trans (b67.mono XB.out.size)
    go_wp2_with (first | (go_at_call 21; refine (prod_Join.calls 60 2 (some ⟨bv, 0, none⟩) 2 aw_vars (some ⟨bb, 0, none⟩) 2 aw_body (some ⟨wc.heap.size + 1 + 1, 0, none⟩) 2 [[1, 2], [3, 0]] [1, 2, 3, 0] 0 W7 (CVw _ B7) (by decide) (CBw _ B7) (by decide) CS7 (by decide) aw_join).mono ?_; rintro e W8 ⟨v, rfl, os, hb8⟩; obtain ⟨As, cs_, e_⟩ := Kd.R_slice os; subst e_; have B8 := B7.trans (hb8.mono B7.size); obtain ⟨y0, y1, y2⟩ := pS _ B8; have w8 := b67.trans (hb8.mono b67.size)) | (go_at_call 25; refine (prod_Copy.calls 60 2 (some ⟨bv, 0, none⟩) 2 aw_vars (some ⟨bb, 0, none⟩) 2 aw_body 3 0 [] [] 1 W8 (CVw _ B8) (by decide) (CBw _ B8) (by decide) aw_copy).mono ?_; rintro e W9 ⟨v1, v2, rfl, oc1, oc2, hb9⟩; obtain ⟨A9, c9, e_⟩ := Kd.R_slice oc1; subst e_; obtain ⟨A10, c10, e_⟩ := Kd.V_slice oc2; subst e_; have B9 := B8.trans (hb9.mono B8.size); have OS9 := Kd.R_below os hb9; have w9 := w8.trans (hb9.mono w8.size)) | (go_at_call 16; refine (prod_Told.calls 60 (some ⟨W9.heap.size + 1, 0, none⟩) 2 [⟨17, 3⟩, ⟨1, 2⟩] 1 [⟨1, 3⟩] _ (aw_outs2 W9 A9 c9 A10 c10) (by decide) aw_told).mono ?_; rintro e W11 ⟨v, rfl, ot, hb11⟩; obtain ⟨At, ct, e_⟩ := Kd.R_slice ot; subst e_; have b9 := (bal (bal (Below.refl W9.heap.size W9) (.cells #[.int .i64 0, .slice A9 0 c9, .slice A10 0 c10] 25)) (.cells #[.int .i64 17, .int .i64 3, .int .i64 1, .int .i64 2] 74)).trans (hb11.mono (by simp; omega)); have w11 := w9.trans (b9.mono w9.size); have B11 := B9.trans (b9.mono B9.size); have OS11 := Kd.R_below OS9 b9; have q11 := (B11.block _ (blk_lt QR.out)).trans QR.out; have u1 : W11.cell? ⟨W4.heap.size, 1, none⟩ = some (.slice D1 aw_qv.length d1) := (blk_cell q11 1).trans rfl; have u2 : W11.cell? ⟨W4.heap.size, 2, none⟩ = some (.slice D2 aw_qb.length d2) := (blk_cell q11 2).trans rfl))
    obtain ⟨ad1, e1, v0, v1, v2⟩ := at_T66 (Kd.C_below C1.out B11) 2 (by decide) (by decide)
    obtain ⟨ad2, B2, b2, B3, b3, B4, b4, e2, _, n3, _, _, _, _, _, _, _, _, _⟩ := at_T64 (Kd.C_below C2.out B11) 3 (by decide) (by decide)
    obtain ⟨ad3, B5, b5, B6, b6, B7', b7', e3, _, n2, _, _, _, _, _, _, _, _, _⟩ := at_T64 (Kd.C_below C2.out B11) 2 (by decide) (by decide)
    obtain rfl : ad2 = ad3 := Option.some.inj (e2.symm.trans e3)
    subst e1 e2
    clear e3
    have xG := (w11.block _ (blk_lt XG.out)).trans XG.out
    have XCf := Aside0.mk (Kd.C_below XC.out w11)
    have OSf := Aside0.mk OS11
    have OTf := Aside0.mk ot
    have BWf := Aside0.mk (BW.out.trans (B11.mono BW.out.size))
    have v0 : W11.cell? ⟨ad1.block, ad1.off + 6, none⟩ = some (.string ⟨#[104, 95, 49]⟩) := v0
    have v1 : W11.cell? ⟨ad1.block, ad1.off + 6 + 1, none⟩ = some (.int .i64 17) := v1
    have v2 : W11.cell? ⟨ad1.block, ad1.off + 6 + 2, none⟩ = some (.int .i64 1) := v2
    have n3 : W11.cell? ⟨ad2.block, ad2.off + 15 + 1, none⟩ = some (.int .i64 18) := n3
    have n2 : W11.cell? ⟨ad2.block, ad2.off + 10 + 1, none⟩ = some (.int .i64 2) := n2
    have x0 : W11.cell? ⟨G, 0, none⟩ = some (.int .i64 13) := (blk_cell xG 0).trans rfl
    have x1 : W11.cell? ⟨G, 1, none⟩ = some (.int .i64 0) := (blk_cell xG 1).trans rfl
    have x2 : W11.cell? ⟨G, 2, none⟩ = some (.int .i64 0) := (blk_cell xG 2).trans rfl
    have x3 : W11.cell? ⟨G, 3, none⟩ = some (.slice D 2 d) := (blk_cell xG 3).trans rfl
    have sS : ∀ W, Below W11.heap.size W11 W → W.cell? ⟨W4.heap.size, 1, none⟩ = some (.slice (some ad1) aw_qv.length d1) ∧ W.cell? ⟨W4.heap.size, 2, none⟩ = some (.slice (some ad2) aw_qb.length d2) ∧ W.cell? ⟨ad1.block, ad1.off + 6, none⟩ = some (.string ⟨#[104, 95, 49]⟩) ∧ W.cell? ⟨ad1.block, ad1.off + 6 + 1, none⟩ = some (.int .i64 17) ∧ W.cell? ⟨ad1.block, ad1.off + 6 + 2, none⟩ = some (.int .i64 1) ∧ W.cell? ⟨ad2.block, ad2.off + 15 + 1, none⟩ = some (.int .i64 18) ∧ W.cell? ⟨ad2.block, ad2.off + 10 + 1, none⟩ = some (.int .i64 2) ∧ W.cell? ⟨G, 0, none⟩ = some (.int .i64 13) ∧ W.cell? ⟨G, 1, none⟩ = some (.int .i64 0) ∧ W.cell? ⟨G, 2, none⟩ = some (.int .i64 0) ∧ W.cell? ⟨G, 3, none⟩ = some (.slice D 2 d) := fun W hW => ⟨(hW.cell (World.block_lt_of_cell? W11 _ u1)).trans u1, (hW.cell (World.block_lt_of_cell? W11 _ u2)).trans u2, (hW.cell (World.block_lt_of_cell? W11 _ v0)).trans v0, (hW.cell (World.block_lt_of_cell? W11 _ v1)).trans v1, (hW.cell (World.block_lt_of_cell? W11 _ v2)).trans v2, (hW.cell (World.block_lt_of_cell? W11 _ n3)).trans n3, (hW.cell (World.block_lt_of_cell? W11 _ n2)).trans n2, (hW.cell (World.block_lt_of_cell? W11 _ x0)).trans x0, (hW.cell (World.block_lt_of_cell? W11 _ x1)).trans x1, (hW.cell (World.block_lt_of_cell? W11 _ x2)).trans x2, (hW.cell (World.block_lt_of_cell? W11 _ x3)).trans x3⟩
    refine start_ (n := 42) (S := fun W => W.cell? ⟨W4.heap.size, 1, none⟩ = some (.slice (some ad1) aw_qv.length d1) ∧ W.cell? ⟨W4.heap.size, 2, none⟩ = some (.slice (some ad2) aw_qb.length d2) ∧ W.cell? ⟨ad1.block, ad1.off + 6, none⟩ = some (.string ⟨#[104, 95, 49]⟩) ∧ W.cell? ⟨ad1.block, ad1.off + 6 + 1, none⟩ = some (.int .i64 17) ∧ W.cell? ⟨ad1.block, ad1.off + 6 + 2, none⟩ = some (.int .i64 1) ∧ W.cell? ⟨ad2.block, ad2.off + 15 + 1, none⟩ = some (.int .i64 18) ∧ W.cell? ⟨ad2.block, ad2.off + 10 + 1, none⟩ = some (.int .i64 2) ∧ W.cell? ⟨G, 0, none⟩ = some (.int .i64 13) ∧ W.cell? ⟨G, 1, none⟩ = some (.int .i64 0) ∧ W.cell? ⟨G, 2, none⟩ = some (.int .i64 0) ∧ W.cell? ⟨G, 3, none⟩ = some (.slice D 2 d)) (ds := []) #[false, false, false, false, false, false, false, false, false, false, false, false, false, false, false, false, false, false, false, false, false, false, false, false, false, false, false, false, false, false, false, false, false, false, false, false, false, false, false, false, false, false] (by kernel_rfl) rfl rfl (sS _ (below_drew (Below.refl _ _))) (fun hHeld => ?_)
    have b0 := below_drew (Below.refl W11.heap.size W11)
    generalize W11.drew = U0 at b0 hHeld ⊢
    refine pu (i := 0) (N := some 79) (bl 42 1) rfl rfl (by kernel_rfl) ?_
    refine tk (i := 1) (N := some 80) (bl 42 3) rfl rfl (by kernel_rfl) hHeld ?_
    refine pu (i := 2) (N := some 81) (bl 42 7) rfl rfl (by kernel_rfl) ?_
    refine tk (i := 3) (N := some 82) (bl 42 15) rfl rfl (by kernel_rfl) hHeld ?_
    refine pu (i := 4) (N := some 83) (bl 42 31) rfl rfl (by kernel_rfl) ?_
    refine pu (i := 5) (N := some 84) (bl 42 63) rfl rfl (by kernel_rfl) ?_
    refine pu (i := 6) (N := some 85) (bl 42 127) rfl rfl (by kernel_rfl) ?_
    refine pu (i := 7) (N := some 86) (bl 42 255) rfl rfl (by kernel_rfl) ?_
    refine tk (i := 8) (N := some 87) (bl 42 511) rfl rfl (by kernel_rfl) hHeld ?_
    refine pu (i := 9) (N := some 88) (bl 42 1023) rfl rfl (by kernel_rfl) ?_
    refine pu (i := 10) (N := some 89) (bl 42 2047) rfl rfl (by kernel_rfl) ?_
    refine tk (i := 11) (N := some 90) (bl 42 4095) rfl rfl (by kernel_rfl) hHeld ?_
    refine pu (i := 12) (N := some 91) (bl 42 8191) rfl rfl (by kernel_rfl) ?_
    refine pu (i := 13) (N := some 92) (bl 42 16383) rfl rfl (by kernel_rfl) ?_
    refine pu (i := 14) (N := some 93) (bl 42 32767) rfl rfl (by kernel_rfl) ?_
    refine pu (i := 15) (N := some 94) (bl 42 65535) rfl rfl (by kernel_rfl) ?_
    refine tk (i := 16) (N := some 95) (bl 42 131071) rfl rfl (by kernel_rfl) hHeld ?_
    refine pu (i := 17) (N := some 96) (bl 42 262143) rfl rfl (by kernel_rfl) ?_
    refine pu (i := 18) (N := some 97) (bl 42 524287) rfl rfl (by kernel_rfl) ?_
    refine tk (i := 19) (N := some 98) (bl 42 1048575) rfl rfl (by kernel_rfl) hHeld ?_
    refine pu (i := 20) (N := some 99) (bl 42 2097151) rfl rfl (by kernel_rfl) ?_
    refine pu (i := 21) (N := some 100) (bl 42 4194303) rfl rfl (by kernel_rfl) ?_
    refine pu (i := 22) (N := some 101) (bl 42 8388607) rfl rfl (by kernel_rfl) ?_
    refine tk (i := 23) (N := some 102) (bl 42 16777215) rfl rfl (by kernel_rfl) hHeld ?_
    refine one_ (i := 24) (N := (some 103)) (bl 42 33554431) rfl rfl (by kernel_rfl) (by decide) (fun K hK => ?_)
    refine goes_ Try.func41 (by kernel_rfl) rfl #[.int .i64 0, .int .i64 0] (by rfl) rfl rfl (by (try simp only [List.map_toArray, List.map_cons, List.map_nil]); rfl) ?_
    refine (r2_Read.calls 0 0 1 0 0 [] U0 (aw_read 0 0)).mono ?_
    rintro e X1 ⟨v, rfl, o_, hb_⟩
    obtain ⟨Ea, fa, e_⟩ := Kd.R_slice o_
    subst e_
    clear o_
    have c1 := b0.trans (hb_.mono b0.size)
    refine ⟨_, rfl, ?_⟩
    refine hK.out _ _ (sS _ c1) (fun hHeld => ?_)
    clear hK K
    refine nm 103 ?_
    refine one_ (i := 25) (N := (some 104)) (bl 42 67108863) rfl rfl (by kernel_rfl) (by decide) (fun K hK => ?_)
    refine goes_ Try.func41 (by kernel_rfl) rfl #[.int .i64 3, .int .i64 0] (by rfl) rfl rfl (by (try simp only [List.map_toArray, List.map_cons, List.map_nil]); rfl) ?_
    refine (r2_Read.calls 3 0 1 3 0 [] X1 (aw_read 3 0)).mono ?_
    rintro e X2 ⟨v, rfl, o_, hb_⟩
    obtain ⟨Eb, fb, e_⟩ := Kd.R_slice o_
    subst e_
    clear o_
    have c2 := c1.trans (hb_.mono c1.size)
    refine ⟨_, rfl, ?_⟩
    refine hK.out _ _ (sS _ c2) (fun hHeld => ?_)
    clear hK K
    refine nm 104 ?_
    refine one_ (i := 26) (N := (some 105)) (bl 42 134217727) rfl rfl (by kernel_rfl) (by decide) (fun K hK => ?_)
    refine value_ (w1 := ?_) (v := ?_) (by rfl) rfl ?_ ?_
    rotate_left 2
    · go_simp
      constructor
      · rfl
      · rfl
    have vf := aw_row2 X2 0 0 3 0 Ea fa Eb fb
    have hb_ := bal (Below.refl X2.heap.size X2) (.cells #[.int .i64 1, .int .i64 0, .int .i64 0, .slice Ea 0 fa, .int .i64 1, .int .i64 3, .int .i64 0, .slice Eb 0 fb] 28)
    (try simp only [List.length_nil])
    generalize X2.alloc (.cells #[.int .i64 1, .int .i64 0, .int .i64 0, .slice Ea 0 fa, .int .i64 1, .int .i64 3, .int .i64 0, .slice Eb 0 fb] 28) = X3 at vf hb_ ⊢
    have c3 := c2.trans (hb_.mono c2.size)
    refine hK.out _ _ (sS _ c3) (fun hHeld => ?_)
    clear hK K
    refine nm 105 ?_
    refine one_ (i := 27) (N := (some 106)) (bl 42 268435455) rfl rfl (by kernel_rfl) (by decide) (fun K hK => ?_)
    refine goes_ Try.func42 (by kernel_rfl) rfl #[.int .i64 13, .slice (some ⟨X2.heap.size, 0, none⟩) 2 2] (by rfl) rfl rfl (by (try simp only [List.map_toArray, List.map_cons, List.map_nil]); rfl) ?_
    refine (r2_Of.calls 13 (fun _ => True) (some ⟨X2.heap.size, 0, none⟩) 2 [aw_r 0 0, aw_r 3 0] 13 0 0 [aw_r 0 0, aw_r 3 0] X3 vf aw_of2).mono ?_
    rintro e X4 ⟨v, rfl, vo, hb_⟩
    obtain ⟨Ec, fc, e_⟩ := Kd.V_slice vo
    subst e_
    have c4 := c3.trans (hb_.mono c3.size)
    refine ⟨_, rfl, ?_⟩
    refine hK.out _ _ (sS _ c4) (fun hHeld => ?_)
    clear hK K
    refine nm 106 ?_
    refine one_ (i := 28) (N := (some 107)) (bl 42 536870911) rfl rfl (by kernel_rfl) (by decide) (fun K hK => ?_)
    refine goes_ Try.func14 (by kernel_rfl) rfl #[.agg #[.int .i64 13, .int .i64 0, .int .i64 0, .slice D 2 d], .agg #[.int .i64 13, .int .i64 0, .int .i64 0, .slice Ec 2 fc]] (by rfl) rfl rfl (by (try simp only [List.map_toArray, List.map_cons, List.map_nil]); rfl) ?_
    refine (r2_Same.calls 60 13 0 0 D d [aw_r 0 0, aw_r 3 0] 13 0 0 Ec fc [aw_r 0 0, aw_r 3 0] true X4 (Kd.C_below XCf.out c4) Xd.out (Kd.V_reads' vo).2.2 (Kd.V_reads' vo).2.1 aw_sameE).mono ?_
    rintro e X5 ⟨rfl, hb_⟩
    have c5 := c4.trans (hb_.mono c4.size)
    refine ⟨_, rfl, ?_⟩
    refine hK.out _ _ (sS _ c5) (fun hHeld => ?_)
    clear hK K
    refine nm 107 ?_
    refine pu (i := 29) (N := some 108) (bl 42 1073741823) rfl rfl (by kernel_rfl) ?_
    refine pu (i := 30) (N := some 109) (bl 42 2147483647) rfl rfl (by kernel_rfl) ?_
    refine pu (i := 31) (N := some 110) (bl 42 4294967295) rfl rfl (by kernel_rfl) ?_
    refine one_ (i := 32) (N := (some 111)) (bl 42 8589934591) rfl rfl (by kernel_rfl) (by decide) (fun K hK => ?_)
    refine value_ (w1 := ?_) (v := ?_) (by rfl) rfl ?_ ?_
    rotate_left 2
    · go_simp
      constructor
      · rfl
      · rfl
    have ci := aw_int4 (blk_new X5 (.cells #[.int .i64 1, .int .i64 2, .int .i64 3, .int .i64 0] 3))
    have hb_ := bal (Below.refl X5.heap.size X5) (.cells #[.int .i64 1, .int .i64 2, .int .i64 3, .int .i64 0] 3)
    generalize X5.alloc (.cells #[.int .i64 1, .int .i64 2, .int .i64 3, .int .i64 0] 3) = X6 at ci hb_ ⊢
    have c6 := c5.trans (hb_.mono c5.size)
    refine hK.out _ _ (sS _ c6) (fun hHeld => ?_)
    clear hK K
    refine nm 111 ?_
    refine one_ (i := 33) (N := (some 112)) (bl 42 17179869183) rfl rfl (by kernel_rfl) (by decide) (fun K hK => ?_)
    refine goes_ Try.func35 (by kernel_rfl) rfl #[.slice As 4 cs_, .slice (some ⟨X5.heap.size, 0, none⟩) 4 4] (by rfl) rfl rfl (by (try simp only [List.map_toArray, List.map_cons, List.map_nil]); rfl) ?_
    refine (r1_Same.calls 60 As cs_ [1, 2, 3, 0] (some ⟨X5.heap.size, 0, none⟩) 4 [1, 2, 3, 0] true X6 (Kd.R_reads' (Kd.R_below OSf.out c6)).2.2 (Kd.R_reads' OSf.out).2.1 ci (by decide) aw_sameI).mono ?_
    rintro e X7 ⟨rfl, hd_⟩
    have hb_ : Below X6.heap.size X6 X7 := by
      obtain ⟨nd, rfl⟩ := hd_
      exact bdN (Below.refl _ _) nd
    clear hd_
    have c7 := c6.trans (hb_.mono c6.size)
    refine ⟨_, rfl, ?_⟩
    refine hK.out _ _ (sS _ c7) (fun hHeld => ?_)
    clear hK K
    refine nm 112 ?_
    refine pu (i := 34) (N := some 113) (bl 42 34359738367) rfl rfl (by kernel_rfl) ?_
    refine pu (i := 35) (N := some 114) (bl 42 68719476735) rfl rfl (by kernel_rfl) ?_
    refine pu (i := 36) (N := some 115) (bl 42 137438953471) rfl rfl (by kernel_rfl) ?_
    refine pu (i := 37) (N := some 116) (bl 42 274877906943) rfl rfl (by kernel_rfl) ?_
    refine one_ (i := 38) (N := (some 117)) (bl 42 549755813887) rfl rfl (by kernel_rfl) (by decide) (fun K hK => ?_)
    refine value_ (w1 := ?_) (v := ?_) (by rfl) rfl ?_ ?_
    rotate_left 2
    · go_simp
      constructor
      · rfl
      · rfl
    have co := aw_out1 (blk_new X7 (.cells #[.int .i64 1, .int .i64 3] 74))
    have hb_ := bal (Below.refl X7.heap.size X7) (.cells #[.int .i64 1, .int .i64 3] 74)
    generalize X7.alloc (.cells #[.int .i64 1, .int .i64 3] 74) = X8 at co hb_ ⊢
    have c8 := c7.trans (hb_.mono c7.size)
    refine hK.out _ _ (sS _ c8) (fun hHeld => ?_)
    clear hK K
    refine nm 117 ?_
    refine one_ (i := 39) (N := (some 118)) (bl 42 1099511627775) rfl rfl (by kernel_rfl) (by decide) (fun K hK => ?_)
    refine goes_ Try.func15 (by kernel_rfl) rfl #[.slice At 1 ct, .slice (some ⟨X7.heap.size, 0, none⟩) 1 1] (by rfl) rfl rfl (by (try simp only [List.map_toArray, List.map_cons, List.map_nil]); rfl) ?_
    refine (r5_Outs.calls 60 At ct [⟨1, 3⟩] (some ⟨X7.heap.size, 0, none⟩) 1 [⟨1, 3⟩] true X8 (Kd.R_reads' (Kd.R_below OTf.out c8)).2.2 (Kd.R_reads' OTf.out).2.1 co (by decide) aw_outs).mono ?_
    rintro e X9 ⟨rfl, hd_⟩
    have hb_ : Below X8.heap.size X8 X9 := by
      obtain ⟨nd, rfl⟩ := hd_
      exact bdN (Below.refl _ _) nd
    clear hd_
    have c9_ := c8.trans (hb_.mono c8.size)
    refine ⟨_, rfl, ?_⟩
    refine hK.out _ _ (sS _ c9_) (fun hHeld => ?_)
    clear hK K
    refine nm 118 ?_
    refine pu (i := 40) (N := some 119) (bl 42 2199023255551) rfl rfl (by kernel_rfl) ?_
    refine pu (i := 41) (N := some 0) (bl 42 4398046511103) rfl rfl (by kernel_rfl) ?_
    refine done_ (by kernel_rfl) ?_
    try simp only [Exit.then]
    go_wp2
    go_ret
    exact ⟨rfl, BWf.out.trans (c9_.mono BWf.out.size)⟩
end Go.Proofs.Ytilebfkehmecaaa.Print
namespace Go.Proofs.Ytilebfkehmecaaa.Print
open Go.RowKit Go.Proofs.YtilebfkehmecaaaW.PrintWords Go.Proofs.YtilebfkehmecaaaW.PrintLast Go.Proofs.YtilebfkehmecaaaW.PrintMore
attribute [local go_sem] max2_int min2_int max_two min_two max_three min_three max_four min_four
set_option linter.unusedVariables false
set_option linter.unusedSimpArgs false
mutual
def w12_ProdValues.j0 : Nat → List (List Int) → Bool → Int → List (S66) → List (S64) → Int → Int → Int → List (S28) → Option (Bool)
 | 0, _, _, _, _, _, _, _, _, _ => none
 | k + 1, x1, x47, x452000, x452001, x452002, x453000, x453001, x453002, x453003 => if x47 = true then ((w12_awake.f k).bind fun t458 => (some t458)) else ((prod_Plain.f k x452000 x452001 x452002 (x1.length : Int) x453000 x453001 x453002 x453003).bind fun bt459 => (if bt459.2.2.2.2 = 2 then ((w12_awake.f k).bind fun t467 => (some t467)) else ((prod_Join.f k x452000 x452001 x452002 x1).bind fun bt468 => ((r12_Vars.f k x452001 (x1.length : Int)).bind fun t472 => (if bt459.2.2.2.2 = 0 then (if bt468.2 = 0 then ((r2_Is.f k x452000 t472 1 bt459.1 bt459.2.1 bt459.2.2.1 bt459.2.2.2.1).bind fun t475 => (if t475 = true then ((r2_Store.f k x452000 t472 bt468.1).bind fun t476 => (w12_ProdValues.j1 k x1 bt468.1 t472 (!t476) x452000 x452001 x452002 x453000 x453001 x453002 x453003 bt459.1 bt459.2.1 bt459.2.2.1 bt459.2.2.2.1)) else (w12_ProdValues.j1 k x1 bt468.1 t472 true x452000 x452001 x452002 x453000 x453001 x453002 x453003 bt459.1 bt459.2.1 bt459.2.2.1 bt459.2.2.2.1))) else (w12_ProdValues.j1 k x1 bt468.1 t472 true x452000 x452001 x452002 x453000 x453001 x453002 x453003 bt459.1 bt459.2.1 bt459.2.2.1 bt459.2.2.2.1)) else (w12_ProdValues.j1 k x1 bt468.1 t472 true x452000 x452001 x452002 x453000 x453001 x453002 x453003 bt459.1 bt459.2.1 bt459.2.2.1 bt459.2.2.2.1))))))
def w12_ProdValues.j1 : Nat → List (List Int) → List Int → List (S66) → Bool → Int → List (S66) → List (S64) → Int → Int → Int → List (S28) → Int → Int → Int → List (S28) → Option (Bool)
 | 0, _, _, _, _, _, _, _, _, _, _, _, _, _, _, _ => none
 | k + 1, x1, x9, x11, x92, x452000, x452001, x452002, x453000, x453001, x453002, x453003, x467000, x467001, x467002, x467003 => if x92 = true then (some false) else ((r2_Value.f k x452000 x11 (([x9] : List (List Int))) x467000 x467001 x467002 x467003).bind fun t480 => ((r2_Value.f k x452000 x452001 x1 x453000 x453001 x453002 x453003).bind fun t481 => (if t480 = t481 then ((w12_awake.f k).bind fun t482 => (some t482)) else (some false))))
end
def w12_ProdValues.f (k : Nat) (a0_0 : Int) (l0_1 : List (S66)) (l0_2 : List (S64)) (l1 : List (List Int)) (a2_0 : Int) (a2_1 : Int) (a2_2 : Int) (l2_3 : List (S28)) : Option (Bool) := (r3_Fits.f k l0_2 600).bind fun t453 => (if t453 = true then ((r2_Fits.f k a2_0 a2_1 a2_2 l2_3 600).bind fun t454 => (if t454 = true then ((r12_Copies.f k a0_0 l0_1 l0_2 (l1.length : Int)).bind fun t455 => (if t455 = 0 then ((r2_Stores.f k a0_0 l0_1 l1).bind fun t456 => (if t456 = true then ((r2_Is.f k a0_0 l0_1 (l1.length : Int) a2_0 a2_1 a2_2 l2_3).bind fun t457 => (w12_ProdValues.j0 k l1 (!t457) a0_0 l0_1 l0_2 a2_0 a2_1 a2_2 l2_3)) else (w12_ProdValues.j0 k l1 true a0_0 l0_1 l0_2 a2_0 a2_1 a2_2 l2_3))) else (w12_ProdValues.j0 k l1 true a0_0 l0_1 l0_2 a2_0 a2_1 a2_2 l2_3))) else (w12_ProdValues.j0 k l1 true a0_0 l0_1 l0_2 a2_0 a2_1 a2_2 l2_3))) else (w12_ProdValues.j0 k l1 true a0_0 l0_1 l0_2 a2_0 a2_1 a2_2 l2_3))
def w12_ProdValues.T10 : Bool × List (List Nat × List Nat) := (true, [([], []), ([0], [0]), ([], []), ([], []), ([3], [3]), ([], []), ([1, 2, 4, 5], [1, 2, 4, 5]), ([], []), ([7], [7]), ([], []), ([9], [9]), ([], []), ([], []), ([8, 10, 11, 12, 6], [8, 10, 11, 12]), ([6, 13], [6, 13]), ([14, 13], [14]), ([15, 15], [15]), ([15, 16], [15, 16]), ([17, 16, 0, 1, 2, 3, 4, 5, 6, 7, 8, 9, 10, 11, 12, 13, 14, 15, 16, 17], [17])])
def w12_ProdValues.B10 : List Nat := [0, 1, 0, 0, 8, 0, 63, 0, 128, 0, 512, 0, 0, 8191, 16383, 32767, 65535, 131071, 262143]
theorem w12_ProdValues.tab10 : rtab .any (opsOf Try.f5 10) = w12_ProdValues.T10 := by kernel_rfl
theorem w12_ProdValues.bits10 : waitsOk w12_ProdValues.T10.2 w12_ProdValues.B10 = true := by kernel_rfl
theorem w12_ProdValues.calls (k : Nat) (a0_0 : Int) (A0_1 : Option Addr) (c0_1 : Nat) (l0_1 : List (S66)) (A0_2 : Option Addr) (c0_2 : Nat) (l0_2 : List (S64)) (A1 : Option Addr) (c1 : Nat) (l1 : List (List Int)) (a2_0 : Int) (a2_1 : Int) (a2_2 : Int) (A2_3 : Option Addr) (c2_3 : Nat) (l2_3 : List (S28)) (r : Bool) (w : World) (hr0_1 : Kd.C k66 w A0_1 l0_1.length l0_1) (hc0_1 : l0_1.length ≤ c0_1) (hr0_2 : Kd.C k64 w A0_2 l0_2.length l0_2) (hc0_2 : l0_2.length ≤ c0_2) (hr1 : Kd.C (Kd.slice 3 (Kd.int .i64)) w A1 l1.length l1) (hc1 : l1.length ≤ c1) (hr2_3 : Kd.C k28 w A2_3 l2_3.length l2_3) (hc2_3 : l2_3.length ≤ c2_3) (hrt : r = true) (h : w12_ProdValues.f k a0_0 l0_1 l0_2 l1 a2_0 a2_1 a2_2 l2_3 = some r) :
  Calls Try.prog 5 #[.agg #[.int .i64 a0_0, .slice A0_1 l0_1.length c0_1, .slice A0_2 l0_2.length c0_2], .slice A1 l1.length c1, .agg #[.int .i64 a2_0, .int .i64 a2_1, .int .i64 a2_2, .slice A2_3 l2_3.length c2_3]] w fun e w' => e = .returned (.bool r) ∧ Below w.heap.size w w' := by
 have hu25 := Try.underlying25
 have hu28 := Try.underlying28
 have HR0_1 := Aside0.mk hr0_1
 have HC0_1 := Aside0.mk hc0_1
 clear hr0_1 hc0_1
 have HR0_2 := Aside0.mk hr0_2
 have HC0_2 := Aside0.mk hc0_2
 clear hr0_2 hc0_2
 have HR1 := Aside0.mk hr1
 have HC1 := Aside0.mk hc1
 clear hr1 hc1
 have HR2_3 := Aside0.mk hr2_3
 have HC2_3 := Aside0.mk hc2_3
 clear hr2_3 hc2_3
 have HB := Aside0.mk (Below.refl w.heap.size w)
 have H : ((r3_Fits.f k l0_2 600).bind fun t453 => (if t453 = true then ((r2_Fits.f k a2_0 a2_1 a2_2 l2_3 600).bind fun t454 => (if t454 = true then ((r12_Copies.f k a0_0 l0_1 l0_2 (l1.length : Int)).bind fun t455 => (if t455 = 0 then ((r2_Stores.f k a0_0 l0_1 l1).bind fun t456 => (if t456 = true then ((r2_Is.f k a0_0 l0_1 (l1.length : Int) a2_0 a2_1 a2_2 l2_3).bind fun t457 => (w12_ProdValues.j0 k l1 (!t457) a0_0 l0_1 l0_2 a2_0 a2_1 a2_2 l2_3)) else (w12_ProdValues.j0 k l1 true a0_0 l0_1 l0_2 a2_0 a2_1 a2_2 l2_3))) else (w12_ProdValues.j0 k l1 true a0_0 l0_1 l0_2 a2_0 a2_1 a2_2 l2_3))) else (w12_ProdValues.j0 k l1 true a0_0 l0_1 l0_2 a2_0 a2_1 a2_2 l2_3))) else (w12_ProdValues.j0 k l1 true a0_0 l0_1 l0_2 a2_0 a2_1 a2_2 l2_3))) = some r := h
 clear h
 have HC4 := Aside0.mk H
 clear H
 go_enter Try.func5, Try.ntmps5
 go_upto_region 1 with (first | ((with_reducible refine gate_dst (N := 3) rfl ?_); (try (refine gate_guard (by rfl) ?_; dsimp only)); refine bx 3 rfl rfl #[.int .i64 a0_0, .slice A0_1 l0_1.length c0_1, .slice A0_2 l0_2.length c0_2] 25 ?_; intro gb451 hg w5 hbox hb; have BK451 := Aside0.mk (hbox); have GE451 := ge HB hg; replace HB := sb HB hb; clear hb hbox hg) | ((with_reducible refine gate_dst (N := 5) rfl ?_); (try (refine gate_guard (by rfl) ?_; dsimp only)); refine bx 5 rfl rfl #[.int .i64 a2_0, .int .i64 a2_1, .int .i64 a2_2, .slice A2_3 l2_3.length c2_3] 28 ?_; intro gb452 hg w6 hbox hb; have BK452 := Aside0.mk (hbox); have GE452 := ge HB hg; have NB451_452 := Aside0.mk ((by rw [hg]; exact Nat.ne_of_lt (blk_lt (kk BK451)) : gb451 ≠ gb452)); have NB452_451 := Aside0.mk ((by rw [hg]; exact Nat.ne_of_gt (blk_lt (kk BK451)) : gb452 ≠ gb451)); replace BK451 := kb BK451 hb; replace HB := sb HB hb; clear hb hbox hg))
 (try simp only [Act.put, List.setIfInBounds_toArray, List.set_cons_zero, List.set_cons_succ])
 go_cut [47] (fun v47 wc => ∃ (kq : Nat) (x47_3 : Bool), v47 = .bool x47_3 ∧ Aside0 (w12_ProdValues.j0 kq l1 x47_3 a0_0 l0_1 l0_2 a2_0 a2_1 a2_2 l2_3 = some r) ∧ Aside0 (kq ≤ k) ∧ Aside0 (wc.heap[gb451]? = some (.cells #[.int .i64 a0_0, (.slice A0_1 l0_1.length c0_1), (.slice A0_2 l0_2.length c0_2)] 25 (0, 0))) ∧ Aside0 (wc.heap[gb452]? = some (.cells #[.int .i64 a2_0, .int .i64 a2_1, .int .i64 a2_2, (.slice A2_3 l2_3.length c2_3)] 28 (0, 0))) ∧ Aside0 (Below w.heap.size w wc))
 case first =>
  have H := HC4.out
  clear HC4
  obtain ⟨t453, A7, H⟩ := be H
  by_cases c8 : t453 = true
  rotate_left
  ·replace c8 := Bool.eq_false_iff.mpr c8
   subst c8
   replace H := fi H
   have H' := Aside0.mk H
   clear H
   have hnb46 := NB451_452.out
   have hnc46 := NB452_451.out
   obtain ⟨hcz47_0, hcz47_1, hcz47_2, hfz47_0, hfz47_1, hfz47_2⟩ := cf3 BK451.out
   go_wp2_with (first | ((with_reducible refine gate_callee (f := 9) rfl ?_); refine gL (some 14) rfl rfl Try.func9 #[.slice A0_2 l0_2.length c0_2, .int .i64 600] rfl ?_; (with_reducible refine (r3_Fits.calls k _ _ l0_2 600 false _ ?side1 ?side2 A7.out).mono ?_); (case side1 => exact cb HR0_2 HB); (case side2 => exact HC0_2.out); rintro e w48 ⟨rfl, hb⟩; refine ⟨_, rfl, ?_⟩; replace BK451 := kb BK451 hb; replace BK452 := kb BK452 hb; replace HB := sb HB hb; (try clear hb)))
   go_meet
   case rel => exact ⟨_, (true), rs, H', ⟨by first | omega | exact Nat.le_refl _⟩, ⟨kk BK451⟩, ⟨kk BK452⟩, ⟨bb HB⟩⟩
  subst c8
  replace H := it H
  obtain ⟨t454, A9, H⟩ := be H
  by_cases c10 : t454 = true
  rotate_left
  ·replace c10 := Bool.eq_false_iff.mpr c10
   subst c10
   replace H := fi H
   have H' := Aside0.mk H
   clear H
   have hnb41 := NB451_452.out
   have hnc41 := NB452_451.out
   obtain ⟨hcz42_0, hcz42_1, hcz42_2, hfz42_0, hfz42_1, hfz42_2⟩ := cf3 BK451.out
   go_wp2_with (first | ((with_reducible refine gate_callee (f := 9) rfl ?_); refine gL (some 14) rfl rfl Try.func9 #[.slice A0_2 l0_2.length c0_2, .int .i64 600] rfl ?_; (with_reducible refine (r3_Fits.calls k _ _ l0_2 600 true _ ?side1 ?side2 A7.out).mono ?_); (case side1 => exact cb HR0_2 HB); (case side2 => exact HC0_2.out); rintro e w43 ⟨rfl, hb⟩; refine ⟨_, rfl, ?_⟩; replace BK451 := kb BK451 hb; replace BK452 := kb BK452 hb; replace HB := sb HB hb; (try clear hb); obtain ⟨hcz44_0, hcz44_1, hcz44_2, hcz44_3, hfz44_0, hfz44_1, hfz44_2, hfz44_3⟩ := cf4 BK452.out) | (go_at_call 10; (with_reducible refine (r2_Fits.calls k a2_0 a2_1 a2_2 _ _ l2_3 600 false _ ?side1 ?side2 A9.out).mono ?_); (case side1 => exact cb HR2_3 HB); (case side2 => exact HC2_3.out); rintro e w45 ⟨rfl, hb⟩; replace BK451 := kb BK451 hb; replace BK452 := kb BK452 hb; replace HB := sb HB hb; (try clear hb)))
   go_meet
   case rel => exact ⟨_, (true), rs, H', ⟨by first | omega | exact Nat.le_refl _⟩, ⟨kk BK451⟩, ⟨kk BK452⟩, ⟨bb HB⟩⟩
  subst c10
  replace H := it H
  obtain ⟨t455, A11, H⟩ := be H
  by_cases c12 : t455 = 0
  rotate_left
  ·rw [if_neg c12] at H
   have c12b0 : (t455 == 0) = false := beq_eq_false_iff_ne.mpr c12
   have c12b1 : (t455 != 0) = true := bne_iff_ne.mpr c12
   (first | rw [c12b0] | (simp only [i64_w, i32_w]; rw [c12b0]) | skip)
   have H' := Aside0.mk H
   clear H
   have hnb34 := NB451_452.out
   have hnc34 := NB452_451.out
   obtain ⟨hcz35_0, hcz35_1, hcz35_2, hfz35_0, hfz35_1, hfz35_2⟩ := cf3 BK451.out
   go_wp2_with (first | ((with_reducible refine gate_callee (f := 9) rfl ?_); refine gL (some 14) rfl rfl Try.func9 #[.slice A0_2 l0_2.length c0_2, .int .i64 600] rfl ?_; (with_reducible refine (r3_Fits.calls k _ _ l0_2 600 true _ ?side1 ?side2 A7.out).mono ?_); (case side1 => exact cb HR0_2 HB); (case side2 => exact HC0_2.out); rintro e w36 ⟨rfl, hb⟩; refine ⟨_, rfl, ?_⟩; replace BK451 := kb BK451 hb; replace BK452 := kb BK452 hb; replace HB := sb HB hb; (try clear hb); obtain ⟨hcz37_0, hcz37_1, hcz37_2, hcz37_3, hfz37_0, hfz37_1, hfz37_2, hfz37_3⟩ := cf4 BK452.out) | (go_at_call 10; (with_reducible refine (r2_Fits.calls k a2_0 a2_1 a2_2 _ _ l2_3 600 true _ ?side1 ?side2 A9.out).mono ?_); (case side1 => exact cb HR2_3 HB); (case side2 => exact HC2_3.out); rintro e w38 ⟨rfl, hb⟩; replace BK451 := kb BK451 hb; replace BK452 := kb BK452 hb; replace HB := sb HB hb; (try clear hb); obtain ⟨hcz39_0, hcz39_1, hcz39_2, hfz39_0, hfz39_1, hfz39_2⟩ := cf3 BK451.out) | (go_at_call 18; (with_reducible refine (r12_Copies.calls k a0_0 _ _ l0_1 _ _ l0_2 (l1.length : Int) t455 _ ?side1 ?side2 ?side3 ?side4 A11.out).mono ?_); (case side1 => exact cb HR0_1 HB); (case side2 => exact HC0_1.out); (case side3 => exact cb HR0_2 HB); (case side4 => exact HC0_2.out); rintro e w40 ⟨rfl, hb⟩; replace BK451 := kb BK451 hb; replace BK452 := kb BK452 hb; replace HB := sb HB hb; (try clear hb)))
   go_meet
   case rel => exact ⟨_, (true), rs, H', ⟨by first | omega | exact Nat.le_refl _⟩, ⟨kk BK451⟩, ⟨kk BK452⟩, ⟨bb HB⟩⟩
  rw [if_pos c12] at H
  have c12b0 : (t455 == 0) = true := beq_iff_eq.mpr c12
  have c12b1 : (t455 != 0) = false := bne_eq_false_iff_eq.mpr c12
  clear c12
  (first | rw [c12b0] | (simp only [i64_w, i32_w]; rw [c12b0]) | skip)
  obtain ⟨t456, A13, H⟩ := be H
  by_cases c14 : t456 = true
  rotate_left
  ·replace c14 := Bool.eq_false_iff.mpr c14
   subst c14
   replace H := fi H
   have H' := Aside0.mk H
   clear H
   have hnb26 := NB451_452.out
   have hnc26 := NB452_451.out
   obtain ⟨hcz27_0, hcz27_1, hcz27_2, hfz27_0, hfz27_1, hfz27_2⟩ := cf3 BK451.out
   go_wp2_with (first | ((with_reducible refine gate_callee (f := 9) rfl ?_); refine gL (some 14) rfl rfl Try.func9 #[.slice A0_2 l0_2.length c0_2, .int .i64 600] rfl ?_; (with_reducible refine (r3_Fits.calls k _ _ l0_2 600 true _ ?side1 ?side2 A7.out).mono ?_); (case side1 => exact cb HR0_2 HB); (case side2 => exact HC0_2.out); rintro e w28 ⟨rfl, hb⟩; refine ⟨_, rfl, ?_⟩; replace BK451 := kb BK451 hb; replace BK452 := kb BK452 hb; replace HB := sb HB hb; (try clear hb); obtain ⟨hcz29_0, hcz29_1, hcz29_2, hcz29_3, hfz29_0, hfz29_1, hfz29_2, hfz29_3⟩ := cf4 BK452.out) | (go_at_call 10; (with_reducible refine (r2_Fits.calls k a2_0 a2_1 a2_2 _ _ l2_3 600 true _ ?side1 ?side2 A9.out).mono ?_); (case side1 => exact cb HR2_3 HB); (case side2 => exact HC2_3.out); rintro e w30 ⟨rfl, hb⟩; replace BK451 := kb BK451 hb; replace BK452 := kb BK452 hb; replace HB := sb HB hb; (try clear hb); obtain ⟨hcz31_0, hcz31_1, hcz31_2, hfz31_0, hfz31_1, hfz31_2⟩ := cf3 BK451.out) | (go_at_call 18; (with_reducible refine (r12_Copies.calls k a0_0 _ _ l0_1 _ _ l0_2 (l1.length : Int) t455 _ ?side1 ?side2 ?side3 ?side4 A11.out).mono ?_); (case side1 => exact cb HR0_1 HB); (case side2 => exact HC0_1.out); (case side3 => exact cb HR0_2 HB); (case side4 => exact HC0_2.out); rintro e w32 ⟨rfl, hb⟩; replace BK451 := kb BK451 hb; replace BK452 := kb BK452 hb; replace HB := sb HB hb; (try clear hb); obtain ⟨hcz33_0, hcz33_1, hcz33_2, hfz33_0, hfz33_1, hfz33_2⟩ := cf3 BK451.out) | (go_at_call 19; (with_reducible refine (r2_Stores.calls k a0_0 _ _ l0_1 _ _ l1 false _ ?side1 ?side2 ?side3 ?side4 A13.out).mono ?_); (case side1 => exact cb HR0_1 HB); (case side2 => exact HC0_1.out); (case side3 => exact cb HR1 HB); (case side4 => exact HC1.out); rintro e w' ⟨rfl, ⟨nd, rfl⟩⟩))
   go_meet
   case rel => exact ⟨_, (true), rs, H', ⟨by first | omega | exact Nat.le_refl _⟩, ⟨kk BK451⟩, ⟨kk BK452⟩, ⟨bb HB⟩⟩
  subst c14
  replace H := it H
  obtain ⟨t457, A15, H⟩ := be H
  have H' := Aside0.mk H
  clear H
  have hnb16 := NB451_452.out
  have hnc16 := NB452_451.out
  obtain ⟨hcz17_0, hcz17_1, hcz17_2, hfz17_0, hfz17_1, hfz17_2⟩ := cf3 BK451.out
  go_wp2_with (first | ((with_reducible refine gate_callee (f := 9) rfl ?_); refine gL (some 14) rfl rfl Try.func9 #[.slice A0_2 l0_2.length c0_2, .int .i64 600] rfl ?_; (with_reducible refine (r3_Fits.calls k _ _ l0_2 600 true _ ?side1 ?side2 A7.out).mono ?_); (case side1 => exact cb HR0_2 HB); (case side2 => exact HC0_2.out); rintro e w18 ⟨rfl, hb⟩; refine ⟨_, rfl, ?_⟩; replace BK451 := kb BK451 hb; replace BK452 := kb BK452 hb; replace HB := sb HB hb; (try clear hb); obtain ⟨hcz19_0, hcz19_1, hcz19_2, hcz19_3, hfz19_0, hfz19_1, hfz19_2, hfz19_3⟩ := cf4 BK452.out) | (go_at_call 10; (with_reducible refine (r2_Fits.calls k a2_0 a2_1 a2_2 _ _ l2_3 600 true _ ?side1 ?side2 A9.out).mono ?_); (case side1 => exact cb HR2_3 HB); (case side2 => exact HC2_3.out); rintro e w20 ⟨rfl, hb⟩; replace BK451 := kb BK451 hb; replace BK452 := kb BK452 hb; replace HB := sb HB hb; (try clear hb); obtain ⟨hcz21_0, hcz21_1, hcz21_2, hfz21_0, hfz21_1, hfz21_2⟩ := cf3 BK451.out) | (go_at_call 18; (with_reducible refine (r12_Copies.calls k a0_0 _ _ l0_1 _ _ l0_2 (l1.length : Int) t455 _ ?side1 ?side2 ?side3 ?side4 A11.out).mono ?_); (case side1 => exact cb HR0_1 HB); (case side2 => exact HC0_1.out); (case side3 => exact cb HR0_2 HB); (case side4 => exact HC0_2.out); rintro e w22 ⟨rfl, hb⟩; replace BK451 := kb BK451 hb; replace BK452 := kb BK452 hb; replace HB := sb HB hb; (try clear hb); obtain ⟨hcz23_0, hcz23_1, hcz23_2, hfz23_0, hfz23_1, hfz23_2⟩ := cf3 BK451.out) | (go_at_call 19; (with_reducible refine (r2_Stores.calls k a0_0 _ _ l0_1 _ _ l1 true _ ?side1 ?side2 ?side3 ?side4 A13.out).mono ?_); (case side1 => exact cb HR0_1 HB); (case side2 => exact HC0_1.out); (case side3 => exact cb HR1 HB); (case side4 => exact HC1.out); rintro e w' ⟨rfl, ⟨nd, rfl⟩⟩; obtain ⟨hcz24_0, hcz24_1, hcz24_2, hcz24_3, hfz24_0, hfz24_1, hfz24_2, hfz24_3⟩ := cf4 BK452.out) | (go_at_call 20; (with_reducible refine (r2_Is.calls k a0_0 _ _ l0_1 (l1.length : Int) a2_0 a2_1 a2_2 _ _ l2_3 t457 _ ?side1 ?side2 ?side3 ?side4 A15.out).mono ?_); (case side1 => repeat (first | exact (Kd.C_below HR0_1.out (bb HB)) | with_reducible first | apply Kd.C_alloc | apply Kd.C_drewN | apply Kd.C_drew)); (case side2 => exact HC0_1.out); (case side3 => repeat (first | exact (Kd.C_below HR2_3.out (bb HB)) | with_reducible first | apply Kd.C_alloc | apply Kd.C_drewN | apply Kd.C_drew)); (case side4 => exact HC2_3.out); rintro e w25 ⟨rfl, hb⟩; replace BK451 := kb BK451 hb; replace BK452 := kb BK452 hb; replace HB := sb HB hb; (try clear hb)))
  go_meet
  case rel => exact ⟨_, (!t457), rs, H', ⟨by first | omega | exact Nat.le_refl _⟩, ⟨kk BK451⟩, ⟨kk BK452⟩, ⟨bb HB⟩⟩
 case rest =>
  clear HC4
  try clear c1
  try clear c2
  try clear p2
  try clear c3
  try clear c4
  try clear c5
  try clear c8
  try clear c9
  try clear c10
  try clear c12
  try clear c12b0
  try clear c12b1
  try clear c14
  try clear c16
  try clear c26
  try clear c34
  try clear c41
  try clear c46
  try clear hcz17_0 hcz17_1 hcz17_2
  try clear hcz19_0 hcz19_1 hcz19_2 hcz19_3
  try clear hcz21_0 hcz21_1 hcz21_2
  try clear hcz23_0 hcz23_1 hcz23_2
  try clear hcz24_0 hcz24_1 hcz24_2 hcz24_3
  try clear hcz27_0 hcz27_1 hcz27_2
  try clear hcz29_0 hcz29_1 hcz29_2 hcz29_3
  try clear hcz31_0 hcz31_1 hcz31_2
  try clear hcz33_0 hcz33_1 hcz33_2
  try clear hcz35_0 hcz35_1 hcz35_2
  try clear hcz37_0 hcz37_1 hcz37_2 hcz37_3
  try clear hcz39_0 hcz39_1 hcz39_2
  try clear hcz42_0 hcz42_1 hcz42_2
  try clear hcz44_0 hcz44_1 hcz44_2 hcz44_3
  try clear hcz47_0 hcz47_1 hcz47_2
  try clear hfz17_0 hfz17_1 hfz17_2
  try clear hfz19_0 hfz19_1 hfz19_2 hfz19_3
  try clear hfz21_0 hfz21_1 hfz21_2
  try clear hfz23_0 hfz23_1 hfz23_2
  try clear hfz24_0 hfz24_1 hfz24_2 hfz24_3
  try clear hfz27_0 hfz27_1 hfz27_2
  try clear hfz29_0 hfz29_1 hfz29_2 hfz29_3
  try clear hfz31_0 hfz31_1 hfz31_2
  try clear hfz33_0 hfz33_1 hfz33_2
  try clear hfz35_0 hfz35_1 hfz35_2
  try clear hfz37_0 hfz37_1 hfz37_2 hfz37_3
  try clear hfz39_0 hfz39_1 hfz39_2
  try clear hfz42_0 hfz42_1 hfz42_2
  try clear hfz44_0 hfz44_1 hfz44_2 hfz44_3
  try clear hfz47_0 hfz47_1 hfz47_2
  obtain ⟨kq, x47_3, rfl, HA, HJ3, BK451, BK452, HB⟩ := hcut
  cases kq with
  | zero => exact absurd HA.out (by simp [w12_ProdValues.j0])
  | succ kj3 =>
   have H := HA.out
   clear HA
   simp only [w12_ProdValues.j0] at H
   by_cases c49 : x47_3 = true
   ·subst c49
    replace H := it H
    obtain ⟨t458, A50, H⟩ := be H
    obtain rfl := Option.some.inj H
    go_wp2_with (first | ((with_reducible refine gate_callee (f := 11) rfl ?_); refine gL (some 48) rfl rfl Try.func11 #[] rfl ?_; (with_reducible refine (w12_awake.calls kj3  t458 _ A50.out).mono ?_); rintro e w51 ⟨rfl, hb⟩; refine ⟨_, rfl, ?_⟩; replace BK451 := kb BK451 hb; replace BK452 := kb BK452 hb; replace HB := sb HB hb; (try clear hb)))
    go_ret
    exact ⟨rr, bb HB⟩
   replace c49 := Bool.eq_false_iff.mpr c49
   subst c49
   replace H := fi H
   replace H := Option.bind_eq_some_iff.mp H
   obtain ⟨⟨t459, t460, t461, t462, t465⟩, A520, H⟩ := H
   replace H : (if t465 = 2 then ((w12_awake.f kj3).bind fun t467 => (some t467)) else ((prod_Join.f kj3 a0_0 l0_1 l0_2 l1).bind fun bt468 => ((r12_Vars.f kj3 l0_1 (l1.length : Int)).bind fun t472 => (if t465 = 0 then (if bt468.2 = 0 then ((r2_Is.f kj3 a0_0 t472 1 t459 t460 t461 t462).bind fun t475 => (if t475 = true then ((r2_Store.f kj3 a0_0 t472 bt468.1).bind fun t476 => (w12_ProdValues.j1 kj3 l1 bt468.1 t472 (!t476) a0_0 l0_1 l0_2 a2_0 a2_1 a2_2 l2_3 t459 t460 t461 t462)) else (w12_ProdValues.j1 kj3 l1 bt468.1 t472 true a0_0 l0_1 l0_2 a2_0 a2_1 a2_2 l2_3 t459 t460 t461 t462))) else (w12_ProdValues.j1 kj3 l1 bt468.1 t472 true a0_0 l0_1 l0_2 a2_0 a2_1 a2_2 l2_3 t459 t460 t461 t462)) else (w12_ProdValues.j1 kj3 l1 bt468.1 t472 true a0_0 l0_1 l0_2 a2_0 a2_1 a2_2 l2_3 t459 t460 t461 t462))))) = some r := H
   have A52 := Aside0.mk A520
   clear A520
   by_cases c53 : t465 = 2
   ·rw [if_pos c53] at H
    have c53b0 : (t465 == 2) = true := beq_iff_eq.mpr c53
    have c53b1 : (t465 != 2) = false := bne_eq_false_iff_eq.mpr c53
    clear c53
    obtain ⟨t467, A54, H⟩ := be H
    obtain rfl := Option.some.inj H
    have hnb55 := NB451_452.out
    have hnc55 := NB452_451.out
    obtain ⟨hcz56_0, hcz56_1, hcz56_2, hfz56_0, hfz56_1, hfz56_2⟩ := cf3 BK451.out
    obtain ⟨hcz57_0, hcz57_1, hcz57_2, hcz57_3, hfz57_0, hfz57_1, hfz57_2, hfz57_3⟩ := cf4 BK452.out
    go_wp2_with (first | ((with_reducible refine gate_callee (f := 12) rfl ?_); refine gL (some 54) rfl rfl Try.func12 #[.agg #[.int .i64 a0_0, .slice A0_1 l0_1.length c0_1, .slice A0_2 l0_2.length c0_2], .int .i64 (l1.length : Int), .agg #[.int .i64 a2_0, .int .i64 a2_1, .int .i64 a2_2, .slice A2_3 l2_3.length c2_3]] rfl ?_; (with_reducible refine (prod_Plain.calls kj3 a0_0 _ _ l0_1 _ _ l0_2 (l1.length : Int) a2_0 a2_1 a2_2 _ _ l2_3 t459 t460 t461 t462 t465 _ ?side1 ?side2 ?side3 ?side4 ?side5 ?side6 A52.out).mono ?_); (case side1 => exact cb HR0_1 HB); (case side2 => exact HC0_1.out); (case side3 => exact cb HR0_2 HB); (case side4 => exact HC0_2.out); (case side5 => exact cb HR2_3 HB); (case side6 => exact HC2_3.out); rintro e w58 ⟨v463, rfl, ho0, hb⟩; refine ⟨_, rfl, ?_⟩; have HO464 := Aside0.mk (Kd.N_lower (Kd.N_mono (ok' := fun k_ => k_ ≠ gb451 ∧ k_ ≠ gb452) (Kd.R_N (Kd.R_bound ho0)) (fun k_ hk_ => ⟨(Kd.freshB (kk BK451) k_ hk_.2.1), (Kd.freshB (kk BK452) k_ hk_.2.1)⟩)) (bsz (bb HB))); replace BK451 := kb BK451 hb; replace BK452 := kb BK452 hb; replace HB := sb HB hb; (try clear hb); (try clear ho0)) | ((with_reducible refine gate_dst (N := 7) rfl ?_); (try (refine gate_guard (by rfl) ?_; dsimp only)); refine bx 7 rfl rfl #[.int .i64 0, .int .i64 0, .int .i64 0, .slice none 0 0] 28 ?_; intro gb466 hg w59 hbox hb; have BK466 := Aside0.mk (hbox); have GE466 := ge HB hg; have NB451_466 := Aside0.mk ((by rw [hg]; exact Nat.ne_of_lt (blk_lt (kk BK451)) : gb451 ≠ gb466)); have NB466_451 := Aside0.mk ((by rw [hg]; exact Nat.ne_of_gt (blk_lt (kk BK451)) : gb466 ≠ gb451)); have NB452_466 := Aside0.mk ((by rw [hg]; exact Nat.ne_of_lt (blk_lt (kk BK452)) : gb452 ≠ gb466)); have NB466_452 := Aside0.mk ((by rw [hg]; exact Nat.ne_of_gt (blk_lt (kk BK452)) : gb466 ≠ gb452)); replace HO464 := Aside0.mk (Kd.N_below (Kd.N_elderB (iN HO464) gb466 (Nat.le_of_eq hg.symm)) hb); replace BK451 := kb BK451 hb; replace BK452 := kb BK452 hb; replace HB := sb HB hb; clear hb hbox hg; have hnb60 := NB466_451.out; have hnc60 := NB451_466.out; have hnb61 := NB466_452.out; have hnc61 := NB452_466.out; obtain ⟨hcz62_0, hcz62_1, hcz62_2, hcz62_3, hfz62_0, hfz62_1, hfz62_2, hfz62_3⟩ := cf4 BK466.out; obtain ⟨Ao63, co63, eo63⟩ := Kd.N_slice HO464.out; subst eo63) | ((with_reducible refine gate_callee (f := 11) rfl ?_); refine gL (some 59) rfl rfl Try.func11 #[] rfl ?_; (with_reducible refine (w12_awake.calls kj3  t467 _ A54.out).mono ?_); rintro e w64 ⟨rfl, hb⟩; refine ⟨_, rfl, ?_⟩; replace HO464 := Aside0.mk (Kd.N_below (by (with_reducible repeat (first | apply Kd.N_alloc | apply Kd.N_drewN | apply Kd.N_drew)); exact (Kd.N_mono (Kd.N_far (p := ⟨gb466, 3, none⟩) (Kd.N_far (p := ⟨gb466, 2, none⟩) (Kd.N_far (p := ⟨gb466, 1, none⟩) (Kd.N_far (p := ⟨gb466, 0, none⟩) (Kd.N_mono HO464.out (fun k_ hk => (⟨hk, hk.2⟩ : _ ∧ k_ ≠ gb466))) (fun _ hk => hk.2) (.int .i64 t459)) (fun _ hk => hk.2) (.int .i64 t460)) (fun _ hk => hk.2) (.int .i64 t461)) (fun _ hk => hk.2) (.slice Ao63 t462.length co63)) (fun _ h_ => h_.1))) hb); replace BK451 := kb BK451 hb; replace BK452 := kb BK452 hb; replace BK466 := Aside0.mk (blk_below (g := gb466) (o := .cells #[.int .i64 t459, .int .i64 t460, .int .i64 t461, .slice Ao63 t462.length co63] 28 (0, 0)) (by (with_reducible repeat (first | refine kdN ?_ _ | refine kdr ?_ | refine kal ?_ _)); refine blk_put (cs := #[.int .i64 t459, .int .i64 t460, .int .i64 t461, .slice none 0 0]) ?_ 3 _ rfl; (with_reducible repeat (first | refine kdN ?_ _ | refine kdr ?_ | refine kal ?_ _)); refine blk_put (cs := #[.int .i64 t459, .int .i64 t460, .int .i64 0, .slice none 0 0]) ?_ 2 _ rfl; (with_reducible repeat (first | refine kdN ?_ _ | refine kdr ?_ | refine kal ?_ _)); refine blk_put (cs := #[.int .i64 t459, .int .i64 0, .int .i64 0, .slice none 0 0]) ?_ 1 _ rfl; (with_reducible repeat (first | refine kdN ?_ _ | refine kdr ?_ | refine kal ?_ _)); refine blk_put (cs := #[.int .i64 0, .int .i64 0, .int .i64 0, .slice none 0 0]) ?_ 0 _ rfl; (with_reducible repeat (first | refine kdN ?_ _ | refine kdr ?_ | refine kal ?_ _)); exact BK466.out) hb); replace HB := sb HB hb; (try clear hb)))
    go_ret
    exact ⟨rr, bb HB⟩
   rw [if_neg c53] at H
   have c53b0 : (t465 == 2) = false := beq_eq_false_iff_ne.mpr c53
   have c53b1 : (t465 != 2) = true := bne_iff_ne.mpr c53
   replace H := Option.bind_eq_some_iff.mp H
   obtain ⟨⟨t468, t471⟩, A650, H⟩ := H
   replace H : ((r12_Vars.f kj3 l0_1 (l1.length : Int)).bind fun t472 => (if t465 = 0 then (if t471 = 0 then ((r2_Is.f kj3 a0_0 t472 1 t459 t460 t461 t462).bind fun t475 => (if t475 = true then ((r2_Store.f kj3 a0_0 t472 t468).bind fun t476 => (w12_ProdValues.j1 kj3 l1 t468 t472 (!t476) a0_0 l0_1 l0_2 a2_0 a2_1 a2_2 l2_3 t459 t460 t461 t462)) else (w12_ProdValues.j1 kj3 l1 t468 t472 true a0_0 l0_1 l0_2 a2_0 a2_1 a2_2 l2_3 t459 t460 t461 t462))) else (w12_ProdValues.j1 kj3 l1 t468 t472 true a0_0 l0_1 l0_2 a2_0 a2_1 a2_2 l2_3 t459 t460 t461 t462)) else (w12_ProdValues.j1 kj3 l1 t468 t472 true a0_0 l0_1 l0_2 a2_0 a2_1 a2_2 l2_3 t459 t460 t461 t462))) = some r := H
   have A65 := Aside0.mk A650
   clear A650
   obtain ⟨t472, A66, H⟩ := be H
   have HC67 := Aside0.mk H
   clear H
   have hnb68 := NB451_452.out
   have hnc68 := NB452_451.out
   obtain ⟨hcz69_0, hcz69_1, hcz69_2, hfz69_0, hfz69_1, hfz69_2⟩ := cf3 BK451.out
   obtain ⟨hcz70_0, hcz70_1, hcz70_2, hcz70_3, hfz70_0, hfz70_1, hfz70_2, hfz70_3⟩ := cf4 BK452.out
   go_upto_region 8 with (first | ((with_reducible refine gate_callee (f := 12) rfl ?_); refine gL (some 54) rfl rfl Try.func12 #[.agg #[.int .i64 a0_0, .slice A0_1 l0_1.length c0_1, .slice A0_2 l0_2.length c0_2], .int .i64 (l1.length : Int), .agg #[.int .i64 a2_0, .int .i64 a2_1, .int .i64 a2_2, .slice A2_3 l2_3.length c2_3]] rfl ?_; (with_reducible refine (prod_Plain.calls kj3 a0_0 _ _ l0_1 _ _ l0_2 (l1.length : Int) a2_0 a2_1 a2_2 _ _ l2_3 t459 t460 t461 t462 t465 _ ?side1 ?side2 ?side3 ?side4 ?side5 ?side6 A52.out).mono ?_); (case side1 => exact cb HR0_1 HB); (case side2 => exact HC0_1.out); (case side3 => exact cb HR0_2 HB); (case side4 => exact HC0_2.out); (case side5 => exact cb HR2_3 HB); (case side6 => exact HC2_3.out); rintro e w71 ⟨v463, rfl, ho0, hb⟩; refine ⟨_, rfl, ?_⟩; have HO464 := Aside0.mk (Kd.N_lower (Kd.N_mono (ok' := fun k_ => k_ ≠ gb451 ∧ k_ ≠ gb452) (Kd.R_N (Kd.R_bound ho0)) (fun k_ hk_ => ⟨(Kd.freshB (kk BK451) k_ hk_.2.1), (Kd.freshB (kk BK452) k_ hk_.2.1)⟩)) (bsz (bb HB))); replace BK451 := kb BK451 hb; replace BK452 := kb BK452 hb; replace HB := sb HB hb; (try clear hb); (try clear ho0)) | ((with_reducible refine gate_dst (N := 7) rfl ?_); (try (refine gate_guard (by rfl) ?_; dsimp only)); refine bx 7 rfl rfl #[.int .i64 0, .int .i64 0, .int .i64 0, .slice none 0 0] 28 ?_; intro gb466 hg w72 hbox hb; have BK466 := Aside0.mk (hbox); have GE466 := ge HB hg; have NB451_466 := Aside0.mk ((by rw [hg]; exact Nat.ne_of_lt (blk_lt (kk BK451)) : gb451 ≠ gb466)); have NB466_451 := Aside0.mk ((by rw [hg]; exact Nat.ne_of_gt (blk_lt (kk BK451)) : gb466 ≠ gb451)); have NB452_466 := Aside0.mk ((by rw [hg]; exact Nat.ne_of_lt (blk_lt (kk BK452)) : gb452 ≠ gb466)); have NB466_452 := Aside0.mk ((by rw [hg]; exact Nat.ne_of_gt (blk_lt (kk BK452)) : gb466 ≠ gb452)); replace HO464 := Aside0.mk (Kd.N_below (Kd.N_elderB (iN HO464) gb466 (Nat.le_of_eq hg.symm)) hb); replace BK451 := kb BK451 hb; replace BK452 := kb BK452 hb; replace HB := sb HB hb; clear hb hbox hg; have hnb73 := NB466_451.out; have hnc73 := NB451_466.out; have hnb74 := NB466_452.out; have hnc74 := NB452_466.out; obtain ⟨hcz75_0, hcz75_1, hcz75_2, hcz75_3, hfz75_0, hfz75_1, hfz75_2, hfz75_3⟩ := cf4 BK466.out; obtain ⟨Ao76, co76, eo76⟩ := Kd.N_slice HO464.out; subst eo76; obtain ⟨hcz77_0, hcz77_1, hcz77_2, hfz77_0, hfz77_1, hfz77_2⟩ := cf3 BK451.out) | ((with_reducible refine gate_callee (f := 21) rfl ?_); refine gL (some 63) rfl rfl Try.func21 #[.agg #[.int .i64 a0_0, .slice A0_1 l0_1.length c0_1, .slice A0_2 l0_2.length c0_2], .slice A1 l1.length c1] rfl ?_; (with_reducible refine (prod_Join.calls kj3 a0_0 _ _ l0_1 _ _ l0_2 _ _ l1 t468 t471 _ ?side1 ?side2 ?side3 ?side4 ?side5 ?side6 A65.out).mono ?_); (case side1 => exact Kd.C_below HR0_1.out (bb HB)); (case side2 => exact HC0_1.out); (case side3 => exact Kd.C_below HR0_2.out (bb HB)); (case side4 => exact HC0_2.out); (case side5 => exact Kd.C_below HR1.out (bb HB)); (case side6 => exact HC1.out); rintro e w78 ⟨v469, rfl, ho0, hb⟩; refine ⟨_, rfl, ?_⟩; have HO470 := Aside0.mk (Kd.R_lower ho0 (bsz (bb HB))); replace HO464 := Aside0.mk (Kd.N_elder' (by (with_reducible repeat (first | apply Kd.N_alloc | apply Kd.N_drewN | apply Kd.N_drew)); exact (Kd.N_mono (Kd.N_far (p := ⟨gb466, 3, none⟩) (Kd.N_far (p := ⟨gb466, 2, none⟩) (Kd.N_far (p := ⟨gb466, 1, none⟩) (Kd.N_far (p := ⟨gb466, 0, none⟩) (Kd.N_mono HO464.out (fun k_ hk => (⟨hk, hk.2⟩ : _ ∧ k_ ≠ gb466))) (fun _ hk => hk.2) (.int .i64 t459)) (fun _ hk => hk.2) (.int .i64 t460)) (fun _ hk => hk.2) (.int .i64 t461)) (fun _ hk => hk.2) (.slice Ao76 t462.length co76)) (fun _ h_ => h_.1))) (Kd.R_base ho0) hb); replace BK451 := kb BK451 hb; replace BK452 := kb BK452 hb; replace BK466 := Aside0.mk (blk_below (g := gb466) (o := .cells #[.int .i64 t459, .int .i64 t460, .int .i64 t461, .slice Ao76 t462.length co76] 28 (0, 0)) (by (with_reducible repeat (first | refine kdN ?_ _ | refine kdr ?_ | refine kal ?_ _)); refine blk_put (cs := #[.int .i64 t459, .int .i64 t460, .int .i64 t461, .slice none 0 0]) ?_ 3 _ rfl; (with_reducible repeat (first | refine kdN ?_ _ | refine kdr ?_ | refine kal ?_ _)); refine blk_put (cs := #[.int .i64 t459, .int .i64 t460, .int .i64 0, .slice none 0 0]) ?_ 2 _ rfl; (with_reducible repeat (first | refine kdN ?_ _ | refine kdr ?_ | refine kal ?_ _)); refine blk_put (cs := #[.int .i64 t459, .int .i64 0, .int .i64 0, .slice none 0 0]) ?_ 1 _ rfl; (with_reducible repeat (first | refine kdN ?_ _ | refine kdr ?_ | refine kal ?_ _)); refine blk_put (cs := #[.int .i64 0, .int .i64 0, .int .i64 0, .slice none 0 0]) ?_ 0 _ rfl; (with_reducible repeat (first | refine kdN ?_ _ | refine kdr ?_ | refine kal ?_ _)); exact BK466.out) hb); replace HB := sb HB hb; (try clear hb); (try clear ho0); obtain ⟨hcz79_0, hcz79_1, hcz79_2, hfz79_0, hfz79_1, hfz79_2⟩ := cf3 BK451.out) | ((with_reducible refine gate_callee (f := 22) rfl ?_); refine gL (some 70) rfl rfl Try.func22 #[.slice A0_1 l0_1.length c0_1, .int .i64 (l1.length : Int)] rfl ?_; (with_reducible refine (r12_Vars.calls kj3 _ _ l0_1 (l1.length : Int) t472 _ ?side1 ?side2 A66.out).mono ?_); (case side1 => exact cb HR0_1 HB); (case side2 => exact HC0_1.out); rintro e w80 ⟨v473, rfl, ho0, hb⟩; refine ⟨_, rfl, ?_⟩; have HO474 := Aside0.mk (Kd.R_lower ho0 (bsz (bb HB))); replace HO464 := Aside0.mk (Kd.N_elder' (iN HO464) (Kd.R_base ho0) hb); replace HO470 := Aside0.mk (Kd.R_below (iR HO470) hb); replace BK451 := kb BK451 hb; replace BK452 := kb BK452 hb; replace BK466 := kb BK466 hb; replace HB := sb HB hb; (try clear hb); (try clear ho0)))
   (try simp only [Act.put, List.setIfInBounds_toArray, List.set_cons_zero, List.set_cons_succ])
   go_cut [92] (fun v92 wc => ∃ (kq : Nat) (x92_66 : Bool), v92 = .bool x92_66 ∧ Aside0 (w12_ProdValues.j1 kq l1 t468 t472 x92_66 a0_0 l0_1 l0_2 a2_0 a2_1 a2_2 l2_3 t459 t460 t461 t462 = some r) ∧ Aside0 (kq ≤ kj3) ∧ Aside0 (Kd.R (Kd.int .i64) 3 wc w.heap.size (fun _ => True) v469 t468) ∧ Aside0 (Kd.R k66 66 wc w.heap.size (fun _ => True) v473 t472) ∧ Aside0 (Kd.N k28 28 wc w.heap.size (fun k_ => some k_ ≠ (v469 : Value).ownBlock ∧ some k_ ≠ (v473 : Value).ownBlock ∧ k_ ≠ gb451 ∧ k_ ≠ gb452 ∧ k_ ≠ gb466) (.slice Ao76 t462.length co76) t462) ∧ Aside0 (wc.heap[gb451]? = some (.cells #[.int .i64 a0_0, (.slice A0_1 l0_1.length c0_1), (.slice A0_2 l0_2.length c0_2)] 25 (0, 0))) ∧ Aside0 (wc.heap[gb452]? = some (.cells #[.int .i64 a2_0, .int .i64 a2_1, .int .i64 a2_2, (.slice A2_3 l2_3.length c2_3)] 28 (0, 0))) ∧ Aside0 (wc.heap[gb466]? = some (.cells #[.int .i64 t459, .int .i64 t460, .int .i64 t461, (.slice Ao76 t462.length co76)] 28 (0, 0))) ∧ Aside0 (Below w.heap.size w wc))
   case first =>
    have H := HC67.out
    clear HC67
    by_cases c81 : t465 = 0
    rotate_left
    ·rw [if_neg c81] at H
     have c81b0 : (t465 == 0) = false := beq_eq_false_iff_ne.mpr c81
     have c81b1 : (t465 != 0) = true := bne_iff_ne.mpr c81
     (first | rw [c81b0] | (simp only [i64_w, i32_w]; rw [c81b0]) | skip)
     have H' := Aside0.mk H
     clear H
     go_wp2
     go_meet
     case rel => exact ⟨_, (true), rs, H', ⟨by have := HJ3.out; first | omega | exact Nat.le_refl _⟩, ⟨by (with_reducible repeat (first | apply Kd.R_alloc | apply Kd.R_drewN | apply Kd.R_drew)); exact HO470.out⟩, ⟨by (with_reducible repeat (first | apply Kd.R_alloc | apply Kd.R_drewN | apply Kd.R_drew)); exact HO474.out⟩, ⟨by (with_reducible repeat (first | apply Kd.N_alloc | apply Kd.N_drewN | apply Kd.N_drew)); exact Kd.N_mono HO464.out (fun _ hk => ⟨hk.1.2, ⟨hk.2, ⟨hk.1.1.1.1, ⟨hk.1.1.1.2, hk.1.1.2⟩⟩⟩⟩)⟩, ⟨kk BK451⟩, ⟨kk BK452⟩, ⟨kk BK466⟩, ⟨bb HB⟩⟩
    rw [if_pos c81] at H
    have c81b0 : (t465 == 0) = true := beq_iff_eq.mpr c81
    have c81b1 : (t465 != 0) = false := bne_eq_false_iff_eq.mpr c81
    clear c81
    (first | rw [c81b0] | (simp only [i64_w, i32_w]; rw [c81b0]) | skip)
    by_cases c82 : t471 = 0
    rotate_left
    ·rw [if_neg c82] at H
     have c82b0 : (t471 == 0) = false := beq_eq_false_iff_ne.mpr c82
     have c82b1 : (t471 != 0) = true := bne_iff_ne.mpr c82
     have H' := Aside0.mk H
     clear H
     go_wp2
     go_meet
     case rel => exact ⟨_, (true), rs, H', ⟨by have := HJ3.out; first | omega | exact Nat.le_refl _⟩, ⟨by (with_reducible repeat (first | apply Kd.R_alloc | apply Kd.R_drewN | apply Kd.R_drew)); exact HO470.out⟩, ⟨by (with_reducible repeat (first | apply Kd.R_alloc | apply Kd.R_drewN | apply Kd.R_drew)); exact HO474.out⟩, ⟨by (with_reducible repeat (first | apply Kd.N_alloc | apply Kd.N_drewN | apply Kd.N_drew)); exact Kd.N_mono HO464.out (fun _ hk => ⟨hk.1.2, ⟨hk.2, ⟨hk.1.1.1.1, ⟨hk.1.1.1.2, hk.1.1.2⟩⟩⟩⟩)⟩, ⟨kk BK451⟩, ⟨kk BK452⟩, ⟨kk BK466⟩, ⟨bb HB⟩⟩
    rw [if_pos c82] at H
    have c82b0 : (t471 == 0) = true := beq_iff_eq.mpr c82
    have c82b1 : (t471 != 0) = false := bne_eq_false_iff_eq.mpr c82
    clear c82
    obtain ⟨t475, A83, H⟩ := be H
    by_cases c84 : t475 = true
    rotate_left
    ·replace c84 := Bool.eq_false_iff.mpr c84
     subst c84
     replace H := fi H
     have H' := Aside0.mk H
     clear H
     have hnb95 := NB451_452.out
     have hnc95 := NB452_451.out
     have hnb96 := NB451_466.out
     have hnc96 := NB466_451.out
     obtain ⟨hcz97_0, hcz97_1, hcz97_2, hfz97_0, hfz97_1, hfz97_2⟩ := cf3 BK451.out
     have hnb98 := NB466_452.out
     have hnc98 := NB452_466.out
     obtain ⟨hcz99_0, hcz99_1, hcz99_2, hcz99_3, hfz99_0, hfz99_1, hfz99_2, hfz99_3⟩ := cf4 BK466.out
     obtain ⟨Ao100, co100, eo100⟩ := Kd.R_slice HO474.out
     subst eo100
     go_wp2_with (first | (go_at_call 20; (with_reducible refine (r2_Is.calls kj3 a0_0 _ _ t472 1 t459 t460 t461 _ _ t462 false _ ?side1 ?side2 ?side3 ?side4 A83.out).mono ?_); (case side1 => repeat (first | exact (Kd.R_reads' HO474.out).2.2 | with_reducible first | apply Kd.C_alloc | apply Kd.C_drewN | apply Kd.C_drew)); (case side2 => exact (Kd.R_reads' HO474.out).2.1); (case side3 => repeat (first | exact (Kd.N_reads' HO464.out).2.2 | with_reducible first | apply Kd.C_alloc | apply Kd.C_drewN | apply Kd.C_drew)); (case side4 => exact (Kd.N_reads' HO464.out).2.1); rintro e w101 ⟨rfl, hb⟩; replace HO464 := Aside0.mk (Kd.N_below (iN HO464) hb); replace HO470 := Aside0.mk (Kd.R_below (iR HO470) hb); replace HO474 := Aside0.mk (Kd.R_below (iR HO474) hb); replace BK451 := kb BK451 hb; replace BK452 := kb BK452 hb; replace BK466 := kb BK466 hb; replace HB := sb HB hb; (try clear hb)))
     go_meet
     case rel => exact ⟨_, (true), rs, H', ⟨by have := HJ3.out; first | omega | exact Nat.le_refl _⟩, ⟨by (with_reducible repeat (first | apply Kd.R_alloc | apply Kd.R_drewN | apply Kd.R_drew)); exact HO470.out⟩, ⟨by (with_reducible repeat (first | apply Kd.R_alloc | apply Kd.R_drewN | apply Kd.R_drew)); exact HO474.out⟩, ⟨by (with_reducible repeat (first | apply Kd.N_alloc | apply Kd.N_drewN | apply Kd.N_drew)); exact Kd.N_mono HO464.out (fun _ hk => ⟨hk.1.2, ⟨hk.2, ⟨hk.1.1.1.1, ⟨hk.1.1.1.2, hk.1.1.2⟩⟩⟩⟩)⟩, ⟨kk BK451⟩, ⟨kk BK452⟩, ⟨kk BK466⟩, ⟨bb HB⟩⟩
    subst c84
    replace H := it H
    obtain ⟨t476, A85, H⟩ := be H
    have H' := Aside0.mk H
    clear H
    have hnb86 := NB451_452.out
    have hnc86 := NB452_451.out
    have hnb87 := NB451_466.out
    have hnc87 := NB466_451.out
    obtain ⟨hcz88_0, hcz88_1, hcz88_2, hfz88_0, hfz88_1, hfz88_2⟩ := cf3 BK451.out
    have hnb89 := NB466_452.out
    have hnc89 := NB452_466.out
    obtain ⟨hcz90_0, hcz90_1, hcz90_2, hcz90_3, hfz90_0, hfz90_1, hfz90_2, hfz90_3⟩ := cf4 BK466.out
    obtain ⟨Ao91, co91, eo91⟩ := Kd.R_slice HO474.out
    subst eo91
    go_wp2_with (first | (go_at_call 20; (with_reducible refine (r2_Is.calls kj3 a0_0 _ _ t472 1 t459 t460 t461 _ _ t462 true _ ?side1 ?side2 ?side3 ?side4 A83.out).mono ?_); (case side1 => repeat (first | exact (Kd.R_reads' HO474.out).2.2 | with_reducible first | apply Kd.C_alloc | apply Kd.C_drewN | apply Kd.C_drew)); (case side2 => exact (Kd.R_reads' HO474.out).2.1); (case side3 => repeat (first | exact (Kd.N_reads' HO464.out).2.2 | with_reducible first | apply Kd.C_alloc | apply Kd.C_drewN | apply Kd.C_drew)); (case side4 => exact (Kd.N_reads' HO464.out).2.1); rintro e w92 ⟨rfl, hb⟩; replace HO464 := Aside0.mk (Kd.N_below (iN HO464) hb); replace HO470 := Aside0.mk (Kd.R_below (iR HO470) hb); replace HO474 := Aside0.mk (Kd.R_below (iR HO474) hb); replace BK451 := kb BK451 hb; replace BK452 := kb BK452 hb; replace BK466 := kb BK466 hb; replace HB := sb HB hb; (try clear hb); obtain ⟨hcz93_0, hcz93_1, hcz93_2, hfz93_0, hfz93_1, hfz93_2⟩ := cf3 BK451.out; obtain ⟨Ao94, co94, eo94⟩ := Kd.R_slice HO470.out; subst eo94) | (go_at_call 23; (with_reducible refine (r2_Store.calls kj3 a0_0 _ _ t472 _ _ t468 t476 _ ?side1 ?side2 ?side3 ?side4 A85.out).mono ?_); (case side1 => repeat (first | exact (Kd.R_reads' HO474.out).2.2 | with_reducible first | apply Kd.C_alloc | apply Kd.C_drewN | apply Kd.C_drew)); (case side2 => exact (Kd.R_reads' HO474.out).2.1); (case side3 => repeat (first | exact (Kd.R_reads' HO470.out).2.2 | with_reducible first | apply Kd.C_alloc | apply Kd.C_drewN | apply Kd.C_drew)); (case side4 => exact (Kd.R_reads' HO470.out).2.1); rintro e w' ⟨rfl, ⟨nd, rfl⟩⟩))
    go_meet
    case rel => exact ⟨_, (!t476), rs, H', ⟨by have := HJ3.out; first | omega | exact Nat.le_refl _⟩, ⟨by (with_reducible repeat (first | apply Kd.R_alloc | apply Kd.R_drewN | apply Kd.R_drew)); exact HO470.out⟩, ⟨by (with_reducible repeat (first | apply Kd.R_alloc | apply Kd.R_drewN | apply Kd.R_drew)); exact HO474.out⟩, ⟨by (with_reducible repeat (first | apply Kd.N_alloc | apply Kd.N_drewN | apply Kd.N_drew)); exact Kd.N_mono HO464.out (fun _ hk => ⟨hk.1.2, ⟨hk.2, ⟨hk.1.1.1.1, ⟨hk.1.1.1.2, hk.1.1.2⟩⟩⟩⟩)⟩, ⟨kk BK451⟩, ⟨kk BK452⟩, ⟨kk BK466⟩, ⟨bb HB⟩⟩
   case rest =>
    clear HC67
    try clear c1
    try clear c2
    try clear p2
    try clear c3
    try clear c4
    try clear c5
    try clear c6
    try clear c7
    try clear c8
    try clear c9
    try clear c10
    try clear c11
    try clear c12
    try clear c12b0
    try clear c12b1
    try clear c14
    try clear c16
    try clear c21
    try clear c22
    try clear c26
    try clear c34
    try clear c41
    try clear c46
    try clear c49
    try clear c53
    try clear c53b0
    try clear c53b1
    try clear c55
    try clear c60
    try clear c61
    try clear c68
    try clear c73
    try clear c74
    try clear c81
    try clear c81b0
    try clear c81b1
    try clear c82
    try clear c82b0
    try clear c82b1
    try clear c84
    try clear c86
    try clear c87
    try clear c89
    try clear c95
    try clear c96
    try clear c98
    try clear hcz17_0 hcz17_1 hcz17_2
    try clear hcz19_0 hcz19_1 hcz19_2 hcz19_3
    try clear hcz21_0 hcz21_1 hcz21_2
    try clear hcz23_0 hcz23_1 hcz23_2
    try clear hcz24_0 hcz24_1 hcz24_2 hcz24_3
    try clear hcz27_0 hcz27_1 hcz27_2
    try clear hcz29_0 hcz29_1 hcz29_2 hcz29_3
    try clear hcz31_0 hcz31_1 hcz31_2
    try clear hcz33_0 hcz33_1 hcz33_2
    try clear hcz35_0 hcz35_1 hcz35_2
    try clear hcz37_0 hcz37_1 hcz37_2 hcz37_3
    try clear hcz39_0 hcz39_1 hcz39_2
    try clear hcz42_0 hcz42_1 hcz42_2
    try clear hcz44_0 hcz44_1 hcz44_2 hcz44_3
    try clear hcz47_0 hcz47_1 hcz47_2
    try clear hcz56_0 hcz56_1 hcz56_2
    try clear hcz57_0 hcz57_1 hcz57_2 hcz57_3
    try clear hcz62_0 hcz62_1 hcz62_2 hcz62_3
    try clear hcz69_0 hcz69_1 hcz69_2
    try clear hcz70_0 hcz70_1 hcz70_2 hcz70_3
    try clear hcz75_0 hcz75_1 hcz75_2 hcz75_3
    try clear hcz77_0 hcz77_1 hcz77_2
    try clear hcz79_0 hcz79_1 hcz79_2
    try clear hcz88_0 hcz88_1 hcz88_2
    try clear hcz90_0 hcz90_1 hcz90_2 hcz90_3
    try clear hcz93_0 hcz93_1 hcz93_2
    try clear hcz97_0 hcz97_1 hcz97_2
    try clear hcz99_0 hcz99_1 hcz99_2 hcz99_3
    try clear hfz17_0 hfz17_1 hfz17_2
    try clear hfz19_0 hfz19_1 hfz19_2 hfz19_3
    try clear hfz21_0 hfz21_1 hfz21_2
    try clear hfz23_0 hfz23_1 hfz23_2
    try clear hfz24_0 hfz24_1 hfz24_2 hfz24_3
    try clear hfz27_0 hfz27_1 hfz27_2
    try clear hfz29_0 hfz29_1 hfz29_2 hfz29_3
    try clear hfz31_0 hfz31_1 hfz31_2
    try clear hfz33_0 hfz33_1 hfz33_2
    try clear hfz35_0 hfz35_1 hfz35_2
    try clear hfz37_0 hfz37_1 hfz37_2 hfz37_3
    try clear hfz39_0 hfz39_1 hfz39_2
    try clear hfz42_0 hfz42_1 hfz42_2
    try clear hfz44_0 hfz44_1 hfz44_2 hfz44_3
    try clear hfz47_0 hfz47_1 hfz47_2
    try clear hfz56_0 hfz56_1 hfz56_2
    try clear hfz57_0 hfz57_1 hfz57_2 hfz57_3
    try clear hfz62_0 hfz62_1 hfz62_2 hfz62_3
    try clear hfz69_0 hfz69_1 hfz69_2
    try clear hfz70_0 hfz70_1 hfz70_2 hfz70_3
    try clear hfz75_0 hfz75_1 hfz75_2 hfz75_3
    try clear hfz77_0 hfz77_1 hfz77_2
    try clear hfz79_0 hfz79_1 hfz79_2
    try clear hfz88_0 hfz88_1 hfz88_2
    try clear hfz90_0 hfz90_1 hfz90_2 hfz90_3
    try clear hfz93_0 hfz93_1 hfz93_2
    try clear hfz97_0 hfz97_1 hfz97_2
    try clear hfz99_0 hfz99_1 hfz99_2 hfz99_3
    try clear p2
    obtain ⟨kq, x92_66, rfl, HA, HJ66, HO_9, HO_11, HO_467003, BK451, BK452, BK466, HB⟩ := hcut
    cases kq with
    | zero => exact absurd HA.out (by simp [w12_ProdValues.j1])
    | succ kj66 =>
     have H := HA.out
     clear HA
     simp only [w12_ProdValues.j1] at H
     by_cases c102 : x92_66 = true
     ·subst c102
      replace H := it H
      exact absurd ((Option.some.inj H).trans hrt) (by decide)
     replace c102 := Bool.eq_false_iff.mpr c102
     subst c102
     replace H := fi H
     obtain ⟨y477, hy477⟩ : ∃ y_ : List (List Int), y_ = (([t468] : List (List Int))) := ⟨_, rfl⟩
     replace H : ((r2_Value.f kj66 a0_0 t472 y477 t459 t460 t461 t462).bind fun t480 => ((r2_Value.f kj66 a0_0 l0_1 l1 a2_0 a2_1 a2_2 l2_3).bind fun t481 => (if t480 = t481 then ((w12_awake.f kj66).bind fun t482 => (some t482)) else (some false)))) = some r := by first | (rw [hy477]; with_reducible exact H) | (have H2_ := (Option.bind_some _ _).symm.trans H; rw [hy477]; with_reducible exact H2_) | (have H2_ := (Option.bind_some _ _).symm.trans H; with_reducible exact H2_) | with_reducible exact H | (rw [hy477]; exact H) | exact H
     have Ny477 := Aside0.mk hy477
     clear hy477
     obtain ⟨t480, A103, H⟩ := be H
     obtain ⟨t481, A104, H⟩ := be H
     by_cases c105 : t480 = t481
     rotate_left
     ·rw [if_neg c105] at H
      have c105b0 : (t480 == t481) = false := beq_eq_false_iff_ne.mpr c105
      have c105b1 : (t480 != t481) = true := bne_iff_ne.mpr c105
      exact absurd ((Option.some.inj H).trans hrt) (by decide)
     rw [if_pos c105] at H
     have c105b0 : (t480 == t481) = true := beq_iff_eq.mpr c105
     have c105b1 : (t480 != t481) = false := bne_eq_false_iff_eq.mpr c105
     clear c105
     obtain ⟨t482, A106, H⟩ := be H
     obtain rfl := Option.some.inj H
     try go_wp2
     replace HO_9 := Aside0.mk (Kd.R_drew HO_9.out)
     replace HO_11 := Aside0.mk (Kd.R_drew HO_11.out)
     replace HO_467003 := Aside0.mk (Kd.N_drew HO_467003.out)
     replace BK451 := Aside0.mk (kdr BK451.out)
     replace BK452 := Aside0.mk (kdr BK452.out)
     replace BK466 := Aside0.mk (kdr BK466.out)
     replace HB := Aside0.mk (bd1 HB.out)
     obtain ⟨Ao108, co108, eo108⟩ := Kd.R_slice HO_9.out
     (first | subst eo108 | (injection eo108 with f1_ f2_ f3_; have f4_ := f1_.symm; have f5_ := f3_.symm; clear f1_ f2_ f3_; subst f4_; subst f5_))
     refine start_ (n := 19) (S := fun w' => w'.cell? ⟨gb451, 0, none⟩ = some (.int .i64 a0_0) ∧ w'.cell? ⟨gb451, 1, none⟩ = some (.slice A0_1 l0_1.length c0_1) ∧ w'.cell? ⟨gb451, 2, none⟩ = some (.slice A0_2 l0_2.length c0_2) ∧ w'.cell? ⟨gb466, 0, none⟩ = some (.int .i64 t459) ∧ w'.cell? ⟨gb466, 1, none⟩ = some (.int .i64 t460) ∧ w'.cell? ⟨gb466, 2, none⟩ = some (.int .i64 t461) ∧ w'.cell? ⟨gb466, 3, none⟩ = some (.slice Ao76 t462.length co76) ∧ w'.cell? ⟨gb452, 0, none⟩ = some (.int .i64 a2_0) ∧ w'.cell? ⟨gb452, 1, none⟩ = some (.int .i64 a2_1) ∧ w'.cell? ⟨gb452, 2, none⟩ = some (.int .i64 a2_2) ∧ w'.cell? ⟨gb452, 3, none⟩ = some (.slice A2_3 l2_3.length c2_3)) (ds := []) #[false, false, false, false, false, false, false, false, false, false, false, false, false, false, false, false, false, false, false] (by kernel_rfl) rfl rfl ⟨(blk_cell BK451.out 0).trans rfl, (blk_cell BK451.out 1).trans rfl, (blk_cell BK451.out 2).trans rfl, (blk_cell BK466.out 0).trans rfl, (blk_cell BK466.out 1).trans rfl, (blk_cell BK466.out 2).trans rfl, (blk_cell BK466.out 3).trans rfl, (blk_cell BK452.out 0).trans rfl, (blk_cell BK452.out 1).trans rfl, (blk_cell BK452.out 2).trans rfl, (blk_cell BK452.out 3).trans rfl⟩ (fun hHeld => ?_); refine with_tabW w12_ProdValues.tab10 w12_ProdValues.bits10 (fun HT_ HW_ => ?_)
     generalize wc.drew = w107 at HO_9 HO_11 HO_467003 BK451 BK452 BK466 HB hHeld ⊢
     refine pT 0 93 (bl 19 1) HT_ rfl rfl ?_
     refine pT 2 95 (bl 19 5) HT_ rfl rfl ?_
     refine pT 3 96 (bl 19 13) HT_ rfl rfl ?_
     refine pT 7 100 (bl 19 141) HT_ rfl rfl ?_
     refine pT 9 102 (bl 19 653) HT_ rfl rfl ?_
     refine pT 11 104 (bl 19 2701) HT_ rfl rfl ?_
     refine tk (i := 1) (N := some 94) (bl 19 2703) rfl rfl (take_ofW HT_.out HW_.out (by kernel_rfl)) hHeld ?_
     refine tk (i := 5) (N := some 98) (bl 19 2735) rfl rfl (take_ofW HT_.out HW_.out (by kernel_rfl)) hHeld ?_
     refine tk (i := 8) (N := some 101) (bl 19 2991) rfl rfl (take_ofW HT_.out HW_.out (by kernel_rfl)) hHeld ?_
     refine tk (i := 10) (N := some 103) (bl 19 4015) rfl rfl (take_ofW HT_.out HW_.out (by kernel_rfl)) hHeld ?_
     refine tk (i := 12) (N := some 105) (bl 19 8111) rfl rfl (take_ofW HT_.out HW_.out (by kernel_rfl)) hHeld ?_
     refine one_ (i := 4) (N := some 97) (bl 19 8127) rfl rfl (one_of HT_.out (by kernel_rfl)) (by decide) (fun K hK => ?_)
     refine Kd.N_lit_step (Kd.slice 3 (Kd.int .i64)) _ 45 ?hg (N' := 97) ?hd (xs := ([t468] : List (List Int))) (inner := [.slice Ao108 t468.length co108]) (ok := (fun k_ => some k_ ≠ (v473 : Value).ownBlock ∧ some k_ ≠ (.slice Ao76 t462.length co76 : Value).ownBlock ∧ k_ ≠ gb451 ∧ k_ ≠ gb452 ∧ k_ ≠ gb466)) (okp := (fun k_ => some k_ ≠ (v473 : Value).ownBlock ∧ some k_ ≠ (.slice Ao76 t462.length co76 : Value).ownBlock ∧ k_ ≠ gb451 ∧ k_ ≠ gb452 ∧ k_ ≠ gb466)) ?hr ?hp (fun _ hk => hk) ((show ∀ k_, w107.heap.size ≤ k_ → (fun k_ => some k_ ≠ (v473 : Value).ownBlock ∧ some k_ ≠ (.slice Ao76 t462.length co76 : Value).ownBlock ∧ k_ ≠ gb451 ∧ k_ ≠ gb452 ∧ k_ ≠ gb466) k_ from fun k_ hk => ⟨Kd.fresh' (Kd.R_lt (iR HO_11)) k_ hk, Kd.fresh' (Kd.N_lt (iN HO_467003)) k_ hk, Kd.freshB (kk BK451) k_ hk, Kd.freshB (kk BK452) k_ hk, Kd.freshB (kk BK466) k_ hk⟩) _ (Nat.le_refl _)) (Below.refl _ _) (Nat.le_refl _) (by simp) ?_; (case hd => rfl); (case hg => rfl); (case hr => first | (go_simp; done) | (go_simp; rfl)); (case hp => exact (Reps.one (show Kd.FK (Kd.slice 3 (Kd.int .i64)) _ _ t468 [.slice Ao108 t468.length co108] from (Kd.FK_slice_mk (Kd.R_reads' (Kd.R_mono (ok' := (fun k_ => some k_ ≠ (v473 : Value).ownBlock ∧ some k_ ≠ (.slice Ao76 t462.length co76 : Value).ownBlock ∧ k_ ≠ gb451 ∧ k_ ≠ gb452 ∧ k_ ≠ gb466)) (Kd.R_types (Kd.R_types (Kd.R_types (Kd.R_apart' (Kd.R_apart' (HO_9.out) (Kd.R_typed HO_11.out) (by decide)) (Kd.N_typed HO_467003.out) (by decide)) BK451.out (by decide)) BK452.out (by decide)) BK466.out (by decide)) (fun k_ hk => ⟨hk.1.1.1.1.2, ⟨hk.1.1.1.2, ⟨hk.1.1.2, ⟨hk.1.2, hk.2⟩⟩⟩⟩))).2.1 (Kd.R_F (Kd.R_mono (ok' := (fun k_ => some k_ ≠ (v473 : Value).ownBlock ∧ some k_ ≠ (.slice Ao76 t462.length co76 : Value).ownBlock ∧ k_ ≠ gb451 ∧ k_ ≠ gb452 ∧ k_ ≠ gb466)) (Kd.R_types (Kd.R_types (Kd.R_types (Kd.R_apart' (Kd.R_apart' (HO_9.out) (Kd.R_typed HO_11.out) (by decide)) (Kd.N_typed HO_467003.out) (by decide)) BK451.out (by decide)) BK452.out (by decide)) BK466.out (by decide)) (fun k_ hk => ⟨hk.1.1.1.1.2, ⟨hk.1.1.1.2, ⟨hk.1.1.2, ⟨hk.1.2, hk.2⟩⟩⟩⟩))))) (Reps.none _ _)))
     intro v478 w109 ho110 hb hg_ hnew_
     clear hg_ hnew_
     (first | rw [← Ny477.out] at ho110 | (simp only [Int.reduceToNat] at ho110; rw [← Ny477.out] at ho110))
     have HO479 := Aside0.mk (Kd.N_lower ho110 (bsz (bb HB)))
     replace HO_11 := Aside0.mk (Kd.R_below (iR HO_11) hb)
     replace HO_467003 := Aside0.mk (Kd.N_elder' (iN HO_467003) (Kd.N_base ho110) hb)
     replace BK451 := kb BK451 hb
     replace BK452 := kb BK452 hb
     replace BK466 := kb BK466 hb
     replace HB := sb HB hb
     clear HO_9
     clear hb ho110
     obtain ⟨Ao111, co111, eo111⟩ := Kd.R_slice HO_11.out
     (first | subst eo111 | (injection eo111 with f1_ f2_ f3_; have f4_ := f1_.symm; have f5_ := f3_.symm; clear f1_ f2_ f3_; subst f4_; subst f5_))
     obtain ⟨Ao112, co112, eo112⟩ := Kd.N_slice HO479.out
     (first | subst eo112 | (injection eo112 with f1_ f2_ f3_; have f4_ := f1_.symm; have f5_ := f3_.symm; clear f1_ f2_ f3_; subst f4_; subst f5_))
     refine hK.out _ _ ⟨(blk_cell BK451.out 0).trans rfl, (blk_cell BK451.out 1).trans rfl, (blk_cell BK451.out 2).trans rfl, (blk_cell BK466.out 0).trans rfl, (blk_cell BK466.out 1).trans rfl, (blk_cell BK466.out 2).trans rfl, (blk_cell BK466.out 3).trans rfl, (blk_cell BK452.out 0).trans rfl, (blk_cell BK452.out 1).trans rfl, (blk_cell BK452.out 2).trans rfl, (blk_cell BK452.out 3).trans rfl⟩ (fun hHeld => ?_)
     clear hK K
     refine nm 97 ?_
     refine one_ (i := 6) (N := some 99) (bl 19 8191) rfl rfl (one_of HT_.out (by kernel_rfl)) (by decide) (fun K hK => ?_)
     refine gO Try.func24 #[.int .i64 a0_0, .slice Ao111 t472.length co111, .slice Ao112 y477.length co112, .agg #[.int .i64 t459, .int .i64 t460, .int .i64 t461, .slice Ao76 t462.length co76]] (by rfl) rfl rfl ?_
     with_reducible refine (r2_Value.calls kj66 a0_0 _ _ t472 _ _ y477 t459 t460 t461 _ _ t462 t480 _ ?side1 ?side2 ?side3 ?side4 ?side5 ?side6 A103.out).mono ?_
     (case side1 => repeat (first | exact (Kd.R_reads' HO_11.out).2.2 | with_reducible first | apply Kd.C_alloc | apply Kd.C_drewN | apply Kd.C_drew))
     (case side2 => exact (Kd.R_reads' HO_11.out).2.1)
     (case side3 => repeat (first | exact (Kd.N_reads' HO479.out).2.2 | with_reducible first | apply Kd.C_alloc | apply Kd.C_drewN | apply Kd.C_drew))
     (case side4 => exact (Kd.N_reads' HO479.out).2.1)
     (case side5 => repeat (first | exact (Kd.N_reads' HO_467003.out).2.2 | with_reducible first | apply Kd.C_alloc | apply Kd.C_drewN | apply Kd.C_drew))
     (case side6 => exact (Kd.N_reads' HO_467003.out).2.1)
     rintro e w113 ⟨rfl, hb⟩
     refine ⟨_, rfl, ?_⟩
     replace HO_11 := Aside0.mk (Kd.R_below (iR HO_11) hb)
     replace HO_467003 := Aside0.mk (Kd.N_below (iN HO_467003) hb)
     replace HO479 := Aside0.mk (Kd.N_below (iN HO479) hb)
     replace BK451 := kb BK451 hb
     replace BK452 := kb BK452 hb
     replace BK466 := kb BK466 hb
     replace HB := sb HB hb
     (try clear hb)
     (try clear hb2)
     (try clear hk)
     (try clear hi)
     refine hK.out _ _ ⟨(blk_cell BK451.out 0).trans rfl, (blk_cell BK451.out 1).trans rfl, (blk_cell BK451.out 2).trans rfl, (blk_cell BK466.out 0).trans rfl, (blk_cell BK466.out 1).trans rfl, (blk_cell BK466.out 2).trans rfl, (blk_cell BK466.out 3).trans rfl, (blk_cell BK452.out 0).trans rfl, (blk_cell BK452.out 1).trans rfl, (blk_cell BK452.out 2).trans rfl, (blk_cell BK452.out 3).trans rfl⟩ (fun hHeld => ?_)
     clear hK K
     refine nm 99 ?_
     refine one_ (i := 13) (N := some 106) (bl 19 16383) rfl rfl (one_of HT_.out (by kernel_rfl)) (by decide) (fun K hK => ?_)
     refine gO Try.func24 #[.int .i64 a0_0, .slice A0_1 l0_1.length c0_1, .slice A1 l1.length c1, .agg #[.int .i64 a2_0, .int .i64 a2_1, .int .i64 a2_2, .slice A2_3 l2_3.length c2_3]] (by rfl) rfl rfl ?_
     with_reducible refine (r2_Value.calls kj66 a0_0 _ _ l0_1 _ _ l1 a2_0 a2_1 a2_2 _ _ l2_3 t481 _ ?side1 ?side2 ?side3 ?side4 ?side5 ?side6 A104.out).mono ?_
     (case side1 => exact cb HR0_1 HB)
     (case side2 => exact HC0_1.out)
     (case side3 => exact cb HR1 HB)
     (case side4 => exact HC1.out)
     (case side5 => exact cb HR2_3 HB)
     (case side6 => exact HC2_3.out)
     rintro e w114 ⟨rfl, hb⟩
     refine ⟨_, rfl, ?_⟩
     replace HO_11 := Aside0.mk (Kd.R_below (iR HO_11) hb)
     replace HO_467003 := Aside0.mk (Kd.N_below (iN HO_467003) hb)
     replace HO479 := Aside0.mk (Kd.N_below (iN HO479) hb)
     replace BK451 := kb BK451 hb
     replace BK452 := kb BK452 hb
     replace BK466 := kb BK466 hb
     replace HB := sb HB hb
     (try clear hb)
     (try clear hb2)
     (try clear hk)
     (try clear hi)
     refine hK.out _ _ ⟨(blk_cell BK451.out 0).trans rfl, (blk_cell BK451.out 1).trans rfl, (blk_cell BK451.out 2).trans rfl, (blk_cell BK466.out 0).trans rfl, (blk_cell BK466.out 1).trans rfl, (blk_cell BK466.out 2).trans rfl, (blk_cell BK466.out 3).trans rfl, (blk_cell BK452.out 0).trans rfl, (blk_cell BK452.out 1).trans rfl, (blk_cell BK452.out 2).trans rfl, (blk_cell BK452.out 3).trans rfl⟩ (fun hHeld => ?_)
     clear hK K
     refine nm 106 ?_
     refine pT 14 107 (bl 19 32767) HT_ rfl rfl ?_
     refine pT 15 108 (bl 19 65535) HT_ rfl rfl ?_
     refine one_ (i := 16) (N := some 109) (bl 19 131071) rfl rfl (one_of HT_.out (by kernel_rfl)) (by decide) (fun K hK => ?_)
     refine gO Try.func11 #[] (by rfl) rfl rfl ?_
     with_reducible refine (w12_awake.calls kj66  t482 _ A106.out).mono ?_
     rintro e w115 ⟨rfl, hb⟩
     refine ⟨_, rfl, ?_⟩
     replace HO_11 := Aside0.mk (Kd.R_below (iR HO_11) hb)
     replace HO_467003 := Aside0.mk (Kd.N_below (iN HO_467003) hb)
     replace HO479 := Aside0.mk (Kd.N_below (iN HO479) hb)
     replace BK451 := kb BK451 hb
     replace BK452 := kb BK452 hb
     replace BK466 := kb BK466 hb
     replace HB := sb HB hb
     (try clear hb)
     (try clear hb2)
     (try clear hk)
     (try clear hi)
     refine hK.out _ _ ⟨(blk_cell BK451.out 0).trans rfl, (blk_cell BK451.out 1).trans rfl, (blk_cell BK451.out 2).trans rfl, (blk_cell BK466.out 0).trans rfl, (blk_cell BK466.out 1).trans rfl, (blk_cell BK466.out 2).trans rfl, (blk_cell BK466.out 3).trans rfl, (blk_cell BK452.out 0).trans rfl, (blk_cell BK452.out 1).trans rfl, (blk_cell BK452.out 2).trans rfl, (blk_cell BK452.out 3).trans rfl⟩ (fun hHeld => ?_)
     clear hK K
     refine nm 109 ?_
     refine pT 17 110 (bl 19 262143) HT_ rfl rfl ?_
     refine pT 18 6 (bl 19 524287) HT_ rfl rfl ?_
     refine done_ (done_of HT_.out (by kernel_rfl)) ?_
     try go_wp2
     go_ret
     exact ⟨rr, bb HB⟩
theorem valid_flat {p : Int} {l : List (List Int)} (h : ∀ s ∈ l, valid p s = true) : valid p l.flatten = true := by
  rw [valid_iff]
  intro x hx
  rw [List.mem_flatten] at hx
  obtain ⟨s, hs, hx⟩ := hx
  exact valid_iff.1 (h s hs) x hx
theorem values_law (w : Int) (vars : List S66) (body : List S64) (st : List (List Int)) (x y z : Int) (l : List S28) (hl : body.length ≤ 9223372036854775807) (hg : goodSs body) (h2 : st.length ≤ 9223372036854775807) (g2 : ∀ s ∈ st, s.length ≤ 9223372036854775807) (el : l.length ≤ 9223372036854775807) (eg : goodEs l) :
    ∃ k, ∀ k', k ≤ k' → w12_ProdValues.f k' w vars body st x y z l = some true := by
  have ge : goodE ⟨x, y, z, l⟩ := ⟨el, eg⟩
  show Tells (fun k => w12_ProdValues.f k w vars body st x y z l) true
  unfold w12_ProdValues.f
  have aw : ∀ b, b = true → Tells (fun k => w12_ProdValues.j0 k st b w vars body x y z l) true := by
    rintro b rfl
    refine Tells.succ ?_
    simp only [w12_ProdValues.j0, if_true]
    exact Tells.pure _
  refine Tells.bind (fitsS body 600 hl hg (by decide) (by decide)) ?_
  by_cases c1 : decide ((sNs body : Int) ≤ 600) = true
  rotate_left
  · exact Tells.ifF c1 (aw _ rfl)
  refine Tells.ifT c1 (Tells.bind (fitsE ⟨x, y, z, l⟩ 600 ge (by decide) (by decide)) ?_)
  by_cases c2 : decide ((eN ⟨x, y, z, l⟩ : Int) ≤ 600) = true
  rotate_left
  · exact Tells.ifF c2 (aw _ rfl)
  refine Tells.ifT c2 (Tells.bind (Copies_tells w vars body hl hg (st.length : Int)) ?_)
  by_cases hc : cpE w vars body (st.length : Int) = 0
  rotate_left
  · exact Tells.ifF hc (aw _ rfl)
  refine Tells.ifT hc ?_
  obtain ⟨hp, _, k1, k3⟩ := cpE_ok hc
  obtain ⟨h1, h8, hv, h18, q0, q1⟩ := pIs_cells hp
  refine Tells.bind (Stores_tells w vars h1 h8 hv h18 st (by omega) g2) ?_
  by_cases hs : st.all (isSto w vars) = true
  rotate_left
  · exact Tells.ifF hs (aw _ rfl)
  refine Tells.ifT hs (Tells.bind (Is_tells w vars (st.length : Int) h1 h8 ⟨x, y, z, l⟩ ge) ?_)
  by_cases he : eIs w vars (st.length : Int) ⟨x, y, z, l⟩ = true
  rotate_left
  · exact aw _ (by rw [Bool.eq_false_iff.2 he]; rfl)
  rw [he, Bool.not_true]
  refine Tells.succ ?_
  simp only [w12_ProdValues.j0, Bool.false_eq_true, if_false]
  refine Tells.bind (prodPlain_tells w vars body hl hg (st.length : Int) ⟨x, y, z, l⟩ ge) ?_
  by_cases hh : hIs w (vsN vars st.length) = true
  rotate_left
  · rw [plR_no (n := 2) (by unfold plC; rw [if_pos hc, Int.toNat_natCast, if_neg hh]) (by decide)]
    exact Tells.ifT rfl (Tells.pure _)
  have ok : plC w vars body (st.length : Int) ⟨x, y, z, l⟩ = 0 := by unfold plC; rw [if_pos hc, Int.toNat_natCast, if_pos hh, if_pos he]
  rw [plR_ok ok]
  refine Tells.ifF (show ¬ ((0 : Int) = 2) by decide) ?_
  have hj : jnR w vars body st = (st.flatten, 0) := by
    unfold jnR jnV
    rw [if_pos hc, if_pos hs, List.nil_append]
  have tj := join_tells w vars body hl hg st g2
  rw [hj] at tj
  obtain ⟨vl, vn⟩ := pIs_names hp
  have tv := rvars_tells vars vl vn (st.length : Int) (by omega) k3
  rw [Int.toNat_natCast] at tv
  refine Tells.bind tj (Tells.bind tv (Tells.ifT rfl (Tells.ifT rfl ?_)))
  obtain ⟨n4, eok⟩ := eIs_400 he
  obtain ⟨_, _, hn18, hnv⟩ := hIs_cells hh
  obtain ⟨pg, pn⟩ := (plE_good (vars.length : Int)).1 ⟨x, y, z, l⟩ ge
  have hei : eIs w (vsN vars st.length) 1 (plE (vars.length : Int) ⟨x, y, z, l⟩) = true := by
    unfold eIs at he ⊢
    rw [Bool.and_eq_true, Bool.and_eq_true, decide_eq_true_eq, decide_eq_true_eq] at he ⊢
    refine ⟨by rw [pn]; exact he.1, by rw [(plE_depth _).1]; exact he.2.1, (plE_ok w vars h18 st.length (by omega)).1 _ eok⟩
  have ti := Is_tells w (vsN vars st.length) 1 h1 h8 _ pg
  rw [hei] at ti
  refine Tells.bind ti (Tells.ifT rfl ?_)
  have hall := List.all_eq_true.1 hs
  have hf := flatten_len q0 (l := st) (fun s h => (isSto_len (hall s h)).1)
  have hb : (st.length : Int) * cs vars ≤ 3 * 144 := Int.mul_le_mul k3 q1 q0 (by decide)
  have ts := Store_is w (vsN vars st.length) st.flatten h1 h8 hnv hn18 (by omega)
  have e1 : (decide ((st.flatten.length : Int) = cs (vsN vars st.length)) && valid (2 ^ w.toNat) st.flatten) = true := by
    rw [cs_vsN, decide_eq_true hf, valid_flat (fun s h => (isSto_len (hall s h)).2)]
    rfl
  rw [e1] at ts
  refine Tells.bind ts ?_
  rw [Bool.not_true]
  refine Tells.succ ?_
  simp only [w12_ProdValues.j1, Bool.false_eq_true, if_false]
  obtain ⟨W, rfl⟩ : ∃ W : Nat, w = W := ⟨w.toNat, by omega⟩
  obtain ⟨v, _, _, t1, t2⟩ := (values2 W (by omega) (by omega) vars h18 hv st (by omega) (fun s h => by have := isSto_len (hall s h); rw [Int.toNat_natCast] at this; exact this) ⟨hn18, hnv⟩).1 ⟨x, y, z, l⟩ eok
  exact Tells.bind t2 (Tells.bind t1 (Tells.ifT rfl (Tells.pure _)))
end Go.Proofs.Ytilebfkehmecaaa.Print
