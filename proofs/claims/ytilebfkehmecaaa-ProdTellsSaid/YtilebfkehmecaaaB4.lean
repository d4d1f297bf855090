/- What the laws of products share: contracts of the functions that they call, and what these compute, for every program that comes in. -/
import Derived.Test.YtilebfkehmecaaaB3
namespace Go.Proofs.Ytilebfkehmecaaa.Print
open Go.RowKit Go.Proofs.YtilebfkehmecaaaW.PrintWords Go.Proofs.YtilebfkehmecaaaW.PrintLast Go.Proofs.YtilebfkehmecaaaW.PrintMore
attribute [local go_sem] max2_int min2_int max_two min_two max_three min_three max_four min_four
set_option linter.unusedVariables false
set_option linter.unusedSimpArgs false
def prod_single.f (k : Nat) (a0_0 : Int) (l0_1 : List (S66)) (l0_2 : List (S64)) : Option (Int) := (prog_Single.f k a0_0 l0_1 l0_2).bind fun bt145 => (if bt145.2 = 0 then (if bt145.1 = true then (some bt145.2) else (some 1)) else (some bt145.2))
set_option maxHeartbeats 8000000 in
set_option maxRecDepth 100000 in
theorem prod_single.calls (k : Nat) (a0_0 : Int) (A0_1 : Option Addr) (c0_1 : Nat) (l0_1 : List (S66)) (A0_2 : Option Addr) (c0_2 : Nat) (l0_2 : List (S64)) (r : Int) (w : World) (hr0_1 : Kd.C k66 w A0_1 l0_1.length l0_1) (hc0_1 : l0_1.length ≤ c0_1) (hr0_2 : Kd.C k64 w A0_2 l0_2.length l0_2) (hc0_2 : l0_2.length ≤ c0_2) (h : prod_single.f k a0_0 l0_1 l0_2 = some r) :
  Calls Try.prog 44 #[.agg #[.int .i64 a0_0, .slice A0_1 l0_1.length c0_1, .slice A0_2 l0_2.length c0_2]] w fun e w' => e = .returned (.int .i64 r) ∧ Below w.heap.size w w' := by
 have hu25 := Try.underlying25
 have HR0_1 := Aside0.mk hr0_1
 have HC0_1 := Aside0.mk hc0_1
 clear hr0_1 hc0_1
 have HR0_2 := Aside0.mk hr0_2
 have HC0_2 := Aside0.mk hc0_2
 clear hr0_2 hc0_2
 have HB := Aside0.mk (Below.refl w.heap.size w)
 have H : ((prog_Single.f k a0_0 l0_1 l0_2).bind fun bt145 => (if bt145.2 = 0 then (if bt145.1 = true then (some bt145.2) else (some 1)) else (some bt145.2))) = some r := h
 clear h
 replace H := Option.bind_eq_some_iff.mp H
 obtain ⟨⟨t145, t146⟩, A20, H⟩ := H
 replace H : (if t146 = 0 then (if t145 = true then (some t146) else (some 1)) else (some t146)) = some r := H
 have A2 := Aside0.mk A20
 clear A20
 by_cases c3 : t146 = 0
 ·rw [if_pos c3] at H
  have c3b0 : (t146 == 0) = true := beq_iff_eq.mpr c3
  have c3b1 : (t146 != 0) = false := bne_eq_false_iff_eq.mpr c3
  clear c3
  by_cases c4 : t145 = true
  ·subst c4
   have H1 : (some t146) = some r := by rw [if_pos rfl] at H; exact H
   clear H
   have H := H1
   clear H1
   obtain rfl := Option.some.inj H
   go_enter Try.func44, Try.ntmps44
   go_wp2_with (first | ((with_reducible refine gate_dst (N := 1) rfl ?_); refine box_event ?hg (N := 1) ?hd (cs := #[.int .i64 a0_0, .slice A0_1 l0_1.length c0_1, .slice A0_2 l0_2.length c0_2]) (t := 25) ?hr ?_; (case hd => rfl); (case hg => rfl); (case hr => first | (go_simp; done) | (go_simp; rfl)); intro gb144 hg w5 hbox hb; have n0_ := Aside0.mk (bsp (by repeat (first | (with_reducible first | exact HB.out | apply bal | apply bdN | apply bd1) | exact HB.out)) hb); have n1_ := Aside0.mk (hbox); have n2_ := Aside0.mk ((by rw [hg]; exact (bsz (by repeat (first | (with_reducible first | exact HB.out | apply bal | apply bdN | apply bd1) | exact HB.out))) : w.heap.size ≤ gb144)); have n3_ := Aside0.mk ((by rw [hg]; exact (bsz (by repeat (first | (with_reducible first | exact HB.out | apply bal | apply bdN | apply bd1) | exact HB.out))) : w.heap.size ≤ gb144)); clear HB; have HB := n0_; have BK144 := n1_; have GW144 := n2_; have GE144 := n3_; clear n0_ n1_ n2_ n3_; clear hb hbox hg; obtain ⟨hcz6_0, hcz6_1, hcz6_2, hfz6_0, hfz6_1, hfz6_2⟩ := cf3 BK144.out) | ((with_reducible refine gate_callee (f := 79) rfl ?_); refine goesL_ (some 7) rfl rfl Try.func79 (by kernel_rfl) rfl #[.agg #[.int .i64 a0_0, .slice A0_1 l0_1.length c0_1, .slice A0_2 l0_2.length c0_2]] rfl (by (try simp only [List.map_toArray, List.map_cons, List.map_nil]); first | done | rfl | (simp only [List.length_drop, List.length_take]; rfl)) ?_; (with_reducible refine (prog_Single.calls k a0_0 _ _ l0_1 _ _ l0_2 true t146 _ ?side1 ?side2 ?side3 ?side4 A2.out).mono ?_); (case side1 => repeat (first | exact (Kd.C_below HR0_1.out HB.out) | with_reducible first | apply Kd.C_alloc | apply Kd.C_drewN | apply Kd.C_drew)); (case side2 => exact HC0_1.out); (case side3 => repeat (first | exact (Kd.C_below HR0_2.out HB.out) | with_reducible first | apply Kd.C_alloc | apply Kd.C_drewN | apply Kd.C_drew)); (case side4 => exact HC0_2.out); rintro e w7 ⟨rfl, hb⟩; refine ⟨_, rfl, ?_⟩; have n0_ := Aside0.mk (blk_below (g := gb144) (o := .cells #[.int .i64 a0_0, .slice A0_1 l0_1.length c0_1, .slice A0_2 l0_2.length c0_2] 25 (0, 0)) (by (with_reducible repeat (first | refine kdN ?_ _ | refine kdr ?_ | refine kal ?_ _)); exact BK144.out) hb); have n1_ := Aside0.mk (bsp (by repeat (first | (with_reducible first | exact HB.out | apply bal | apply bdN | apply bd1 | refine bst ?_ GE144.out) | exact HB.out)) hb); clear BK144; clear HB; have BK144 := n0_; have HB := n1_; clear n0_ n1_; (try clear hb); (try clear hb2); (try clear hk); (try clear hi)))
   go_ret
   exact ⟨by first | rfl | (simp [*] <;> rfl), by repeat (first | (with_reducible first | exact HB.out | apply bal | apply bdN | apply bd1 | refine bst ?_ GE144.out) | exact HB.out)⟩
  ·replace c4 := Bool.eq_false_iff.mpr c4
   subst c4
   have H1 : (some 1) = some r := by rw [if_neg (show ¬ (false = true) by decide)] at H; exact H
   clear H
   have H := H1
   clear H1
   obtain rfl := Option.some.inj H
   go_enter Try.func44, Try.ntmps44
   go_wp2_with (first | ((with_reducible refine gate_dst (N := 1) rfl ?_); refine box_event ?hg (N := 1) ?hd (cs := #[.int .i64 a0_0, .slice A0_1 l0_1.length c0_1, .slice A0_2 l0_2.length c0_2]) (t := 25) ?hr ?_; (case hd => rfl); (case hg => rfl); (case hr => first | (go_simp; done) | (go_simp; rfl)); intro gb144 hg w8 hbox hb; have n0_ := Aside0.mk (bsp (by repeat (first | (with_reducible first | exact HB.out | apply bal | apply bdN | apply bd1) | exact HB.out)) hb); have n1_ := Aside0.mk (hbox); have n2_ := Aside0.mk ((by rw [hg]; exact (bsz (by repeat (first | (with_reducible first | exact HB.out | apply bal | apply bdN | apply bd1) | exact HB.out))) : w.heap.size ≤ gb144)); have n3_ := Aside0.mk ((by rw [hg]; exact (bsz (by repeat (first | (with_reducible first | exact HB.out | apply bal | apply bdN | apply bd1) | exact HB.out))) : w.heap.size ≤ gb144)); clear HB; have HB := n0_; have BK144 := n1_; have GW144 := n2_; have GE144 := n3_; clear n0_ n1_ n2_ n3_; clear hb hbox hg; obtain ⟨hcz9_0, hcz9_1, hcz9_2, hfz9_0, hfz9_1, hfz9_2⟩ := cf3 BK144.out) | ((with_reducible refine gate_callee (f := 79) rfl ?_); refine goesL_ (some 7) rfl rfl Try.func79 (by kernel_rfl) rfl #[.agg #[.int .i64 a0_0, .slice A0_1 l0_1.length c0_1, .slice A0_2 l0_2.length c0_2]] rfl (by (try simp only [List.map_toArray, List.map_cons, List.map_nil]); first | done | rfl | (simp only [List.length_drop, List.length_take]; rfl)) ?_; (with_reducible refine (prog_Single.calls k a0_0 _ _ l0_1 _ _ l0_2 false t146 _ ?side1 ?side2 ?side3 ?side4 A2.out).mono ?_); (case side1 => repeat (first | exact (Kd.C_below HR0_1.out HB.out) | with_reducible first | apply Kd.C_alloc | apply Kd.C_drewN | apply Kd.C_drew)); (case side2 => exact HC0_1.out); (case side3 => repeat (first | exact (Kd.C_below HR0_2.out HB.out) | with_reducible first | apply Kd.C_alloc | apply Kd.C_drewN | apply Kd.C_drew)); (case side4 => exact HC0_2.out); rintro e w10 ⟨rfl, hb⟩; refine ⟨_, rfl, ?_⟩; have n0_ := Aside0.mk (blk_below (g := gb144) (o := .cells #[.int .i64 a0_0, .slice A0_1 l0_1.length c0_1, .slice A0_2 l0_2.length c0_2] 25 (0, 0)) (by (with_reducible repeat (first | refine kdN ?_ _ | refine kdr ?_ | refine kal ?_ _)); exact BK144.out) hb); have n1_ := Aside0.mk (bsp (by repeat (first | (with_reducible first | exact HB.out | apply bal | apply bdN | apply bd1 | refine bst ?_ GE144.out) | exact HB.out)) hb); clear BK144; clear HB; have BK144 := n0_; have HB := n1_; clear n0_ n1_; (try clear hb); (try clear hb2); (try clear hk); (try clear hi)))
   go_ret
   exact ⟨by first | rfl | (simp [*] <;> rfl), by repeat (first | (with_reducible first | exact HB.out | apply bal | apply bdN | apply bd1 | refine bst ?_ GE144.out) | exact HB.out)⟩
 ·rw [if_neg c3] at H
  have c3b0 : (t146 == 0) = false := beq_eq_false_iff_ne.mpr c3
  have c3b1 : (t146 != 0) = true := bne_iff_ne.mpr c3
  obtain rfl := Option.some.inj H
  go_enter Try.func44, Try.ntmps44
  go_wp2_with (first | ((with_reducible refine gate_dst (N := 1) rfl ?_); refine box_event ?hg (N := 1) ?hd (cs := #[.int .i64 a0_0, .slice A0_1 l0_1.length c0_1, .slice A0_2 l0_2.length c0_2]) (t := 25) ?hr ?_; (case hd => rfl); (case hg => rfl); (case hr => first | (go_simp; done) | (go_simp; rfl)); intro gb144 hg w11 hbox hb; have n0_ := Aside0.mk (bsp (by repeat (first | (with_reducible first | exact HB.out | apply bal | apply bdN | apply bd1) | exact HB.out)) hb); have n1_ := Aside0.mk (hbox); have n2_ := Aside0.mk ((by rw [hg]; exact (bsz (by repeat (first | (with_reducible first | exact HB.out | apply bal | apply bdN | apply bd1) | exact HB.out))) : w.heap.size ≤ gb144)); have n3_ := Aside0.mk ((by rw [hg]; exact (bsz (by repeat (first | (with_reducible first | exact HB.out | apply bal | apply bdN | apply bd1) | exact HB.out))) : w.heap.size ≤ gb144)); clear HB; have HB := n0_; have BK144 := n1_; have GW144 := n2_; have GE144 := n3_; clear n0_ n1_ n2_ n3_; clear hb hbox hg; obtain ⟨hcz12_0, hcz12_1, hcz12_2, hfz12_0, hfz12_1, hfz12_2⟩ := cf3 BK144.out) | ((with_reducible refine gate_callee (f := 79) rfl ?_); refine goesL_ (some 7) rfl rfl Try.func79 (by kernel_rfl) rfl #[.agg #[.int .i64 a0_0, .slice A0_1 l0_1.length c0_1, .slice A0_2 l0_2.length c0_2]] rfl (by (try simp only [List.map_toArray, List.map_cons, List.map_nil]); first | done | rfl | (simp only [List.length_drop, List.length_take]; rfl)) ?_; (with_reducible refine (prog_Single.calls k a0_0 _ _ l0_1 _ _ l0_2 t145 t146 _ ?side1 ?side2 ?side3 ?side4 A2.out).mono ?_); (case side1 => repeat (first | exact (Kd.C_below HR0_1.out HB.out) | with_reducible first | apply Kd.C_alloc | apply Kd.C_drewN | apply Kd.C_drew)); (case side2 => exact HC0_1.out); (case side3 => repeat (first | exact (Kd.C_below HR0_2.out HB.out) | with_reducible first | apply Kd.C_alloc | apply Kd.C_drewN | apply Kd.C_drew)); (case side4 => exact HC0_2.out); rintro e w13 ⟨rfl, hb⟩; refine ⟨_, rfl, ?_⟩; have n0_ := Aside0.mk (blk_below (g := gb144) (o := .cells #[.int .i64 a0_0, .slice A0_1 l0_1.length c0_1, .slice A0_2 l0_2.length c0_2] 25 (0, 0)) (by (with_reducible repeat (first | refine kdN ?_ _ | refine kdr ?_ | refine kal ?_ _)); exact BK144.out) hb); have n1_ := Aside0.mk (bsp (by repeat (first | (with_reducible first | exact HB.out | apply bal | apply bdN | apply bd1 | refine bst ?_ GE144.out) | exact HB.out)) hb); clear BK144; clear HB; have BK144 := n0_; have HB := n1_; clear n0_ n1_; (try clear hb); (try clear hb2); (try clear hk); (try clear hi)))
  go_ret
  exact ⟨by first | rfl | (simp [*] <;> rfl), by repeat (first | (with_reducible first | exact HB.out | apply bal | apply bdN | apply bd1 | refine bst ?_ GE144.out) | exact HB.out)⟩
end Go.Proofs.Ytilebfkehmecaaa.Print
namespace Go.Proofs.Ytilebfkehmecaaa.Print
open Go.RowKit Go.Proofs.YtilebfkehmecaaaW.PrintWords Go.Proofs.YtilebfkehmecaaaW.PrintLast Go.Proofs.YtilebfkehmecaaaW.PrintMore
attribute [local go_sem] max2_int min2_int max_two min_two max_three min_three max_four min_four
set_option linter.unusedVariables false
set_option linter.unusedSimpArgs false
open Go.Shelf Go.RowKit
attribute [local go_sem] Oper.semAt_some
def prod_Self.f (k : Nat) (a0_0 : Int) (l0_1 : List S66) (l0_2 : List S64) (a1 : Int) : Option (Int × List S66 × List S64 × Int) :=
  (prog_Check.f k a0_0 l0_1 l0_2).bind fun t => if t = 0 then (if a1 < 1 then some (0, [], [], 1) else if a1 > 3 then some (0, [], [], 1) else
    (prod_single.f k a0_0 l0_1 l0_2).bind fun s => if s = 0 then ((prod_Of.f k (List.replicate a1.toNat (⟨a0_0, l0_1, l0_2⟩ : S25))).bind fun o => prod_made.f k o.1 o.2.1 o.2.2)
      else some (0, [], [], 1)) else some (0, [], [], 30)
theorem row3_put {W : World} {B t : Nat} {x0 x1 x2 : Value} (hz : W.heap[B]? = some (.cells #[x0, x1, x2] t (0, 0))) (a b c : Value) :
    (((W.setCell ⟨B, 0, none⟩ a).setCell ⟨B, 1, none⟩ b).setCell ⟨B, 2, none⟩ c).heap[B]? = some (.cells #[a, b, c] t (0, 0)) ∧
    (∀ k, k ≠ B → (((W.setCell ⟨B, 0, none⟩ a).setCell ⟨B, 1, none⟩ b).setCell ⟨B, 2, none⟩ c).heap[k]? = W.heap[k]?) ∧
    (∀ n, n ≤ B → Below n W (((W.setCell ⟨B, 0, none⟩ a).setCell ⟨B, 1, none⟩ b).setCell ⟨B, 2, none⟩ c)) := by
  have h0 := blk_put hz 0 a (cs' := #[a, x1, x2]) rfl
  have h1 := blk_put h0 1 b (cs' := #[a, b, x2]) rfl
  refine ⟨blk_put h1 2 c (cs' := #[a, b, c]) rfl, fun k hk => ?_, fun n hn => ?_⟩
  · rw [Below.heap_setCell _ _ _ _ hk, Below.heap_setCell _ _ _ _ hk, Below.heap_setCell _ _ _ _ hk]
  · exact ((below_cell _ _ hn).trans (below_cell _ _ hn)).trans (below_cell _ _ hn)
theorem rep_each {n : Nat} {a0_0 : Int} {A0_1 : Option Addr} {c0_1 : Nat} {l0_1 : List S66} {A0_2 : Option Addr} {c0_2 : Nat} {l0_2 : List S64} (W : World)
    (h1 : Kd.C k66 W A0_1 l0_1.length l0_1) (c1 : l0_1.length ≤ c0_1) (h2 : Kd.C k64 W A0_2 l0_2.length l0_2) (c2 : l0_2.length ≤ c0_2) :
    ∀ (j : Nat) (x : S25) (c : List Value), (List.replicate n (⟨a0_0, l0_1, l0_2⟩ : S25))[j]? = some x → (List.replicate n [Value.int .i64 a0_0, .slice A0_1 l0_1.length c0_1, .slice A0_2 l0_2.length c0_2])[j]? = some c → k25.K W x c := by
  intro j x c hx hc
  rw [List.getElem?_replicate] at hx hc
  by_cases hj : j < n
  · rw [if_pos hj] at hx hc
    obtain rfl := Option.some.inj hx
    obtain rfl := Option.some.inj hc
    exact k25_mk W _ c1 h1 c2 h2
  · rw [if_neg hj] at hx; cases hx
set_option maxHeartbeats 16000000 in
set_option maxRecDepth 100000 in
theorem prod_Self.calls (k : Nat) (a0_0 : Int) (A0_1 : Option Addr) (c0_1 : Nat) (l0_1 : List S66) (A0_2 : Option Addr) (c0_2 : Nat) (l0_2 : List S64) (a1 : Int) (r1 : Int) (r2 : List S66) (r3 : List S64) (r4 : Int) (w : World)
    (hr1 : Kd.C k66 w A0_1 l0_1.length l0_1) (hc1 : l0_1.length ≤ c0_1) (hr2 : Kd.C k64 w A0_2 l0_2.length l0_2) (hc2 : l0_2.length ≤ c0_2) (h : prod_Self.f k a0_0 l0_1 l0_2 a1 = some (r1, r2, r3, r4)) :
    Calls Try.prog 26 #[.agg #[.int .i64 a0_0, .slice A0_1 l0_1.length c0_1, .slice A0_2 l0_2.length c0_2], .int .i64 a1] w fun en w' => ∃ v1_ v2_ : Value, en = .returned (.tuple #[.agg #[.int .i64 r1, v1_, v2_], .int .i64 r4]) ∧
      Kd.R k66 66 w' w.heap.size (fun _ => True) v1_ r2 ∧ Kd.V k64 64 w' w.heap.size (fun k_ => w.heap.size ≤ k_ ∧ some k_ ≠ (v1_ : Value).ownBlock) v2_ r3 ∧ Below w.heap.size w w' := by
  have huP := Try.underlying25
  have HR1 := Aside0.mk hr1
  have HC1 := Aside0.mk hc1
  have HR2 := Aside0.mk hr2
  have HC2 := Aside0.mk hc2
  clear hr1 hc1 hr2 hc2
  unfold prod_Self.f at h
  obtain ⟨tc, ac, h⟩ := Option.bind_eq_some_iff.mp h
  have AC := Aside0.mk ac
  clear ac
  obtain ⟨W0, hW0⟩ : ∃ X, ((w.alloc (.cells #[.int .i64 a0_0, .slice A0_1 l0_1.length c0_1, .slice A0_2 l0_2.length c0_2] 25)).alloc (.cells #[.int .i64 0, .slice none 0 0, .slice none 0 0] 25)) = X := ⟨_, rfl⟩
  have b0 : Below w.heap.size w W0 := by rw [← hW0]; exact bal (bal (Below.refl _ _) _) _
  have p0 : W0.heap[w.heap.size]? = some (.cells #[.int .i64 a0_0, .slice A0_1 l0_1.length c0_1, .slice A0_2 l0_2.length c0_2] 25 (0, 0)) := by rw [← hW0]; exact kal (blk_new _ _) _
  have z0 : W0.heap[w.heap.size + 1]? = some (.cells #[.int .i64 0, .slice none 0 0, .slice none 0 0] 25 (0, 0)) := by
    rw [← hW0]
    have := blk_new (w.alloc (.cells #[.int .i64 a0_0, .slice A0_1 l0_1.length c0_1, .slice A0_2 l0_2.length c0_2] 25)) (.cells #[.int .i64 0, .slice none 0 0, .slice none 0 0] 25)
    simpa using this
  have x0 : W0.cell? ⟨w.heap.size, 0, none⟩ = some (.int .i64 a0_0) := (blk_cell p0 0).trans rfl
  have x1 : W0.cell? ⟨w.heap.size, 1, none⟩ = some (.slice A0_1 l0_1.length c0_1) := (blk_cell p0 1).trans rfl
  have x2 : W0.cell? ⟨w.heap.size, 2, none⟩ = some (.slice A0_2 l0_2.length c0_2) := (blk_cell p0 2).trans rfl
  by_cases htc : tc = 0
  case neg =>
    rw [if_neg htc] at h
    have H := Aside0.mk h
    have g2 : (tc != 0) = true := bne_iff_ne.mpr htc
    clear h
    go_enter Try.func26, Try.ntmps26
    go_wp2_with (first | (go_at_call 43; refine (prog_Check.calls k a0_0 _ _ l0_1 _ _ l0_2 _ W0 (Kd.C_below HR1.out b0) HC1.out (Kd.C_below HR2.out b0) HC2.out AC.out).mono ?_; rintro e W1 ⟨rfl, hb1⟩; have b1 := b0.trans (hb1.mono b0.size); have p1 := blk_below p0 hb1; have z1 := blk_below z0 hb1; have y0 : W1.cell? ⟨w.heap.size, 0, none⟩ = some (.int .i64 a0_0) := (blk_cell p1 0).trans rfl; have y1 : W1.cell? ⟨w.heap.size, 1, none⟩ = some (.slice A0_1 l0_1.length c0_1) := (blk_cell p1 1).trans rfl; have y2 : W1.cell? ⟨w.heap.size, 2, none⟩ = some (.slice A0_2 l0_2.length c0_2) := (blk_cell p1 2).trans rfl; have z_0 : W1.cell? ⟨w.heap.size + 1, 0, none⟩ = some (.int .i64 0) := (blk_cell z1 0).trans rfl; have z_1 : W1.cell? ⟨w.heap.size + 1, 1, none⟩ = some (.slice none 0 0) := (blk_cell z1 1).trans rfl; have z_2 : W1.cell? ⟨w.heap.size + 1, 2, none⟩ = some (.slice none 0 0) := (blk_cell z1 2).trans rfl; have f_0 := blk_frozen z1 0; have f_1 := blk_frozen z1 1; have f_2 := blk_frozen z1 2))
    obtain ⟨zc, zk, zb⟩ := row3_put z1 (.int .i64 0) (.slice none 0 0) (.slice none 0 0)
    refine bodyPost_ret (results_ct rfl _ _ (w.heap.size + 1) 25 #[.int .i64 0, .slice none 0 0, .slice none 0 0] (0, 0) _ rfl zc huP rfl (by kernel_rfl)) rfl ?_
    obtain ⟨rfl, rfl, rfl, rfl⟩ : r1 = 0 ∧ r2 = [] ∧ r3 = [] ∧ r4 = 30 := by
      injection (Option.some.inj H.out) with g1 g2; injection g2 with g2 g3; injection g3 with g3 g4
      exact ⟨g1.symm, g2.symm, g3.symm, g4.symm⟩
    exact ⟨_, _, rfl, Kd.R_nil _ _ _ _ _, Kd.V_nil _ _ _ _ _, b1.trans (zb _ (by omega))⟩
  subst htc
  rw [if_pos rfl] at h
  by_cases h1 : a1 < 1
  case pos =>
    rw [if_pos h1] at h
    have H := Aside0.mk h
    have g2 : decide (a1 < 1) = true := decide_eq_true h1
    clear h h1
    go_enter Try.func26, Try.ntmps26
    go_wp2_with (first | (go_at_call 43; refine (prog_Check.calls k a0_0 _ _ l0_1 _ _ l0_2 _ W0 (Kd.C_below HR1.out b0) HC1.out (Kd.C_below HR2.out b0) HC2.out AC.out).mono ?_; rintro e W1 ⟨rfl, hb1⟩; have b1 := b0.trans (hb1.mono b0.size); have p1 := blk_below p0 hb1; have z1 := blk_below z0 hb1; have y0 : W1.cell? ⟨w.heap.size, 0, none⟩ = some (.int .i64 a0_0) := (blk_cell p1 0).trans rfl; have y1 : W1.cell? ⟨w.heap.size, 1, none⟩ = some (.slice A0_1 l0_1.length c0_1) := (blk_cell p1 1).trans rfl; have y2 : W1.cell? ⟨w.heap.size, 2, none⟩ = some (.slice A0_2 l0_2.length c0_2) := (blk_cell p1 2).trans rfl; have z_0 : W1.cell? ⟨w.heap.size + 1, 0, none⟩ = some (.int .i64 0) := (blk_cell z1 0).trans rfl; have z_1 : W1.cell? ⟨w.heap.size + 1, 1, none⟩ = some (.slice none 0 0) := (blk_cell z1 1).trans rfl; have z_2 : W1.cell? ⟨w.heap.size + 1, 2, none⟩ = some (.slice none 0 0) := (blk_cell z1 2).trans rfl; have f_0 := blk_frozen z1 0; have f_1 := blk_frozen z1 1; have f_2 := blk_frozen z1 2))
    obtain ⟨zc, zk, zb⟩ := row3_put z1 (.int .i64 0) (.slice none 0 0) (.slice none 0 0)
    refine bodyPost_ret (results_ct rfl _ _ (w.heap.size + 1) 25 #[.int .i64 0, .slice none 0 0, .slice none 0 0] (0, 0) _ rfl zc huP rfl (by kernel_rfl)) rfl ?_
    obtain ⟨rfl, rfl, rfl, rfl⟩ : r1 = 0 ∧ r2 = [] ∧ r3 = [] ∧ r4 = 1 := by
      injection (Option.some.inj H.out) with g1 g2; injection g2 with g2 g3; injection g3 with g3 g4
      exact ⟨g1.symm, g2.symm, g3.symm, g4.symm⟩
    exact ⟨_, _, rfl, Kd.R_nil _ _ _ _ _, Kd.V_nil _ _ _ _ _, b1.trans (zb _ (by omega))⟩
  rw [if_neg h1] at h
  have g1 : decide (a1 < 1) = false := decide_eq_false h1
  by_cases h3 : a1 > 3
  case pos =>
    rw [if_pos h3] at h
    have H := Aside0.mk h
    have g2 : decide (3 < a1) = true := decide_eq_true h3
    have g3 : decide (a1 > 3) = true := decide_eq_true h3
    clear h h1 h3
    go_enter Try.func26, Try.ntmps26
    go_wp2_with (first | (go_at_call 43; refine (prog_Check.calls k a0_0 _ _ l0_1 _ _ l0_2 _ W0 (Kd.C_below HR1.out b0) HC1.out (Kd.C_below HR2.out b0) HC2.out AC.out).mono ?_; rintro e W1 ⟨rfl, hb1⟩; have b1 := b0.trans (hb1.mono b0.size); have p1 := blk_below p0 hb1; have z1 := blk_below z0 hb1; have y0 : W1.cell? ⟨w.heap.size, 0, none⟩ = some (.int .i64 a0_0) := (blk_cell p1 0).trans rfl; have y1 : W1.cell? ⟨w.heap.size, 1, none⟩ = some (.slice A0_1 l0_1.length c0_1) := (blk_cell p1 1).trans rfl; have y2 : W1.cell? ⟨w.heap.size, 2, none⟩ = some (.slice A0_2 l0_2.length c0_2) := (blk_cell p1 2).trans rfl; have z_0 : W1.cell? ⟨w.heap.size + 1, 0, none⟩ = some (.int .i64 0) := (blk_cell z1 0).trans rfl; have z_1 : W1.cell? ⟨w.heap.size + 1, 1, none⟩ = some (.slice none 0 0) := (blk_cell z1 1).trans rfl; have z_2 : W1.cell? ⟨w.heap.size + 1, 2, none⟩ = some (.slice none 0 0) := (blk_cell z1 2).trans rfl; have f_0 := blk_frozen z1 0; have f_1 := blk_frozen z1 1; have f_2 := blk_frozen z1 2))
    obtain ⟨zc, zk, zb⟩ := row3_put z1 (.int .i64 0) (.slice none 0 0) (.slice none 0 0)
    refine bodyPost_ret (results_ct rfl _ _ (w.heap.size + 1) 25 #[.int .i64 0, .slice none 0 0, .slice none 0 0] (0, 0) _ rfl zc huP rfl (by kernel_rfl)) rfl ?_
    obtain ⟨rfl, rfl, rfl, rfl⟩ : r1 = 0 ∧ r2 = [] ∧ r3 = [] ∧ r4 = 1 := by
      injection (Option.some.inj H.out) with g1 g2; injection g2 with g2 g3; injection g3 with g3 g4
      exact ⟨g1.symm, g2.symm, g3.symm, g4.symm⟩
    exact ⟨_, _, rfl, Kd.R_nil _ _ _ _ _, Kd.V_nil _ _ _ _ _, b1.trans (zb _ (by omega))⟩
  rw [if_neg h3] at h
  have g3 : decide (3 < a1) = false := decide_eq_false h3
  have g4 : decide (a1 > 3) = false := decide_eq_false h3
  obtain ⟨sc, as_, h⟩ := Option.bind_eq_some_iff.mp h
  have AS := Aside0.mk as_
  obtain ⟨n, hn, hna⟩ : ∃ n : Nat, (n = 1 ∨ n = 2 ∨ n = 3) ∧ a1 = (n : Int) := ⟨a1.toNat, by omega, by omega⟩
  clear as_ h1 h3
  by_cases hsc : sc = 0
  case neg =>
    rw [if_neg hsc] at h
    have H := Aside0.mk h
    have g5 : (sc != 0) = true := bne_iff_ne.mpr hsc
    clear h hsc
    go_enter Try.func26, Try.ntmps26
    go_wp2_with (first | (go_at_call 43; refine (prog_Check.calls k a0_0 _ _ l0_1 _ _ l0_2 _ W0 (Kd.C_below HR1.out b0) HC1.out (Kd.C_below HR2.out b0) HC2.out AC.out).mono ?_; rintro e W1 ⟨rfl, hb1⟩; have b1 := b0.trans (hb1.mono b0.size); have p1 := blk_below p0 hb1; have z1 := blk_below z0 hb1; have y0 : W1.cell? ⟨w.heap.size, 0, none⟩ = some (.int .i64 a0_0) := (blk_cell p1 0).trans rfl; have y1 : W1.cell? ⟨w.heap.size, 1, none⟩ = some (.slice A0_1 l0_1.length c0_1) := (blk_cell p1 1).trans rfl; have y2 : W1.cell? ⟨w.heap.size, 2, none⟩ = some (.slice A0_2 l0_2.length c0_2) := (blk_cell p1 2).trans rfl; have z_0 : W1.cell? ⟨w.heap.size + 1, 0, none⟩ = some (.int .i64 0) := (blk_cell z1 0).trans rfl; have z_1 : W1.cell? ⟨w.heap.size + 1, 1, none⟩ = some (.slice none 0 0) := (blk_cell z1 1).trans rfl; have z_2 : W1.cell? ⟨w.heap.size + 1, 2, none⟩ = some (.slice none 0 0) := (blk_cell z1 2).trans rfl; have f_0 := blk_frozen z1 0; have f_1 := blk_frozen z1 1; have f_2 := blk_frozen z1 2) | (go_at_call 44; refine (prod_single.calls k a0_0 _ _ l0_1 _ _ l0_2 _ W1 (Kd.C_below HR1.out b1) HC1.out (Kd.C_below HR2.out b1) HC2.out AS.out).mono ?_; rintro e W2 ⟨rfl, hb2⟩; have b2 := b1.trans (hb2.mono b1.size); have p2 := blk_below p1 hb2; have z2 := blk_below z1 hb2; have y0 : W2.cell? ⟨w.heap.size, 0, none⟩ = some (.int .i64 a0_0) := (blk_cell p2 0).trans rfl; have y1 : W2.cell? ⟨w.heap.size, 1, none⟩ = some (.slice A0_1 l0_1.length c0_1) := (blk_cell p2 1).trans rfl; have y2 : W2.cell? ⟨w.heap.size, 2, none⟩ = some (.slice A0_2 l0_2.length c0_2) := (blk_cell p2 2).trans rfl; have z_0 : W2.cell? ⟨w.heap.size + 1, 0, none⟩ = some (.int .i64 0) := (blk_cell z2 0).trans rfl; have z_1 : W2.cell? ⟨w.heap.size + 1, 1, none⟩ = some (.slice none 0 0) := (blk_cell z2 1).trans rfl; have z_2 : W2.cell? ⟨w.heap.size + 1, 2, none⟩ = some (.slice none 0 0) := (blk_cell z2 2).trans rfl; have f_0 := blk_frozen z2 0; have f_1 := blk_frozen z2 1; have f_2 := blk_frozen z2 2))
    obtain ⟨zc, zk, zb⟩ := row3_put z2 (.int .i64 0) (.slice none 0 0) (.slice none 0 0)
    refine bodyPost_ret (results_ct rfl _ _ (w.heap.size + 1) 25 #[.int .i64 0, .slice none 0 0, .slice none 0 0] (0, 0) _ rfl zc huP rfl (by kernel_rfl)) rfl ?_
    obtain ⟨rfl, rfl, rfl, rfl⟩ : r1 = 0 ∧ r2 = [] ∧ r3 = [] ∧ r4 = 1 := by
      injection (Option.some.inj H.out) with g1 g2; injection g2 with g2 g3; injection g3 with g3 g4
      exact ⟨g1.symm, g2.symm, g3.symm, g4.symm⟩
    exact ⟨_, _, rfl, Kd.R_nil _ _ _ _ _, Kd.V_nil _ _ _ _ _, b2.trans (zb _ (by omega))⟩
  subst hsc
  rw [if_pos rfl] at h
  obtain ⟨⟨o1, o2, o3⟩, ao, hmm⟩ := Option.bind_eq_some_iff.mp h
  rw [hna, Int.toNat_natCast] at ao
  subst hna
  have AO := Aside0.mk ao
  have HM := Aside0.mk hmm
  have hn3 : n ≤ 3 := by omega
  have hn := Aside0.mk hn
  clear ao h hmm
  go_enter Try.func26, Try.ntmps26
  go_wp2_with (first | (go_at_call 43; refine (prog_Check.calls k a0_0 _ _ l0_1 _ _ l0_2 _ W0 (Kd.C_below HR1.out b0) HC1.out (Kd.C_below HR2.out b0) HC2.out AC.out).mono ?_; rintro e W1 ⟨rfl, hb1⟩; have b1 := b0.trans (hb1.mono b0.size); have p1 := blk_below p0 hb1; have z1 := blk_below z0 hb1; have y0 : W1.cell? ⟨w.heap.size, 0, none⟩ = some (.int .i64 a0_0) := (blk_cell p1 0).trans rfl; have y1 : W1.cell? ⟨w.heap.size, 1, none⟩ = some (.slice A0_1 l0_1.length c0_1) := (blk_cell p1 1).trans rfl; have y2 : W1.cell? ⟨w.heap.size, 2, none⟩ = some (.slice A0_2 l0_2.length c0_2) := (blk_cell p1 2).trans rfl; have z_0 : W1.cell? ⟨w.heap.size + 1, 0, none⟩ = some (.int .i64 0) := (blk_cell z1 0).trans rfl; have z_1 : W1.cell? ⟨w.heap.size + 1, 1, none⟩ = some (.slice none 0 0) := (blk_cell z1 1).trans rfl; have z_2 : W1.cell? ⟨w.heap.size + 1, 2, none⟩ = some (.slice none 0 0) := (blk_cell z1 2).trans rfl; have f_0 := blk_frozen z1 0; have f_1 := blk_frozen z1 1; have f_2 := blk_frozen z1 2) | (go_at_call 44; refine (prod_single.calls k a0_0 _ _ l0_1 _ _ l0_2 _ W1 (Kd.C_below HR1.out b1) HC1.out (Kd.C_below HR2.out b1) HC2.out AS.out).mono ?_; rintro e W2 ⟨rfl, hb2⟩; have b2 := b1.trans (hb2.mono b1.size); have p2 := blk_below p1 hb2; have z2 := blk_below z1 hb2; have y0 : W2.cell? ⟨w.heap.size, 0, none⟩ = some (.int .i64 a0_0) := (blk_cell p2 0).trans rfl; have y1 : W2.cell? ⟨w.heap.size, 1, none⟩ = some (.slice A0_1 l0_1.length c0_1) := (blk_cell p2 1).trans rfl; have y2 : W2.cell? ⟨w.heap.size, 2, none⟩ = some (.slice A0_2 l0_2.length c0_2) := (blk_cell p2 2).trans rfl; have z_0 : W2.cell? ⟨w.heap.size + 1, 0, none⟩ = some (.int .i64 0) := (blk_cell z2 0).trans rfl; have z_1 : W2.cell? ⟨w.heap.size + 1, 1, none⟩ = some (.slice none 0 0) := (blk_cell z2 1).trans rfl; have z_2 : W2.cell? ⟨w.heap.size + 1, 2, none⟩ = some (.slice none 0 0) := (blk_cell z2 2).trans rfl; have f_0 := blk_frozen z2 0; have f_1 := blk_frozen z2 1; have f_2 := blk_frozen z2 2) | (go_at_call 66; refine (slices_Repeat.calls n hn.out a0_0 A0_1 l0_1.length c0_1 A0_2 l0_2.length c0_2 W2.heap.size _ (blk_new _ _)).mono ?_; rintro e W3 ⟨B3, rfl, h3, hb3⟩; have q2 := bal (Below.refl W2.heap.size W2) (.cells #[.int .i64 a0_0, .slice A0_1 l0_1.length c0_1, .slice A0_2 l0_2.length c0_2] 25); have hb23 := q2.trans (hb3.mono q2.size); have b3 := b2.trans (hb23.mono b2.size); have z3 := blk_below z2 hb23; have c3 := C_of_row (d := k25) (l := List.replicate n (⟨a0_0, l0_1, l0_2⟩ : S25)) (css := List.replicate n [.int .i64 a0_0, .slice A0_1 l0_1.length c0_1, .slice A0_2 l0_2.length c0_2]) h3 (by simp) (by simp; omega) (rep_each W3 (Kd.C_below HR1.out b3) HC1.out (Kd.C_below HR2.out b3) HC2.out)) | (go_at_call 65; refine calls_of_args (args' := #[.slice (some ⟨B3, 0, none⟩) (List.replicate n (⟨a0_0, l0_1, l0_2⟩ : S25)).length n]) (by rw [List.length_replicate]) ?_; refine (prod_Of.calls k (some ⟨B3, 0, none⟩) n (List.replicate n (⟨a0_0, l0_1, l0_2⟩ : S25)) o1 o2 o3 W3 c3 (by simp) AO.out).mono ?_; rintro e W4 ⟨v1, v2, rfl, r4_, n4_, hb4⟩; have b4 := b3.trans (hb4.mono b3.size); have z4 := blk_below z3 hb4; have V4 := Kd.N_V (base' := W3.heap.size) n4_; obtain ⟨D1, d1, e1⟩ := Kd.R_slice r4_; subst e1; obtain ⟨D2, d2, e2⟩ := Kd.V_slice V4; subst e2) | (go_at_call 63; refine (prod_made.calls k o1 (fun k_ => W3.heap.size ≤ k_) _ o2 (fun k_ => W3.heap.size ≤ k_) _ _ o3 r1 r2 r3 r4 W3 W4 hb4 r4_ V4 HM.out).mono ?_; rintro e W5 ⟨v1, v2, rfl, r5_, v5_, hb5, hk5⟩; obtain ⟨D3, d3, e3⟩ := Kd.R_slice r5_; subst e3; obtain ⟨D4, d4, e4⟩ := Kd.V_slice v5_; subst e4; have b5 := b3.trans (hb5.mono b3.size); have z5 := blk_below z3 hb5; have z_0 : W5.cell? ⟨w.heap.size + 1, 0, none⟩ = some (.int .i64 0) := (blk_cell z5 0).trans rfl; have z_1 : W5.cell? ⟨w.heap.size + 1, 1, none⟩ = some (.slice none 0 0) := (blk_cell z5 1).trans rfl; have z_2 : W5.cell? ⟨w.heap.size + 1, 2, none⟩ = some (.slice none 0 0) := (blk_cell z5 2).trans rfl; have f_0 := blk_frozen z5 0; have f_1 := blk_frozen z5 1; have f_2 := blk_frozen z5 2))
  have s3 := b3.size
  have lz := blk_lt z3
  obtain ⟨zc, zk, zb⟩ := row3_put z5 (.int .i64 r1) (.slice D3 r2.length d3) (.slice D4 r3.length d4)
  refine bodyPost_ret (results_ct rfl _ _ (w.heap.size + 1) 25 #[.int .i64 r1, .slice D3 r2.length d3, .slice D4 r3.length d4] (0, 0) _ rfl zc huP rfl (by kernel_rfl)) rfl ?_
  refine ⟨_, _, rfl, Kd.R_lower (Kd.R_mono (Kd.R_step (Kd.R_bound r5_) (fun q hq _ => zk q (by have := hq.2.1; omega))) (fun _ _ => trivial)) s3, ?_, b5.trans (zb _ (by omega))⟩
  refine Kd.V_mono (ok := fun k_ => (W3.heap.size ≤ k_ ∧ some k_ ≠ (Value.slice D3 r2.length d3).ownBlock)) (Kd.V_step (Kd.V_mono v5_ (fun q hq => ⟨?_, hq.2⟩)) (fun q hq _ => zk q (by have := hq.1; omega))) (fun q hq => ⟨by have := hq.1; omega, hq.2⟩)
  have s4 := hb4.size
  rcases hq.1 with (h9 | h9) | h9 <;> omega
def prod_Plain.vs (k : Nat) (l : List S66) : Nat → Option (List S66)
  | 0 => some []
  | n + 1 => (prod_Plain.vs k l n).bind fun a => (prod_variables.f k l (n : Int)).bind fun b => if a.length + b.length ≤ 1000000 then some (a ++ b) else none
def prod_Plain.f (k : Nat) (a0_0 : Int) (l0_1 : List S66) (l0_2 : List S64) (a1 : Int) (e0 e1 e2 : Int) (l : List S28) : Option (Int × Int × Int × List S28 × Int) :=
  (prog_Check.f k a0_0 l0_1 l0_2).bind fun t => if t = 0 then (if a1 < 1 then some (0, 0, 0, [], 1) else if a1 > 3 then some (0, 0, 0, [], 1) else
    (prod_single.f k a0_0 l0_1 l0_2).bind fun s => if s = 0 then ((prod_Plain.vs k l0_1 a1.toNat).bind fun v => (expr_Heading.f k a0_0 v).bind fun hd => if hd = 0 then
      ((expr_Check.f k a0_0 l0_1 a1 e0 e1 e2 l).bind fun c => if c = 0 then ((mvE (fun c => some (wrap64 (c * (l0_1.length : Int)))) ⟨e0, e1, e2, l⟩).bind fun y => some (y.f0, y.f1, y.f2, y.f3, 0)) else some (0, 0, 0, [], 20)) else some (0, 0, 0, [], 2))
      else some (0, 0, 0, [], 1)) else some (0, 0, 0, [], 30)
theorem prod_Plain.vs_pre {k : Nat} {l : List S66} : ∀ {n : Nat} {v : List S66}, prod_Plain.vs k l n = some v → ∀ j, j ≤ n → ∃ a, prod_Plain.vs k l j = some a
  | 0, v, h, j, hj => by
    obtain rfl : j = 0 := by omega
    exact ⟨v, h⟩
  | n + 1, v, h, j, hj => by
    by_cases e : j = n + 1
    · subst e
      exact ⟨v, h⟩
    · rw [prod_Plain.vs] at h
      obtain ⟨a, ha, _⟩ := Option.bind_eq_some_iff.mp h
      exact prod_Plain.vs_pre ha j (by omega)
theorem row4_put {W : World} {B t : Nat} {x0 x1 x2 x3 : Value} (hz : W.heap[B]? = some (.cells #[x0, x1, x2, x3] t (0, 0))) (a b c u : Value) :
    ((((W.setCell ⟨B, 0, none⟩ a).setCell ⟨B, 1, none⟩ b).setCell ⟨B, 2, none⟩ c).setCell ⟨B, 3, none⟩ u).heap[B]? = some (.cells #[a, b, c, u] t (0, 0)) ∧
    (∀ k, k ≠ B → ((((W.setCell ⟨B, 0, none⟩ a).setCell ⟨B, 1, none⟩ b).setCell ⟨B, 2, none⟩ c).setCell ⟨B, 3, none⟩ u).heap[k]? = W.heap[k]?) ∧
    (∀ n, n ≤ B → Below n W ((((W.setCell ⟨B, 0, none⟩ a).setCell ⟨B, 1, none⟩ b).setCell ⟨B, 2, none⟩ c).setCell ⟨B, 3, none⟩ u)) := by
  have h0 := blk_put hz 0 a (cs' := #[a, x1, x2, x3]) rfl
  have h1 := blk_put h0 1 b (cs' := #[a, b, x2, x3]) rfl
  have h2 := blk_put h1 2 c (cs' := #[a, b, c, x3]) rfl
  refine ⟨blk_put h2 3 u (cs' := #[a, b, c, u]) rfl, fun k hk => ?_, fun n hn => ?_⟩
  · rw [Below.heap_setCell _ _ _ _ hk, Below.heap_setCell _ _ _ _ hk, Below.heap_setCell _ _ _ _ hk, Below.heap_setCell _ _ _ _ hk]
  · exact (((below_cell _ _ hn).trans (below_cell _ _ hn)).trans (below_cell _ _ hn)).trans (below_cell _ _ hn)
set_option maxHeartbeats 2000000 in
theorem prod_Plain1.fn (w : World) (b : Nat) (a v : Value) (A : Option Addr) (n c : Nat) (h : w.heap[b]? = some (.cells #[a, .slice A n c, v] 25 (0, 0))) : FnAt w (.func (.func 49) #[] #[.pointer (some ⟨b, 0, none⟩)]) (fun c => some (wrap64 (c * (n : Int)))) := by
  refine ⟨_, _, rfl, enters_of Try.func49 (by kernel_rfl) rfl, fun W m r hW hr => ?_⟩
  obtain rfl : wrap64 (m * (n : Int)) = r := Option.some.inj hr
  show Calls Try.prog 49 #[.int .i64 m, .pointer (some ⟨b, 0, none⟩)] W _
  have c0 : W.cell? ⟨b, 1, none⟩ = some (.slice A n c) := (blk_cell ((hW.block _ (blk_lt h)).trans h) 1).trans rfl
  go_enter Try.func49, Try.ntmps49
  go_wp2
  go_ret
  exact ⟨rfl, Below.refl _ _⟩
set_option maxHeartbeats 16000000 in
set_option maxRecDepth 100000 in
theorem prod_Plain.calls (k : Nat) (a0_0 : Int) (A0_1 : Option Addr) (c0_1 : Nat) (l0_1 : List S66) (A0_2 : Option Addr) (c0_2 : Nat) (l0_2 : List S64) (a1 : Int) (e0 e1 e2 : Int) (A2 : Option Addr) (c2 : Nat) (l : List S28) (r1 r2 r3 : Int) (r4 : List S28) (r5 : Int) (w : World)
    (hr1 : Kd.C k66 w A0_1 l0_1.length l0_1) (hc1 : l0_1.length ≤ c0_1) (hr2 : Kd.C k64 w A0_2 l0_2.length l0_2) (hc2 : l0_2.length ≤ c0_2) (hr3 : Kd.C k28 w A2 l.length l) (hc3 : l.length ≤ c2) (h : prod_Plain.f k a0_0 l0_1 l0_2 a1 e0 e1 e2 l = some (r1, r2, r3, r4, r5)) :
    Calls Try.prog 12 #[.agg #[.int .i64 a0_0, .slice A0_1 l0_1.length c0_1, .slice A0_2 l0_2.length c0_2], .int .i64 a1, .agg #[.int .i64 e0, .int .i64 e1, .int .i64 e2, .slice A2 l.length c2]] w fun en w' => ∃ v4_ : Value, en = .returned (.tuple #[.agg #[.int .i64 r1, .int .i64 r2, .int .i64 r3, v4_], .int .i64 r5]) ∧ Kd.R k28 28 w' w.heap.size (fun _ => True) v4_ r4 ∧ Below w.heap.size w w' := by
  have huE := Try.underlying28
  have huP := Try.underlying25
  have HR1 := Aside0.mk hr1
  have HC1 := Aside0.mk hc1
  have HR2 := Aside0.mk hr2
  have HC2 := Aside0.mk hc2
  have HR3 := Aside0.mk hr3
  have HC3 := Aside0.mk hc3
  clear hr1 hc1 hr2 hc2 hr3 hc3
  unfold prod_Plain.f at h
  obtain ⟨tc, ac, h⟩ := Option.bind_eq_some_iff.mp h
  have AC := Aside0.mk ac
  clear ac
  obtain ⟨W0, hW0⟩ : ∃ X, (((w.alloc (.cells #[.int .i64 a0_0, .slice A0_1 l0_1.length c0_1, .slice A0_2 l0_2.length c0_2] 25)).alloc (.cells #[.int .i64 e0, .int .i64 e1, .int .i64 e2, .slice A2 l.length c2] 28)).alloc (.cells #[.int .i64 0, .int .i64 0, .int .i64 0, .slice none 0 0] 28)) = X := ⟨_, rfl⟩
  have b0 : Below w.heap.size w W0 := by rw [← hW0]; exact bal (bal (bal (Below.refl _ _) _) _) _
  have p0 : W0.heap[w.heap.size]? = some (.cells #[.int .i64 a0_0, .slice A0_1 l0_1.length c0_1, .slice A0_2 l0_2.length c0_2] 25 (0, 0)) := by rw [← hW0]; exact kal (kal (blk_new _ _) _) _
  have q0 : W0.heap[w.heap.size + 1]? = some (.cells #[.int .i64 e0, .int .i64 e1, .int .i64 e2, .slice A2 l.length c2] 28 (0, 0)) := by
    rw [← hW0]
    have := blk_new (w.alloc (.cells #[.int .i64 a0_0, .slice A0_1 l0_1.length c0_1, .slice A0_2 l0_2.length c0_2] 25)) (.cells #[.int .i64 e0, .int .i64 e1, .int .i64 e2, .slice A2 l.length c2] 28)
    exact kal (by simpa using this) _
  have z0 : W0.heap[w.heap.size + 1 + 1]? = some (.cells #[.int .i64 0, .int .i64 0, .int .i64 0, .slice none 0 0] 28 (0, 0)) := by
    rw [← hW0]
    have := blk_new ((w.alloc (.cells #[.int .i64 a0_0, .slice A0_1 l0_1.length c0_1, .slice A0_2 l0_2.length c0_2] 25)).alloc (.cells #[.int .i64 e0, .int .i64 e1, .int .i64 e2, .slice A2 l.length c2] 28)) (.cells #[.int .i64 0, .int .i64 0, .int .i64 0, .slice none 0 0] 28)
    simpa using this
  have x0 : W0.cell? ⟨w.heap.size, 0, none⟩ = some (.int .i64 a0_0) := (blk_cell p0 0).trans rfl
  have x1 : W0.cell? ⟨w.heap.size, 1, none⟩ = some (.slice A0_1 l0_1.length c0_1) := (blk_cell p0 1).trans rfl
  have x2 : W0.cell? ⟨w.heap.size, 2, none⟩ = some (.slice A0_2 l0_2.length c0_2) := (blk_cell p0 2).trans rfl
  have bad : ∀ (W : World) (ec : Int), Below w.heap.size w W → W.heap[w.heap.size + 1 + 1]? = some (.cells #[.int .i64 0, .int .i64 0, .int .i64 0, .slice none 0 0] 28 (0, 0)) → some (r1, r2, r3, r4, r5) = some (0, 0, 0, [], ec) → True := fun _ _ _ _ _ => trivial
  clear bad
  by_cases htc : tc = 0
  case neg =>
    rw [if_neg htc] at h
    have H := Aside0.mk h
    have g2 : (tc != 0) = true := bne_iff_ne.mpr htc
    clear h
    go_enter Try.func12, Try.ntmps12
    go_wp2_with (first | (go_at_call 43; refine (prog_Check.calls k a0_0 _ _ l0_1 _ _ l0_2 _ W0 (Kd.C_below HR1.out b0) HC1.out (Kd.C_below HR2.out b0) HC2.out AC.out).mono ?_; rintro e W1 ⟨rfl, hb1⟩; have b1 := b0.trans (hb1.mono b0.size); have p1 := blk_below p0 hb1; have q1 := blk_below q0 hb1; have z1 := blk_below z0 hb1; have y0 : W1.cell? ⟨w.heap.size, 0, none⟩ = some (.int .i64 a0_0) := (blk_cell p1 0).trans rfl; have y1 : W1.cell? ⟨w.heap.size, 1, none⟩ = some (.slice A0_1 l0_1.length c0_1) := (blk_cell p1 1).trans rfl; have y2 : W1.cell? ⟨w.heap.size, 2, none⟩ = some (.slice A0_2 l0_2.length c0_2) := (blk_cell p1 2).trans rfl; have z_0 : W1.cell? ⟨w.heap.size + 1 + 1, 0, none⟩ = some (.int .i64 0) := (blk_cell z1 0).trans rfl; have z_1 : W1.cell? ⟨w.heap.size + 1 + 1, 1, none⟩ = some (.int .i64 0) := (blk_cell z1 1).trans rfl; have z_2 : W1.cell? ⟨w.heap.size + 1 + 1, 2, none⟩ = some (.int .i64 0) := (blk_cell z1 2).trans rfl; have z_3 : W1.cell? ⟨w.heap.size + 1 + 1, 3, none⟩ = some (.slice none 0 0) := (blk_cell z1 3).trans rfl; have f_0 := blk_frozen z1 0; have f_1 := blk_frozen z1 1; have f_2 := blk_frozen z1 2; have f_3 := blk_frozen z1 3))
    obtain ⟨zc, zk, zb⟩ := row4_put z1 (.int .i64 0) (.int .i64 0) (.int .i64 0) (.slice none 0 0)
    refine bodyPost_ret (results_ct rfl _ _ (w.heap.size + 1 + 1) 28 #[.int .i64 0, .int .i64 0, .int .i64 0, .slice none 0 0] (0, 0) _ rfl zc huE rfl (by kernel_rfl)) rfl ?_
    obtain ⟨rfl, rfl, rfl, rfl, rfl⟩ : r1 = 0 ∧ r2 = 0 ∧ r3 = 0 ∧ r4 = [] ∧ r5 = 30 := by
      injection (Option.some.inj H.out) with g1 g2; injection g2 with g2 g3; injection g3 with g3 g4; injection g4 with g4 g5
      exact ⟨g1.symm, g2.symm, g3.symm, g4.symm, g5.symm⟩
    exact ⟨_, rfl, Kd.R_nil _ _ _ _ _, b1.trans (zb _ (by omega))⟩
  subst htc
  rw [if_pos rfl] at h
  by_cases h1 : a1 < 1
  case pos =>
    rw [if_pos h1] at h
    have H := Aside0.mk h
    have g2 : decide (a1 < 1) = true := decide_eq_true h1
    clear h h1
    go_enter Try.func12, Try.ntmps12
    go_wp2_with (first | (go_at_call 43; refine (prog_Check.calls k a0_0 _ _ l0_1 _ _ l0_2 _ W0 (Kd.C_below HR1.out b0) HC1.out (Kd.C_below HR2.out b0) HC2.out AC.out).mono ?_; rintro e W1 ⟨rfl, hb1⟩; have b1 := b0.trans (hb1.mono b0.size); have p1 := blk_below p0 hb1; have q1 := blk_below q0 hb1; have z1 := blk_below z0 hb1; have y0 : W1.cell? ⟨w.heap.size, 0, none⟩ = some (.int .i64 a0_0) := (blk_cell p1 0).trans rfl; have y1 : W1.cell? ⟨w.heap.size, 1, none⟩ = some (.slice A0_1 l0_1.length c0_1) := (blk_cell p1 1).trans rfl; have y2 : W1.cell? ⟨w.heap.size, 2, none⟩ = some (.slice A0_2 l0_2.length c0_2) := (blk_cell p1 2).trans rfl; have z_0 : W1.cell? ⟨w.heap.size + 1 + 1, 0, none⟩ = some (.int .i64 0) := (blk_cell z1 0).trans rfl; have z_1 : W1.cell? ⟨w.heap.size + 1 + 1, 1, none⟩ = some (.int .i64 0) := (blk_cell z1 1).trans rfl; have z_2 : W1.cell? ⟨w.heap.size + 1 + 1, 2, none⟩ = some (.int .i64 0) := (blk_cell z1 2).trans rfl; have z_3 : W1.cell? ⟨w.heap.size + 1 + 1, 3, none⟩ = some (.slice none 0 0) := (blk_cell z1 3).trans rfl; have f_0 := blk_frozen z1 0; have f_1 := blk_frozen z1 1; have f_2 := blk_frozen z1 2; have f_3 := blk_frozen z1 3))
    obtain ⟨zc, zk, zb⟩ := row4_put z1 (.int .i64 0) (.int .i64 0) (.int .i64 0) (.slice none 0 0)
    refine bodyPost_ret (results_ct rfl _ _ (w.heap.size + 1 + 1) 28 #[.int .i64 0, .int .i64 0, .int .i64 0, .slice none 0 0] (0, 0) _ rfl zc huE rfl (by kernel_rfl)) rfl ?_
    obtain ⟨rfl, rfl, rfl, rfl, rfl⟩ : r1 = 0 ∧ r2 = 0 ∧ r3 = 0 ∧ r4 = [] ∧ r5 = 1 := by
      injection (Option.some.inj H.out) with g1 g2; injection g2 with g2 g3; injection g3 with g3 g4; injection g4 with g4 g5
      exact ⟨g1.symm, g2.symm, g3.symm, g4.symm, g5.symm⟩
    exact ⟨_, rfl, Kd.R_nil _ _ _ _ _, b1.trans (zb _ (by omega))⟩
  rw [if_neg h1] at h
  have g1 : decide (a1 < 1) = false := decide_eq_false h1
  by_cases h3 : a1 > 3
  case pos =>
    rw [if_pos h3] at h
    have H := Aside0.mk h
    have g2 : decide (3 < a1) = true := decide_eq_true h3
    have g3 : decide (a1 > 3) = true := decide_eq_true h3
    clear h h1 h3
    go_enter Try.func12, Try.ntmps12
    go_wp2_with (first | (go_at_call 43; refine (prog_Check.calls k a0_0 _ _ l0_1 _ _ l0_2 _ W0 (Kd.C_below HR1.out b0) HC1.out (Kd.C_below HR2.out b0) HC2.out AC.out).mono ?_; rintro e W1 ⟨rfl, hb1⟩; have b1 := b0.trans (hb1.mono b0.size); have p1 := blk_below p0 hb1; have q1 := blk_below q0 hb1; have z1 := blk_below z0 hb1; have y0 : W1.cell? ⟨w.heap.size, 0, none⟩ = some (.int .i64 a0_0) := (blk_cell p1 0).trans rfl; have y1 : W1.cell? ⟨w.heap.size, 1, none⟩ = some (.slice A0_1 l0_1.length c0_1) := (blk_cell p1 1).trans rfl; have y2 : W1.cell? ⟨w.heap.size, 2, none⟩ = some (.slice A0_2 l0_2.length c0_2) := (blk_cell p1 2).trans rfl; have z_0 : W1.cell? ⟨w.heap.size + 1 + 1, 0, none⟩ = some (.int .i64 0) := (blk_cell z1 0).trans rfl; have z_1 : W1.cell? ⟨w.heap.size + 1 + 1, 1, none⟩ = some (.int .i64 0) := (blk_cell z1 1).trans rfl; have z_2 : W1.cell? ⟨w.heap.size + 1 + 1, 2, none⟩ = some (.int .i64 0) := (blk_cell z1 2).trans rfl; have z_3 : W1.cell? ⟨w.heap.size + 1 + 1, 3, none⟩ = some (.slice none 0 0) := (blk_cell z1 3).trans rfl; have f_0 := blk_frozen z1 0; have f_1 := blk_frozen z1 1; have f_2 := blk_frozen z1 2; have f_3 := blk_frozen z1 3))
    obtain ⟨zc, zk, zb⟩ := row4_put z1 (.int .i64 0) (.int .i64 0) (.int .i64 0) (.slice none 0 0)
    refine bodyPost_ret (results_ct rfl _ _ (w.heap.size + 1 + 1) 28 #[.int .i64 0, .int .i64 0, .int .i64 0, .slice none 0 0] (0, 0) _ rfl zc huE rfl (by kernel_rfl)) rfl ?_
    obtain ⟨rfl, rfl, rfl, rfl, rfl⟩ : r1 = 0 ∧ r2 = 0 ∧ r3 = 0 ∧ r4 = [] ∧ r5 = 1 := by
      injection (Option.some.inj H.out) with g1 g2; injection g2 with g2 g3; injection g3 with g3 g4; injection g4 with g4 g5
      exact ⟨g1.symm, g2.symm, g3.symm, g4.symm, g5.symm⟩
    exact ⟨_, rfl, Kd.R_nil _ _ _ _ _, b1.trans (zb _ (by omega))⟩
  rw [if_neg h3] at h
  have g3 : decide (3 < a1) = false := decide_eq_false h3
  have g4 : decide (a1 > 3) = false := decide_eq_false h3
  obtain ⟨sc, as_, h⟩ := Option.bind_eq_some_iff.mp h
  have AS := Aside0.mk as_
  have RNG := Aside0.mk (And.intro h1 h3)
  clear as_ h1 h3
  by_cases hsc : sc = 0
  case neg =>
    rw [if_neg hsc] at h
    have H := Aside0.mk h
    have g5 : (sc != 0) = true := bne_iff_ne.mpr hsc
    clear h hsc
    go_enter Try.func12, Try.ntmps12
    go_wp2_with (first | (go_at_call 43; refine (prog_Check.calls k a0_0 _ _ l0_1 _ _ l0_2 _ W0 (Kd.C_below HR1.out b0) HC1.out (Kd.C_below HR2.out b0) HC2.out AC.out).mono ?_; rintro e W1 ⟨rfl, hb1⟩; have b1 := b0.trans (hb1.mono b0.size); have p1 := blk_below p0 hb1; have q1 := blk_below q0 hb1; have z1 := blk_below z0 hb1; have y0 : W1.cell? ⟨w.heap.size, 0, none⟩ = some (.int .i64 a0_0) := (blk_cell p1 0).trans rfl; have y1 : W1.cell? ⟨w.heap.size, 1, none⟩ = some (.slice A0_1 l0_1.length c0_1) := (blk_cell p1 1).trans rfl; have y2 : W1.cell? ⟨w.heap.size, 2, none⟩ = some (.slice A0_2 l0_2.length c0_2) := (blk_cell p1 2).trans rfl; have z_0 : W1.cell? ⟨w.heap.size + 1 + 1, 0, none⟩ = some (.int .i64 0) := (blk_cell z1 0).trans rfl; have z_1 : W1.cell? ⟨w.heap.size + 1 + 1, 1, none⟩ = some (.int .i64 0) := (blk_cell z1 1).trans rfl; have z_2 : W1.cell? ⟨w.heap.size + 1 + 1, 2, none⟩ = some (.int .i64 0) := (blk_cell z1 2).trans rfl; have z_3 : W1.cell? ⟨w.heap.size + 1 + 1, 3, none⟩ = some (.slice none 0 0) := (blk_cell z1 3).trans rfl; have f_0 := blk_frozen z1 0; have f_1 := blk_frozen z1 1; have f_2 := blk_frozen z1 2; have f_3 := blk_frozen z1 3) | (go_at_call 44; refine (prod_single.calls k a0_0 _ _ l0_1 _ _ l0_2 _ W1 (Kd.C_below HR1.out b1) HC1.out (Kd.C_below HR2.out b1) HC2.out AS.out).mono ?_; rintro e W2 ⟨rfl, hb2⟩; have b2 := b1.trans (hb2.mono b1.size); have p2 := blk_below p1 hb2; have q2 := blk_below q1 hb2; have z2 := blk_below z1 hb2; have y0 : W2.cell? ⟨w.heap.size, 0, none⟩ = some (.int .i64 a0_0) := (blk_cell p2 0).trans rfl; have y1 : W2.cell? ⟨w.heap.size, 1, none⟩ = some (.slice A0_1 l0_1.length c0_1) := (blk_cell p2 1).trans rfl; have y2 : W2.cell? ⟨w.heap.size, 2, none⟩ = some (.slice A0_2 l0_2.length c0_2) := (blk_cell p2 2).trans rfl; have z_0 : W2.cell? ⟨w.heap.size + 1 + 1, 0, none⟩ = some (.int .i64 0) := (blk_cell z2 0).trans rfl; have z_1 : W2.cell? ⟨w.heap.size + 1 + 1, 1, none⟩ = some (.int .i64 0) := (blk_cell z2 1).trans rfl; have z_2 : W2.cell? ⟨w.heap.size + 1 + 1, 2, none⟩ = some (.int .i64 0) := (blk_cell z2 2).trans rfl; have z_3 : W2.cell? ⟨w.heap.size + 1 + 1, 3, none⟩ = some (.slice none 0 0) := (blk_cell z2 3).trans rfl; have f_0 := blk_frozen z2 0; have f_1 := blk_frozen z2 1; have f_2 := blk_frozen z2 2; have f_3 := blk_frozen z2 3))
    obtain ⟨zc, zk, zb⟩ := row4_put z2 (.int .i64 0) (.int .i64 0) (.int .i64 0) (.slice none 0 0)
    refine bodyPost_ret (results_ct rfl _ _ (w.heap.size + 1 + 1) 28 #[.int .i64 0, .int .i64 0, .int .i64 0, .slice none 0 0] (0, 0) _ rfl zc huE rfl (by kernel_rfl)) rfl ?_
    obtain ⟨rfl, rfl, rfl, rfl, rfl⟩ : r1 = 0 ∧ r2 = 0 ∧ r3 = 0 ∧ r4 = [] ∧ r5 = 1 := by
      injection (Option.some.inj H.out) with g1 g2; injection g2 with g2 g3; injection g3 with g3 g4; injection g4 with g4 g5
      exact ⟨g1.symm, g2.symm, g3.symm, g4.symm, g5.symm⟩
    exact ⟨_, rfl, Kd.R_nil _ _ _ _ _, b2.trans (zb _ (by omega))⟩
  subst hsc
  rw [if_pos rfl] at h
  obtain ⟨vs, av, h⟩ := Option.bind_eq_some_iff.mp h
  obtain ⟨hc, ah, h⟩ := Option.bind_eq_some_iff.mp h
  have AV := Aside0.mk av
  have AH := Aside0.mk ah
  have H := Aside0.mk h
  clear av ah h
  go_enter Try.func12, Try.ntmps12
  go_wp2_with (first | (go_at_call 43; refine (prog_Check.calls k a0_0 _ _ l0_1 _ _ l0_2 _ W0 (Kd.C_below HR1.out b0) HC1.out (Kd.C_below HR2.out b0) HC2.out AC.out).mono ?_; rintro e W1 ⟨rfl, hb1⟩; have b1 := b0.trans (hb1.mono b0.size); have p1 := blk_below p0 hb1; have q1 := blk_below q0 hb1; have z1 := blk_below z0 hb1; have y0 : W1.cell? ⟨w.heap.size, 0, none⟩ = some (.int .i64 a0_0) := (blk_cell p1 0).trans rfl; have y1 : W1.cell? ⟨w.heap.size, 1, none⟩ = some (.slice A0_1 l0_1.length c0_1) := (blk_cell p1 1).trans rfl; have y2 : W1.cell? ⟨w.heap.size, 2, none⟩ = some (.slice A0_2 l0_2.length c0_2) := (blk_cell p1 2).trans rfl; have z_0 : W1.cell? ⟨w.heap.size + 1 + 1, 0, none⟩ = some (.int .i64 0) := (blk_cell z1 0).trans rfl; have z_1 : W1.cell? ⟨w.heap.size + 1 + 1, 1, none⟩ = some (.int .i64 0) := (blk_cell z1 1).trans rfl; have z_2 : W1.cell? ⟨w.heap.size + 1 + 1, 2, none⟩ = some (.int .i64 0) := (blk_cell z1 2).trans rfl; have z_3 : W1.cell? ⟨w.heap.size + 1 + 1, 3, none⟩ = some (.slice none 0 0) := (blk_cell z1 3).trans rfl; have f_0 := blk_frozen z1 0; have f_1 := blk_frozen z1 1; have f_2 := blk_frozen z1 2; have f_3 := blk_frozen z1 3) | (go_at_call 44; refine (prod_single.calls k a0_0 _ _ l0_1 _ _ l0_2 _ W1 (Kd.C_below HR1.out b1) HC1.out (Kd.C_below HR2.out b1) HC2.out AS.out).mono ?_; rintro e W2 ⟨rfl, hb2⟩; have b2 := b1.trans (hb2.mono b1.size); have p2 := blk_below p1 hb2; have q2 := blk_below q1 hb2; have z2 := blk_below z1 hb2; have y0 : W2.cell? ⟨w.heap.size, 0, none⟩ = some (.int .i64 a0_0) := (blk_cell p2 0).trans rfl; have y1 : W2.cell? ⟨w.heap.size, 1, none⟩ = some (.slice A0_1 l0_1.length c0_1) := (blk_cell p2 1).trans rfl; have y2 : W2.cell? ⟨w.heap.size, 2, none⟩ = some (.slice A0_2 l0_2.length c0_2) := (blk_cell p2 2).trans rfl; have z_0 : W2.cell? ⟨w.heap.size + 1 + 1, 0, none⟩ = some (.int .i64 0) := (blk_cell z2 0).trans rfl; have z_1 : W2.cell? ⟨w.heap.size + 1 + 1, 1, none⟩ = some (.int .i64 0) := (blk_cell z2 1).trans rfl; have z_2 : W2.cell? ⟨w.heap.size + 1 + 1, 2, none⟩ = some (.int .i64 0) := (blk_cell z2 2).trans rfl; have z_3 : W2.cell? ⟨w.heap.size + 1 + 1, 3, none⟩ = some (.slice none 0 0) := (blk_cell z2 3).trans rfl; have f_0 := blk_frozen z2 0; have f_1 := blk_frozen z2 1; have f_2 := blk_frozen z2 2; have f_3 := blk_frozen z2 3))
  have PB := Aside0.mk p2
  have QB := Aside0.mk q2
  have ZZ := Aside0.mk z2
  have BB := Aside0.mk b2
  have SB := Aside0.mk (show w.heap.size + 3 ≤ W2.heap.size from by have := blk_lt z2; omega)
  clear p0 q0 z0 b0 x0 x1 x2 hb1 b1 p1 q1 z1 hb2 b2 p2 q2 z2 y0 y1 y2 z_0 z_1 z_2 z_3 f_0 f_1 f_2 f_3 hW0
  go_loopg [8, 27] a1.toNat (fun kq v8 v27 X => ∃ (j : Nat) (A8 : Option Addr) (c8 : Nat) (acc : List S66), v27 = .int .i64 (j : Int) ∧ v8 = .slice A8 acc.length c8 ∧ Aside0 (j + kq = a1.toNat) ∧ Aside0 (prod_Plain.vs k l0_1 j = some acc) ∧ Aside0 (Kd.R k66 66 X (w.heap.size + 3) (fun _ => True) (.slice A8 acc.length c8) acc) ∧ Aside0 (X.heap[w.heap.size]? = some (.cells #[.int .i64 a0_0, .slice A0_1 l0_1.length c0_1, .slice A0_2 l0_2.length c0_2] 25 (0, 0))) ∧ Aside0 (X.heap[w.heap.size + 1]? = some (.cells #[.int .i64 e0, .int .i64 e1, .int .i64 e2, .slice A2 l.length c2] 28 (0, 0))) ∧ Aside0 (X.heap[w.heap.size + 1 + 1]? = some (.cells #[.int .i64 0, .int .i64 0, .int .i64 0, .slice none 0 0] 28 (0, 0))) ∧ Aside0 (Below w.heap.size w X) ∧ Aside0 (w.heap.size + 3 ≤ X.heap.size))
  case atStart => exact ⟨0, none, 0, [], rfl, rfl, ⟨by omega⟩, ⟨rfl⟩, ⟨Kd.R_nil _ _ _ _ _⟩, PB, QB, ZZ, BB, SB⟩
  case round =>
    clear PB QB ZZ BB SB
    obtain ⟨j, A8, c8, acc, rfl, rfl, HI, HV, HO, PB, QB, ZZ, BB, SB⟩ := hrel
    have hrng := RNG.out
    cases gk with
    | succ k1 =>
      have hj : j < a1.toNat := by have := HI.out; omega
      have hd : decide ((j : Int) < a1) = true := decide_eq_true (by omega)
      obtain ⟨nx, hnx⟩ := prod_Plain.vs_pre AV.out (j + 1) (by omega)
      have hnx2 := hnx
      rw [prod_Plain.vs] at hnx
      obtain ⟨a_, ha_, hnx⟩ := Option.bind_eq_some_iff.mp hnx
      obtain rfl : acc = a_ := Option.some.inj (HV.out.symm.trans ha_)
      obtain ⟨b_, hb_, hnx⟩ := Option.bind_eq_some_iff.mp hnx
      have hlen : acc.length + b_.length ≤ 1000000 := by
        rcases Nat.lt_or_ge 1000000 (acc.length + b_.length) with h1 | h1
        · rw [if_neg (by omega)] at hnx; cases hnx
        · exact h1
      rw [if_pos hlen] at hnx
      obtain rfl := Option.some.inj hnx
      have NX := Aside0.mk hnx2
      have HB_ := Aside0.mk hb_
      clear hnx hnx2 ha_ hb_
      have y1 : wr.cell? ⟨w.heap.size, 1, none⟩ = some (.slice A0_1 l0_1.length c0_1) := (blk_cell PB.out 1).trans rfl
      have hw1 : IntKind.i64.wrap ((j : Int) + 1) = (j : Int) + 1 := by rw [i64_w]; unfold wrap64; omega
      have hob := Kd.R_base HO.out
      have hSB := SB.out
      go_wp2_with (first | (go_at_call 45; refine (prod_variables.calls k _ _ l0_1 (j : Int) _ wr (Kd.C_below HR1.out BB.out) HC1.out HB_.out).mono ?_; rintro e Y ⟨v0, rfl, oY, hbY⟩; obtain ⟨D0, d0, eD0⟩ := Kd.R_slice oY; subst eD0) | ((with_reducible refine gate_builtin (b := .append) (xs := #[.tmp 30, .tmp 34]) rfl ?_); at_builtin; refine Kd.R_append_rows k66 (w0 := wr) (W := Y) (w.heap.size + 3) rfl (.tmp 30) (.tmp 34) 22 66 (.agg #[(.string ⟨#[]⟩), (.int .i64 0), (.int .i64 0)]) 32 rfl Try.underlying22 info66 rfl (by decide) (by omega) (.slice A8 acc.length c8) acc b_ _ _ _ (fun _ => True) (fun _ => False) rfl rfl ?aO ?aR (fun _ _ h => h) (fun _ h => h.elim) (fun _ _ => trivial) ?aB ?aS ?aL ?_; (case aO => exact Kd.R_below HO.out hbY); (case aR => exact (Kd.R_reads' oY).2.2); (case aB => exact hbY.mono hSB); (case aS => exact Nat.le_trans hSB hbY.size); (case aL => omega); intro v1 W3 o3 b3 g3 t3))
      obtain ⟨A6, c6, e6⟩ := Kd.R_slice o3
      subst e6
      have hne : ∀ q, q < w.heap.size + 3 → some q ≠ (Value.slice A8 acc.length c8).ownBlock := fun q hq e => by have h9 := hob _ e.symm; omega
      have pf := Aside0.mk (blk_grown (blk_below PB.out hbY) g3 (hne _ (by omega)))
      have qf := Aside0.mk (blk_grown (blk_below QB.out hbY) g3 (hne _ (by omega)))
      have zf := Aside0.mk (blk_grown (blk_below ZZ.out hbY) g3 (hne _ (by omega)))
      have bf := Aside0.mk (BB.out.trans (b3.mono (show w.heap.size ≤ w.heap.size + 3 by omega)))
      have sf := Aside0.mk (Nat.le_trans (Nat.le_trans hSB hbY.size) g3.size)
      have of := Aside0.mk o3
      clear o3 b3 g3 t3 PB QB ZZ BB SB HO hbY oY y1
      go_roundg k1
      case measure => omega
      case rel => exact ⟨j + 1, A6, c6, acc ++ b_, by simp, rfl, ⟨by have := HI.out; omega⟩, NX, of, pf, qf, zf, bf, sf⟩
    | zero =>
      have hj : j = a1.toNat := by have := HI.out; omega
      have hd : decide ((j : Int) < a1) = false := decide_eq_false (by omega)
      obtain rfl : acc = vs := Option.some.inj (HV.out.symm.trans (hj ▸ AV.out))
      obtain ⟨_, hlv, cv⟩ := Kd.R_reads' HO.out
      have CV := Aside0.mk cv
      clear cv
      have y0 : wr.cell? ⟨w.heap.size, 0, none⟩ = some (.int .i64 a0_0) := (blk_cell PB.out 0).trans rfl
      have y1 : wr.cell? ⟨w.heap.size, 1, none⟩ = some (.slice A0_1 l0_1.length c0_1) := (blk_cell PB.out 1).trans rfl
      have y2 : wr.cell? ⟨w.heap.size, 2, none⟩ = some (.slice A0_2 l0_2.length c0_2) := (blk_cell PB.out 2).trans rfl
      by_cases hhc : hc = 0
      case neg =>
        have h := H.out
        clear H
        rw [if_neg hhc] at h
        have H := Aside0.mk h
        have g6 : (hc != 0) = true := bne_iff_ne.mpr hhc
        clear h hhc
        go_wp2_with (first | (go_at_call 46; refine (expr_Heading.calls k a0_0 _ _ acc _ wr CV.out hlv AH.out).mono ?_; rintro e Y ⟨rfl, hbY⟩; have bY := BB.out.trans (hbY.mono BB.out.size); have pY := blk_below PB.out hbY; have qY := blk_below QB.out hbY; have zY := blk_below ZZ.out hbY; have s0 : Y.cell? ⟨w.heap.size, 0, none⟩ = some (.int .i64 a0_0) := (blk_cell pY 0).trans rfl; have s1 : Y.cell? ⟨w.heap.size, 1, none⟩ = some (.slice A0_1 l0_1.length c0_1) := (blk_cell pY 1).trans rfl; have s2 : Y.cell? ⟨w.heap.size, 2, none⟩ = some (.slice A0_2 l0_2.length c0_2) := (blk_cell pY 2).trans rfl; have t0 : Y.cell? ⟨w.heap.size + 1, 0, none⟩ = some (.int .i64 e0) := (blk_cell qY 0).trans rfl; have t1 : Y.cell? ⟨w.heap.size + 1, 1, none⟩ = some (.int .i64 e1) := (blk_cell qY 1).trans rfl; have t2 : Y.cell? ⟨w.heap.size + 1, 2, none⟩ = some (.int .i64 e2) := (blk_cell qY 2).trans rfl; have t3 : Y.cell? ⟨w.heap.size + 1, 3, none⟩ = some (.slice A2 l.length c2) := (blk_cell qY 3).trans rfl; have z_0 : Y.cell? ⟨w.heap.size + 1 + 1, 0, none⟩ = some (.int .i64 0) := (blk_cell zY 0).trans rfl; have z_1 : Y.cell? ⟨w.heap.size + 1 + 1, 1, none⟩ = some (.int .i64 0) := (blk_cell zY 1).trans rfl; have z_2 : Y.cell? ⟨w.heap.size + 1 + 1, 2, none⟩ = some (.int .i64 0) := (blk_cell zY 2).trans rfl; have z_3 : Y.cell? ⟨w.heap.size + 1 + 1, 3, none⟩ = some (.slice none 0 0) := (blk_cell zY 3).trans rfl; have f_0 := blk_frozen zY 0; have f_1 := blk_frozen zY 1; have f_2 := blk_frozen zY 2; have f_3 := blk_frozen zY 3))
        obtain ⟨zc, zk, zb⟩ := row4_put zY (.int .i64 0) (.int .i64 0) (.int .i64 0) (.slice none 0 0)
        refine bodyPost_ret (results_ct rfl _ _ (w.heap.size + 1 + 1) 28 #[.int .i64 0, .int .i64 0, .int .i64 0, .slice none 0 0] (0, 0) _ rfl zc huE rfl (by kernel_rfl)) rfl ?_
        obtain ⟨rfl, rfl, rfl, rfl, rfl⟩ : r1 = 0 ∧ r2 = 0 ∧ r3 = 0 ∧ r4 = [] ∧ r5 = 2 := by
          injection (Option.some.inj H.out) with g1 g2; injection g2 with g2 g3; injection g3 with g3 g4; injection g4 with g4 g5
          exact ⟨g1.symm, g2.symm, g3.symm, g4.symm, g5.symm⟩
        exact ⟨_, rfl, Kd.R_nil _ _ _ _ _, bY.trans (zb _ (by omega))⟩
      subst hhc
      have h := H.out
      clear H
      rw [if_pos rfl] at h
      obtain ⟨cc, ae, h⟩ := Option.bind_eq_some_iff.mp h
      have AE := Aside0.mk ae
      by_cases hcc : cc = 0
      case neg =>
        rw [if_neg hcc] at h
        have H := Aside0.mk h
        have g6 : (cc != 0) = true := bne_iff_ne.mpr hcc
        clear h hcc ae
        go_wp2_with (first | (go_at_call 46; refine (expr_Heading.calls k a0_0 _ _ acc _ wr CV.out hlv AH.out).mono ?_; rintro e Y ⟨rfl, hbY⟩; have bY := BB.out.trans (hbY.mono BB.out.size); have pY := blk_below PB.out hbY; have qY := blk_below QB.out hbY; have zY := blk_below ZZ.out hbY; have s0 : Y.cell? ⟨w.heap.size, 0, none⟩ = some (.int .i64 a0_0) := (blk_cell pY 0).trans rfl; have s1 : Y.cell? ⟨w.heap.size, 1, none⟩ = some (.slice A0_1 l0_1.length c0_1) := (blk_cell pY 1).trans rfl; have s2 : Y.cell? ⟨w.heap.size, 2, none⟩ = some (.slice A0_2 l0_2.length c0_2) := (blk_cell pY 2).trans rfl; have t0 : Y.cell? ⟨w.heap.size + 1, 0, none⟩ = some (.int .i64 e0) := (blk_cell qY 0).trans rfl; have t1 : Y.cell? ⟨w.heap.size + 1, 1, none⟩ = some (.int .i64 e1) := (blk_cell qY 1).trans rfl; have t2 : Y.cell? ⟨w.heap.size + 1, 2, none⟩ = some (.int .i64 e2) := (blk_cell qY 2).trans rfl; have t3 : Y.cell? ⟨w.heap.size + 1, 3, none⟩ = some (.slice A2 l.length c2) := (blk_cell qY 3).trans rfl; have z_0 : Y.cell? ⟨w.heap.size + 1 + 1, 0, none⟩ = some (.int .i64 0) := (blk_cell zY 0).trans rfl; have z_1 : Y.cell? ⟨w.heap.size + 1 + 1, 1, none⟩ = some (.int .i64 0) := (blk_cell zY 1).trans rfl; have z_2 : Y.cell? ⟨w.heap.size + 1 + 1, 2, none⟩ = some (.int .i64 0) := (blk_cell zY 2).trans rfl; have z_3 : Y.cell? ⟨w.heap.size + 1 + 1, 3, none⟩ = some (.slice none 0 0) := (blk_cell zY 3).trans rfl; have f_0 := blk_frozen zY 0; have f_1 := blk_frozen zY 1; have f_2 := blk_frozen zY 2; have f_3 := blk_frozen zY 3) | (go_at_call 47; refine (expr_Check.calls k a0_0 _ _ l0_1 a1 e0 e1 e2 _ _ l _ Y (Kd.C_below HR1.out bY) HC1.out (Kd.C_below HR3.out bY) HC3.out AE.out).mono ?_; rintro e V ⟨rfl, hbV⟩; have bV := bY.trans (hbV.mono bY.size); have pV := blk_below pY hbV; have qV := blk_below qY hbV; have zV := blk_below zY hbV; have z_0 : V.cell? ⟨w.heap.size + 1 + 1, 0, none⟩ = some (.int .i64 0) := (blk_cell zV 0).trans rfl; have z_1 : V.cell? ⟨w.heap.size + 1 + 1, 1, none⟩ = some (.int .i64 0) := (blk_cell zV 1).trans rfl; have z_2 : V.cell? ⟨w.heap.size + 1 + 1, 2, none⟩ = some (.int .i64 0) := (blk_cell zV 2).trans rfl; have z_3 : V.cell? ⟨w.heap.size + 1 + 1, 3, none⟩ = some (.slice none 0 0) := (blk_cell zV 3).trans rfl; have f_0 := blk_frozen zV 0; have f_1 := blk_frozen zV 1; have f_2 := blk_frozen zV 2; have f_3 := blk_frozen zV 3))
        obtain ⟨zc, zk, zb⟩ := row4_put zV (.int .i64 0) (.int .i64 0) (.int .i64 0) (.slice none 0 0)
        refine bodyPost_ret (results_ct rfl _ _ (w.heap.size + 1 + 1) 28 #[.int .i64 0, .int .i64 0, .int .i64 0, .slice none 0 0] (0, 0) _ rfl zc huE rfl (by kernel_rfl)) rfl ?_
        obtain ⟨rfl, rfl, rfl, rfl, rfl⟩ : r1 = 0 ∧ r2 = 0 ∧ r3 = 0 ∧ r4 = [] ∧ r5 = 20 := by
          injection (Option.some.inj H.out) with g1 g2; injection g2 with g2 g3; injection g3 with g3 g4; injection g4 with g4 g5
          exact ⟨g1.symm, g2.symm, g3.symm, g4.symm, g5.symm⟩
        exact ⟨_, rfl, Kd.R_nil _ _ _ _ _, bV.trans (zb _ (by omega))⟩
      subst hcc
      rw [if_pos rfl] at h
      obtain ⟨y, hy, h⟩ := Option.bind_eq_some_iff.mp h
      have HY := Aside0.mk hy
      have H := Aside0.mk h
      clear h hy ae
      go_wp2_with (first | (go_at_call 46; refine (expr_Heading.calls k a0_0 _ _ acc _ wr CV.out hlv AH.out).mono ?_; rintro e Y ⟨rfl, hbY⟩; have bY := BB.out.trans (hbY.mono BB.out.size); have pY := blk_below PB.out hbY; have qY := blk_below QB.out hbY; have zY := blk_below ZZ.out hbY; have s0 : Y.cell? ⟨w.heap.size, 0, none⟩ = some (.int .i64 a0_0) := (blk_cell pY 0).trans rfl; have s1 : Y.cell? ⟨w.heap.size, 1, none⟩ = some (.slice A0_1 l0_1.length c0_1) := (blk_cell pY 1).trans rfl; have s2 : Y.cell? ⟨w.heap.size, 2, none⟩ = some (.slice A0_2 l0_2.length c0_2) := (blk_cell pY 2).trans rfl; have t0 : Y.cell? ⟨w.heap.size + 1, 0, none⟩ = some (.int .i64 e0) := (blk_cell qY 0).trans rfl; have t1 : Y.cell? ⟨w.heap.size + 1, 1, none⟩ = some (.int .i64 e1) := (blk_cell qY 1).trans rfl; have t2 : Y.cell? ⟨w.heap.size + 1, 2, none⟩ = some (.int .i64 e2) := (blk_cell qY 2).trans rfl; have t3 : Y.cell? ⟨w.heap.size + 1, 3, none⟩ = some (.slice A2 l.length c2) := (blk_cell qY 3).trans rfl; have z_0 : Y.cell? ⟨w.heap.size + 1 + 1, 0, none⟩ = some (.int .i64 0) := (blk_cell zY 0).trans rfl; have z_1 : Y.cell? ⟨w.heap.size + 1 + 1, 1, none⟩ = some (.int .i64 0) := (blk_cell zY 1).trans rfl; have z_2 : Y.cell? ⟨w.heap.size + 1 + 1, 2, none⟩ = some (.int .i64 0) := (blk_cell zY 2).trans rfl; have z_3 : Y.cell? ⟨w.heap.size + 1 + 1, 3, none⟩ = some (.slice none 0 0) := (blk_cell zY 3).trans rfl; have f_0 := blk_frozen zY 0; have f_1 := blk_frozen zY 1; have f_2 := blk_frozen zY 2; have f_3 := blk_frozen zY 3) | (go_at_call 47; refine (expr_Check.calls k a0_0 _ _ l0_1 a1 e0 e1 e2 _ _ l _ Y (Kd.C_below HR1.out bY) HC1.out (Kd.C_below HR3.out bY) HC3.out AE.out).mono ?_; rintro e V ⟨rfl, hbV⟩; have bV := bY.trans (hbV.mono bY.size); have pV := blk_below pY hbV; have qV := blk_below qY hbV; have zV := blk_below zY hbV; have z_0 : V.cell? ⟨w.heap.size + 1 + 1, 0, none⟩ = some (.int .i64 0) := (blk_cell zV 0).trans rfl; have z_1 : V.cell? ⟨w.heap.size + 1 + 1, 1, none⟩ = some (.int .i64 0) := (blk_cell zV 1).trans rfl; have z_2 : V.cell? ⟨w.heap.size + 1 + 1, 2, none⟩ = some (.int .i64 0) := (blk_cell zV 2).trans rfl; have z_3 : V.cell? ⟨w.heap.size + 1 + 1, 3, none⟩ = some (.slice none 0 0) := (blk_cell zV 3).trans rfl; have f_0 := blk_frozen zV 0; have f_1 := blk_frozen zV 1; have f_2 := blk_frozen zV 2; have f_3 := blk_frozen zV 3))
      have hfn := prod_Plain1.fn V.drew w.heap.size _ _ _ _ _ (kdr pV)
      have bD := below_drew bV
      have qD := kdr qV
      have zD := kdr zV
      refine start_ (n := 6) (S := fun w' => w'.cell? ⟨w.heap.size + 1, 0, none⟩ = some (.int .i64 e0) ∧ w'.cell? ⟨w.heap.size + 1, 1, none⟩ = some (.int .i64 e1) ∧ w'.cell? ⟨w.heap.size + 1, 2, none⟩ = some (.int .i64 e2) ∧ w'.cell? ⟨w.heap.size + 1, 3, none⟩ = some (.slice A2 l.length c2)) (ds := [4]) #[false, false, false, false, false, false] (by kernel_rfl) rfl rfl ⟨(blk_cell qD 0).trans rfl, (blk_cell qD 1).trans rfl, (blk_cell qD 2).trans rfl, (blk_cell qD 3).trans rfl⟩ (fun hHeld => ?_)
      generalize V.drew = V1 at hfn bD qD zD hHeld ⊢
      refine pure_ (i := 0) (N := (some 52)) (v := ?_) (a' := ?_) #[true, false, false, false, false, false] rfl rfl (by kernel_rfl) (fun _ _ _ h => h) (Or.inl ⟨by rfl, ?_⟩) ?_ ?_
      rotate_left
      · intro w'
        go_simp
        with_reducible rfl
      rotate_left
      · simp only [Act.put, List.setIfInBounds_toArray, List.set_cons_zero, List.set_cons_succ, i64_w, i32_w]
        rfl
      refine take_ (i := 2) (N := (some 54)) (v := ?_) (a' := ?_) #[true, false, true, false, false, false] rfl rfl (by kernel_rfl) (fun _ _ _ h => h) (Or.inl ⟨by rfl, ?_⟩) hHeld ?_ ?_
      rotate_left
      · rintro w' ⟨s0, s1, s2, s3⟩
        go_simp
        with_reducible rfl
      rotate_left
      · simp only [Act.put, List.setIfInBounds_toArray, List.set_cons_zero, List.set_cons_succ, i64_w, i32_w]
        rfl
      refine one_ (i := 1) (N := (some 53)) #[true, true, true, false, false, false] rfl rfl (by kernel_rfl) (by decide) (fun K hK => ?_)
      refine goes_ Try.func48 (by kernel_rfl) rfl #[.func (.func 49) #[] #[.pointer (some ⟨w.heap.size, 0, none⟩)]] (by rfl) rfl rfl (by (try simp only [List.map_toArray, List.map_cons, List.map_nil]); rfl) ?_
      refine (prod_moving.fn _ _ V1 hfn).mono ?_
      rintro e V2 ⟨rfl, hm2, b2⟩
      have bE := bD.trans (b2.mono bD.size)
      have qE := blk_below qD b2
      have zE := blk_below zD b2
      refine ⟨_, rfl, ?_⟩
      refine hK.out _ _ ⟨(blk_cell qE 0).trans rfl, (blk_cell qE 1).trans rfl, (blk_cell qE 2).trans rfl, (blk_cell qE 3).trans rfl⟩ (fun hHeld => ?_)
      clear hK K
      refine norm_ (a' := ?_) ?_ ?_
      rotate_left
      · show Act.put _ (some 53) _ = _
        simp only [Act.put, List.setIfInBounds_toArray, List.set_cons_zero, List.set_cons_succ, i64_w, i32_w]
        rfl
      refine one_ (i := 3) (N := (some 55)) #[true, true, true, true, false, false] rfl rfl (by kernel_rfl) (by decide) (fun K hK => ?_)
      refine call_ 83 #[.agg #[.int .i64 e0, .int .i64 e1, .int .i64 e2, .slice A2 l.length c2], .pointer (some ⟨V1.heap.size, 0, none⟩), .pointer (some ⟨V1.heap.size + 1, 0, none⟩)] (by rfl) rfl ?run ?_
      case run =>
        have en := fun args w => enters_of (P := Try.prog) Try.func83 (by kernel_rfl) rfl args w
        unfold execOp
        simp [resolve, Deferred.ofValue, invoke, Act.eval, en]
      refine (prod_moving1.calls _ (⟨e0, e1, e2, l⟩ : S28) y A2 c2 V1.heap.size V2 HY.out hm2 (Kd.C_below HR3.out bE) HC3.out).mono ?_
      rintro e V3 ⟨v, rfl, o3, b3⟩
      have bF := bE.trans (b3.mono bE.size)
      have qF := blk_below qE b3
      have zF := blk_below zE b3
      refine ⟨_, rfl, ?_⟩
      refine hK.out _ _ ⟨(blk_cell qF 0).trans rfl, (blk_cell qF 1).trans rfl, (blk_cell qF 2).trans rfl, (blk_cell qF 3).trans rfl⟩ (fun hHeld => ?_)
      clear hK K
      refine norm_ (a' := ?_) ?_ ?_
      rotate_left
      · show Act.put _ (some 55) _ = _
        simp only [Act.put, List.setIfInBounds_toArray, List.set_cons_zero, List.set_cons_succ, i64_w, i32_w]
        rfl
      obtain ⟨D3, d3, e3⟩ := Kd.R_slice o3
      subst e3
      refine last_ (i := 4) (N := none) #[true, true, true, true, true, false] rfl rfl (by kernel_rfl) (by decide) (fun K hK => ?_)
      have sz := blk_lt zF
      obtain ⟨zc, zk, zb⟩ := row4_put zF (.int .i64 y.f0) (.int .i64 y.f1) (.int .i64 y.f2) (.slice D3 y.f3.length d3)
      refine skip_ (w1 := ((((V3.setCell ⟨w.heap.size + 1 + 1, 0, none⟩ (.int .i64 y.f0)).setCell ⟨w.heap.size + 1 + 1, 1, none⟩ (.int .i64 y.f1)).setCell ⟨w.heap.size + 1 + 1, 2, none⟩ (.int .i64 y.f2)).setCell ⟨w.heap.size + 1 + 1, 3, none⟩ (.slice D3 y.f3.length d3))) (by rfl) rfl ?st ?_
      case st =>
        have z_0 : V3.cell? ⟨w.heap.size + 1 + 1, 0, none⟩ = some (.int .i64 0) := (blk_cell zF 0).trans rfl
        have z_1 : V3.cell? ⟨w.heap.size + 1 + 1, 1, none⟩ = some (.int .i64 0) := (blk_cell zF 1).trans rfl
        have z_2 : V3.cell? ⟨w.heap.size + 1 + 1, 2, none⟩ = some (.int .i64 0) := (blk_cell zF 2).trans rfl
        have z_3 : V3.cell? ⟨w.heap.size + 1 + 1, 3, none⟩ = some (.slice none 0 0) := (blk_cell zF 3).trans rfl
        have f_0 := blk_frozen zF 0
        have f_1 := blk_frozen zF 1
        have f_2 := blk_frozen zF 2
        have f_3 := blk_frozen zF 3
        go_simp
      refine hK.out _ _ ?_
      clear hK K
      refine pure_ (i := 5) (N := (some 7)) (v := ?_) (a' := ?_) #[true, true, true, true, true, true] rfl rfl (by kernel_rfl) (fun _ _ _ h => h) (Or.inl ⟨by rfl, ?_⟩) ?_ ?_
      rotate_left
      · intro w'
        go_simp
        with_reducible rfl
      rotate_left
      · simp only [Act.put, List.setIfInBounds_toArray, List.set_cons_zero, List.set_cons_succ, i64_w, i32_w]
        rfl
      refine done_ (by kernel_rfl) ?_
      try simp only [Exit.then]
      go_wp2
      refine bodyPost_ret (results_ct rfl _ _ (w.heap.size + 1 + 1) 28 #[.int .i64 y.f0, .int .i64 y.f1, .int .i64 y.f2, .slice D3 y.f3.length d3] (0, 0) _ rfl zc huE rfl (by kernel_rfl)) rfl ?_
      obtain ⟨rfl, rfl, rfl, rfl, rfl⟩ : r1 = y.f0 ∧ r2 = y.f1 ∧ r3 = y.f2 ∧ r4 = y.f3 ∧ r5 = 0 := by
        injection (Option.some.inj H.out) with g1 g2; injection g2 with g2 g3; injection g3 with g3 g4; injection g4 with g4 g5
        exact ⟨g1.symm, g2.symm, g3.symm, g4.symm, g5.symm⟩
      have sE := bE.size
      have sV1 := blk_lt zD
      have sV2 := b2.size
      exact ⟨_, rfl, Kd.R_lower (Kd.R_mono (Kd.R_step (Kd.R_bound o3) (fun q hq _ => zk q (by have := hq.2.1; omega))) (fun _ _ => trivial)) sE, bF.trans (zb _ (by omega))⟩
end Go.Proofs.Ytilebfkehmecaaa.Print
namespace Go.Proofs.Ytilebfkehmecaaa.Print
open Go.RowKit Go.Proofs.YtilebfkehmecaaaW.PrintWords Go.Proofs.YtilebfkehmecaaaW.PrintLast Go.Proofs.YtilebfkehmecaaaW.PrintMore
attribute [local go_sem] max2_int min2_int max_two min_two max_three min_three max_four min_four
set_option linter.unusedVariables false
set_option linter.unusedSimpArgs false
def prod_cells.l0 : Nat → Int → List (S66) → Int → Int → Option (Int)
 | 0, _, _, _, _ => none
 | k + 1, x3, x7, x8, x9 => if x9 < x8 then (if 0 ≤ x9 then (if x9 < (x7.length : Int) then (prod_cells.l0 k (wrap64 (x3 + ((rd_T66 x7 x9).f2))) x7 x8 (wrap64 (x9 + 1))) else (none)) else (none)) else (some x3)
def prod_cells.f (k : Nat) (a0_0 : Int) (l0_1 : List (S66)) (l0_2 : List (S64)) : Option (Int) := prod_cells.l0 k 0 l0_1 (l0_1.length : Int) 0
set_option maxHeartbeats 8000000 in
set_option maxRecDepth 100000 in
theorem prod_cells.calls (k : Nat) (a0_0 : Int) (A0_1 : Option Addr) (c0_1 : Nat) (l0_1 : List (S66)) (A0_2 : Option Addr) (c0_2 : Nat) (l0_2 : List (S64)) (r : Int) (w : World) (hr0_1 : Kd.C k66 w A0_1 l0_1.length l0_1) (hc0_1 : l0_1.length ≤ c0_1) (hr0_2 : Kd.C k64 w A0_2 l0_2.length l0_2) (hc0_2 : l0_2.length ≤ c0_2) (h : prod_cells.f k a0_0 l0_1 l0_2 = some r) :
  Calls Try.prog 55 #[.agg #[.int .i64 a0_0, .slice A0_1 l0_1.length c0_1, .slice A0_2 l0_2.length c0_2]] w fun e w' => e = .returned (.int .i64 r) ∧ Below w.heap.size w w' := by
 have hu25 := Try.underlying25
 have hu66 := Try.underlying66
 have HR0_1 := Aside0.mk hr0_1
 have HC0_1 := Aside0.mk hc0_1
 clear hr0_1 hc0_1
 have HR0_2 := Aside0.mk hr0_2
 have HC0_2 := Aside0.mk hc0_2
 clear hr0_2 hc0_2
 have HB := Aside0.mk (Below.refl w.heap.size w)
 have H : (prod_cells.l0 k 0 l0_1 (l0_1.length : Int) 0) = some r := h
 clear h
 have H' := Aside0.mk H
 clear H
 go_enter Try.func55, Try.ntmps55
 go_wp2_with (first | ((with_reducible refine gate_dst (N := 1) rfl ?_); refine box_event ?hg (N := 1) ?hd (cs := #[.int .i64 a0_0, .slice A0_1 l0_1.length c0_1, .slice A0_2 l0_2.length c0_2]) (t := 25) ?hr ?_; (case hd => rfl); (case hg => rfl); (case hr => first | (go_simp; done) | (go_simp; rfl)); intro gb165 hg w2 hbox hb; have n0_ := Aside0.mk (bsp (by repeat (first | (with_reducible first | exact HB.out | apply bal | apply bdN | apply bd1) | exact HB.out)) hb); have n1_ := Aside0.mk (hbox); have n2_ := Aside0.mk ((by rw [hg]; exact (bsz (by repeat (first | (with_reducible first | exact HB.out | apply bal | apply bdN | apply bd1) | exact HB.out))) : w.heap.size ≤ gb165)); have n3_ := Aside0.mk ((by rw [hg]; exact (bsz (by repeat (first | (with_reducible first | exact HB.out | apply bal | apply bdN | apply bd1) | exact HB.out))) : w.heap.size ≤ gb165)); clear HB; have HB := n0_; have BK165 := n1_; have GW165 := n2_; have GE165 := n3_; clear n0_ n1_ n2_ n3_; clear hb hbox hg; obtain ⟨hcz3_0, hcz3_1, hcz3_2, hfz3_0, hfz3_1, hfz3_2⟩ := cf3 BK165.out))
 go_loopg [3, 9] k (fun kq v3 v9 w' => ∃ (x3_1 : Int) (x9_1 : Int), v3 = .int .i64 x3_1 ∧ v9 = .int .i64 x9_1 ∧ Aside0 (prod_cells.l0 kq x3_1 l0_1 (l0_1.length : Int) x9_1 = some r) ∧ Aside0 (kq ≤ k) ∧ Aside0 (w'.heap[gb165]? = some (.cells #[.int .i64 a0_0, (.slice A0_1 l0_1.length c0_1), (.slice A0_2 l0_2.length c0_2)] 25 (0, 0))) ∧ Aside0 (Below w.heap.size w w'))
 case atStart => exact ⟨(0), (0), (by first | rfl | (simp; done) | (simp [*]; done)), (by first | rfl | (simp; done) | (simp [*]; done)), H', ⟨Nat.le_refl _⟩, ⟨by (with_reducible repeat (first | refine kdN ?_ _ | refine kdr ?_ | refine kal ?_ _)); exact BK165.out⟩, ⟨by repeat (first | (with_reducible first | exact HB.out | apply bal | apply bdN | apply bd1 | refine bst ?_ GE165.out) | exact HB.out)⟩⟩
 case round =>
  clear H'
  try clear p2
  try clear hcz3_0
  try clear hcz3_1
  try clear hcz3_2
  try clear hfz3_0
  try clear hfz3_1
  try clear hfz3_2
  obtain ⟨x3_1, x9_1, rfl, rfl, HA, HK1, BK165, HB⟩ := hrel
  cases gk with
  | zero => exact absurd HA.out (by simp [prod_cells.l0])
  | succ k1 =>
   have H := HA.out
   clear HA
   simp only [prod_cells.l0] at H
   by_cases c4 : x9_1 < (l0_1.length : Int)
   ·rw [if_pos c4] at H
    have c4b0 : decide (x9_1 < (l0_1.length : Int)) = true := decide_eq_true c4
    clear c4
    by_cases c5 : 0 ≤ x9_1
    ·rw [if_pos c5] at H
     have c5b0 : decide (0 ≤ x9_1) = true := decide_eq_true c5
     clear c5
     by_cases c6 : x9_1 < (l0_1.length : Int)
     ·rw [if_pos c6] at H
      have c6b0 : decide (x9_1 < (l0_1.length : Int)) = true := decide_eq_true c6
      clear c6
      have H' := Aside0.mk H
      clear H
      have p166 : 0 ≤ (x9_1 : Int) := of_decide_eq_true (by first | (with_reducible assumption) | assumption)
      have q166 : x9_1 < (l0_1.length : Int) := of_decide_eq_true (by first | (with_reducible assumption) | assumption)
      obtain ⟨ad166, e166, hx166_0, hx166_1, hx166_2⟩ := at_T66 HR0_1.out x9_1 p166 q166
      cases e166
      replace hx166_0 := bcell HB.out hx166_0
      replace hx166_1 := bcell HB.out hx166_1
      replace hx166_2 := bcell HB.out hx166_2
      replace p166 := eq_true p166
      replace q166 := eq_true q166
      go_wp2_with (first | ((with_reducible refine gate_dst (N := 5) rfl ?_); refine box_event ?hg (N := 5) ?hd (cs := #[.string (⟨#[]⟩ : ByteArray), .int .i64 0, .int .i64 0]) (t := 66) ?hr ?_; (case hd => rfl); (case hg => rfl); (case hr => first | (go_simp; done) | (go_simp; rfl)); intro gb167 hg w7 hbox hb; have n0_ := Aside0.mk (blk_below (g := gb165) (o := .cells #[.int .i64 a0_0, .slice (some ad166) l0_1.length c0_1, .slice A0_2 l0_2.length c0_2] 25 (0, 0)) (by (with_reducible repeat (first | refine kdN ?_ _ | refine kdr ?_ | refine kal ?_ _)); exact BK165.out) hb); have n1_ := Aside0.mk (bsp (by repeat (first | (with_reducible first | exact HB.out | apply bal | apply bdN | apply bd1 | refine bst ?_ GE165.out) | exact HB.out)) hb); have n2_ := Aside0.mk (hbox); have n3_ := Aside0.mk ((by rw [hg]; exact (bsz (by repeat (first | (with_reducible first | exact HB.out | apply bal | apply bdN | apply bd1 | refine bst ?_ GE165.out) | exact HB.out))) : w.heap.size ≤ gb167)); have n4_ := Aside0.mk ((by rw [hg]; exact (bsz (by repeat (first | (with_reducible first | exact HB.out | apply bal | apply bdN | apply bd1 | refine bst ?_ GE165.out) | exact HB.out))) : w.heap.size ≤ gb167)); have n5_ := Aside0.mk ((by rw [hg]; exact Nat.ne_of_lt (blk_lt (g := gb165) (o := .cells #[.int .i64 a0_0, .slice (some ad166) l0_1.length c0_1, .slice A0_2 l0_2.length c0_2] 25 (0, 0)) (by (with_reducible repeat (first | refine kdN ?_ _ | refine kdr ?_ | refine kal ?_ _)); exact BK165.out)) : gb165 ≠ gb167)); have n6_ := Aside0.mk ((by rw [hg]; exact Nat.ne_of_gt (blk_lt (g := gb165) (o := .cells #[.int .i64 a0_0, .slice (some ad166) l0_1.length c0_1, .slice A0_2 l0_2.length c0_2] 25 (0, 0)) (by (with_reducible repeat (first | refine kdN ?_ _ | refine kdr ?_ | refine kal ?_ _)); exact BK165.out)) : gb167 ≠ gb165)); clear BK165; clear HB; have BK165 := n0_; have HB := n1_; have BK167 := n2_; have GW167 := n3_; have GE167 := n4_; have NB165_167 := n5_; have NB167_165 := n6_; clear n0_ n1_ n2_ n3_ n4_ n5_ n6_; clear hb hbox hg; have hnb8 := NB167_165.out; have hnc8 := NB165_167.out; obtain ⟨hcz9_0, hcz9_1, hcz9_2, hfz9_0, hfz9_1, hfz9_2⟩ := cf3 BK167.out))
      go_roundg k1
      case measure => have := HK1.out; omega
      case rel => exact ⟨(wrap64 (x3_1 + ((rd_T66 l0_1 x9_1).f2))), (wrap64 (x9_1 + 1)), (by first | rfl | (simp; done) | (simp [*]; done)), (by first | rfl | (simp; done) | (simp [*]; done)), H', ⟨by have := HK1.out; omega⟩, ⟨by (with_reducible repeat (first | refine kdN ?_ _ | refine kdr ?_ | refine kal ?_ _)); refine blk_far ?_ NB165_167.out _; (with_reducible repeat (first | refine kdN ?_ _ | refine kdr ?_ | refine kal ?_ _)); refine blk_far ?_ NB165_167.out _; (with_reducible repeat (first | refine kdN ?_ _ | refine kdr ?_ | refine kal ?_ _)); refine blk_far ?_ NB165_167.out _; (with_reducible repeat (first | refine kdN ?_ _ | refine kdr ?_ | refine kal ?_ _)); exact BK165.out⟩, ⟨by repeat (first | (with_reducible first | exact HB.out | apply bal | apply bdN | apply bd1 | refine bst ?_ GE165.out | refine bst ?_ GE167.out) | exact HB.out)⟩⟩
     ·rw [if_neg c6] at H
      exact absurd H (by simp)
    ·rw [if_neg c5] at H
     exact absurd H (by simp)
   ·rw [if_neg c4] at H
    have c4b0 : decide (x9_1 < (l0_1.length : Int)) = false := decide_eq_false c4
    clear c4
    obtain rfl := Option.some.inj H
    go_wp2
    go_ret
    exact ⟨by first | rfl | (simp [*] <;> rfl), by repeat (first | (with_reducible first | exact HB.out | apply bal | apply bdN | apply bd1 | refine bst ?_ GE165.out) | exact HB.out)⟩
def prod_words.l0 : Nat → Int → Int → Int → List Int → Int → Int → Option (Bool)
 | 0, _, _, _, _, _, _ => none
 | k + 1, x0, x5, x6, x18, x19, x20 => if x20 < x19 then (if 0 ≤ x20 then (if x20 < (x18.length : Int) then (prod_words.l0 k x0 (mn x5 (rd x18 x20)) (mx x6 (rd x18 x20)) x18 x19 (wrap64 (x20 + 1))) else (none)) else (none)) else (if x5 ≥ 0 then (if 0 ≤ (IntKind.u64.wrap (x0)) then (some (decide (x6 < (shl .i64 1 (IntKind.u64.wrap (x0)))))) else (none)) else (some false))
def prod_words.f (k : Nat) (a0 : Int) (l1 : List Int) : Option (Bool) := if (l1.length : Int) = 0 then (some true) else (if 0 < (l1.length : Int) then (prod_words.l0 k a0 (rd l1 0) (rd l1 0) l1 (l1.length : Int) 0) else (none))
set_option maxHeartbeats 8000000 in
set_option maxRecDepth 100000 in
theorem prod_words.calls (k : Nat) (a0 : Int) (A1 : Option Addr) (c1 : Nat) (l1 : List Int) (r : Bool) (w : World) (hr1 : Kd.C (Kd.int .i64) w A1 l1.length l1) (hc1 : l1.length ≤ c1) (h : prod_words.f k a0 l1 = some r) :
  Calls Try.prog 56 #[.int .i64 a0, .slice A1 l1.length c1] w fun e w' => e = .returned (.bool r) ∧ Below w.heap.size w w' := by
 have HR1 := Aside0.mk hr1
 have HC1 := Aside0.mk hc1
 clear hr1 hc1
 have HB := Aside0.mk (Below.refl w.heap.size w)
 have H : (if (l1.length : Int) = 0 then (some true) else (if 0 < (l1.length : Int) then (prod_words.l0 k a0 (rd l1 0) (rd l1 0) l1 (l1.length : Int) 0) else (none))) = some r := h
 clear h
 by_cases c3 : (l1.length : Int) = 0
 ·rw [if_pos c3] at H
  have c3b0 : ((l1.length : Int) == 0) = true := beq_iff_eq.mpr c3
  have c3b1 : ((l1.length : Int) != 0) = false := bne_eq_false_iff_eq.mpr c3
  clear c3
  obtain rfl := Option.some.inj H
  go_enter Try.func56, Try.ntmps56
  go_wp2
  repeat (go_quiet (fail); try go_wp2)
  go_ret
  exact ⟨by first | rfl | (simp [*] <;> rfl), by repeat (first | (with_reducible first | exact HB.out | apply bal | apply bdN | apply bd1) | exact HB.out)⟩
 ·rw [if_neg c3] at H
  have c3b0 : ((l1.length : Int) == 0) = false := beq_eq_false_iff_ne.mpr c3
  have c3b1 : ((l1.length : Int) != 0) = true := bne_iff_ne.mpr c3
  have c3b2 : ¬ (l1 = []) := fun h_ => c3 (by rw [h_]; rfl)
  by_cases c4 : 0 < (l1.length : Int)
  ·rw [if_pos c4] at H
   have c4b0 : decide (0 < (l1.length : Int)) = true := decide_eq_true c4
   have c4b1 : decide (0 < l1.length) = true := decide_eq_true (by omega)
   clear c4
   have H' := Aside0.mk H
   clear H
   have p168 : 0 ≤ (0 : Int) := (by omega)
   have q168 : 0 < (l1.length : Int) := of_decide_eq_true (by first | (with_reducible assumption) | assumption)
   obtain ⟨ad168, e168, hx168_0⟩ := Kd.at_int HR1.out 0 p168 q168
   cases e168
   have qi168 : (0 < l1.length) = True := eq_true (by omega)
   (try rw [show ((0 : Int)).toNat = 0 from rfl] at hx168_0)
   (try rw [Addr.add_zero'] at hx168_0)
   replace p168 := eq_true p168
   replace q168 := eq_true q168
   have p169 : 0 ≤ (0 : Int) := (by omega)
   have q169 : 0 < (l1.length : Int) := of_decide_eq_true (by first | (with_reducible assumption) | assumption)
   obtain ⟨ad169, e169, hx169_0⟩ := Kd.at_int HR1.out 0 p169 q169
   obtain rfl : ad168 = ad169 := (by injection e169)
   have qi169 : (0 < l1.length) = True := eq_true (by omega)
   (try rw [show ((0 : Int)).toNat = 0 from rfl] at hx169_0)
   (try rw [Addr.add_zero'] at hx169_0)
   replace p169 := eq_true p169
   replace q169 := eq_true q169
   go_enter Try.func56, Try.ntmps56
   go_wp2
   repeat (go_quiet (fail); try go_wp2)
   go_loopg [5, 6, 20] k (fun kq v5 v6 v20 w' => ∃ (x5_1 : Int) (x6_1 : Int) (x20_1 : Int), v5 = .int .i64 x5_1 ∧ v6 = .int .i64 x6_1 ∧ v20 = .int .i64 x20_1 ∧ Aside0 (prod_words.l0 kq a0 x5_1 x6_1 l1 (l1.length : Int) x20_1 = some r) ∧ Aside0 (kq ≤ k) ∧ Aside0 (Below w.heap.size w w'))
   case atStart => exact ⟨(rd l1 0), (rd l1 0), (0), (by first | rfl | (simp; done) | (simp [*]; done)), (by first | rfl | (simp; done) | (simp [*]; done)), (by first | rfl | (simp; done) | (simp [*]; done)), H', ⟨Nat.le_refl _⟩, ⟨by repeat (first | (with_reducible first | exact HB.out | apply bal | apply bdN | apply bd1) | exact HB.out)⟩⟩
   case round =>
    clear H'
    try clear c1
    try clear p1
    try clear q1
    try clear hx1
    try clear qi1
    try clear p2
    try clear c3
    try clear c3b0
    try clear c3b1
    try clear c3b2
    try clear c4
    try clear c4b0
    try clear c4b1
    try clear hx168_0
    try clear hx169_0
    try clear p168
    try clear p169
    try clear q168
    try clear q169
    obtain ⟨x5_1, x6_1, x20_1, rfl, rfl, rfl, HA, HK1, HB⟩ := hrel
    cases gk with
    | zero => exact absurd HA.out (by simp [prod_words.l0])
    | succ k1 =>
     have H := HA.out
     clear HA
     simp only [prod_words.l0] at H
     by_cases c5 : x20_1 < (l1.length : Int)
     ·rw [if_pos c5] at H
      have c5b0 : decide (x20_1 < (l1.length : Int)) = true := decide_eq_true c5
      clear c5
      by_cases c6 : 0 ≤ x20_1
      ·rw [if_pos c6] at H
       have c6b0 : decide (0 ≤ x20_1) = true := decide_eq_true c6
       clear c6
       by_cases c7 : x20_1 < (l1.length : Int)
       ·rw [if_pos c7] at H
        have c7b0 : decide (x20_1 < (l1.length : Int)) = true := decide_eq_true c7
        clear c7
        obtain ⟨ji8, hji8⟩ : ∃ j_ : Int, (mn x5_1 (rd l1 x20_1)) = j_ := ⟨_, rfl⟩
        replace H : (prod_words.l0 k1 a0 ji8 (mx x6_1 (rd l1 x20_1)) l1 (l1.length : Int) (wrap64 (x20_1 + 1))) = some r := by first | (rw [hji8] at H; exact H) | (simp only [hji8] at H ⊢; exact H)
        have hji8_ : (if (rd l1 x20_1) < x5_1 then (rd l1 x20_1) else x5_1) = ji8 := hji8
        obtain ⟨ji9, hji9⟩ : ∃ j_ : Int, (mx x6_1 (rd l1 x20_1)) = j_ := ⟨_, rfl⟩
        replace H : (prod_words.l0 k1 a0 ji8 ji9 l1 (l1.length : Int) (wrap64 (x20_1 + 1))) = some r := by first | (rw [hji9] at H; exact H) | (simp only [hji9] at H ⊢; exact H)
        have hji9_ : (if x6_1 < (rd l1 x20_1) then (rd l1 x20_1) else x6_1) = ji9 := hji9
        have H' := Aside0.mk H
        clear H
        have p170 : 0 ≤ (x20_1 : Int) := of_decide_eq_true (by first | (with_reducible assumption) | assumption)
        have q170 : x20_1 < (l1.length : Int) := of_decide_eq_true (by first | (with_reducible assumption) | assumption)
        obtain ⟨ad170, e170, hx170_0⟩ := Kd.at_int HR1.out x20_1 p170 q170
        obtain rfl : ad168 = ad170 := (by injection e170)
        replace hx170_0 := bcell HB.out hx170_0
        replace p170 := eq_true p170
        replace q170 := eq_true q170
        go_wp2
        repeat (go_quiet (fail); try go_wp2)
        go_roundg k1
        case measure => have := HK1.out; omega
        case rel => exact ⟨(ji8), (ji9), (wrap64 (x20_1 + 1)), (by first | rfl | (simp; done) | (simp only [← hji8] <;> (first | rfl | simp)) | (simp [*]; done)), (by first | rfl | (simp; done) | (simp only [← hji9] <;> (first | rfl | simp)) | (simp [*]; done)), (by first | rfl | (simp; done) | (simp [*]; done)), H', ⟨by have := HK1.out; omega⟩, ⟨by repeat (first | (with_reducible first | exact HB.out | apply bal | apply bdN | apply bd1) | exact HB.out)⟩⟩
       ·rw [if_neg c7] at H
        exact absurd H (by simp)
      ·rw [if_neg c6] at H
       exact absurd H (by simp)
     ·rw [if_neg c5] at H
      have c5b0 : decide (x20_1 < (l1.length : Int)) = false := decide_eq_false c5
      clear c5
      by_cases c10 : x5_1 ≥ 0
      ·rw [if_pos c10] at H
       have c10b0 : decide (0 ≤ x5_1) = true := decide_eq_true c10
       clear c10
       obtain ⟨ji11, hji11⟩ : ∃ j_ : Int, (IntKind.u64.wrap (a0)) = j_ := ⟨_, rfl⟩
       replace H : (if 0 ≤ (ji11) then (some (decide (x6_1 < (shl .i64 1 (ji11))))) else (none)) = some r := by first | (rw [hji11] at H; exact H) | (simp only [hji11] at H ⊢; exact H)
       by_cases c12 : 0 ≤ (ji11)
       ·rw [if_pos c12] at H
        have c12b0 := eq_true c12
        have c12b1 : decide (0 ≤ (ji11)) = true := decide_eq_true c12
        clear c12
        obtain ⟨ji13, hji13⟩ : ∃ j_ : Int, (shl .i64 1 (ji11)) = j_ := ⟨_, rfl⟩
        replace H : (some (decide (x6_1 < (ji13)))) = some r := by first | (rw [hji13] at H; exact H) | (simp only [hji13] at H ⊢; exact H)
        have hji13_ : (IntKind.i64.wrap (1 * 2 ^ min (ji11).toNat 64)) = ji13 := hji13
        have hji13z : (ji11) ≤ 64 → (IntKind.i64.wrap (1 * 2 ^ (ji11).toNat)) = ji13 := shl_small hji13
        have hji13u : (IntKind.i64.wrap (2 ^ min (ji11).toNat 64)) = ji13 := by have h_ := hji13_; rw [Int.one_mul] at h_; exact h_
        have hji13v : (ji11) ≤ 64 → (IntKind.i64.wrap (2 ^ (ji11).toNat)) = ji13 := fun hle_ => by have h_ := hji13z hle_; rw [Int.one_mul] at h_; exact h_
        have hji13y : (wrap64 (1 * 2 ^ min (ji11).toNat 64)) = ji13 := (i64_w _).symm.trans hji13_
        have hji13x : (ji11) ≤ 64 → (wrap64 (1 * 2 ^ (ji11).toNat)) = ji13 := fun h_ => (i64_w _).symm.trans (hji13z h_)
        obtain rfl := Option.some.inj H
        go_wp2
        repeat (go_quiet (fail); try go_wp2)
        go_ret
        exact ⟨by first | rfl | (simp [errW_none, errW_some] <;> rfl) | (simp only [← hji11, ← hji13]; first | rfl | (simp [errW_none, errW_some] <;> rfl)) | (simp [*, errW_none, errW_some] <;> rfl), by repeat (first | (with_reducible first | exact HB.out | apply bal | apply bdN | apply bd1) | exact HB.out)⟩
       ·rw [if_neg c12] at H
        exact absurd H (by simp)
      ·rw [if_neg c10] at H
       have c10b0 : decide (0 ≤ x5_1) = false := decide_eq_false c10
       clear c10
       obtain rfl := Option.some.inj H
       go_wp2
       repeat (go_quiet (fail); try go_wp2)
       go_ret
       exact ⟨by first | rfl | (simp [*] <;> rfl), by repeat (first | (with_reducible first | exact HB.out | apply bal | apply bdN | apply bd1) | exact HB.out)⟩
  ·rw [if_neg c4] at H
   exact absurd H (by simp)
mutual
def prod_Join.j0 : Nat → List (List Int) → Bool → Int → List (S66) → List (S64) → Option (List Int × Int)
 | 0, _, _, _, _, _ => none
 | k + 1, x1, x24, x172000, x172001, x172002 => if x24 = true then (some (([] : List Int), 1)) else (prod_Join.l0 k ([] : List Int) x1 (x1.length : Int) 0 x172000 x172001 x172002)
def prod_Join.l0 : Nat → List Int → List (List Int) → Int → Int → Int → List (S66) → List (S64) → Option (List Int × Int)
 | 0, _, _, _, _, _, _, _ => none
 | k + 1, x6, x25, x26, x27, x172000, x172001, x172002 => if x27 < x26 then (if 0 ≤ x27 then (if x27 < (x25.length : Int) then ((prod_cells.f k x172000 x172001 x172002).bind fun t175 => (if ((rd_L10 x25 x27).length : Int) = t175 then ((prod_words.f k x172000 (rd_L10 x25 x27)).bind fun t176 => (if t176 = true then (if x6.length + (rd_L10 x25 x27).length < 17592186044416 then (prod_Join.l0 k (x6 ++ (rd_L10 x25 x27)) x25 x26 (wrap64 (x27 + 1)) x172000 x172001 x172002) else (none)) else (some (([] : List Int), 1)))) else (some (([] : List Int), 1)))) else (none)) else (none)) else (some (x6, 0))
end
def prod_Join.f (k : Nat) (a0_0 : Int) (l0_1 : List (S66)) (l0_2 : List (S64)) (l1 : List (List Int)) : Option (List Int × Int) := (prog_Check.f k a0_0 l0_1 l0_2).bind fun t172 => (if t172 = 0 then (if (l1.length : Int) < 1 then (prod_Join.j0 k l1 true a0_0 l0_1 l0_2) else (if (l1.length : Int) > 3 then (prod_Join.j0 k l1 true a0_0 l0_1 l0_2) else ((prod_single.f k a0_0 l0_1 l0_2).bind fun t173 => (prod_Join.j0 k l1 (t173 != 0) a0_0 l0_1 l0_2)))) else (some (([] : List Int), 30)))
set_option maxHeartbeats 8000000 in
set_option maxRecDepth 100000 in
theorem prod_Join.calls (k : Nat) (a0_0 : Int) (A0_1 : Option Addr) (c0_1 : Nat) (l0_1 : List (S66)) (A0_2 : Option Addr) (c0_2 : Nat) (l0_2 : List (S64)) (A1 : Option Addr) (c1 : Nat) (l1 : List (List Int)) (r1 : List Int) (r2 : Int) (w : World) (hr0_1 : Kd.C k66 w A0_1 l0_1.length l0_1) (hc0_1 : l0_1.length ≤ c0_1) (hr0_2 : Kd.C k64 w A0_2 l0_2.length l0_2) (hc0_2 : l0_2.length ≤ c0_2) (hr1 : Kd.C (Kd.slice 3 (Kd.int .i64)) w A1 l1.length l1) (hc1 : l1.length ≤ c1) (h : prod_Join.f k a0_0 l0_1 l0_2 l1 = some (r1, r2)) :
  Calls Try.prog 21 #[.agg #[.int .i64 a0_0, .slice A0_1 l0_1.length c0_1, .slice A0_2 l0_2.length c0_2], .slice A1 l1.length c1] w fun e w' => ∃ v0_ : Value, e = .returned (.tuple #[v0_, .int .i64 r2]) ∧ Kd.R (Kd.int .i64) 3 w' w.heap.size (fun _ => True) v0_ r1 ∧ Below w.heap.size w w' := by
 have hu25 := Try.underlying25
 have HR0_1 := Aside0.mk hr0_1
 have HC0_1 := Aside0.mk hc0_1
 clear hr0_1 hc0_1
 have HR0_2 := Aside0.mk hr0_2
 have HC0_2 := Aside0.mk hc0_2
 clear hr0_2 hc0_2
 have HR1 := Aside0.mk hr1
 have HC1 := Aside0.mk hc1
 clear hr1 hc1
 have HB := Aside0.mk (Below.refl w.heap.size w)
 have H : ((prog_Check.f k a0_0 l0_1 l0_2).bind fun t172 => (if t172 = 0 then (if (l1.length : Int) < 1 then (prod_Join.j0 k l1 true a0_0 l0_1 l0_2) else (if (l1.length : Int) > 3 then (prod_Join.j0 k l1 true a0_0 l0_1 l0_2) else ((prod_single.f k a0_0 l0_1 l0_2).bind fun t173 => (prod_Join.j0 k l1 (t173 != 0) a0_0 l0_1 l0_2)))) else (some (([] : List Int), 30)))) = some (r1, r2) := h
 clear h
 replace H := Option.bind_eq_some_iff.mp H
 obtain ⟨t172, A30, H⟩ := H
 replace H : (if t172 = 0 then (if (l1.length : Int) < 1 then (prod_Join.j0 k l1 true a0_0 l0_1 l0_2) else (if (l1.length : Int) > 3 then (prod_Join.j0 k l1 true a0_0 l0_1 l0_2) else ((prod_single.f k a0_0 l0_1 l0_2).bind fun t173 => (prod_Join.j0 k l1 (t173 != 0) a0_0 l0_1 l0_2)))) else (some (([] : List Int), 30))) = some (r1, r2) := H
 have A3 := Aside0.mk A30
 clear A30
 by_cases c4 : t172 = 0
 ·rw [if_pos c4] at H
  have c4b0 : (t172 == 0) = true := beq_iff_eq.mpr c4
  have c4b1 : (t172 != 0) = false := bne_eq_false_iff_eq.mpr c4
  clear c4
  have HC5 := Aside0.mk H
  clear H
  go_enter Try.func21, Try.ntmps21
  go_upto_region 3 with (first | ((with_reducible refine gate_dst (N := 2) rfl ?_); (try (refine gate_guard (by rfl) ?_; dsimp only)); refine box_event ?hg (N := 2) ?hd (cs := #[.int .i64 a0_0, .slice A0_1 l0_1.length c0_1, .slice A0_2 l0_2.length c0_2]) (t := 25) ?hr ?_; (case hd => rfl); (case hg => rfl); (case hr => first | (go_simp; done) | (go_simp; rfl)); intro gb171 hg w6 hbox hb; have n0_ := Aside0.mk (bsp (by repeat (first | (with_reducible first | exact HB.out | apply bal | apply bdN | apply bd1) | exact HB.out)) hb); have n1_ := Aside0.mk (hbox); have n2_ := Aside0.mk ((by rw [hg]; exact (bsz (by repeat (first | (with_reducible first | exact HB.out | apply bal | apply bdN | apply bd1) | exact HB.out))) : w.heap.size ≤ gb171)); have n3_ := Aside0.mk ((by rw [hg]; exact (bsz (by repeat (first | (with_reducible first | exact HB.out | apply bal | apply bdN | apply bd1) | exact HB.out))) : w.heap.size ≤ gb171)); clear HB; have HB := n0_; have BK171 := n1_; have GW171 := n2_; have GE171 := n3_; clear n0_ n1_ n2_ n3_; clear hb hbox hg; obtain ⟨hcz7_0, hcz7_1, hcz7_2, hfz7_0, hfz7_1, hfz7_2⟩ := cf3 BK171.out) | ((with_reducible refine gate_callee (f := 43) rfl ?_); refine goesL_ (some 10) rfl rfl Try.func43 (by kernel_rfl) rfl #[.agg #[.int .i64 a0_0, .slice A0_1 l0_1.length c0_1, .slice A0_2 l0_2.length c0_2]] rfl (by (try simp only [List.map_toArray, List.map_cons, List.map_nil]); first | done | rfl | (simp only [List.length_drop, List.length_take]; rfl)) ?_; (with_reducible refine (prog_Check.calls k a0_0 _ _ l0_1 _ _ l0_2 t172 _ ?side1 ?side2 ?side3 ?side4 A3.out).mono ?_); (case side1 => repeat (first | exact (Kd.C_below HR0_1.out HB.out) | with_reducible first | apply Kd.C_alloc | apply Kd.C_drewN | apply Kd.C_drew)); (case side2 => exact HC0_1.out); (case side3 => repeat (first | exact (Kd.C_below HR0_2.out HB.out) | with_reducible first | apply Kd.C_alloc | apply Kd.C_drewN | apply Kd.C_drew)); (case side4 => exact HC0_2.out); rintro e w8 ⟨rfl, hb⟩; refine ⟨_, rfl, ?_⟩; have n0_ := Aside0.mk (blk_below (g := gb171) (o := .cells #[.int .i64 a0_0, .slice A0_1 l0_1.length c0_1, .slice A0_2 l0_2.length c0_2] 25 (0, 0)) (by (with_reducible repeat (first | refine kdN ?_ _ | refine kdr ?_ | refine kal ?_ _)); exact BK171.out) hb); have n1_ := Aside0.mk (bsp (by repeat (first | (with_reducible first | exact HB.out | apply bal | apply bdN | apply bd1 | refine bst ?_ GE171.out) | exact HB.out)) hb); clear BK171; clear HB; have BK171 := n0_; have HB := n1_; clear n0_ n1_; (try clear hb); (try clear hb2); (try clear hk); (try clear hi)))
  (try simp only [Act.put, List.setIfInBounds_toArray, List.set_cons_zero, List.set_cons_succ])
  go_cut [24] (fun v24 wc => ∃ (kq : Nat) (x24_4 : Bool), v24 = .bool x24_4 ∧ Aside0 (prod_Join.j0 kq l1 x24_4 a0_0 l0_1 l0_2 = some (r1, r2)) ∧ Aside0 (kq ≤ k) ∧ Aside0 (wc.heap[gb171]? = some (.cells #[.int .i64 a0_0, (.slice A0_1 l0_1.length c0_1), (.slice A0_2 l0_2.length c0_2)] 25 (0, 0))) ∧ Aside0 (Below w.heap.size w wc))
  case first =>
   have H := HC5.out
   clear HC5
   by_cases c9 : (l1.length : Int) < 1
   ·rw [if_pos c9] at H
    have c9b0 : decide ((l1.length : Int) < 1) = true := decide_eq_true c9
    have c9b1 : decide (l1.length < 1) = true := decide_eq_true (by omega)
    clear c9
    (first | rw [c9b0] | (simp only [i64_w, i32_w]; rw [c9b0]) | skip)
    have H' := Aside0.mk H
    clear H
    go_wp2
    go_meet
    case rel => exact ⟨_, (true), (by first | rfl | (simp; done) | (simp [*]; done)), H', ⟨by first | omega | exact Nat.le_refl _⟩, ⟨by (with_reducible repeat (first | refine kdN ?_ _ | refine kdr ?_ | refine kal ?_ _)); exact BK171.out⟩, ⟨by repeat (first | (with_reducible first | exact HB.out | apply bal | apply bdN | apply bd1 | refine bst ?_ GE171.out) | exact HB.out)⟩⟩
   ·rw [if_neg c9] at H
    have c9b0 : decide ((l1.length : Int) < 1) = false := decide_eq_false c9
    have c9b1 : decide (l1.length < 1) = false := decide_eq_false (by omega)
    clear c9
    (first | rw [c9b0] | (simp only [i64_w, i32_w]; rw [c9b0]) | skip)
    by_cases c10 : (l1.length : Int) > 3
    ·rw [if_pos c10] at H
     have c10b0 : decide (3 < (l1.length : Int)) = true := decide_eq_true c10
     have c10b1 : decide (3 < l1.length) = true := decide_eq_true (by omega)
     clear c10
     have H' := Aside0.mk H
     clear H
     go_wp2
     go_meet
     case rel => exact ⟨_, (true), (by first | rfl | (simp; done) | (simp [*]; done)), H', ⟨by first | omega | exact Nat.le_refl _⟩, ⟨by (with_reducible repeat (first | refine kdN ?_ _ | refine kdr ?_ | refine kal ?_ _)); exact BK171.out⟩, ⟨by repeat (first | (with_reducible first | exact HB.out | apply bal | apply bdN | apply bd1 | refine bst ?_ GE171.out) | exact HB.out)⟩⟩
    ·rw [if_neg c10] at H
     have c10b0 : decide (3 < (l1.length : Int)) = false := decide_eq_false c10
     have c10b1 : decide (3 < l1.length) = false := decide_eq_false (by omega)
     clear c10
     replace H := Option.bind_eq_some_iff.mp H
     obtain ⟨t173, A110, H⟩ := H
     replace H : (prod_Join.j0 k l1 (t173 != 0) a0_0 l0_1 l0_2) = some (r1, r2) := H
     have A11 := Aside0.mk A110
     clear A110
     have H' := Aside0.mk H
     clear H
     obtain ⟨hcz12_0, hcz12_1, hcz12_2, hfz12_0, hfz12_1, hfz12_2⟩ := cf3 BK171.out
     go_wp2_with (first | (go_at_call 44; (with_reducible refine (prod_single.calls k a0_0 _ _ l0_1 _ _ l0_2 t173 _ ?side1 ?side2 ?side3 ?side4 A11.out).mono ?_); (case side1 => repeat (first | exact (Kd.C_below HR0_1.out HB.out) | with_reducible first | apply Kd.C_alloc | apply Kd.C_drewN | apply Kd.C_drew)); (case side2 => exact HC0_1.out); (case side3 => repeat (first | exact (Kd.C_below HR0_2.out HB.out) | with_reducible first | apply Kd.C_alloc | apply Kd.C_drewN | apply Kd.C_drew)); (case side4 => exact HC0_2.out); rintro e w13 ⟨rfl, hb⟩; have n0_ := Aside0.mk (blk_below (g := gb171) (o := .cells #[.int .i64 a0_0, .slice A0_1 l0_1.length c0_1, .slice A0_2 l0_2.length c0_2] 25 (0, 0)) (by (with_reducible repeat (first | refine kdN ?_ _ | refine kdr ?_ | refine kal ?_ _)); exact BK171.out) hb); have n1_ := Aside0.mk (bsp (by repeat (first | (with_reducible first | exact HB.out | apply bal | apply bdN | apply bd1 | refine bst ?_ GE171.out) | exact HB.out)) hb); clear BK171; clear HB; have BK171 := n0_; have HB := n1_; clear n0_ n1_; (try clear hb); (try clear hb2); (try clear hk); (try clear hi)))
     go_meet
     case rel => exact ⟨_, ((t173 != 0)), (by first | rfl | (simp; done) | (simp [*]; done)), H', ⟨by first | omega | exact Nat.le_refl _⟩, ⟨by (with_reducible repeat (first | refine kdN ?_ _ | refine kdr ?_ | refine kal ?_ _)); exact BK171.out⟩, ⟨by repeat (first | (with_reducible first | exact HB.out | apply bal | apply bdN | apply bd1 | refine bst ?_ GE171.out) | exact HB.out)⟩⟩
  case rest =>
   clear HC5
   try clear c1
   try clear c2
   try clear p2
   try clear c4
   try clear c4b0
   try clear c4b1
   try clear c9
   try clear c9b0
   try clear c9b1
   try clear c10
   try clear c10b0
   try clear c10b1
   try clear hcz12_0
   try clear hcz12_1
   try clear hcz12_2
   try clear hcz7_0
   try clear hcz7_1
   try clear hcz7_2
   try clear hfz12_0
   try clear hfz12_1
   try clear hfz12_2
   try clear hfz7_0
   try clear hfz7_1
   try clear hfz7_2
   obtain ⟨kq, x24_4, rfl, HA, HJ4, BK171, HB⟩ := hcut
   cases kq with
   | zero => exact absurd HA.out (by simp [prod_Join.j0])
   | succ kj4 =>
    have H := HA.out
    clear HA
    simp only [prod_Join.j0] at H
    by_cases c14 : x24_4 = true
    ·subst c14
     have H1 : (some (([] : List Int), 1)) = some (r1, r2) := by rw [if_pos rfl] at H; exact H
     clear H
     have H := H1
     clear H1
     simp only [Option.some.injEq, Prod.mk.injEq] at H
     obtain ⟨rfl, rfl⟩ := H
     go_wp2
     go_ret2
     exact ⟨_, by first | rfl | (simp [*] <;> rfl), by first | exact Kd.R_nil _ _ _ _ _ | exact Kd.N_nil _ _ _ _ _ | exact Kd.V_nil _ _ _ _ _ | exact Kd.Q_nil _ _ _ _ _ | exact Kd.S_nil _ _ _ _ _, by repeat (first | (with_reducible first | exact HB.out | apply bal | apply bdN | apply bd1 | refine bst ?_ GE171.out) | exact HB.out)⟩
    ·replace c14 := Bool.eq_false_iff.mpr c14
     subst c14
     have H1 : (prod_Join.l0 kj4 ([] : List Int) l1 (l1.length : Int) 0 a0_0 l0_1 l0_2) = some (r1, r2) := by rw [if_neg (show ¬ (false = true) by decide)] at H; exact H
     clear H
     have H := H1
     clear H1
     have H' := Aside0.mk H
     clear H
     go_wp2
     go_loopg [6, 27] kj4 (fun kq v6 v27 w' => ∃ (x6_2 : List Int) (x27_2 : Int), v27 = .int .i64 x27_2 ∧ Aside0 (prod_Join.l0 kq x6_2 l1 (l1.length : Int) x27_2 a0_0 l0_1 l0_2 = some (r1, r2)) ∧ Aside0 (kq ≤ kj4) ∧ Aside0 (Kd.R (Kd.int .i64) 3 w' w.heap.size (fun _ => True) v6 x6_2) ∧ Aside0 (w'.heap[gb171]? = some (.cells #[.int .i64 a0_0, (.slice A0_1 l0_1.length c0_1), (.slice A0_2 l0_2.length c0_2)] 25 (0, 0))) ∧ Aside0 (Below w.heap.size w w'))
     case atStart => exact ⟨(([] : List Int)), (0), (by first | rfl | (simp; done) | (simp [*]; done)), H', ⟨Nat.le_refl _⟩, ⟨by first | exact Kd.R_nil _ _ _ _ _ | exact Kd.N_nil _ _ _ _ _ | exact Kd.V_nil _ _ _ _ _ | exact Kd.Q_nil _ _ _ _ _ | exact Kd.S_nil _ _ _ _ _⟩, ⟨by (with_reducible repeat (first | refine kdN ?_ _ | refine kdr ?_ | refine kal ?_ _)); exact BK171.out⟩, ⟨by repeat (first | (with_reducible first | exact HB.out | apply bal | apply bdN | apply bd1 | refine bst ?_ GE171.out) | exact HB.out)⟩⟩
     case round =>
      clear H'
      try clear c1
      try clear c2
      try clear p2
      try clear c4
      try clear c4b0
      try clear c4b1
      try clear c9
      try clear c9b0
      try clear c9b1
      try clear c10
      try clear c10b0
      try clear c10b1
      try clear c14
      try clear hcz12_0
      try clear hcz12_1
      try clear hcz12_2
      try clear hcz7_0
      try clear hcz7_1
      try clear hcz7_2
      try clear hfz12_0
      try clear hfz12_1
      try clear hfz12_2
      try clear hfz7_0
      try clear hfz7_1
      try clear hfz7_2
      try clear p2
      obtain ⟨x6_2, x27_2, rfl, HA, HK2, HO_6, BK171, HB⟩ := hrel
      cases gk with
      | zero => exact absurd HA.out (by simp [prod_Join.l0])
      | succ k2 =>
       have H := HA.out
       clear HA
       simp only [prod_Join.l0] at H
       by_cases c15 : x27_2 < (l1.length : Int)
       ·rw [if_pos c15] at H
        have c15b0 : decide (x27_2 < (l1.length : Int)) = true := decide_eq_true c15
        clear c15
        by_cases c16 : 0 ≤ x27_2
        ·rw [if_pos c16] at H
         have c16b0 : decide (0 ≤ x27_2) = true := decide_eq_true c16
         clear c16
         by_cases c17 : x27_2 < (l1.length : Int)
         ·rw [if_pos c17] at H
          have c17b0 : decide (x27_2 < (l1.length : Int)) = true := decide_eq_true c17
          clear c17
          replace H := Option.bind_eq_some_iff.mp H
          obtain ⟨t175, A180, H⟩ := H
          replace H : (if ((rd_L10 l1 x27_2).length : Int) = t175 then ((prod_words.f k2 a0_0 (rd_L10 l1 x27_2)).bind fun t176 => (if t176 = true then (if x6_2.length + (rd_L10 l1 x27_2).length < 17592186044416 then (prod_Join.l0 k2 (x6_2 ++ (rd_L10 l1 x27_2)) l1 (l1.length : Int) (wrap64 (x27_2 + 1)) a0_0 l0_1 l0_2) else (none)) else (some (([] : List Int), 1)))) else (some (([] : List Int), 1))) = some (r1, r2) := H
          have A18 := Aside0.mk A180
          clear A180
          by_cases c19 : ((rd_L10 l1 x27_2).length : Int) = t175
          ·rw [if_pos c19] at H
           have c19b0 : (((rd_L10 l1 x27_2).length : Int) == t175) = true := beq_iff_eq.mpr c19
           have c19b1 : (((rd_L10 l1 x27_2).length : Int) != t175) = false := bne_eq_false_iff_eq.mpr c19
           clear c19
           replace H := Option.bind_eq_some_iff.mp H
           obtain ⟨t176, A200, H⟩ := H
           replace H : (if t176 = true then (if x6_2.length + (rd_L10 l1 x27_2).length < 17592186044416 then (prod_Join.l0 k2 (x6_2 ++ (rd_L10 l1 x27_2)) l1 (l1.length : Int) (wrap64 (x27_2 + 1)) a0_0 l0_1 l0_2) else (none)) else (some (([] : List Int), 1))) = some (r1, r2) := H
           have A20 := Aside0.mk A200
           clear A200
           by_cases c21 : t176 = true
           ·subst c21
            have H1 : (if x6_2.length + (rd_L10 l1 x27_2).length < 17592186044416 then (prod_Join.l0 k2 (x6_2 ++ (rd_L10 l1 x27_2)) l1 (l1.length : Int) (wrap64 (x27_2 + 1)) a0_0 l0_1 l0_2) else (none)) = some (r1, r2) := by rw [if_pos rfl] at H; exact H
            clear H
            have H := H1
            clear H1
            by_cases c22 : x6_2.length + (rd_L10 l1 x27_2).length < 17592186044416
            ·rw [if_pos c22] at H
             have LMc22 := Aside0.mk c22
             clear c22
             obtain ⟨y177, hy177⟩ : ∃ y_ : List Int, y_ = (x6_2 ++ (rd_L10 l1 x27_2)) := ⟨_, rfl⟩
             replace H : (prod_Join.l0 k2 y177 l1 (l1.length : Int) (wrap64 (x27_2 + 1)) a0_0 l0_1 l0_2) = some (r1, r2) := by first | (rw [hy177]; with_reducible exact H) | (have H2_ := (Option.bind_some _ _).symm.trans H; rw [hy177]; with_reducible exact H2_) | (have H2_ := (Option.bind_some _ _).symm.trans H; with_reducible exact H2_) | with_reducible exact H | (rw [hy177]; exact H) | exact H
             have Ny177 := Aside0.mk hy177
             clear hy177
             have H' := Aside0.mk H
             clear H
             have p174 : 0 ≤ (x27_2 : Int) := of_decide_eq_true (by first | (with_reducible assumption) | assumption)
             have q174 : x27_2 < (l1.length : Int) := of_decide_eq_true (by first | (with_reducible assumption) | assumption)
             obtain ⟨ad174, A174_0, c174_0, e174, hx174_0, hl174_0, hi174_0⟩ := at_L10 HR1.out x27_2 p174 q174
             cases e174
             replace hx174_0 := bcell HB.out hx174_0
             have HR174_0 := Aside0.mk hi174_0
             have HC174_0 := Aside0.mk hl174_0
             clear hi174_0 hl174_0
             replace p174 := eq_true p174
             replace q174 := eq_true q174
             obtain ⟨hcz23_0, hcz23_1, hcz23_2, hfz23_0, hfz23_1, hfz23_2⟩ := cf3 BK171.out
             go_wp2_with (first | ((with_reducible refine gate_callee (f := 55) rfl ?_); refine goesL_ (some 34) rfl rfl Try.func55 (by kernel_rfl) rfl #[.agg #[.int .i64 a0_0, .slice A0_1 l0_1.length c0_1, .slice A0_2 l0_2.length c0_2]] rfl (by (try simp only [List.map_toArray, List.map_cons, List.map_nil]); first | done | rfl | (simp only [List.length_drop, List.length_take]; rfl)) ?_; (with_reducible refine (prod_cells.calls k2 a0_0 _ _ l0_1 _ _ l0_2 t175 _ ?side1 ?side2 ?side3 ?side4 A18.out).mono ?_); (case side1 => repeat (first | exact (Kd.C_below HR0_1.out HB.out) | with_reducible first | apply Kd.C_alloc | apply Kd.C_drewN | apply Kd.C_drew)); (case side2 => exact HC0_1.out); (case side3 => repeat (first | exact (Kd.C_below HR0_2.out HB.out) | with_reducible first | apply Kd.C_alloc | apply Kd.C_drewN | apply Kd.C_drew)); (case side4 => exact HC0_2.out); rintro e w24 ⟨rfl, hb⟩; refine ⟨_, rfl, ?_⟩; have n0_ := Aside0.mk (Kd.R_below (by (with_reducible repeat (first | apply Kd.R_alloc | apply Kd.R_drewN | apply Kd.R_drew)); exact HO_6.out) hb); have n1_ := Aside0.mk (blk_below (g := gb171) (o := .cells #[.int .i64 a0_0, .slice A0_1 l0_1.length c0_1, .slice A0_2 l0_2.length c0_2] 25 (0, 0)) (by (with_reducible repeat (first | refine kdN ?_ _ | refine kdr ?_ | refine kal ?_ _)); exact BK171.out) hb); have n2_ := Aside0.mk (bsp (by repeat (first | (with_reducible first | exact HB.out | apply bal | apply bdN | apply bd1 | refine bst ?_ GE171.out) | exact HB.out)) hb); clear HO_6; clear BK171; clear HB; have HO_6 := n0_; have BK171 := n1_; have HB := n2_; clear n0_ n1_ n2_; (try clear hb); (try clear hb2); (try clear hk); (try clear hi); obtain ⟨hcz25_0, hcz25_1, hcz25_2, hfz25_0, hfz25_1, hfz25_2⟩ := cf3 BK171.out) | (go_at_call 56; (with_reducible refine (prod_words.calls k2 a0_0 _ _ (rd_L10 l1 x27_2) true _ ?side1 ?side2 A20.out).mono ?_); (case side1 => repeat (first | exact (Kd.C_below HR174_0.out HB.out) | with_reducible first | apply Kd.C_alloc | apply Kd.C_drewN | apply Kd.C_drew)); (case side2 => exact HC174_0.out); rintro e w26 ⟨rfl, hb⟩; have n0_ := Aside0.mk (Kd.R_below (by (with_reducible repeat (first | apply Kd.R_alloc | apply Kd.R_drewN | apply Kd.R_drew)); exact HO_6.out) hb); have n1_ := Aside0.mk (blk_below (g := gb171) (o := .cells #[.int .i64 a0_0, .slice A0_1 l0_1.length c0_1, .slice A0_2 l0_2.length c0_2] 25 (0, 0)) (by (with_reducible repeat (first | refine kdN ?_ _ | refine kdr ?_ | refine kal ?_ _)); exact BK171.out) hb); have n2_ := Aside0.mk (bsp (by repeat (first | (with_reducible first | exact HB.out | apply bal | apply bdN | apply bd1 | refine bst ?_ GE171.out) | exact HB.out)) hb); clear HO_6; clear BK171; clear HB; have HO_6 := n0_; have BK171 := n1_; have HB := n2_; clear n0_ n1_ n2_; (try clear hb); (try clear hb2); (try clear hk); (try clear hi)) | ((with_reducible refine gate_builtin (b := .append) (xs := #[.tmp 43, .tmp 44]) rfl ?_); (try (refine gate_guard (by rfl) ?_; dsimp only)); at_builtin; refine Kd.R_append_rows (Kd.int .i64) (w0 := w) w.heap.size rfl (.tmp 43) (.tmp 44) 45 3 (.int .i64 0) 8 rfl Try.underlying45 info3 rfl (by decide) (by omega) u6 x6_2 (rd_L10 l1 x27_2) _ _ _ (fun _ => True) (fun _ => False) rfl rfl ?aO ?aR (fun _ _ h => h) (fun _ h => h.elim) ?aF ?aB ?aS ?aL ?_; (case aR => repeat (first | exact (Kd.C_below HR174_0.out HB.out) | with_reducible first | apply Kd.C_alloc | apply Kd.C_drewN | apply Kd.C_drew)); (case aB => exact (by repeat (first | (with_reducible first | exact HB.out | apply bal | apply bdN | apply bd1 | refine bst ?_ GE171.out) | exact HB.out))); (case aF => exact (fun _ _ => trivial)); (case aO => exact (by (with_reducible repeat (first | apply Kd.R_alloc | apply Kd.R_drewN | apply Kd.R_drew)); exact HO_6.out)); (case aS => exact (bsz (by repeat (first | (with_reducible first | exact HB.out | apply bal | apply bdN | apply bd1 | refine bst ?_ GE171.out) | exact HB.out)))); (case aL => have := LMc22.out; omega); intro v178 w27 ho hb hg hat; rw [← Ny177.out] at ho; have n0_ := Aside0.mk (blk_grown (g := gb171) (o := .cells #[.int .i64 a0_0, .slice A0_1 l0_1.length c0_1, .slice A0_2 l0_2.length c0_2] 25 (0, 0)) (by (with_reducible repeat (first | refine kdN ?_ _ | refine kdr ?_ | refine kal ?_ _)); exact BK171.out) hg (Kd.R_ne HO_6.out BK171.out (by decide))); have n1_ := Aside0.mk (hb); have n2_ := Aside0.mk (ho); clear BK171; clear HB; clear HO_6; have BK171 := n0_; have HB := n1_; have HO179 := n2_; clear n0_ n1_ n2_; clear ho hb hg hat))
             go_roundg k2
             case measure => have := HJ4.out; have := HK2.out; omega
             case rel => exact ⟨(y177), (wrap64 (x27_2 + 1)), (by first | rfl | (simp; done) | (simp [*]; done)), H', ⟨by have := HJ4.out; have := HK2.out; omega⟩, ⟨by (with_reducible repeat (first | apply Kd.R_alloc | apply Kd.R_drewN | apply Kd.R_drew)); exact HO179.out⟩, ⟨by (with_reducible repeat (first | refine kdN ?_ _ | refine kdr ?_ | refine kal ?_ _)); exact BK171.out⟩, ⟨by repeat (first | (with_reducible first | exact HB.out | apply bal | apply bdN | apply bd1 | refine bst ?_ GE171.out) | exact HB.out)⟩⟩
            ·rw [if_neg c22] at H
             exact absurd H (by simp)
           ·replace c21 := Bool.eq_false_iff.mpr c21
            subst c21
            have H1 : (some (([] : List Int), 1)) = some (r1, r2) := by rw [if_neg (show ¬ (false = true) by decide)] at H; exact H
            clear H
            have H := H1
            clear H1
            simp only [Option.some.injEq, Prod.mk.injEq] at H
            obtain ⟨rfl, rfl⟩ := H
            have p174 : 0 ≤ (x27_2 : Int) := of_decide_eq_true (by first | (with_reducible assumption) | assumption)
            have q174 : x27_2 < (l1.length : Int) := of_decide_eq_true (by first | (with_reducible assumption) | assumption)
            obtain ⟨ad174, A174_0, c174_0, e174, hx174_0, hl174_0, hi174_0⟩ := at_L10 HR1.out x27_2 p174 q174
            cases e174
            replace hx174_0 := bcell HB.out hx174_0
            have HR174_0 := Aside0.mk hi174_0
            have HC174_0 := Aside0.mk hl174_0
            clear hi174_0 hl174_0
            replace p174 := eq_true p174
            replace q174 := eq_true q174
            obtain ⟨hcz28_0, hcz28_1, hcz28_2, hfz28_0, hfz28_1, hfz28_2⟩ := cf3 BK171.out
            go_wp2_with (first | ((with_reducible refine gate_callee (f := 55) rfl ?_); refine goesL_ (some 34) rfl rfl Try.func55 (by kernel_rfl) rfl #[.agg #[.int .i64 a0_0, .slice A0_1 l0_1.length c0_1, .slice A0_2 l0_2.length c0_2]] rfl (by (try simp only [List.map_toArray, List.map_cons, List.map_nil]); first | done | rfl | (simp only [List.length_drop, List.length_take]; rfl)) ?_; (with_reducible refine (prod_cells.calls k2 a0_0 _ _ l0_1 _ _ l0_2 t175 _ ?side1 ?side2 ?side3 ?side4 A18.out).mono ?_); (case side1 => repeat (first | exact (Kd.C_below HR0_1.out HB.out) | with_reducible first | apply Kd.C_alloc | apply Kd.C_drewN | apply Kd.C_drew)); (case side2 => exact HC0_1.out); (case side3 => repeat (first | exact (Kd.C_below HR0_2.out HB.out) | with_reducible first | apply Kd.C_alloc | apply Kd.C_drewN | apply Kd.C_drew)); (case side4 => exact HC0_2.out); rintro e w29 ⟨rfl, hb⟩; refine ⟨_, rfl, ?_⟩; have n0_ := Aside0.mk (Kd.R_below (by (with_reducible repeat (first | apply Kd.R_alloc | apply Kd.R_drewN | apply Kd.R_drew)); exact HO_6.out) hb); have n1_ := Aside0.mk (blk_below (g := gb171) (o := .cells #[.int .i64 a0_0, .slice A0_1 l0_1.length c0_1, .slice A0_2 l0_2.length c0_2] 25 (0, 0)) (by (with_reducible repeat (first | refine kdN ?_ _ | refine kdr ?_ | refine kal ?_ _)); exact BK171.out) hb); have n2_ := Aside0.mk (bsp (by repeat (first | (with_reducible first | exact HB.out | apply bal | apply bdN | apply bd1 | refine bst ?_ GE171.out) | exact HB.out)) hb); clear HO_6; clear BK171; clear HB; have HO_6 := n0_; have BK171 := n1_; have HB := n2_; clear n0_ n1_ n2_; (try clear hb); (try clear hb2); (try clear hk); (try clear hi); obtain ⟨hcz30_0, hcz30_1, hcz30_2, hfz30_0, hfz30_1, hfz30_2⟩ := cf3 BK171.out) | (go_at_call 56; (with_reducible refine (prod_words.calls k2 a0_0 _ _ (rd_L10 l1 x27_2) false _ ?side1 ?side2 A20.out).mono ?_); (case side1 => repeat (first | exact (Kd.C_below HR174_0.out HB.out) | with_reducible first | apply Kd.C_alloc | apply Kd.C_drewN | apply Kd.C_drew)); (case side2 => exact HC174_0.out); rintro e w31 ⟨rfl, hb⟩; have n0_ := Aside0.mk (Kd.R_below (by (with_reducible repeat (first | apply Kd.R_alloc | apply Kd.R_drewN | apply Kd.R_drew)); exact HO_6.out) hb); have n1_ := Aside0.mk (blk_below (g := gb171) (o := .cells #[.int .i64 a0_0, .slice A0_1 l0_1.length c0_1, .slice A0_2 l0_2.length c0_2] 25 (0, 0)) (by (with_reducible repeat (first | refine kdN ?_ _ | refine kdr ?_ | refine kal ?_ _)); exact BK171.out) hb); have n2_ := Aside0.mk (bsp (by repeat (first | (with_reducible first | exact HB.out | apply bal | apply bdN | apply bd1 | refine bst ?_ GE171.out) | exact HB.out)) hb); clear HO_6; clear BK171; clear HB; have HO_6 := n0_; have BK171 := n1_; have HB := n2_; clear n0_ n1_ n2_; (try clear hb); (try clear hb2); (try clear hk); (try clear hi)))
            go_ret2
            exact ⟨_, by first | rfl | (simp [*] <;> rfl), by first | exact Kd.R_nil _ _ _ _ _ | exact Kd.N_nil _ _ _ _ _ | exact Kd.V_nil _ _ _ _ _ | exact Kd.Q_nil _ _ _ _ _ | exact Kd.S_nil _ _ _ _ _, by repeat (first | (with_reducible first | exact HB.out | apply bal | apply bdN | apply bd1 | refine bst ?_ GE171.out) | exact HB.out)⟩
          ·rw [if_neg c19] at H
           have c19b0 : (((rd_L10 l1 x27_2).length : Int) == t175) = false := beq_eq_false_iff_ne.mpr c19
           have c19b1 : (((rd_L10 l1 x27_2).length : Int) != t175) = true := bne_iff_ne.mpr c19
           simp only [Option.some.injEq, Prod.mk.injEq] at H
           obtain ⟨rfl, rfl⟩ := H
           have p174 : 0 ≤ (x27_2 : Int) := of_decide_eq_true (by first | (with_reducible assumption) | assumption)
           have q174 : x27_2 < (l1.length : Int) := of_decide_eq_true (by first | (with_reducible assumption) | assumption)
           obtain ⟨ad174, A174_0, c174_0, e174, hx174_0, hl174_0, hi174_0⟩ := at_L10 HR1.out x27_2 p174 q174
           cases e174
           replace hx174_0 := bcell HB.out hx174_0
           have HR174_0 := Aside0.mk hi174_0
           have HC174_0 := Aside0.mk hl174_0
           clear hi174_0 hl174_0
           replace p174 := eq_true p174
           replace q174 := eq_true q174
           obtain ⟨hcz32_0, hcz32_1, hcz32_2, hfz32_0, hfz32_1, hfz32_2⟩ := cf3 BK171.out
           go_wp2_with (first | ((with_reducible refine gate_callee (f := 55) rfl ?_); refine goesL_ (some 34) rfl rfl Try.func55 (by kernel_rfl) rfl #[.agg #[.int .i64 a0_0, .slice A0_1 l0_1.length c0_1, .slice A0_2 l0_2.length c0_2]] rfl (by (try simp only [List.map_toArray, List.map_cons, List.map_nil]); first | done | rfl | (simp only [List.length_drop, List.length_take]; rfl)) ?_; (with_reducible refine (prod_cells.calls k2 a0_0 _ _ l0_1 _ _ l0_2 t175 _ ?side1 ?side2 ?side3 ?side4 A18.out).mono ?_); (case side1 => repeat (first | exact (Kd.C_below HR0_1.out HB.out) | with_reducible first | apply Kd.C_alloc | apply Kd.C_drewN | apply Kd.C_drew)); (case side2 => exact HC0_1.out); (case side3 => repeat (first | exact (Kd.C_below HR0_2.out HB.out) | with_reducible first | apply Kd.C_alloc | apply Kd.C_drewN | apply Kd.C_drew)); (case side4 => exact HC0_2.out); rintro e w33 ⟨rfl, hb⟩; refine ⟨_, rfl, ?_⟩; have n0_ := Aside0.mk (Kd.R_below (by (with_reducible repeat (first | apply Kd.R_alloc | apply Kd.R_drewN | apply Kd.R_drew)); exact HO_6.out) hb); have n1_ := Aside0.mk (blk_below (g := gb171) (o := .cells #[.int .i64 a0_0, .slice A0_1 l0_1.length c0_1, .slice A0_2 l0_2.length c0_2] 25 (0, 0)) (by (with_reducible repeat (first | refine kdN ?_ _ | refine kdr ?_ | refine kal ?_ _)); exact BK171.out) hb); have n2_ := Aside0.mk (bsp (by repeat (first | (with_reducible first | exact HB.out | apply bal | apply bdN | apply bd1 | refine bst ?_ GE171.out) | exact HB.out)) hb); clear HO_6; clear BK171; clear HB; have HO_6 := n0_; have BK171 := n1_; have HB := n2_; clear n0_ n1_ n2_; (try clear hb); (try clear hb2); (try clear hk); (try clear hi)))
           go_ret2
           exact ⟨_, by first | rfl | (simp [*] <;> rfl), by first | exact Kd.R_nil _ _ _ _ _ | exact Kd.N_nil _ _ _ _ _ | exact Kd.V_nil _ _ _ _ _ | exact Kd.Q_nil _ _ _ _ _ | exact Kd.S_nil _ _ _ _ _, by repeat (first | (with_reducible first | exact HB.out | apply bal | apply bdN | apply bd1 | refine bst ?_ GE171.out) | exact HB.out)⟩
         ·rw [if_neg c17] at H
          exact absurd H (by simp)
        ·rw [if_neg c16] at H
         exact absurd H (by simp)
       ·rw [if_neg c15] at H
        have c15b0 : decide (x27_2 < (l1.length : Int)) = false := decide_eq_false c15
        clear c15
        simp only [Option.some.injEq, Prod.mk.injEq] at H
        obtain ⟨rfl, rfl⟩ := H
        go_wp2
        go_ret2
        exact ⟨_, by first | rfl | (simp [*] <;> rfl), by (with_reducible repeat (first | apply Kd.R_alloc | apply Kd.R_drewN | apply Kd.R_drew)); exact HO_6.out, by repeat (first | (with_reducible first | exact HB.out | apply bal | apply bdN | apply bd1 | refine bst ?_ GE171.out) | exact HB.out)⟩
 ·rw [if_neg c4] at H
  have c4b0 : (t172 == 0) = false := beq_eq_false_iff_ne.mpr c4
  have c4b1 : (t172 != 0) = true := bne_iff_ne.mpr c4
  simp only [Option.some.injEq, Prod.mk.injEq] at H
  obtain ⟨rfl, rfl⟩ := H
  go_enter Try.func21, Try.ntmps21
  go_wp2_with (first | ((with_reducible refine gate_dst (N := 2) rfl ?_); (try (refine gate_guard (by rfl) ?_; dsimp only)); refine box_event ?hg (N := 2) ?hd (cs := #[.int .i64 a0_0, .slice A0_1 l0_1.length c0_1, .slice A0_2 l0_2.length c0_2]) (t := 25) ?hr ?_; (case hd => rfl); (case hg => rfl); (case hr => first | (go_simp; done) | (go_simp; rfl)); intro gb171 hg w34 hbox hb; have n0_ := Aside0.mk (bsp (by repeat (first | (with_reducible first | exact HB.out | apply bal | apply bdN | apply bd1) | exact HB.out)) hb); have n1_ := Aside0.mk (hbox); have n2_ := Aside0.mk ((by rw [hg]; exact (bsz (by repeat (first | (with_reducible first | exact HB.out | apply bal | apply bdN | apply bd1) | exact HB.out))) : w.heap.size ≤ gb171)); have n3_ := Aside0.mk ((by rw [hg]; exact (bsz (by repeat (first | (with_reducible first | exact HB.out | apply bal | apply bdN | apply bd1) | exact HB.out))) : w.heap.size ≤ gb171)); clear HB; have HB := n0_; have BK171 := n1_; have GW171 := n2_; have GE171 := n3_; clear n0_ n1_ n2_ n3_; clear hb hbox hg; obtain ⟨hcz35_0, hcz35_1, hcz35_2, hfz35_0, hfz35_1, hfz35_2⟩ := cf3 BK171.out) | ((with_reducible refine gate_callee (f := 43) rfl ?_); refine goesL_ (some 10) rfl rfl Try.func43 (by kernel_rfl) rfl #[.agg #[.int .i64 a0_0, .slice A0_1 l0_1.length c0_1, .slice A0_2 l0_2.length c0_2]] rfl (by (try simp only [List.map_toArray, List.map_cons, List.map_nil]); first | done | rfl | (simp only [List.length_drop, List.length_take]; rfl)) ?_; (with_reducible refine (prog_Check.calls k a0_0 _ _ l0_1 _ _ l0_2 t172 _ ?side1 ?side2 ?side3 ?side4 A3.out).mono ?_); (case side1 => repeat (first | exact (Kd.C_below HR0_1.out HB.out) | with_reducible first | apply Kd.C_alloc | apply Kd.C_drewN | apply Kd.C_drew)); (case side2 => exact HC0_1.out); (case side3 => repeat (first | exact (Kd.C_below HR0_2.out HB.out) | with_reducible first | apply Kd.C_alloc | apply Kd.C_drewN | apply Kd.C_drew)); (case side4 => exact HC0_2.out); rintro e w36 ⟨rfl, hb⟩; refine ⟨_, rfl, ?_⟩; have n0_ := Aside0.mk (blk_below (g := gb171) (o := .cells #[.int .i64 a0_0, .slice A0_1 l0_1.length c0_1, .slice A0_2 l0_2.length c0_2] 25 (0, 0)) (by (with_reducible repeat (first | refine kdN ?_ _ | refine kdr ?_ | refine kal ?_ _)); exact BK171.out) hb); have n1_ := Aside0.mk (bsp (by repeat (first | (with_reducible first | exact HB.out | apply bal | apply bdN | apply bd1 | refine bst ?_ GE171.out) | exact HB.out)) hb); clear BK171; clear HB; have BK171 := n0_; have HB := n1_; clear n0_ n1_; (try clear hb); (try clear hb2); (try clear hk); (try clear hi)))
  go_ret2
  exact ⟨_, by first | rfl | (simp [*] <;> rfl), by first | exact Kd.R_nil _ _ _ _ _ | exact Kd.N_nil _ _ _ _ _ | exact Kd.V_nil _ _ _ _ _ | exact Kd.Q_nil _ _ _ _ _ | exact Kd.S_nil _ _ _ _ _, by repeat (first | (with_reducible first | exact HB.out | apply bal | apply bdN | apply bd1 | refine bst ?_ GE171.out) | exact HB.out)⟩
def prod_Copy.j0 : Nat → Int → Bool → Int → List (S66) → List (S64) → Option (Int × (List (S66)) × (List (S64)) × Int)
 | 0, _, _, _, _, _ => none
 | k + 1, x1, x20, x184000, x184001, x184002 => if x20 = true then (some (0, ([] : List (S66)), ([] : List (S64)), 1)) else ((prod_variables.f k x184001 x1).bind fun t187 => ((prod_Moved.f k x184002 x1 0).bind fun t190 => ((prod_made.f k x184000 t187 t190).bind fun bt193 => (some (bt193.1, bt193.2.1, bt193.2.2.1, bt193.2.2.2)))))
def prod_Copy.f (k : Nat) (a0_0 : Int) (l0_1 : List (S66)) (l0_2 : List (S64)) (a1 : Int) : Option (Int × (List (S66)) × (List (S64)) × Int) := (prog_Check.f k a0_0 l0_1 l0_2).bind fun t185 => (if t185 = 0 then (if a1 < 0 then (prod_Copy.j0 k a1 true a0_0 l0_1 l0_2) else (if a1 ≥ 3 then (prod_Copy.j0 k a1 true a0_0 l0_1 l0_2) else ((prod_single.f k a0_0 l0_1 l0_2).bind fun t186 => (prod_Copy.j0 k a1 (t186 != 0) a0_0 l0_1 l0_2)))) else (some (0, ([] : List (S66)), ([] : List (S64)), 30)))
def prod_Copy.T5 : Bool × List (List Nat × List Nat) := (true, [([], []), ([0], [0]), ([], []), ([2], [2]), ([], []), ([3, 4], [3, 4]), ([], []), ([6], [6]), ([], []), ([7, 8, 5], [7, 8]), ([1, 5, 9], [1, 5, 9]), ([10, 9], [10]), ([11], [11]), ([11], [11]), ([12, 11, 0, 1, 2, 3, 4, 5, 6, 7, 8, 9, 10, 11, 12, 13], [12]), ([13, 14, 0, 1, 2, 3, 4, 5, 6, 7, 8, 9, 10, 11, 12, 13, 14], [13])])
def prod_Copy.B5 : List Nat := [0, 1, 0, 4, 0, 28, 0, 64, 0, 508, 1023, 2047, 4095, 4095, 16383, 32767]
theorem prod_Copy.tab5 : rtab .any (opsOf Try.f25 5) = prod_Copy.T5 := by kernel_rfl
theorem prod_Copy.bits5 : waitsOk prod_Copy.T5.2 prod_Copy.B5 = true := by kernel_rfl
set_option maxHeartbeats 8000000 in
set_option maxRecDepth 100000 in
theorem prod_Copy.calls (k : Nat) (a0_0 : Int) (A0_1 : Option Addr) (c0_1 : Nat) (l0_1 : List (S66)) (A0_2 : Option Addr) (c0_2 : Nat) (l0_2 : List (S64)) (a1 : Int) (r1 : Int) (r2 : List (S66)) (r3 : List (S64)) (r4 : Int) (w : World) (hr0_1 : Kd.C k66 w A0_1 l0_1.length l0_1) (hc0_1 : l0_1.length ≤ c0_1) (hr0_2 : Kd.C k64 w A0_2 l0_2.length l0_2) (hc0_2 : l0_2.length ≤ c0_2) (h : prod_Copy.f k a0_0 l0_1 l0_2 a1 = some (r1, r2, r3, r4)) :
  Calls Try.prog 25 #[.agg #[.int .i64 a0_0, .slice A0_1 l0_1.length c0_1, .slice A0_2 l0_2.length c0_2], .int .i64 a1] w fun e w' => ∃ v1_ v2_ : Value, e = .returned (.tuple #[.agg #[.int .i64 r1, v1_, v2_], .int .i64 r4]) ∧ Kd.R k66 66 w' w.heap.size (fun k_ => (w.heap.size ≤ k_)) v1_ r2 ∧ Kd.V k64 64 w' w.heap.size (fun k_ => (w.heap.size ≤ k_) ∧ some k_ ≠ (v1_ : Value).ownBlock) v2_ r3 ∧ Below w.heap.size w w' := by
 have hu25 := Try.underlying25
 have HR0_1 := Aside0.mk hr0_1
 have HC0_1 := Aside0.mk hc0_1
 clear hr0_1 hc0_1
 have HR0_2 := Aside0.mk hr0_2
 have HC0_2 := Aside0.mk hc0_2
 clear hr0_2 hc0_2
 have HB := Aside0.mk (Below.refl w.heap.size w)
 have H : ((prog_Check.f k a0_0 l0_1 l0_2).bind fun t185 => (if t185 = 0 then (if a1 < 0 then (prod_Copy.j0 k a1 true a0_0 l0_1 l0_2) else (if a1 ≥ 3 then (prod_Copy.j0 k a1 true a0_0 l0_1 l0_2) else ((prod_single.f k a0_0 l0_1 l0_2).bind fun t186 => (prod_Copy.j0 k a1 (t186 != 0) a0_0 l0_1 l0_2)))) else (some (0, ([] : List (S66)), ([] : List (S64)), 30)))) = some (r1, r2, r3, r4) := h
 clear h
 replace H := Option.bind_eq_some_iff.mp H
 obtain ⟨t185, A30, H⟩ := H
 replace H : (if t185 = 0 then (if a1 < 0 then (prod_Copy.j0 k a1 true a0_0 l0_1 l0_2) else (if a1 ≥ 3 then (prod_Copy.j0 k a1 true a0_0 l0_1 l0_2) else ((prod_single.f k a0_0 l0_1 l0_2).bind fun t186 => (prod_Copy.j0 k a1 (t186 != 0) a0_0 l0_1 l0_2)))) else (some (0, ([] : List (S66)), ([] : List (S64)), 30))) = some (r1, r2, r3, r4) := H
 have A3 := Aside0.mk A30
 clear A30
 by_cases c4 : t185 = 0
 ·rw [if_pos c4] at H
  have c4b0 : (t185 == 0) = true := beq_iff_eq.mpr c4
  have c4b1 : (t185 != 0) = false := bne_eq_false_iff_eq.mpr c4
  clear c4
  have HC5 := Aside0.mk H
  clear H
  go_enter Try.func25, Try.ntmps25
  go_upto_region 3 with (first | ((with_reducible refine gate_dst (N := 2) rfl ?_); refine box_event ?hg (N := 2) ?hd (cs := #[.int .i64 a0_0, .slice A0_1 l0_1.length c0_1, .slice A0_2 l0_2.length c0_2]) (t := 25) ?hr ?_; (case hd => rfl); (case hg => rfl); (case hr => first | (go_simp; done) | (go_simp; rfl)); intro gb183 hg w6 hbox hb; have n0_ := Aside0.mk (bsp (by repeat (first | (with_reducible first | exact HB.out | apply bal | apply bdN | apply bd1) | exact HB.out)) hb); have n1_ := Aside0.mk (hbox); have n2_ := Aside0.mk ((by rw [hg]; exact (bsz (by repeat (first | (with_reducible first | exact HB.out | apply bal | apply bdN | apply bd1) | exact HB.out))) : w.heap.size ≤ gb183)); have n3_ := Aside0.mk ((by rw [hg]; exact (bsz (by repeat (first | (with_reducible first | exact HB.out | apply bal | apply bdN | apply bd1) | exact HB.out))) : w.heap.size ≤ gb183)); clear HB; have HB := n0_; have BK183 := n1_; have GW183 := n2_; have GE183 := n3_; clear n0_ n1_ n2_ n3_; clear hb hbox hg) | ((with_reducible refine gate_dst (N := 4) rfl ?_); refine box_event ?hg (N := 4) ?hd (cs := #[.int .i64 0, .slice none 0 0, .slice none 0 0]) (t := 25) ?hr ?_; (case hd => rfl); (case hg => rfl); (case hr => first | (go_simp; done) | (go_simp; rfl)); intro gb184 hg w7 hbox hb; have n0_ := Aside0.mk (blk_below (g := gb183) (o := .cells #[.int .i64 a0_0, .slice A0_1 l0_1.length c0_1, .slice A0_2 l0_2.length c0_2] 25 (0, 0)) (by (with_reducible repeat (first | refine kdN ?_ _ | refine kdr ?_ | refine kal ?_ _)); exact BK183.out) hb); have n1_ := Aside0.mk (bsp (by repeat (first | (with_reducible first | exact HB.out | apply bal | apply bdN | apply bd1 | refine bst ?_ GE183.out) | exact HB.out)) hb); have n2_ := Aside0.mk (hbox); have n3_ := Aside0.mk ((by rw [hg]; exact (bsz (by repeat (first | (with_reducible first | exact HB.out | apply bal | apply bdN | apply bd1 | refine bst ?_ GE183.out) | exact HB.out))) : w.heap.size ≤ gb184)); have n4_ := Aside0.mk ((by rw [hg]; exact (bsz (by repeat (first | (with_reducible first | exact HB.out | apply bal | apply bdN | apply bd1 | refine bst ?_ GE183.out) | exact HB.out))) : w.heap.size ≤ gb184)); have n5_ := Aside0.mk ((by rw [hg]; exact Nat.ne_of_lt (blk_lt (g := gb183) (o := .cells #[.int .i64 a0_0, .slice A0_1 l0_1.length c0_1, .slice A0_2 l0_2.length c0_2] 25 (0, 0)) (by (with_reducible repeat (first | refine kdN ?_ _ | refine kdr ?_ | refine kal ?_ _)); exact BK183.out)) : gb183 ≠ gb184)); have n6_ := Aside0.mk ((by rw [hg]; exact Nat.ne_of_gt (blk_lt (g := gb183) (o := .cells #[.int .i64 a0_0, .slice A0_1 l0_1.length c0_1, .slice A0_2 l0_2.length c0_2] 25 (0, 0)) (by (with_reducible repeat (first | refine kdN ?_ _ | refine kdr ?_ | refine kal ?_ _)); exact BK183.out)) : gb184 ≠ gb183)); clear BK183; clear HB; have BK183 := n0_; have HB := n1_; have BK184 := n2_; have GW184 := n3_; have GE184 := n4_; have NB183_184 := n5_; have NB184_183 := n6_; clear n0_ n1_ n2_ n3_ n4_ n5_ n6_; clear hb hbox hg; have hnb8 := NB183_184.out; have hnc8 := NB184_183.out; obtain ⟨hcz9_0, hcz9_1, hcz9_2, hfz9_0, hfz9_1, hfz9_2⟩ := cf3 BK183.out) | ((with_reducible refine gate_callee (f := 43) rfl ?_); refine goesL_ (some 7) rfl rfl Try.func43 (by kernel_rfl) rfl #[.agg #[.int .i64 a0_0, .slice A0_1 l0_1.length c0_1, .slice A0_2 l0_2.length c0_2]] rfl (by (try simp only [List.map_toArray, List.map_cons, List.map_nil]); first | done | rfl | (simp only [List.length_drop, List.length_take]; rfl)) ?_; (with_reducible refine (prog_Check.calls k a0_0 _ _ l0_1 _ _ l0_2 t185 _ ?side1 ?side2 ?side3 ?side4 A3.out).mono ?_); (case side1 => repeat (first | exact (Kd.C_below HR0_1.out HB.out) | with_reducible first | apply Kd.C_alloc | apply Kd.C_drewN | apply Kd.C_drew)); (case side2 => exact HC0_1.out); (case side3 => repeat (first | exact (Kd.C_below HR0_2.out HB.out) | with_reducible first | apply Kd.C_alloc | apply Kd.C_drewN | apply Kd.C_drew)); (case side4 => exact HC0_2.out); rintro e w10 ⟨rfl, hb⟩; refine ⟨_, rfl, ?_⟩; have n0_ := Aside0.mk (blk_below (g := gb183) (o := .cells #[.int .i64 a0_0, .slice A0_1 l0_1.length c0_1, .slice A0_2 l0_2.length c0_2] 25 (0, 0)) (by (with_reducible repeat (first | refine kdN ?_ _ | refine kdr ?_ | refine kal ?_ _)); exact BK183.out) hb); have n1_ := Aside0.mk (blk_below (g := gb184) (o := .cells #[.int .i64 0, .slice none 0 0, .slice none 0 0] 25 (0, 0)) (by (with_reducible repeat (first | refine kdN ?_ _ | refine kdr ?_ | refine kal ?_ _)); exact BK184.out) hb); have n2_ := Aside0.mk (bsp (by repeat (first | (with_reducible first | exact HB.out | apply bal | apply bdN | apply bd1 | refine bst ?_ GE183.out | refine bst ?_ GE184.out) | exact HB.out)) hb); clear BK183; clear BK184; clear HB; have BK183 := n0_; have BK184 := n1_; have HB := n2_; clear n0_ n1_ n2_; (try clear hb); (try clear hb2); (try clear hk); (try clear hi)))
  (try simp only [Act.put, List.setIfInBounds_toArray, List.set_cons_zero, List.set_cons_succ])
  go_cut [20] (fun v20 wc => ∃ (kq : Nat) (x20_4 : Bool), v20 = .bool x20_4 ∧ Aside0 (prod_Copy.j0 kq a1 x20_4 a0_0 l0_1 l0_2 = some (r1, r2, r3, r4)) ∧ Aside0 (kq ≤ k) ∧ Aside0 (wc.heap[gb183]? = some (.cells #[.int .i64 a0_0, (.slice A0_1 l0_1.length c0_1), (.slice A0_2 l0_2.length c0_2)] 25 (0, 0))) ∧ Aside0 (wc.heap[gb184]? = some (.cells #[.int .i64 0, (.slice none 0 0), (.slice none 0 0)] 25 (0, 0))) ∧ Aside0 (Below w.heap.size w wc))
  case first =>
   have H := HC5.out
   clear HC5
   by_cases c11 : a1 < 0
   ·rw [if_pos c11] at H
    have c11b0 : decide (a1 < 0) = true := decide_eq_true c11
    clear c11
    (first | rw [c11b0] | (simp only [i64_w, i32_w]; rw [c11b0]) | skip)
    have H' := Aside0.mk H
    clear H
    go_wp2
    go_meet
    case rel => exact ⟨_, (true), (by first | rfl | (simp; done) | (simp [*]; done)), H', ⟨by first | omega | exact Nat.le_refl _⟩, ⟨by (with_reducible repeat (first | refine kdN ?_ _ | refine kdr ?_ | refine kal ?_ _)); exact BK183.out⟩, ⟨by (with_reducible repeat (first | refine kdN ?_ _ | refine kdr ?_ | refine kal ?_ _)); exact BK184.out⟩, ⟨by repeat (first | (with_reducible first | exact HB.out | apply bal | apply bdN | apply bd1 | refine bst ?_ GE183.out | refine bst ?_ GE184.out) | exact HB.out)⟩⟩
   ·rw [if_neg c11] at H
    have c11b0 : decide (a1 < 0) = false := decide_eq_false c11
    clear c11
    (first | rw [c11b0] | (simp only [i64_w, i32_w]; rw [c11b0]) | skip)
    by_cases c12 : a1 ≥ 3
    ·rw [if_pos c12] at H
     have c12b0 : decide (3 ≤ a1) = true := decide_eq_true c12
     clear c12
     have H' := Aside0.mk H
     clear H
     go_wp2
     go_meet
     case rel => exact ⟨_, (true), (by first | rfl | (simp; done) | (simp [*]; done)), H', ⟨by first | omega | exact Nat.le_refl _⟩, ⟨by (with_reducible repeat (first | refine kdN ?_ _ | refine kdr ?_ | refine kal ?_ _)); exact BK183.out⟩, ⟨by (with_reducible repeat (first | refine kdN ?_ _ | refine kdr ?_ | refine kal ?_ _)); exact BK184.out⟩, ⟨by repeat (first | (with_reducible first | exact HB.out | apply bal | apply bdN | apply bd1 | refine bst ?_ GE183.out | refine bst ?_ GE184.out) | exact HB.out)⟩⟩
    ·rw [if_neg c12] at H
     have c12b0 : decide (3 ≤ a1) = false := decide_eq_false c12
     clear c12
     replace H := Option.bind_eq_some_iff.mp H
     obtain ⟨t186, A130, H⟩ := H
     replace H : (prod_Copy.j0 k a1 (t186 != 0) a0_0 l0_1 l0_2) = some (r1, r2, r3, r4) := H
     have A13 := Aside0.mk A130
     clear A130
     have H' := Aside0.mk H
     clear H
     have hnb14 := NB183_184.out
     have hnc14 := NB184_183.out
     obtain ⟨hcz15_0, hcz15_1, hcz15_2, hfz15_0, hfz15_1, hfz15_2⟩ := cf3 BK183.out
     go_wp2_with (first | (go_at_call 44; (with_reducible refine (prod_single.calls k a0_0 _ _ l0_1 _ _ l0_2 t186 _ ?side1 ?side2 ?side3 ?side4 A13.out).mono ?_); (case side1 => repeat (first | exact (Kd.C_below HR0_1.out HB.out) | with_reducible first | apply Kd.C_alloc | apply Kd.C_drewN | apply Kd.C_drew)); (case side2 => exact HC0_1.out); (case side3 => repeat (first | exact (Kd.C_below HR0_2.out HB.out) | with_reducible first | apply Kd.C_alloc | apply Kd.C_drewN | apply Kd.C_drew)); (case side4 => exact HC0_2.out); rintro e w16 ⟨rfl, hb⟩; have n0_ := Aside0.mk (blk_below (g := gb183) (o := .cells #[.int .i64 a0_0, .slice A0_1 l0_1.length c0_1, .slice A0_2 l0_2.length c0_2] 25 (0, 0)) (by (with_reducible repeat (first | refine kdN ?_ _ | refine kdr ?_ | refine kal ?_ _)); exact BK183.out) hb); have n1_ := Aside0.mk (blk_below (g := gb184) (o := .cells #[.int .i64 0, .slice none 0 0, .slice none 0 0] 25 (0, 0)) (by (with_reducible repeat (first | refine kdN ?_ _ | refine kdr ?_ | refine kal ?_ _)); exact BK184.out) hb); have n2_ := Aside0.mk (bsp (by repeat (first | (with_reducible first | exact HB.out | apply bal | apply bdN | apply bd1 | refine bst ?_ GE183.out | refine bst ?_ GE184.out) | exact HB.out)) hb); clear BK183; clear BK184; clear HB; have BK183 := n0_; have BK184 := n1_; have HB := n2_; clear n0_ n1_ n2_; (try clear hb); (try clear hb2); (try clear hk); (try clear hi)))
     go_meet
     case rel => exact ⟨_, ((t186 != 0)), (by first | rfl | (simp; done) | (simp [*]; done)), H', ⟨by first | omega | exact Nat.le_refl _⟩, ⟨by (with_reducible repeat (first | refine kdN ?_ _ | refine kdr ?_ | refine kal ?_ _)); exact BK183.out⟩, ⟨by (with_reducible repeat (first | refine kdN ?_ _ | refine kdr ?_ | refine kal ?_ _)); exact BK184.out⟩, ⟨by repeat (first | (with_reducible first | exact HB.out | apply bal | apply bdN | apply bd1 | refine bst ?_ GE183.out | refine bst ?_ GE184.out) | exact HB.out)⟩⟩
  case rest =>
   clear HC5
   try clear c1
   try clear c2
   try clear p2
   try clear c4
   try clear c4b0
   try clear c4b1
   try clear c8
   try clear c11
   try clear c11b0
   try clear c12
   try clear c12b0
   try clear c14
   try clear hcz15_0
   try clear hcz15_1
   try clear hcz15_2
   try clear hcz9_0
   try clear hcz9_1
   try clear hcz9_2
   try clear hfz15_0
   try clear hfz15_1
   try clear hfz15_2
   try clear hfz9_0
   try clear hfz9_1
   try clear hfz9_2
   obtain ⟨kq, x20_4, rfl, HA, HJ4, BK183, BK184, HB⟩ := hcut
   cases kq with
   | zero => exact absurd HA.out (by simp [prod_Copy.j0])
   | succ kj4 =>
    have H := HA.out
    clear HA
    simp only [prod_Copy.j0] at H
    by_cases c17 : x20_4 = true
    ·subst c17
     have H1 : (some (0, ([] : List (S66)), ([] : List (S64)), 1)) = some (r1, r2, r3, r4) := by rw [if_pos rfl] at H; exact H
     clear H
     have H := H1
     clear H1
     simp only [Option.some.injEq, Prod.mk.injEq] at H
     obtain ⟨rfl, rfl, rfl, rfl⟩ := H
     have hnb18 := NB184_183.out
     have hnc18 := NB183_184.out
     obtain ⟨hcz19_0, hcz19_1, hcz19_2, hfz19_0, hfz19_1, hfz19_2⟩ := cf3 BK184.out
     go_wp2
     refine bodyPost_ret (results_ct rfl _ _ gb184 25 #[.int .i64 0, .slice none 0 0, .slice none 0 0] (0, 0) _ rfl (by (with_reducible repeat (first | refine kdN ?_ _ | refine kdr ?_ | refine kal ?_ _)); refine blk_put (cs := #[.int .i64 0, .slice none 0 0, .slice none 0 0]) ?_ 2 _ rfl; (with_reducible repeat (first | refine kdN ?_ _ | refine kdr ?_ | refine kal ?_ _)); refine blk_put (cs := #[.int .i64 0, .slice none 0 0, .slice none 0 0]) ?_ 1 _ rfl; (with_reducible repeat (first | refine kdN ?_ _ | refine kdr ?_ | refine kal ?_ _)); refine blk_put (cs := #[.int .i64 0, .slice none 0 0, .slice none 0 0]) ?_ 0 _ rfl; (with_reducible repeat (first | refine kdN ?_ _ | refine kdr ?_ | refine kal ?_ _)); exact BK184.out) Try.underlying25 rfl (by kernel_rfl)) rfl ?_
     exact ⟨_, _, by first | rfl | (simp [*] <;> rfl), by first | exact Kd.R_nil _ _ _ _ _ | exact Kd.N_nil _ _ _ _ _ | exact Kd.V_nil _ _ _ _ _ | exact Kd.Q_nil _ _ _ _ _ | exact Kd.S_nil _ _ _ _ _, Kd.R_V (by first | exact Kd.R_nil _ _ _ _ _ | exact Kd.N_nil _ _ _ _ _ | exact Kd.V_nil _ _ _ _ _ | exact Kd.Q_nil _ _ _ _ _ | exact Kd.S_nil _ _ _ _ _ | exact Kd.N_nil _ _ _ 0 _ | exact Kd.R_nil _ _ _ 0 _), by repeat (first | (with_reducible first | exact HB.out | apply bal | apply bdN | apply bd1 | refine bst ?_ GE183.out | refine bst ?_ GE184.out) | exact HB.out)⟩
    ·replace c17 := Bool.eq_false_iff.mpr c17
     subst c17
     have H1 : ((prod_variables.f kj4 l0_1 a1).bind fun t187 => ((prod_Moved.f kj4 l0_2 a1 0).bind fun t190 => ((prod_made.f kj4 a0_0 t187 t190).bind fun bt193 => (some (bt193.1, bt193.2.1, bt193.2.2.1, bt193.2.2.2))))) = some (r1, r2, r3, r4) := by rw [if_neg (show ¬ (false = true) by decide)] at H; exact H
     clear H
     have H := H1
     clear H1
     replace H := Option.bind_eq_some_iff.mp H
     obtain ⟨t187, A200, H⟩ := H
     replace H : ((prod_Moved.f kj4 l0_2 a1 0).bind fun t190 => ((prod_made.f kj4 a0_0 t187 t190).bind fun bt193 => (some (bt193.1, bt193.2.1, bt193.2.2.1, bt193.2.2.2)))) = some (r1, r2, r3, r4) := H
     have A20 := Aside0.mk A200
     clear A200
     replace H := Option.bind_eq_some_iff.mp H
     obtain ⟨t190, A210, H⟩ := H
     replace H : ((prod_made.f kj4 a0_0 t187 t190).bind fun bt193 => (some (bt193.1, bt193.2.1, bt193.2.2.1, bt193.2.2.2))) = some (r1, r2, r3, r4) := H
     have A21 := Aside0.mk A210
     clear A210
     replace H := Option.bind_eq_some_iff.mp H
     obtain ⟨⟨t193, t194, t197, t200⟩, A220, H⟩ := H
     replace H : (some (t193, t194, t197, t200)) = some (r1, r2, r3, r4) := H
     have A22 := Aside0.mk A220
     clear A220
     simp only [Option.some.injEq, Prod.mk.injEq] at H
     obtain ⟨rfl, rfl, rfl, rfl⟩ := H
     try go_wp2
     have n0_ := Aside0.mk (kdr BK183.out)
     have n1_ := Aside0.mk (kdr BK184.out)
     have n2_ := Aside0.mk (bd1 HB.out)
     clear BK183
     clear BK184
     clear HB
     have BK183 := n0_
     have BK184 := n1_
     have HB := n2_
     clear n0_ n1_ n2_
     refine start_ (n := 16) (S := fun w' => w'.cell? ⟨gb183, 0, none⟩ = some (.int .i64 a0_0) ∧ w'.cell? ⟨gb183, 1, none⟩ = some (.slice A0_1 l0_1.length c0_1) ∧ w'.cell? ⟨gb183, 2, none⟩ = some (.slice A0_2 l0_2.length c0_2)) (ds := []) #[false, false, false, false, false, false, false, false, false, false, false, false, false, false, false, false] (by kernel_rfl) rfl rfl ⟨(blk_cell BK183.out 0).trans rfl, (blk_cell BK183.out 1).trans rfl, (blk_cell BK183.out 2).trans rfl⟩ (fun hHeld => ?_); refine with_tabW prod_Copy.tab5 prod_Copy.bits5 (fun HT_ HW_ => ?_)
     generalize wc.drew = w23 at BK183 BK184 HB hHeld ⊢
     refine pure_ (i := 0) (N := some 22) (v := ?_) (a' := ?_) #[true, false, false, false, false, false, false, false, false, false, false, false, false, false, false, false] rfl rfl (any_of HT_.out (by kernel_rfl)) (fun _ _ _ h => h) (Or.inl ⟨by rfl, ?_⟩) ?_ ?_
     rotate_left
     ·intro w'
      go_simp
      with_reducible rfl
     rotate_left
     ·simp only [Act.put, List.setIfInBounds_toArray, List.set_cons_zero, List.set_cons_succ, i64_w, i32_w]
      rfl
     refine pure_ (i := 2) (N := some 24) (v := ?_) (a' := ?_) #[true, false, true, false, false, false, false, false, false, false, false, false, false, false, false, false] rfl rfl (any_of HT_.out (by kernel_rfl)) (fun _ _ _ h => h) (Or.inl ⟨by rfl, ?_⟩) ?_ ?_
     rotate_left
     ·intro w'
      go_simp
      with_reducible rfl
     rotate_left
     ·simp only [Act.put, List.setIfInBounds_toArray, List.set_cons_zero, List.set_cons_succ, i64_w, i32_w]
      rfl
     refine pure_ (i := 4) (N := some 26) (v := ?_) (a' := ?_) #[true, false, true, false, true, false, false, false, false, false, false, false, false, false, false, false] rfl rfl (any_of HT_.out (by kernel_rfl)) (fun _ _ _ h => h) (Or.inl ⟨by rfl, ?_⟩) ?_ ?_
     rotate_left
     ·intro w'
      go_simp
      with_reducible rfl
     rotate_left
     ·simp only [Act.put, List.setIfInBounds_toArray, List.set_cons_zero, List.set_cons_succ, i64_w, i32_w]
      rfl
     refine pure_ (i := 6) (N := some 28) (v := ?_) (a' := ?_) #[true, false, true, false, true, false, true, false, false, false, false, false, false, false, false, false] rfl rfl (any_of HT_.out (by kernel_rfl)) (fun _ _ _ h => h) (Or.inl ⟨by rfl, ?_⟩) ?_ ?_
     rotate_left
     ·intro w'
      go_simp
      with_reducible rfl
     rotate_left
     ·simp only [Act.put, List.setIfInBounds_toArray, List.set_cons_zero, List.set_cons_succ, i64_w, i32_w]
      rfl
     refine pure_ (i := 8) (N := some 30) (v := ?_) (a' := ?_) #[true, false, true, false, true, false, true, false, true, false, false, false, false, false, false, false] rfl rfl (any_of HT_.out (by kernel_rfl)) (fun _ _ _ h => h) (Or.inl ⟨by rfl, ?_⟩) ?_ ?_
     rotate_left
     ·intro w'
      go_simp
      with_reducible rfl
     rotate_left
     ·simp only [Act.put, List.setIfInBounds_toArray, List.set_cons_zero, List.set_cons_succ, i64_w, i32_w]
      rfl
     refine take_ (i := 1) (N := some 23) (v := ?_) (a' := ?_) #[true, true, true, false, true, false, true, false, true, false, false, false, false, false, false, false] rfl rfl (take_ofW HT_.out HW_.out (by kernel_rfl)) (fun _ _ _ h => h) (Or.inl ⟨by rfl, ?_⟩) hHeld ?_ ?_
     rotate_left
     ·rintro w' ⟨s0, s1, s2⟩
      go_simp
      with_reducible rfl
     rotate_left
     ·simp only [Act.put, List.setIfInBounds_toArray, List.set_cons_zero, List.set_cons_succ, i64_w, i32_w]
      rfl
     refine take_ (i := 3) (N := some 25) (v := ?_) (a' := ?_) #[true, true, true, true, true, false, true, false, true, false, false, false, false, false, false, false] rfl rfl (take_ofW HT_.out HW_.out (by kernel_rfl)) (fun _ _ _ h => h) (Or.inl ⟨by rfl, ?_⟩) hHeld ?_ ?_
     rotate_left
     ·rintro w' ⟨s0, s1, s2⟩
      go_simp
      with_reducible rfl
     rotate_left
     ·simp only [Act.put, List.setIfInBounds_toArray, List.set_cons_zero, List.set_cons_succ, i64_w, i32_w]
      rfl
     refine take_ (i := 7) (N := some 29) (v := ?_) (a' := ?_) #[true, true, true, true, true, false, true, true, true, false, false, false, false, false, false, false] rfl rfl (take_ofW HT_.out HW_.out (by kernel_rfl)) (fun _ _ _ h => h) (Or.inl ⟨by rfl, ?_⟩) hHeld ?_ ?_
     rotate_left
     ·rintro w' ⟨s0, s1, s2⟩
      go_simp
      with_reducible rfl
     rotate_left
     ·simp only [Act.put, List.setIfInBounds_toArray, List.set_cons_zero, List.set_cons_succ, i64_w, i32_w]
      rfl
     refine one_ (i := 5) (N := some 27) #[true, true, true, true, true, true, true, true, true, false, false, false, false, false, false, false] rfl rfl (one_of HT_.out (by kernel_rfl)) (by decide) (fun K hK => ?_)
     refine goes_ Try.func45 (by kernel_rfl) rfl #[.slice A0_1 l0_1.length c0_1, .int .i64 a1] (by rfl) rfl rfl (by (try simp only [List.map_toArray, List.map_cons, List.map_nil]); first | done | rfl | (simp only [List.length_drop, List.length_take]; rfl)) ?_
     with_reducible refine (prod_variables.calls kj4 _ _ l0_1 a1 t187 _ ?side1 ?side2 A20.out).mono ?_
     (case side1 => repeat (first | exact (Kd.C_below HR0_1.out HB.out) | with_reducible first | apply Kd.C_alloc | apply Kd.C_drewN | apply Kd.C_drew))
     (case side2 => exact HC0_1.out)
     rintro e w24 ⟨v188, rfl, ho0, hb⟩
     refine ⟨_, rfl, ?_⟩
     have n0_ := Aside0.mk (Kd.R_lower (Kd.R_newM (M := fun k_ => (w.heap.size ≤ k_)) ho0 (bsz (by repeat (first | (with_reducible first | exact HB.out | apply bal | apply bdN | apply bd1 | refine bst ?_ GE183.out | refine bst ?_ GE184.out) | exact HB.out))) (fun k_ h_ => h_)) (bsz (by repeat (first | (with_reducible first | exact HB.out | apply bal | apply bdN | apply bd1 | refine bst ?_ GE183.out | refine bst ?_ GE184.out) | exact HB.out))))
     have n1_ := Aside0.mk (blk_below (g := gb183) (o := .cells #[.int .i64 a0_0, .slice A0_1 l0_1.length c0_1, .slice A0_2 l0_2.length c0_2] 25 (0, 0)) (by (with_reducible repeat (first | refine kdN ?_ _ | refine kdr ?_ | refine kal ?_ _)); exact BK183.out) hb)
     have n2_ := Aside0.mk (blk_below (g := gb184) (o := .cells #[.int .i64 0, .slice none 0 0, .slice none 0 0] 25 (0, 0)) (by (with_reducible repeat (first | refine kdN ?_ _ | refine kdr ?_ | refine kal ?_ _)); exact BK184.out) hb)
     have n3_ := Aside0.mk (bsp (by repeat (first | (with_reducible first | exact HB.out | apply bal | apply bdN | apply bd1 | refine bst ?_ GE183.out | refine bst ?_ GE184.out) | exact HB.out)) hb)
     clear BK183
     clear BK184
     clear HB
     have HO189 := n0_
     have BK183 := n1_
     have BK184 := n2_
     have HB := n3_
     clear n0_ n1_ n2_ n3_
     (try clear hb)
     (try clear hb2)
     (try clear hk)
     (try clear hi)
     (try clear ho0)
     refine hK.out _ _ ⟨(blk_cell BK183.out 0).trans rfl, (blk_cell BK183.out 1).trans rfl, (blk_cell BK183.out 2).trans rfl⟩ (fun hHeld => ?_)
     clear hK K
     refine norm_ (a' := ?_) ?_ ?_
     rotate_left
     ·show Act.put _ (some 27) _ = _
      simp only [Act.put, List.setIfInBounds_toArray, List.set_cons_zero, List.set_cons_succ, i64_w, i32_w]
      rfl
     refine one_ (i := 9) (N := some 31) #[true, true, true, true, true, true, true, true, true, true, false, false, false, false, false, false] rfl rfl (one_of HT_.out (by kernel_rfl)) (by decide) (fun K hK => ?_)
     refine goes_ Try.func64 (by kernel_rfl) rfl #[.slice A0_2 l0_2.length c0_2, .int .i64 a1, .int .i64 0] (by rfl) rfl rfl (by (try simp only [List.map_toArray, List.map_cons, List.map_nil]); first | done | rfl | (simp only [List.length_drop, List.length_take]; rfl)) ?_
     with_reducible refine (prod_Moved.calls kj4 _ _ l0_2 a1 0 t190 _ ?side1 ?side2 A21.out).mono ?_
     (case side1 => repeat (first | exact (Kd.C_below HR0_2.out HB.out) | with_reducible first | apply Kd.C_alloc | apply Kd.C_drewN | apply Kd.C_drew))
     (case side2 => exact HC0_2.out)
     rintro e w25 ⟨v191, rfl, ho0, hb⟩
     refine ⟨_, rfl, ?_⟩
     have n0_ := Aside0.mk (Kd.R_below (by (with_reducible repeat (first | apply Kd.R_alloc | apply Kd.R_drewN | apply Kd.R_drew)); exact HO189.out) hb)
     have n1_ := Aside0.mk (Kd.R_lower (Kd.R_newM (M := fun k_ => (w.heap.size ≤ k_)) ho0 (bsz (by repeat (first | (with_reducible first | exact HB.out | apply bal | apply bdN | apply bd1 | refine bst ?_ GE183.out | refine bst ?_ GE184.out) | exact HB.out))) (fun k_ h_ => h_)) (bsz (by repeat (first | (with_reducible first | exact HB.out | apply bal | apply bdN | apply bd1 | refine bst ?_ GE183.out | refine bst ?_ GE184.out) | exact HB.out))))
     have n2_ := Aside0.mk (blk_below (g := gb183) (o := .cells #[.int .i64 a0_0, .slice A0_1 l0_1.length c0_1, .slice A0_2 l0_2.length c0_2] 25 (0, 0)) (by (with_reducible repeat (first | refine kdN ?_ _ | refine kdr ?_ | refine kal ?_ _)); exact BK183.out) hb)
     have n3_ := Aside0.mk (blk_below (g := gb184) (o := .cells #[.int .i64 0, .slice none 0 0, .slice none 0 0] 25 (0, 0)) (by (with_reducible repeat (first | refine kdN ?_ _ | refine kdr ?_ | refine kal ?_ _)); exact BK184.out) hb)
     have n4_ := Aside0.mk (bsp (by repeat (first | (with_reducible first | exact HB.out | apply bal | apply bdN | apply bd1 | refine bst ?_ GE183.out | refine bst ?_ GE184.out) | exact HB.out)) hb)
     clear HO189
     clear BK183
     clear BK184
     clear HB
     have HO189 := n0_
     have HO192 := n1_
     have BK183 := n2_
     have BK184 := n3_
     have HB := n4_
     clear n0_ n1_ n2_ n3_ n4_
     (try clear hb)
     (try clear hb2)
     (try clear hk)
     (try clear hi)
     (try clear ho0)
     obtain ⟨Ao26, co26, eo26⟩ := Kd.R_slice HO192.out
     (first | subst eo26 | (injection eo26 with f1_ f2_ f3_; have f4_ := f1_.symm; have f5_ := f3_.symm; clear f1_ f2_ f3_; subst f4_; subst f5_))
     obtain ⟨Ao27, co27, eo27⟩ := Kd.R_slice HO189.out
     (first | subst eo27 | (injection eo27 with f1_ f2_ f3_; have f4_ := f1_.symm; have f5_ := f3_.symm; clear f1_ f2_ f3_; subst f4_; subst f5_))
     refine hK.out _ _ ⟨(blk_cell BK183.out 0).trans rfl, (blk_cell BK183.out 1).trans rfl, (blk_cell BK183.out 2).trans rfl⟩ (fun hHeld => ?_)
     clear hK K
     refine norm_ (a' := ?_) ?_ ?_
     rotate_left
     ·show Act.put _ (some 31) _ = _
      simp only [Act.put, List.setIfInBounds_toArray, List.set_cons_zero, List.set_cons_succ, i64_w, i32_w]
      rfl
     refine pure_ (i := 10) (N := some 32) (v := ?_) (a' := ?_) #[true, true, true, true, true, true, true, true, true, true, true, false, false, false, false, false] rfl rfl (any_of HT_.out (by kernel_rfl)) (fun _ _ _ h => h) (Or.inl ⟨by rfl, ?_⟩) ?_ ?_
     rotate_left
     ·intro w'
      go_simp
      with_reducible rfl
     rotate_left
     ·simp only [Act.put, List.setIfInBounds_toArray, List.set_cons_zero, List.set_cons_succ, i64_w, i32_w]
      rfl
     refine one_ (i := 11) (N := some 33) #[true, true, true, true, true, true, true, true, true, true, true, true, false, false, false, false] rfl rfl (one_of HT_.out (by kernel_rfl)) (by decide) (fun K hK => ?_)
     refine goes_ Try.func63 (by kernel_rfl) rfl #[.agg #[.int .i64 a0_0, .slice Ao27 t187.length co27, .slice Ao26 t190.length co26]] (by rfl) rfl rfl (by (try simp only [List.map_toArray, List.map_cons, List.map_nil]); first | done | rfl | (simp only [List.length_drop, List.length_take]; rfl)) ?_
     with_reducible refine (prod_made.calls kj4 a0_0 (fun k_ => some k_ = (.slice Ao27 t187.length co27 : Value).ownBlock) (.slice Ao27 t187.length co27) t187 (fun k_ => (((((w.heap.size ≤ k_) ∧ True) ∧ some k_ ≠ (.slice Ao27 t187.length co27 : Value).ownBlock) ∧ k_ ≠ gb183) ∧ k_ ≠ gb184)) _ _ t190 t193 t194 t197 t200 w _ ?side1 ?side2 ?side3 A22.out).mono ?_
     (case side1 => repeat (first | (with_reducible first | exact HB.out | apply bal | apply bdN | apply bd1 | refine bst ?_ GE183.out | refine bst ?_ GE184.out) | exact HB.out))
     (case side2 => exact Kd.R_tight rfl HO189.out)
     (case side3 => exact Kd.V_mono (Kd.R_V (Kd.R_types (Kd.R_types (Kd.R_apart' (HO192.out) (Kd.R_typed HO189.out) (by decide)) BK183.out (by decide)) BK184.out (by decide))) (fun k_ hk_ => ⟨hk_, hk_.1.1.2⟩))
     rintro e w28 ⟨v195, v198, rfl, ho0, ho1, hb, hkp⟩
     refine ⟨_, rfl, ?_⟩
     have n0_ := Aside0.mk (blk_kept (by (with_reducible repeat (first | refine kdN ?_ _ | refine kdr ?_ | refine kal ?_ _)); exact BK183.out) hkp (fun hs_ => (fun e_ => (Kd.R_ne HO189.out BK183.out (by decide)) e_) hs_))
     have n1_ := Aside0.mk (blk_kept (by (with_reducible repeat (first | refine kdN ?_ _ | refine kdr ?_ | refine kal ?_ _)); exact BK184.out) hkp (fun hs_ => (fun e_ => (Kd.R_ne HO189.out BK184.out (by decide)) e_) hs_))
     have n2_ := Aside0.mk (Kd.R_mono (ok' := fun k_ => (w.heap.size ≤ k_)) (Kd.R_keptB ((Kd.R_apart' HO192.out (Kd.R_typed HO189.out) (by decide))) hkp (fun k_ hk_ hs_ => (hk_.2) hs_)) (fun k_ hk_ => hk_.1.1.1))
     have n3_ := Aside0.mk (Kd.R_mono (ok' := fun k_ => (w.heap.size ≤ k_)) ho0 (fun k_ hk_ => Or.elim hk_ (fun hs_ => (HO189.out.1 k_ (hs_).symm).1) (fun hn_ => (Nat.le_trans (bsz (by repeat (first | (with_reducible first | exact HB.out | apply bal | apply bdN | apply bd1 | refine bst ?_ GE183.out | refine bst ?_ GE184.out) | exact HB.out))) hn_))))
     have n4_ := Aside0.mk (Kd.V_mono (ok' := fun k_ => (w.heap.size ≤ k_) ∧ some k_ ≠ (v195 : Value).ownBlock ∧ k_ ≠ gb183 ∧ k_ ≠ gb184) ho1 (fun k_ hk_ => ⟨Or.elim hk_.1 (fun hs_ => Or.elim hs_ (fun hs_ => (HO189.out.1 k_ (hs_).symm).1) (fun hs_ => hs_.1.1.1.1)) (fun hn_ => (Nat.le_trans (bsz (by repeat (first | (with_reducible first | exact HB.out | apply bal | apply bdN | apply bd1 | refine bst ?_ GE183.out | refine bst ?_ GE184.out) | exact HB.out))) hn_)), hk_.2, Or.elim hk_.1 (fun hs_ => Or.elim hs_ (fun hs_ => fun e_ => (Kd.R_ne HO189.out BK183.out (by decide)) (by rw [← e_]; exact hs_)) (fun hs_ => hs_.1.2)) (fun hn_ => (Kd.freshB (g := gb183) (o := .cells #[.int .i64 a0_0, .slice A0_1 l0_1.length c0_1, .slice A0_2 l0_2.length c0_2] 25 (0, 0)) (by (with_reducible repeat (first | refine kdN ?_ _ | refine kdr ?_ | refine kal ?_ _)); exact BK183.out) k_ hn_)), Or.elim hk_.1 (fun hs_ => Or.elim hs_ (fun hs_ => fun e_ => (Kd.R_ne HO189.out BK184.out (by decide)) (by rw [← e_]; exact hs_)) (fun hs_ => hs_.2)) (fun hn_ => (Kd.freshB (g := gb184) (o := .cells #[.int .i64 0, .slice none 0 0, .slice none 0 0] 25 (0, 0)) (by (with_reducible repeat (first | refine kdN ?_ _ | refine kdr ?_ | refine kal ?_ _)); exact BK184.out) k_ hn_))⟩))
     have n5_ := Aside0.mk (hb)
     clear BK183
     clear BK184
     clear HO192
     clear HB
     clear HO189
     have BK183 := n0_
     have BK184 := n1_
     have HO192 := n2_
     have HO196 := n3_
     have HO199 := n4_
     have HB := n5_
     clear n0_ n1_ n2_ n3_ n4_ n5_
     (try clear hb)
     (try clear hkp)
     (try clear ho0)
     (try clear ho1)
     obtain ⟨Ao30, co30, eo30⟩ := Kd.R_slice HO196.out
     (first | subst eo30 | (injection eo30 with f1_ f2_ f3_; have f4_ := f1_.symm; have f5_ := f3_.symm; clear f1_ f2_ f3_; subst f4_; subst f5_))
     obtain ⟨Ao32, co32, eo32⟩ := Kd.V_slice HO199.out
     (first | subst eo32 | (injection eo32 with f1_ f2_ f3_; have f4_ := f1_.symm; have f5_ := f3_.symm; clear f1_ f2_ f3_; subst f4_; subst f5_))
     refine hK.out _ _ ⟨(blk_cell BK183.out 0).trans rfl, (blk_cell BK183.out 1).trans rfl, (blk_cell BK183.out 2).trans rfl⟩ (fun hHeld => ?_)
     clear hK K
     refine norm_ (a' := ?_) ?_ ?_
     rotate_left
     ·show Act.put _ (some 33) _ = _
      simp only [Act.put, List.setIfInBounds_toArray, List.set_cons_zero, List.set_cons_succ, i64_w, i32_w]
      rfl
     refine pure_ (i := 12) (N := some 34) (v := ?_) (a' := ?_) #[true, true, true, true, true, true, true, true, true, true, true, true, true, false, false, false] rfl rfl (any_of HT_.out (by kernel_rfl)) (fun _ _ _ h => h) (Or.inl ⟨by rfl, ?_⟩) ?_ ?_
     rotate_left
     ·intro w'
      go_simp
      with_reducible rfl
     rotate_left
     ·simp only [Act.put, List.setIfInBounds_toArray, List.set_cons_zero, List.set_cons_succ, i64_w, i32_w]
      rfl
     refine pure_ (i := 13) (N := some 35) (v := ?_) (a' := ?_) #[true, true, true, true, true, true, true, true, true, true, true, true, true, true, false, false] rfl rfl (any_of HT_.out (by kernel_rfl)) (fun _ _ _ h => h) (Or.inl ⟨by rfl, ?_⟩) ?_ ?_
     rotate_left
     ·intro w'
      go_simp
      with_reducible rfl
     rotate_left
     ·simp only [Act.put, List.setIfInBounds_toArray, List.set_cons_zero, List.set_cons_succ, i64_w, i32_w]
      rfl
     refine one_ (i := 14) (N := none) #[true, true, true, true, true, true, true, true, true, true, true, true, true, true, true, false] rfl rfl (one_of HT_.out (by kernel_rfl)) (by decide) (fun K hK => ?_)
     have hs29 : w28.cell? ⟨gb184, 0, none⟩ = some (.int .i64 0) := (blk_cell BK184.out 0).trans rfl
     have hfs29 := blk_frozen BK184.out 0
     have hns29_0 := NB183_184.out
     have hms29_0 := NB184_183.out
     have hs31 : w28.cell? ⟨gb184, 1, none⟩ = some (.slice none 0 0) := (blk_cell BK184.out 1).trans rfl
     have hfs31 := blk_frozen BK184.out 1
     have hns31_0 := NB183_184.out
     have hms31_0 := NB184_183.out
     have hs33 : w28.cell? ⟨gb184, 2, none⟩ = some (.slice none 0 0) := (blk_cell BK184.out 2).trans rfl
     have hfs33 := blk_frozen BK184.out 2
     have hns33_0 := NB183_184.out
     have hms33_0 := NB184_183.out
     refine skip_ (w1 := ?_) (by rfl) rfl ?_ ?_
     rotate_left
     ·go_simp
      rfl
     refine hK.out _ _ ⟨((cell_far (p := ⟨gb184, _, none⟩) NB183_184.out _).trans (((cell_far (p := ⟨gb184, _, none⟩) NB183_184.out _).trans (((cell_far (p := ⟨gb184, _, none⟩) NB183_184.out _).trans (hHeld.1)))))), ((cell_far (p := ⟨gb184, _, none⟩) NB183_184.out _).trans (((cell_far (p := ⟨gb184, _, none⟩) NB183_184.out _).trans (((cell_far (p := ⟨gb184, _, none⟩) NB183_184.out _).trans (hHeld.2.1)))))), ((cell_far (p := ⟨gb184, _, none⟩) NB183_184.out _).trans (((cell_far (p := ⟨gb184, _, none⟩) NB183_184.out _).trans (((cell_far (p := ⟨gb184, _, none⟩) NB183_184.out _).trans (hHeld.2.2))))))⟩ (fun hHeld => ?_)
     clear hK K
     refine pure_ (i := 15) (N := some 5) (v := ?_) (a' := ?_) #[true, true, true, true, true, true, true, true, true, true, true, true, true, true, true, true] rfl rfl (any_of HT_.out (by kernel_rfl)) (fun _ _ _ h => h) (Or.inl ⟨by rfl, ?_⟩) ?_ ?_
     rotate_left
     ·intro w'
      go_simp
      with_reducible rfl
     rotate_left
     ·simp only [Act.put, List.setIfInBounds_toArray, List.set_cons_zero, List.set_cons_succ, i64_w, i32_w]
      rfl
     refine done_ (done_of HT_.out (by kernel_rfl)) ?_
     try go_wp2
     refine bodyPost_ret (results_ct rfl _ _ gb184 25 #[.int .i64 t193, .slice Ao30 t194.length co30, .slice Ao32 t197.length co32] (0, 0) _ rfl (by (with_reducible repeat (first | refine kdN ?_ _ | refine kdr ?_ | refine kal ?_ _)); refine blk_put (cs := #[.int .i64 t193, .slice Ao30 t194.length co30, .slice none 0 0]) ?_ 2 _ rfl; (with_reducible repeat (first | refine kdN ?_ _ | refine kdr ?_ | refine kal ?_ _)); refine blk_put (cs := #[.int .i64 t193, .slice none 0 0, .slice none 0 0]) ?_ 1 _ rfl; (with_reducible repeat (first | refine kdN ?_ _ | refine kdr ?_ | refine kal ?_ _)); refine blk_put (cs := #[.int .i64 0, .slice none 0 0, .slice none 0 0]) ?_ 0 _ rfl; (with_reducible repeat (first | refine kdN ?_ _ | refine kdr ?_ | refine kal ?_ _)); exact BK184.out) Try.underlying25 rfl (by kernel_rfl)) rfl ?_
     exact ⟨_, _, by first | rfl | (simp [*] <;> rfl), by (with_reducible repeat (first | apply Kd.R_alloc | apply Kd.R_drewN | apply Kd.R_drew)); exact Kd.R_mono (Kd.R_far (p := ⟨gb184, 2, none⟩) (Kd.R_far (p := ⟨gb184, 1, none⟩) (Kd.R_far (p := ⟨gb184, 0, none⟩) (Kd.R_types HO196.out BK184.out (by decide)) (fun _ hk => hk.2) (.int .i64 t193)) (fun _ hk => hk.2) (.slice Ao30 t194.length co30)) (fun _ hk => hk.2) (.slice Ao32 t197.length co32)) (fun _ hk => hk.1), by (with_reducible repeat (first | apply Kd.V_alloc | apply Kd.V_drewN | apply Kd.V_drew)); exact Kd.V_mono (Kd.V_far (p := ⟨gb184, 2, none⟩) (Kd.V_far (p := ⟨gb184, 1, none⟩) (Kd.V_far (p := ⟨gb184, 0, none⟩) (Kd.V_mono HO199.out (fun k_ hk => (⟨hk, hk.2.2.2⟩ : _ ∧ k_ ≠ gb184))) (fun _ hk => hk.2) (.int .i64 t193)) (fun _ hk => hk.2) (.slice Ao30 t194.length co30)) (fun _ hk => hk.2) (.slice Ao32 t197.length co32)) (fun _ hk => ⟨hk.1.1, hk.1.2.1⟩), by repeat (first | (with_reducible first | exact HB.out | apply bal | apply bdN | apply bd1 | refine bst ?_ GE183.out | refine bst ?_ GE184.out) | exact HB.out)⟩
 ·rw [if_neg c4] at H
  have c4b0 : (t185 == 0) = false := beq_eq_false_iff_ne.mpr c4
  have c4b1 : (t185 != 0) = true := bne_iff_ne.mpr c4
  simp only [Option.some.injEq, Prod.mk.injEq] at H
  obtain ⟨rfl, rfl, rfl, rfl⟩ := H
  go_enter Try.func25, Try.ntmps25
  go_wp2_with (first | ((with_reducible refine gate_dst (N := 2) rfl ?_); refine box_event ?hg (N := 2) ?hd (cs := #[.int .i64 a0_0, .slice A0_1 l0_1.length c0_1, .slice A0_2 l0_2.length c0_2]) (t := 25) ?hr ?_; (case hd => rfl); (case hg => rfl); (case hr => first | (go_simp; done) | (go_simp; rfl)); intro gb183 hg w34 hbox hb; have n0_ := Aside0.mk (bsp (by repeat (first | (with_reducible first | exact HB.out | apply bal | apply bdN | apply bd1) | exact HB.out)) hb); have n1_ := Aside0.mk (hbox); have n2_ := Aside0.mk ((by rw [hg]; exact (bsz (by repeat (first | (with_reducible first | exact HB.out | apply bal | apply bdN | apply bd1) | exact HB.out))) : w.heap.size ≤ gb183)); have n3_ := Aside0.mk ((by rw [hg]; exact (bsz (by repeat (first | (with_reducible first | exact HB.out | apply bal | apply bdN | apply bd1) | exact HB.out))) : w.heap.size ≤ gb183)); clear HB; have HB := n0_; have BK183 := n1_; have GW183 := n2_; have GE183 := n3_; clear n0_ n1_ n2_ n3_; clear hb hbox hg) | ((with_reducible refine gate_dst (N := 4) rfl ?_); refine box_event ?hg (N := 4) ?hd (cs := #[.int .i64 0, .slice none 0 0, .slice none 0 0]) (t := 25) ?hr ?_; (case hd => rfl); (case hg => rfl); (case hr => first | (go_simp; done) | (go_simp; rfl)); intro gb184 hg w35 hbox hb; have n0_ := Aside0.mk (blk_below (g := gb183) (o := .cells #[.int .i64 a0_0, .slice A0_1 l0_1.length c0_1, .slice A0_2 l0_2.length c0_2] 25 (0, 0)) (by (with_reducible repeat (first | refine kdN ?_ _ | refine kdr ?_ | refine kal ?_ _)); exact BK183.out) hb); have n1_ := Aside0.mk (bsp (by repeat (first | (with_reducible first | exact HB.out | apply bal | apply bdN | apply bd1 | refine bst ?_ GE183.out) | exact HB.out)) hb); have n2_ := Aside0.mk (hbox); have n3_ := Aside0.mk ((by rw [hg]; exact (bsz (by repeat (first | (with_reducible first | exact HB.out | apply bal | apply bdN | apply bd1 | refine bst ?_ GE183.out) | exact HB.out))) : w.heap.size ≤ gb184)); have n4_ := Aside0.mk ((by rw [hg]; exact (bsz (by repeat (first | (with_reducible first | exact HB.out | apply bal | apply bdN | apply bd1 | refine bst ?_ GE183.out) | exact HB.out))) : w.heap.size ≤ gb184)); have n5_ := Aside0.mk ((by rw [hg]; exact Nat.ne_of_lt (blk_lt (g := gb183) (o := .cells #[.int .i64 a0_0, .slice A0_1 l0_1.length c0_1, .slice A0_2 l0_2.length c0_2] 25 (0, 0)) (by (with_reducible repeat (first | refine kdN ?_ _ | refine kdr ?_ | refine kal ?_ _)); exact BK183.out)) : gb183 ≠ gb184)); have n6_ := Aside0.mk ((by rw [hg]; exact Nat.ne_of_gt (blk_lt (g := gb183) (o := .cells #[.int .i64 a0_0, .slice A0_1 l0_1.length c0_1, .slice A0_2 l0_2.length c0_2] 25 (0, 0)) (by (with_reducible repeat (first | refine kdN ?_ _ | refine kdr ?_ | refine kal ?_ _)); exact BK183.out)) : gb184 ≠ gb183)); clear BK183; clear HB; have BK183 := n0_; have HB := n1_; have BK184 := n2_; have GW184 := n3_; have GE184 := n4_; have NB183_184 := n5_; have NB184_183 := n6_; clear n0_ n1_ n2_ n3_ n4_ n5_ n6_; clear hb hbox hg; have hnb36 := NB183_184.out; have hnc36 := NB184_183.out; obtain ⟨hcz37_0, hcz37_1, hcz37_2, hfz37_0, hfz37_1, hfz37_2⟩ := cf3 BK183.out) | ((with_reducible refine gate_callee (f := 43) rfl ?_); refine goesL_ (some 7) rfl rfl Try.func43 (by kernel_rfl) rfl #[.agg #[.int .i64 a0_0, .slice A0_1 l0_1.length c0_1, .slice A0_2 l0_2.length c0_2]] rfl (by (try simp only [List.map_toArray, List.map_cons, List.map_nil]); first | done | rfl | (simp only [List.length_drop, List.length_take]; rfl)) ?_; (with_reducible refine (prog_Check.calls k a0_0 _ _ l0_1 _ _ l0_2 t185 _ ?side1 ?side2 ?side3 ?side4 A3.out).mono ?_); (case side1 => repeat (first | exact (Kd.C_below HR0_1.out HB.out) | with_reducible first | apply Kd.C_alloc | apply Kd.C_drewN | apply Kd.C_drew)); (case side2 => exact HC0_1.out); (case side3 => repeat (first | exact (Kd.C_below HR0_2.out HB.out) | with_reducible first | apply Kd.C_alloc | apply Kd.C_drewN | apply Kd.C_drew)); (case side4 => exact HC0_2.out); rintro e w38 ⟨rfl, hb⟩; refine ⟨_, rfl, ?_⟩; have n0_ := Aside0.mk (blk_below (g := gb183) (o := .cells #[.int .i64 a0_0, .slice A0_1 l0_1.length c0_1, .slice A0_2 l0_2.length c0_2] 25 (0, 0)) (by (with_reducible repeat (first | refine kdN ?_ _ | refine kdr ?_ | refine kal ?_ _)); exact BK183.out) hb); have n1_ := Aside0.mk (blk_below (g := gb184) (o := .cells #[.int .i64 0, .slice none 0 0, .slice none 0 0] 25 (0, 0)) (by (with_reducible repeat (first | refine kdN ?_ _ | refine kdr ?_ | refine kal ?_ _)); exact BK184.out) hb); have n2_ := Aside0.mk (bsp (by repeat (first | (with_reducible first | exact HB.out | apply bal | apply bdN | apply bd1 | refine bst ?_ GE183.out | refine bst ?_ GE184.out) | exact HB.out)) hb); clear BK183; clear BK184; clear HB; have BK183 := n0_; have BK184 := n1_; have HB := n2_; clear n0_ n1_ n2_; (try clear hb); (try clear hb2); (try clear hk); (try clear hi); obtain ⟨hcz39_0, hcz39_1, hcz39_2, hfz39_0, hfz39_1, hfz39_2⟩ := cf3 BK184.out))
  refine bodyPost_ret (results_ct rfl _ _ gb184 25 #[.int .i64 0, .slice none 0 0, .slice none 0 0] (0, 0) _ rfl (by (with_reducible repeat (first | refine kdN ?_ _ | refine kdr ?_ | refine kal ?_ _)); refine blk_put (cs := #[.int .i64 0, .slice none 0 0, .slice none 0 0]) ?_ 2 _ rfl; (with_reducible repeat (first | refine kdN ?_ _ | refine kdr ?_ | refine kal ?_ _)); refine blk_put (cs := #[.int .i64 0, .slice none 0 0, .slice none 0 0]) ?_ 1 _ rfl; (with_reducible repeat (first | refine kdN ?_ _ | refine kdr ?_ | refine kal ?_ _)); refine blk_put (cs := #[.int .i64 0, .slice none 0 0, .slice none 0 0]) ?_ 0 _ rfl; (with_reducible repeat (first | refine kdN ?_ _ | refine kdr ?_ | refine kal ?_ _)); exact BK184.out) Try.underlying25 rfl (by kernel_rfl)) rfl ?_
  exact ⟨_, _, by first | rfl | (simp [*] <;> rfl), by first | exact Kd.R_nil _ _ _ _ _ | exact Kd.N_nil _ _ _ _ _ | exact Kd.V_nil _ _ _ _ _ | exact Kd.Q_nil _ _ _ _ _ | exact Kd.S_nil _ _ _ _ _, Kd.R_V (by first | exact Kd.R_nil _ _ _ _ _ | exact Kd.N_nil _ _ _ _ _ | exact Kd.V_nil _ _ _ _ _ | exact Kd.Q_nil _ _ _ _ _ | exact Kd.S_nil _ _ _ _ _ | exact Kd.N_nil _ _ _ 0 _ | exact Kd.R_nil _ _ _ 0 _), by repeat (first | (with_reducible first | exact HB.out | apply bal | apply bdN | apply bd1 | refine bst ?_ GE183.out | refine bst ?_ GE184.out) | exact HB.out)⟩
def r2_Of.f (a0 : Int) (l1 : List (S28)) : Option (Int × Int × Int × (List (S28))) := some (a0, 0, 0, l1)
set_option maxHeartbeats 8000000 in
set_option maxRecDepth 100000 in
theorem r2_Of.calls (a0 : Int) (P1_ : Nat → Prop) (A1 : Option Addr) (c1 : Nat) (l1 : List (S28)) (r1 : Int) (r2 : Int) (r3 : Int) (r4 : List (S28)) (w : World) (hs1 : Kd.V k28 28 w w.heap.size (fun k_ => P1_ k_) (.slice A1 l1.length c1) l1) (h : r2_Of.f a0 l1 = some (r1, r2, r3, r4)) :
  Calls Try.prog 42 #[.int .i64 a0, .slice A1 l1.length c1] w fun e w' => ∃ v3_ : Value, e = .returned (.agg #[.int .i64 r1, .int .i64 r2, .int .i64 r3, v3_]) ∧ Kd.V k28 28 w' w.heap.size (fun k_ => (P1_ k_ ∨ w.heap.size ≤ k_)) v3_ r4 ∧ Below w.heap.size w w' := by
 have hu28 := Try.underlying28
 have HO1 := Aside0.mk (show Kd.V k28 28 w w.heap.size (fun k_ => (P1_ k_ ∨ w.heap.size ≤ k_)) (.slice A1 l1.length c1) l1 from Kd.V_mono hs1 (fun k_ hk => .inl hk))
 have HB := Aside0.mk (Below.refl w.heap.size w)
 have H : (some (a0, 0, 0, l1)) = some (r1, r2, r3, r4) := h
 clear h
 simp only [Option.some.injEq, Prod.mk.injEq] at H
 obtain ⟨rfl, rfl, rfl, rfl⟩ := H
 go_enter Try.func42, Try.ntmps42
 go_wp2_with (first | ((with_reducible refine gate_dst (N := 4) rfl ?_); refine box_event ?hg (N := 4) ?hd (cs := #[.int .i64 0, .int .i64 0, .int .i64 0, .slice none 0 0]) (t := 28) ?hr ?_; (case hd => rfl); (case hg => rfl); (case hr => first | (go_simp; done) | (go_simp; rfl)); intro gb248 hg w3 hbox hb; have n0_ := Aside0.mk (Kd.V_below (Kd.V_elderB (by (with_reducible repeat (first | apply Kd.V_alloc | apply Kd.V_drewN | apply Kd.V_drew)); exact HO1.out) gb248 (Nat.le_of_eq hg.symm)) hb); have n1_ := Aside0.mk (bsp (by repeat (first | (with_reducible first | exact HB.out | apply bal | apply bdN | apply bd1) | exact HB.out)) hb); have n2_ := Aside0.mk (hbox); have n3_ := Aside0.mk ((by rw [hg]; exact (bsz (by repeat (first | (with_reducible first | exact HB.out | apply bal | apply bdN | apply bd1) | exact HB.out))) : w.heap.size ≤ gb248)); have n4_ := Aside0.mk ((by rw [hg]; exact (bsz (by repeat (first | (with_reducible first | exact HB.out | apply bal | apply bdN | apply bd1) | exact HB.out))) : w.heap.size ≤ gb248)); clear HO1; clear HB; have HO1 := n0_; have HB := n1_; have BK248 := n2_; have GW248 := n3_; have GE248 := n4_; clear n0_ n1_ n2_ n3_ n4_; clear hb hbox hg; obtain ⟨hcz4_0, hcz4_1, hcz4_2, hcz4_3, hfz4_0, hfz4_1, hfz4_2, hfz4_3⟩ := cf4 BK248.out))
 refine bodyPost_ret (results_cell_row rfl _ _ gb248 28 #[.int .i64 a0, .int .i64 0, .int .i64 0, .slice A1 l1.length c1] (0, 0) _ rfl (by (with_reducible repeat (first | refine kdN ?_ _ | refine kdr ?_ | refine kal ?_ _)); refine blk_put (cs := #[.int .i64 a0, .int .i64 0, .int .i64 0, .slice none 0 0]) ?_ 3 _ rfl; (with_reducible repeat (first | refine kdN ?_ _ | refine kdr ?_ | refine kal ?_ _)); refine blk_put (cs := #[.int .i64 a0, .int .i64 0, .int .i64 0, .slice none 0 0]) ?_ 2 _ rfl; (with_reducible repeat (first | refine kdN ?_ _ | refine kdr ?_ | refine kal ?_ _)); refine blk_put (cs := #[.int .i64 a0, .int .i64 0, .int .i64 0, .slice none 0 0]) ?_ 1 _ rfl; (with_reducible repeat (first | refine kdN ?_ _ | refine kdr ?_ | refine kal ?_ _)); refine blk_put (cs := #[.int .i64 0, .int .i64 0, .int .i64 0, .slice none 0 0]) ?_ 0 _ rfl; (with_reducible repeat (first | refine kdN ?_ _ | refine kdr ?_ | refine kal ?_ _)); exact BK248.out) Try.underlying28 rfl (by kernel_rfl)) rfl ?_
 exact ⟨_, by first | rfl | (simp [*] <;> rfl), by (with_reducible repeat (first | apply Kd.V_alloc | apply Kd.V_drewN | apply Kd.V_drew)); exact Kd.V_mono (Kd.V_far (p := ⟨gb248, 3, none⟩) (Kd.V_far (p := ⟨gb248, 2, none⟩) (Kd.V_far (p := ⟨gb248, 1, none⟩) (Kd.V_far (p := ⟨gb248, 0, none⟩) (Kd.V_mono HO1.out (fun k_ hk => (⟨hk, hk.2⟩ : _ ∧ k_ ≠ gb248))) (fun _ hk => hk.2) (.int .i64 a0)) (fun _ hk => hk.2) (.int .i64 0)) (fun _ hk => hk.2) (.int .i64 0)) (fun _ hk => hk.2) (.slice A1 l1.length c1)) (fun _ hk => hk.1.1), by repeat (first | (with_reducible first | exact HB.out | apply bal | apply bdN | apply bd1 | refine bst ?_ GE248.out) | exact HB.out)⟩
def r2_Read.f (a0 : Int) (a1 : Int) : Option (Int × Int × Int × (List (S28))) := some (1, a0, a1, ([] : List (S28)))
set_option maxHeartbeats 8000000 in
set_option maxRecDepth 100000 in
theorem r2_Read.calls (a0 : Int) (a1 : Int) (r1 : Int) (r2 : Int) (r3 : Int) (r4 : List (S28)) (w : World) (h : r2_Read.f a0 a1 = some (r1, r2, r3, r4)) :
  Calls Try.prog 41 #[.int .i64 a0, .int .i64 a1] w fun e w' => ∃ v3_ : Value, e = .returned (.agg #[.int .i64 r1, .int .i64 r2, .int .i64 r3, v3_]) ∧ Kd.R k28 28 w' w.heap.size (fun _ => True) v3_ r4 ∧ Below w.heap.size w w' := by
 have hu28 := Try.underlying28
 have HB := Aside0.mk (Below.refl w.heap.size w)
 have H : (some (1, a0, a1, ([] : List (S28)))) = some (r1, r2, r3, r4) := h
 clear h
 simp only [Option.some.injEq, Prod.mk.injEq] at H
 obtain ⟨rfl, rfl, rfl, rfl⟩ := H
 go_enter Try.func41, Try.ntmps41
 go_wp2_with (first | ((with_reducible refine gate_dst (N := 4) rfl ?_); refine box_event ?hg (N := 4) ?hd (cs := #[.int .i64 0, .int .i64 0, .int .i64 0, .slice none 0 0]) (t := 28) ?hr ?_; (case hd => rfl); (case hg => rfl); (case hr => first | (go_simp; done) | (go_simp; rfl)); intro gb247 hg w3 hbox hb; have n0_ := Aside0.mk (bsp (by repeat (first | (with_reducible first | exact HB.out | apply bal | apply bdN | apply bd1) | exact HB.out)) hb); have n1_ := Aside0.mk (hbox); have n2_ := Aside0.mk ((by rw [hg]; exact (bsz (by repeat (first | (with_reducible first | exact HB.out | apply bal | apply bdN | apply bd1) | exact HB.out))) : w.heap.size ≤ gb247)); have n3_ := Aside0.mk ((by rw [hg]; exact (bsz (by repeat (first | (with_reducible first | exact HB.out | apply bal | apply bdN | apply bd1) | exact HB.out))) : w.heap.size ≤ gb247)); clear HB; have HB := n0_; have BK247 := n1_; have GW247 := n2_; have GE247 := n3_; clear n0_ n1_ n2_ n3_; clear hb hbox hg; obtain ⟨hcz4_0, hcz4_1, hcz4_2, hcz4_3, hfz4_0, hfz4_1, hfz4_2, hfz4_3⟩ := cf4 BK247.out))
 refine bodyPost_ret (results_cell_row rfl _ _ gb247 28 #[.int .i64 1, .int .i64 a0, .int .i64 a1, .slice none 0 0] (0, 0) _ rfl (by (with_reducible repeat (first | refine kdN ?_ _ | refine kdr ?_ | refine kal ?_ _)); refine blk_put (cs := #[.int .i64 1, .int .i64 a0, .int .i64 a1, .slice none 0 0]) ?_ 3 _ rfl; (with_reducible repeat (first | refine kdN ?_ _ | refine kdr ?_ | refine kal ?_ _)); refine blk_put (cs := #[.int .i64 1, .int .i64 a0, .int .i64 0, .slice none 0 0]) ?_ 2 _ rfl; (with_reducible repeat (first | refine kdN ?_ _ | refine kdr ?_ | refine kal ?_ _)); refine blk_put (cs := #[.int .i64 1, .int .i64 0, .int .i64 0, .slice none 0 0]) ?_ 1 _ rfl; (with_reducible repeat (first | refine kdN ?_ _ | refine kdr ?_ | refine kal ?_ _)); refine blk_put (cs := #[.int .i64 0, .int .i64 0, .int .i64 0, .slice none 0 0]) ?_ 0 _ rfl; (with_reducible repeat (first | refine kdN ?_ _ | refine kdr ?_ | refine kal ?_ _)); exact BK247.out) Try.underlying28 rfl (by kernel_rfl)) rfl ?_
 exact ⟨_, by first | rfl | (simp [*] <;> rfl), by first | exact Kd.R_nil _ _ _ _ _ | exact Kd.N_nil _ _ _ _ _ | exact Kd.V_nil _ _ _ _ _ | exact Kd.Q_nil _ _ _ _ _ | exact Kd.S_nil _ _ _ _ _, by repeat (first | (with_reducible first | exact HB.out | apply bal | apply bdN | apply bd1 | refine bst ?_ GE247.out) | exact HB.out)⟩
mutual
def r2_Same.j0 : Nat → Bool → Int → Int → Int → List (S28) → Int → Int → Int → List (S28) → Option (Bool)
 | 0, _, _, _, _, _, _, _, _, _ => none
 | k + 1, x33, x154000, x154001, x154002, x154003, x155000, x155001, x155002, x155003 => if x33 = true then (some false) else (r2_Same.l0 k 0 x154000 x154001 x154002 x154003 x155000 x155001 x155002 x155003)
def r2_Same.l0 : Nat → Int → Int → Int → Int → List (S28) → Int → Int → Int → List (S28) → Option (Bool)
 | 0, _, _, _, _, _, _, _, _, _ => none
 | k + 1, x5, x154000, x154001, x154002, x154003, x155000, x155001, x155002, x155003 => if x5 < (x154003.length : Int) then (if 0 ≤ x5 then (if x5 < (x155003.length : Int) then ((r2_Same.f k ((rd_T28 x154003 x5).f0) ((rd_T28 x154003 x5).f1) ((rd_T28 x154003 x5).f2) ((rd_T28 x154003 x5).f3) ((rd_T28 x155003 x5).f0) ((rd_T28 x155003 x5).f1) ((rd_T28 x155003 x5).f2) ((rd_T28 x155003 x5).f3)).bind fun t157 => (if t157 = true then (r2_Same.l0 k (wrap64 (x5 + 1)) x154000 x154001 x154002 x154003 x155000 x155001 x155002 x155003) else (some false))) else (none)) else (none)) else (some true)
def r2_Same.f : Nat → Int → Int → Int → List (S28) → Int → Int → Int → List (S28) → Option (Bool)
 | 0, _, _, _, _, _, _, _, _ => none
 | k + 1, a0_0, a0_1, a0_2, l0_3, a1_0, a1_1, a1_2, l1_3 => if a0_0 = a1_0 then (if a0_1 = a1_1 then (if a0_2 = a1_2 then (r2_Same.j0 k ((l0_3.length : Int) != (l1_3.length : Int)) a0_0 a0_1 a0_2 l0_3 a1_0 a1_1 a1_2 l1_3) else (r2_Same.j0 k true a0_0 a0_1 a0_2 l0_3 a1_0 a1_1 a1_2 l1_3)) else (r2_Same.j0 k true a0_0 a0_1 a0_2 l0_3 a1_0 a1_1 a1_2 l1_3)) else (r2_Same.j0 k true a0_0 a0_1 a0_2 l0_3 a1_0 a1_1 a1_2 l1_3)
end
def r2_Same.T6 : Bool × List (List Nat × List Nat) := (true, [([], []), ([0], [0]), ([], []), ([1, 2], [1, 2]), ([3], [3]), ([], []), ([5], [5]), ([], []), ([6, 7], [6, 7]), ([8], [8]), ([4, 9], [4, 9]), ([10], [10])])
def r2_Same.B6 : List Nat := [0, 1, 0, 7, 15, 0, 32, 0, 224, 480, 1023, 2047]
theorem r2_Same.tab6 : rtab .any (opsOf Try.f14 6) = r2_Same.T6 := by kernel_rfl
theorem r2_Same.bits6 : waitsOk r2_Same.T6.2 r2_Same.B6 = true := by kernel_rfl
set_option maxHeartbeats 8000000 in
set_option maxRecDepth 100000 in
theorem r2_Same.calls (k : Nat) : ∀ (a0_0 : Int) (a0_1 : Int) (a0_2 : Int) (A0_3 : Option Addr) (c0_3 : Nat) (l0_3 : List (S28)) (a1_0 : Int) (a1_1 : Int) (a1_2 : Int) (A1_3 : Option Addr) (c1_3 : Nat) (l1_3 : List (S28)) (r : Bool) (w : World) (hr0_3 : Kd.C k28 w A0_3 l0_3.length l0_3) (hc0_3 : l0_3.length ≤ c0_3) (hr1_3 : Kd.C k28 w A1_3 l1_3.length l1_3) (hc1_3 : l1_3.length ≤ c1_3) (h : r2_Same.f k a0_0 a0_1 a0_2 l0_3 a1_0 a1_1 a1_2 l1_3 = some r),
  Calls Try.prog 14 #[.agg #[.int .i64 a0_0, .int .i64 a0_1, .int .i64 a0_2, .slice A0_3 l0_3.length c0_3], .agg #[.int .i64 a1_0, .int .i64 a1_1, .int .i64 a1_2, .slice A1_3 l1_3.length c1_3]] w fun e w' => e = .returned (.bool r) ∧ Below w.heap.size w w' := by
 induction k using Nat.strongRecOn with
 | _ k ih =>
 intro a0_0 a0_1 a0_2 A0_3 c0_3 l0_3 a1_0 a1_1 a1_2 A1_3 c1_3 l1_3 r w hr0_3 hc0_3 hr1_3 hc1_3 h
 cases k with
 | zero => exact absurd h (by simp [r2_Same.f])
 | succ k =>
 simp only [r2_Same.f] at h
 have hu28 := Try.underlying28
 have HR0_3 := Aside0.mk hr0_3
 have HC0_3 := Aside0.mk hc0_3
 clear hr0_3 hc0_3
 have HR1_3 := Aside0.mk hr1_3
 have HC1_3 := Aside0.mk hc1_3
 clear hr1_3 hc1_3
 have HB := Aside0.mk (Below.refl w.heap.size w)
 have H : (if a0_0 = a1_0 then (if a0_1 = a1_1 then (if a0_2 = a1_2 then (r2_Same.j0 k ((l0_3.length : Int) != (l1_3.length : Int)) a0_0 a0_1 a0_2 l0_3 a1_0 a1_1 a1_2 l1_3) else (r2_Same.j0 k true a0_0 a0_1 a0_2 l0_3 a1_0 a1_1 a1_2 l1_3)) else (r2_Same.j0 k true a0_0 a0_1 a0_2 l0_3 a1_0 a1_1 a1_2 l1_3)) else (r2_Same.j0 k true a0_0 a0_1 a0_2 l0_3 a1_0 a1_1 a1_2 l1_3)) = some r := h
 clear h
 have HC3 := Aside0.mk H
 clear H
 go_enter Try.func14, Try.ntmps14
 go_upto_region 1 with (first | ((with_reducible refine gate_dst (N := 2) rfl ?_); (try (refine gate_guard (by rfl) ?_; dsimp only)); refine box_event ?hg (N := 2) ?hd (cs := #[.int .i64 a0_0, .int .i64 a0_1, .int .i64 a0_2, .slice A0_3 l0_3.length c0_3]) (t := 28) ?hr ?_; (case hd => rfl); (case hg => rfl); (case hr => first | (go_simp; done) | (go_simp; rfl)); intro gb153 hg w4 hbox hb; have n0_ := Aside0.mk (bsp (by repeat (first | (with_reducible first | exact HB.out | apply bal | apply bdN | apply bd1) | exact HB.out)) hb); have n1_ := Aside0.mk (hbox); have n2_ := Aside0.mk ((by rw [hg]; exact (bsz (by repeat (first | (with_reducible first | exact HB.out | apply bal | apply bdN | apply bd1) | exact HB.out))) : w.heap.size ≤ gb153)); have n3_ := Aside0.mk ((by rw [hg]; exact (bsz (by repeat (first | (with_reducible first | exact HB.out | apply bal | apply bdN | apply bd1) | exact HB.out))) : w.heap.size ≤ gb153)); clear HB; have HB := n0_; have BK153 := n1_; have GW153 := n2_; have GE153 := n3_; clear n0_ n1_ n2_ n3_; clear hb hbox hg) | ((with_reducible refine gate_dst (N := 3) rfl ?_); (try (refine gate_guard (by rfl) ?_; dsimp only)); refine box_event ?hg (N := 3) ?hd (cs := #[.int .i64 a1_0, .int .i64 a1_1, .int .i64 a1_2, .slice A1_3 l1_3.length c1_3]) (t := 28) ?hr ?_; (case hd => rfl); (case hg => rfl); (case hr => first | (go_simp; done) | (go_simp; rfl)); intro gb154 hg w5 hbox hb; have n0_ := Aside0.mk (blk_below (g := gb153) (o := .cells #[.int .i64 a0_0, .int .i64 a0_1, .int .i64 a0_2, .slice A0_3 l0_3.length c0_3] 28 (0, 0)) (by (with_reducible repeat (first | refine kdN ?_ _ | refine kdr ?_ | refine kal ?_ _)); exact BK153.out) hb); have n1_ := Aside0.mk (bsp (by repeat (first | (with_reducible first | exact HB.out | apply bal | apply bdN | apply bd1 | refine bst ?_ GE153.out) | exact HB.out)) hb); have n2_ := Aside0.mk (hbox); have n3_ := Aside0.mk ((by rw [hg]; exact (bsz (by repeat (first | (with_reducible first | exact HB.out | apply bal | apply bdN | apply bd1 | refine bst ?_ GE153.out) | exact HB.out))) : w.heap.size ≤ gb154)); have n4_ := Aside0.mk ((by rw [hg]; exact (bsz (by repeat (first | (with_reducible first | exact HB.out | apply bal | apply bdN | apply bd1 | refine bst ?_ GE153.out) | exact HB.out))) : w.heap.size ≤ gb154)); have n5_ := Aside0.mk ((by rw [hg]; exact Nat.ne_of_lt (blk_lt (g := gb153) (o := .cells #[.int .i64 a0_0, .int .i64 a0_1, .int .i64 a0_2, .slice A0_3 l0_3.length c0_3] 28 (0, 0)) (by (with_reducible repeat (first | refine kdN ?_ _ | refine kdr ?_ | refine kal ?_ _)); exact BK153.out)) : gb153 ≠ gb154)); have n6_ := Aside0.mk ((by rw [hg]; exact Nat.ne_of_gt (blk_lt (g := gb153) (o := .cells #[.int .i64 a0_0, .int .i64 a0_1, .int .i64 a0_2, .slice A0_3 l0_3.length c0_3] 28 (0, 0)) (by (with_reducible repeat (first | refine kdN ?_ _ | refine kdr ?_ | refine kal ?_ _)); exact BK153.out)) : gb154 ≠ gb153)); clear BK153; clear HB; have BK153 := n0_; have HB := n1_; have BK154 := n2_; have GW154 := n3_; have GE154 := n4_; have NB153_154 := n5_; have NB154_153 := n6_; clear n0_ n1_ n2_ n3_ n4_ n5_ n6_; clear hb hbox hg))
 (try simp only [Act.put, List.setIfInBounds_toArray, List.set_cons_zero, List.set_cons_succ])
 go_cut [33] (fun v33 wc => ∃ (kq : Nat) (x33_2 : Bool), v33 = .bool x33_2 ∧ Aside0 (r2_Same.j0 kq x33_2 a0_0 a0_1 a0_2 l0_3 a1_0 a1_1 a1_2 l1_3 = some r) ∧ Aside0 (kq ≤ k) ∧ Aside0 (wc.heap[gb153]? = some (.cells #[.int .i64 a0_0, .int .i64 a0_1, .int .i64 a0_2, (.slice A0_3 l0_3.length c0_3)] 28 (0, 0))) ∧ Aside0 (wc.heap[gb154]? = some (.cells #[.int .i64 a1_0, .int .i64 a1_1, .int .i64 a1_2, (.slice A1_3 l1_3.length c1_3)] 28 (0, 0))) ∧ Aside0 (Below w.heap.size w wc))
 case first =>
  have H := HC3.out
  clear HC3
  by_cases c6 : a0_0 = a1_0
  ·rw [if_pos c6] at H
   have c6b0 : (a0_0 == a1_0) = true := beq_iff_eq.mpr c6
   have c6b1 : (a0_0 != a1_0) = false := bne_eq_false_iff_eq.mpr c6
   clear c6
   (first | rw [c6b0] | (simp only [i64_w, i32_w]; rw [c6b0]) | skip)
   by_cases c7 : a0_1 = a1_1
   ·rw [if_pos c7] at H
    have c7b0 : (a0_1 == a1_1) = true := beq_iff_eq.mpr c7
    have c7b1 : (a0_1 != a1_1) = false := bne_eq_false_iff_eq.mpr c7
    clear c7
    by_cases c8 : a0_2 = a1_2
    ·rw [if_pos c8] at H
     have c8b0 : (a0_2 == a1_2) = true := beq_iff_eq.mpr c8
     have c8b1 : (a0_2 != a1_2) = false := bne_eq_false_iff_eq.mpr c8
     clear c8
     have H' := Aside0.mk H
     clear H
     have hnb9 := NB153_154.out
     have hnc9 := NB154_153.out
     obtain ⟨hcz10_0, hcz10_1, hcz10_2, hcz10_3, hfz10_0, hfz10_1, hfz10_2, hfz10_3⟩ := cf4 BK153.out
     obtain ⟨hcz11_0, hcz11_1, hcz11_2, hcz11_3, hfz11_0, hfz11_1, hfz11_2, hfz11_3⟩ := cf4 BK154.out
     go_wp2
     go_meet
     case rel => exact ⟨_, (((l0_3.length : Int) != (l1_3.length : Int))), (by first | rfl | (simp; done) | (simp [*]; done)), H', ⟨by first | omega | exact Nat.le_refl _⟩, ⟨by (with_reducible repeat (first | refine kdN ?_ _ | refine kdr ?_ | refine kal ?_ _)); exact BK153.out⟩, ⟨by (with_reducible repeat (first | refine kdN ?_ _ | refine kdr ?_ | refine kal ?_ _)); exact BK154.out⟩, ⟨by repeat (first | (with_reducible first | exact HB.out | apply bal | apply bdN | apply bd1 | refine bst ?_ GE153.out | refine bst ?_ GE154.out) | exact HB.out)⟩⟩
    ·rw [if_neg c8] at H
     have c8b0 : (a0_2 == a1_2) = false := beq_eq_false_iff_ne.mpr c8
     have c8b1 : (a0_2 != a1_2) = true := bne_iff_ne.mpr c8
     have H' := Aside0.mk H
     clear H
     have hnb12 := NB153_154.out
     have hnc12 := NB154_153.out
     obtain ⟨hcz13_0, hcz13_1, hcz13_2, hcz13_3, hfz13_0, hfz13_1, hfz13_2, hfz13_3⟩ := cf4 BK153.out
     obtain ⟨hcz14_0, hcz14_1, hcz14_2, hcz14_3, hfz14_0, hfz14_1, hfz14_2, hfz14_3⟩ := cf4 BK154.out
     go_wp2
     go_meet
     case rel => exact ⟨_, (true), (by first | rfl | (simp; done) | (simp [*]; done)), H', ⟨by first | omega | exact Nat.le_refl _⟩, ⟨by (with_reducible repeat (first | refine kdN ?_ _ | refine kdr ?_ | refine kal ?_ _)); exact BK153.out⟩, ⟨by (with_reducible repeat (first | refine kdN ?_ _ | refine kdr ?_ | refine kal ?_ _)); exact BK154.out⟩, ⟨by repeat (first | (with_reducible first | exact HB.out | apply bal | apply bdN | apply bd1 | refine bst ?_ GE153.out | refine bst ?_ GE154.out) | exact HB.out)⟩⟩
   ·rw [if_neg c7] at H
    have c7b0 : (a0_1 == a1_1) = false := beq_eq_false_iff_ne.mpr c7
    have c7b1 : (a0_1 != a1_1) = true := bne_iff_ne.mpr c7
    have H' := Aside0.mk H
    clear H
    have hnb15 := NB153_154.out
    have hnc15 := NB154_153.out
    obtain ⟨hcz16_0, hcz16_1, hcz16_2, hcz16_3, hfz16_0, hfz16_1, hfz16_2, hfz16_3⟩ := cf4 BK153.out
    obtain ⟨hcz17_0, hcz17_1, hcz17_2, hcz17_3, hfz17_0, hfz17_1, hfz17_2, hfz17_3⟩ := cf4 BK154.out
    go_wp2
    go_meet
    case rel => exact ⟨_, (true), (by first | rfl | (simp; done) | (simp [*]; done)), H', ⟨by first | omega | exact Nat.le_refl _⟩, ⟨by (with_reducible repeat (first | refine kdN ?_ _ | refine kdr ?_ | refine kal ?_ _)); exact BK153.out⟩, ⟨by (with_reducible repeat (first | refine kdN ?_ _ | refine kdr ?_ | refine kal ?_ _)); exact BK154.out⟩, ⟨by repeat (first | (with_reducible first | exact HB.out | apply bal | apply bdN | apply bd1 | refine bst ?_ GE153.out | refine bst ?_ GE154.out) | exact HB.out)⟩⟩
  ·rw [if_neg c6] at H
   have c6b0 : (a0_0 == a1_0) = false := beq_eq_false_iff_ne.mpr c6
   have c6b1 : (a0_0 != a1_0) = true := bne_iff_ne.mpr c6
   (first | rw [c6b0] | (simp only [i64_w, i32_w]; rw [c6b0]) | skip)
   have H' := Aside0.mk H
   clear H
   have hnb18 := NB153_154.out
   have hnc18 := NB154_153.out
   obtain ⟨hcz19_0, hcz19_1, hcz19_2, hcz19_3, hfz19_0, hfz19_1, hfz19_2, hfz19_3⟩ := cf4 BK153.out
   obtain ⟨hcz20_0, hcz20_1, hcz20_2, hcz20_3, hfz20_0, hfz20_1, hfz20_2, hfz20_3⟩ := cf4 BK154.out
   go_wp2
   go_meet
   case rel => exact ⟨_, (true), (by first | rfl | (simp; done) | (simp [*]; done)), H', ⟨by first | omega | exact Nat.le_refl _⟩, ⟨by (with_reducible repeat (first | refine kdN ?_ _ | refine kdr ?_ | refine kal ?_ _)); exact BK153.out⟩, ⟨by (with_reducible repeat (first | refine kdN ?_ _ | refine kdr ?_ | refine kal ?_ _)); exact BK154.out⟩, ⟨by repeat (first | (with_reducible first | exact HB.out | apply bal | apply bdN | apply bd1 | refine bst ?_ GE153.out | refine bst ?_ GE154.out) | exact HB.out)⟩⟩
 case rest =>
  clear HC3
  try clear c1
  try clear p2
  try clear c6
  try clear c6b0
  try clear c6b1
  try clear c7
  try clear c7b0
  try clear c7b1
  try clear c8
  try clear c8b0
  try clear c8b1
  try clear c9
  try clear c12
  try clear c14
  try clear c15
  try clear c18
  try clear hcz10_0
  try clear hcz10_1
  try clear hcz10_2
  try clear hcz10_3
  try clear hcz11_0
  try clear hcz11_1
  try clear hcz11_2
  try clear hcz11_3
  try clear hcz13_0
  try clear hcz13_1
  try clear hcz13_2
  try clear hcz13_3
  try clear hcz14_0
  try clear hcz14_1
  try clear hcz14_2
  try clear hcz14_3
  try clear hcz16_0
  try clear hcz16_1
  try clear hcz16_2
  try clear hcz16_3
  try clear hcz17_0
  try clear hcz17_1
  try clear hcz17_2
  try clear hcz17_3
  try clear hcz19_0
  try clear hcz19_1
  try clear hcz19_2
  try clear hcz19_3
  try clear hcz20_0
  try clear hcz20_1
  try clear hcz20_2
  try clear hcz20_3
  try clear hfz10_0
  try clear hfz10_1
  try clear hfz10_2
  try clear hfz10_3
  try clear hfz11_0
  try clear hfz11_1
  try clear hfz11_2
  try clear hfz11_3
  try clear hfz13_0
  try clear hfz13_1
  try clear hfz13_2
  try clear hfz13_3
  try clear hfz14_0
  try clear hfz14_1
  try clear hfz14_2
  try clear hfz14_3
  try clear hfz16_0
  try clear hfz16_1
  try clear hfz16_2
  try clear hfz16_3
  try clear hfz17_0
  try clear hfz17_1
  try clear hfz17_2
  try clear hfz17_3
  try clear hfz19_0
  try clear hfz19_1
  try clear hfz19_2
  try clear hfz19_3
  try clear hfz20_0
  try clear hfz20_1
  try clear hfz20_2
  try clear hfz20_3
  obtain ⟨kq, x33_2, rfl, HA, HJ2, BK153, BK154, HB⟩ := hcut
  cases kq with
  | zero => exact absurd HA.out (by simp [r2_Same.j0])
  | succ kj2 =>
   have H := HA.out
   clear HA
   simp only [r2_Same.j0] at H
   by_cases c21 : x33_2 = true
   ·subst c21
    have H1 : (some false) = some r := by rw [if_pos rfl] at H; exact H
    clear H
    have H := H1
    clear H1
    obtain rfl := Option.some.inj H
    go_wp2
    go_ret
    exact ⟨by first | rfl | (simp [*] <;> rfl), by repeat (first | (with_reducible first | exact HB.out | apply bal | apply bdN | apply bd1 | refine bst ?_ GE153.out | refine bst ?_ GE154.out) | exact HB.out)⟩
   ·replace c21 := Bool.eq_false_iff.mpr c21
    subst c21
    have H1 : (r2_Same.l0 kj2 0 a0_0 a0_1 a0_2 l0_3 a1_0 a1_1 a1_2 l1_3) = some r := by rw [if_neg (show ¬ (false = true) by decide)] at H; exact H
    clear H
    have H := H1
    clear H1
    have H' := Aside0.mk H
    clear H
    go_wp2
    go_loopg [5] kj2 (fun kq v5 w' => ∃ (x5_2 : Int), v5 = .int .i64 x5_2 ∧ Aside0 (r2_Same.l0 kq x5_2 a0_0 a0_1 a0_2 l0_3 a1_0 a1_1 a1_2 l1_3 = some r) ∧ Aside0 (kq ≤ kj2) ∧ Aside0 (w'.heap[gb153]? = some (.cells #[.int .i64 a0_0, .int .i64 a0_1, .int .i64 a0_2, (.slice A0_3 l0_3.length c0_3)] 28 (0, 0))) ∧ Aside0 (w'.heap[gb154]? = some (.cells #[.int .i64 a1_0, .int .i64 a1_1, .int .i64 a1_2, (.slice A1_3 l1_3.length c1_3)] 28 (0, 0))) ∧ Aside0 (Below w.heap.size w w'))
    case atStart => exact ⟨(0), (by first | rfl | (simp; done) | (simp [*]; done)), H', ⟨Nat.le_refl _⟩, ⟨by (with_reducible repeat (first | refine kdN ?_ _ | refine kdr ?_ | refine kal ?_ _)); exact BK153.out⟩, ⟨by (with_reducible repeat (first | refine kdN ?_ _ | refine kdr ?_ | refine kal ?_ _)); exact BK154.out⟩, ⟨by repeat (first | (with_reducible first | exact HB.out | apply bal | apply bdN | apply bd1 | refine bst ?_ GE153.out | refine bst ?_ GE154.out) | exact HB.out)⟩⟩
    case round =>
     clear H'
     try clear c1
     try clear c2
     try clear p2
     try clear c6
     try clear c6b0
     try clear c6b1
     try clear c7
     try clear c7b0
     try clear c7b1
     try clear c8
     try clear c8b0
     try clear c8b1
     try clear c9
     try clear c12
     try clear c14
     try clear c15
     try clear c18
     try clear c21
     try clear hcz10_0
     try clear hcz10_1
     try clear hcz10_2
     try clear hcz10_3
     try clear hcz11_0
     try clear hcz11_1
     try clear hcz11_2
     try clear hcz11_3
     try clear hcz13_0
     try clear hcz13_1
     try clear hcz13_2
     try clear hcz13_3
     try clear hcz14_0
     try clear hcz14_1
     try clear hcz14_2
     try clear hcz14_3
     try clear hcz16_0
     try clear hcz16_1
     try clear hcz16_2
     try clear hcz16_3
     try clear hcz17_0
     try clear hcz17_1
     try clear hcz17_2
     try clear hcz17_3
     try clear hcz19_0
     try clear hcz19_1
     try clear hcz19_2
     try clear hcz19_3
     try clear hcz20_0
     try clear hcz20_1
     try clear hcz20_2
     try clear hcz20_3
     try clear hfz10_0
     try clear hfz10_1
     try clear hfz10_2
     try clear hfz10_3
     try clear hfz11_0
     try clear hfz11_1
     try clear hfz11_2
     try clear hfz11_3
     try clear hfz13_0
     try clear hfz13_1
     try clear hfz13_2
     try clear hfz13_3
     try clear hfz14_0
     try clear hfz14_1
     try clear hfz14_2
     try clear hfz14_3
     try clear hfz16_0
     try clear hfz16_1
     try clear hfz16_2
     try clear hfz16_3
     try clear hfz17_0
     try clear hfz17_1
     try clear hfz17_2
     try clear hfz17_3
     try clear hfz19_0
     try clear hfz19_1
     try clear hfz19_2
     try clear hfz19_3
     try clear hfz20_0
     try clear hfz20_1
     try clear hfz20_2
     try clear hfz20_3
     try clear p2
     obtain ⟨x5_2, rfl, HA, HK2, BK153, BK154, HB⟩ := hrel
     cases gk with
     | zero => exact absurd HA.out (by simp [r2_Same.l0])
     | succ k2 =>
      have H := HA.out
      clear HA
      simp only [r2_Same.l0] at H
      by_cases c22 : x5_2 < (l0_3.length : Int)
      ·rw [if_pos c22] at H
       have c22b0 : decide (x5_2 < (l0_3.length : Int)) = true := decide_eq_true c22
       clear c22
       by_cases c23 : 0 ≤ x5_2
       ·rw [if_pos c23] at H
        have c23b0 : decide (0 ≤ x5_2) = true := decide_eq_true c23
        clear c23
        by_cases c24 : x5_2 < (l1_3.length : Int)
        ·rw [if_pos c24] at H
         have c24b0 : decide (x5_2 < (l1_3.length : Int)) = true := decide_eq_true c24
         clear c24
         replace H := Option.bind_eq_some_iff.mp H
         obtain ⟨t157, A250, H⟩ := H
         replace H : (if t157 = true then (r2_Same.l0 k2 (wrap64 (x5_2 + 1)) a0_0 a0_1 a0_2 l0_3 a1_0 a1_1 a1_2 l1_3) else (some false)) = some r := H
         have A25 := Aside0.mk A250
         clear A250
         by_cases c26 : t157 = true
         ·subst c26
          have H1 : (r2_Same.l0 k2 (wrap64 (x5_2 + 1)) a0_0 a0_1 a0_2 l0_3 a1_0 a1_1 a1_2 l1_3) = some r := by rw [if_pos rfl] at H; exact H
          clear H
          have H := H1
          clear H1
          have H' := Aside0.mk H
          clear H
          have hnb27 := NB153_154.out
          have hnc27 := NB154_153.out
          obtain ⟨hcz28_0, hcz28_1, hcz28_2, hcz28_3, hfz28_0, hfz28_1, hfz28_2, hfz28_3⟩ := cf4 BK153.out
          try go_wp2
          have n0_ := Aside0.mk (kdr BK153.out)
          have n1_ := Aside0.mk (kdr BK154.out)
          have n2_ := Aside0.mk (bd1 HB.out)
          clear BK153
          clear BK154
          clear HB
          have BK153 := n0_
          have BK154 := n1_
          have HB := n2_
          clear n0_ n1_ n2_
          have p155 : 0 ≤ (x5_2 : Int) := of_decide_eq_true (by first | (with_reducible assumption) | assumption)
          have q155 : x5_2 < (l0_3.length : Int) := of_decide_eq_true (by first | (with_reducible assumption) | assumption)
          obtain ⟨ad155, A155_3, c155_3, e155, hx155_0, hx155_1, hx155_2, hx155_3, hl155_3, hi155_3⟩ := at_T28 HR0_3.out x5_2 p155 q155
          have hw155_3 := hx155_3
          have hw155_2 := hx155_2
          have hw155_1 := hx155_1
          have hw155_0 := hx155_0
          cases e155
          replace hx155_0 := bcell HB.out hx155_0
          replace hx155_1 := bcell HB.out hx155_1
          replace hx155_2 := bcell HB.out hx155_2
          replace hx155_3 := bcell HB.out hx155_3
          have HR155_3 := Aside0.mk hi155_3
          have HC155_3 := Aside0.mk hl155_3
          clear hi155_3 hl155_3
          replace p155 := eq_true p155
          replace q155 := eq_true q155
          have p156 : 0 ≤ (x5_2 : Int) := of_decide_eq_true (by first | (with_reducible assumption) | assumption)
          have q156 : x5_2 < (l1_3.length : Int) := of_decide_eq_true (by first | (with_reducible assumption) | assumption)
          obtain ⟨ad156, A156_3, c156_3, e156, hx156_0, hx156_1, hx156_2, hx156_3, hl156_3, hi156_3⟩ := at_T28 HR1_3.out x5_2 p156 q156
          have hw156_3 := hx156_3
          have hw156_2 := hx156_2
          have hw156_1 := hx156_1
          have hw156_0 := hx156_0
          cases e156
          replace hx156_0 := bcell HB.out hx156_0
          replace hx156_1 := bcell HB.out hx156_1
          replace hx156_2 := bcell HB.out hx156_2
          replace hx156_3 := bcell HB.out hx156_3
          have HR156_3 := Aside0.mk hi156_3
          have HC156_3 := Aside0.mk hl156_3
          clear hi156_3 hl156_3
          replace p156 := eq_true p156
          replace q156 := eq_true q156
          refine start_ (n := 12) (S := fun w' => w'.cell? ⟨gb153, 0, none⟩ = some (.int .i64 a0_0) ∧ w'.cell? ⟨gb153, 1, none⟩ = some (.int .i64 a0_1) ∧ w'.cell? ⟨gb153, 2, none⟩ = some (.int .i64 a0_2) ∧ w'.cell? ⟨gb153, 3, none⟩ = some (.slice (some ad155) l0_3.length c0_3) ∧ w'.cell? ⟨gb154, 0, none⟩ = some (.int .i64 a1_0) ∧ w'.cell? ⟨gb154, 1, none⟩ = some (.int .i64 a1_1) ∧ w'.cell? ⟨gb154, 2, none⟩ = some (.int .i64 a1_2) ∧ w'.cell? ⟨gb154, 3, none⟩ = some (.slice (some ad156) l1_3.length c1_3) ∧ w'.cell? (ad155.add ((x5_2).toNat * 4)) = some (.int .i64 ((rd_T28 l0_3 x5_2).f0)) ∧ w'.cell? ⟨(ad155.add ((x5_2).toNat * 4)).block, (ad155.add ((x5_2).toNat * 4)).off + 1, none⟩ = some (.int .i64 ((rd_T28 l0_3 x5_2).f1)) ∧ w'.cell? ⟨(ad155.add ((x5_2).toNat * 4)).block, (ad155.add ((x5_2).toNat * 4)).off + 2, none⟩ = some (.int .i64 ((rd_T28 l0_3 x5_2).f2)) ∧ w'.cell? ⟨(ad155.add ((x5_2).toNat * 4)).block, (ad155.add ((x5_2).toNat * 4)).off + 3, none⟩ = some (.slice A155_3 ((rd_T28 l0_3 x5_2).f3).length c155_3) ∧ w'.cell? (ad156.add ((x5_2).toNat * 4)) = some (.int .i64 ((rd_T28 l1_3 x5_2).f0)) ∧ w'.cell? ⟨(ad156.add ((x5_2).toNat * 4)).block, (ad156.add ((x5_2).toNat * 4)).off + 1, none⟩ = some (.int .i64 ((rd_T28 l1_3 x5_2).f1)) ∧ w'.cell? ⟨(ad156.add ((x5_2).toNat * 4)).block, (ad156.add ((x5_2).toNat * 4)).off + 2, none⟩ = some (.int .i64 ((rd_T28 l1_3 x5_2).f2)) ∧ w'.cell? ⟨(ad156.add ((x5_2).toNat * 4)).block, (ad156.add ((x5_2).toNat * 4)).off + 3, none⟩ = some (.slice A156_3 ((rd_T28 l1_3 x5_2).f3).length c156_3)) (ds := []) #[false, false, false, false, false, false, false, false, false, false, false, false] (by kernel_rfl) rfl rfl ⟨(blk_cell BK153.out 0).trans rfl, (blk_cell BK153.out 1).trans rfl, (blk_cell BK153.out 2).trans rfl, (blk_cell BK153.out 3).trans rfl, (blk_cell BK154.out 0).trans rfl, (blk_cell BK154.out 1).trans rfl, (blk_cell BK154.out 2).trans rfl, (blk_cell BK154.out 3).trans rfl, (bcell HB.out hw155_0), (bcell HB.out hw155_1), (bcell HB.out hw155_2), (bcell HB.out hw155_3), (bcell HB.out hw156_0), (bcell HB.out hw156_1), (bcell HB.out hw156_2), (bcell HB.out hw156_3)⟩ (fun hHeld => ?_); refine with_tabW r2_Same.tab6 r2_Same.bits6 (fun HT_ HW_ => ?_)
          generalize wr.drew = w29 at BK153 BK154 HB HR155_3 HR156_3 hx155_0 hx155_1 hx155_2 hx155_3 hx156_0 hx156_1 hx156_2 hx156_3 hHeld ⊢
          refine pure_ (i := 0) (N := some 41) (v := ?_) (a' := ?_) #[true, false, false, false, false, false, false, false, false, false, false, false] rfl rfl (any_of HT_.out (by kernel_rfl)) (fun _ _ _ h => h) (Or.inl ⟨by rfl, ?_⟩) ?_ ?_
          rotate_left
          ·intro w'
           go_simp
           with_reducible rfl
          rotate_left
          ·simp only [Act.put, List.setIfInBounds_toArray, List.set_cons_zero, List.set_cons_succ, i64_w, i32_w]
           rfl
          refine pure_ (i := 2) (N := some 43) (v := ?_) (a' := ?_) #[true, false, true, false, false, false, false, false, false, false, false, false] rfl rfl (any_of HT_.out (by kernel_rfl)) (fun _ _ _ h => h) (Or.inl ⟨by rfl, ?_⟩) ?_ ?_
          rotate_left
          ·intro w'
           go_simp
           with_reducible rfl
          rotate_left
          ·simp only [Act.put, List.setIfInBounds_toArray, List.set_cons_zero, List.set_cons_succ, i64_w, i32_w]
           rfl
          refine pure_ (i := 5) (N := some 46) (v := ?_) (a' := ?_) #[true, false, true, false, false, true, false, false, false, false, false, false] rfl rfl (any_of HT_.out (by kernel_rfl)) (fun _ _ _ h => h) (Or.inl ⟨by rfl, ?_⟩) ?_ ?_
          rotate_left
          ·intro w'
           go_simp
           with_reducible rfl
          rotate_left
          ·simp only [Act.put, List.setIfInBounds_toArray, List.set_cons_zero, List.set_cons_succ, i64_w, i32_w]
           rfl
          refine pure_ (i := 7) (N := some 48) (v := ?_) (a' := ?_) #[true, false, true, false, false, true, false, true, false, false, false, false] rfl rfl (any_of HT_.out (by kernel_rfl)) (fun _ _ _ h => h) (Or.inl ⟨by rfl, ?_⟩) ?_ ?_
          rotate_left
          ·intro w'
           go_simp
           with_reducible rfl
          rotate_left
          ·simp only [Act.put, List.setIfInBounds_toArray, List.set_cons_zero, List.set_cons_succ, i64_w, i32_w]
           rfl
          refine take_ (i := 1) (N := some 42) (v := ?_) (a' := ?_) #[true, true, true, false, false, true, false, true, false, false, false, false] rfl rfl (take_ofW HT_.out HW_.out (by kernel_rfl)) (fun _ _ _ h => h) (Or.inl ⟨by rfl, ?_⟩) hHeld ?_ ?_
          rotate_left
          ·rintro w' ⟨s0, s1, s2, s3, s4, s5, s6, s7, s8, s9, s10, s11, s12, s13, s14, s15⟩
           go_simp
           with_reducible rfl
          rotate_left
          ·simp only [Act.put, List.setIfInBounds_toArray, List.set_cons_zero, List.set_cons_succ, i64_w, i32_w]
           rfl
          refine pure_ (i := 3) (N := some 44) (v := ?_) (a' := ?_) #[true, true, true, true, false, true, false, true, false, false, false, false] rfl rfl (any_of HT_.out (by kernel_rfl)) (fun _ _ _ h => h) (Or.inl ⟨by rfl, ?_⟩) ?_ ?_
          rotate_left
          ·intro w'
           go_simp
           with_reducible rfl
          rotate_left
          ·simp only [Act.put, List.setIfInBounds_toArray, List.set_cons_zero, List.set_cons_succ, i64_w, i32_w]
           rfl
          refine take_ (i := 4) (N := some 45) (v := ?_) (a' := ?_) #[true, true, true, true, true, true, false, true, false, false, false, false] rfl rfl (take_ofW HT_.out HW_.out (by kernel_rfl)) (fun _ _ _ h => h) (Or.inl ⟨by rfl, ?_⟩) hHeld ?_ ?_
          rotate_left
          ·rintro w' ⟨s0, s1, s2, s3, s4, s5, s6, s7, s8, s9, s10, s11, s12, s13, s14, s15⟩
           go_simp
           with_reducible rfl
          rotate_left
          ·simp only [Act.put, List.setIfInBounds_toArray, List.set_cons_zero, List.set_cons_succ, i64_w, i32_w]
           rfl
          refine take_ (i := 6) (N := some 47) (v := ?_) (a' := ?_) #[true, true, true, true, true, true, true, true, false, false, false, false] rfl rfl (take_ofW HT_.out HW_.out (by kernel_rfl)) (fun _ _ _ h => h) (Or.inl ⟨by rfl, ?_⟩) hHeld ?_ ?_
          rotate_left
          ·rintro w' ⟨s0, s1, s2, s3, s4, s5, s6, s7, s8, s9, s10, s11, s12, s13, s14, s15⟩
           go_simp
           with_reducible rfl
          rotate_left
          ·simp only [Act.put, List.setIfInBounds_toArray, List.set_cons_zero, List.set_cons_succ, i64_w, i32_w]
           rfl
          refine pure_ (i := 8) (N := some 49) (v := ?_) (a' := ?_) #[true, true, true, true, true, true, true, true, true, false, false, false] rfl rfl (any_of HT_.out (by kernel_rfl)) (fun _ _ _ h => h) (Or.inl ⟨by rfl, ?_⟩) ?_ ?_
          rotate_left
          ·intro w'
           go_simp
           with_reducible rfl
          rotate_left
          ·simp only [Act.put, List.setIfInBounds_toArray, List.set_cons_zero, List.set_cons_succ, i64_w, i32_w]
           rfl
          refine take_ (i := 9) (N := some 50) (v := ?_) (a' := ?_) #[true, true, true, true, true, true, true, true, true, true, false, false] rfl rfl (take_ofW HT_.out HW_.out (by kernel_rfl)) (fun _ _ _ h => h) (Or.inl ⟨by rfl, ?_⟩) hHeld ?_ ?_
          rotate_left
          ·rintro w' ⟨s0, s1, s2, s3, s4, s5, s6, s7, s8, s9, s10, s11, s12, s13, s14, s15⟩
           go_simp
           with_reducible rfl
          rotate_left
          ·simp only [Act.put, List.setIfInBounds_toArray, List.set_cons_zero, List.set_cons_succ, i64_w, i32_w]
           rfl
          refine one_ (i := 10) (N := some 51) #[true, true, true, true, true, true, true, true, true, true, true, false] rfl rfl (one_of HT_.out (by kernel_rfl)) (by decide) (fun K hK => ?_)
          refine goes_ Try.func14 (by kernel_rfl) rfl #[.agg #[.int .i64 ((rd_T28 l0_3 x5_2).f0), .int .i64 ((rd_T28 l0_3 x5_2).f1), .int .i64 ((rd_T28 l0_3 x5_2).f2), .slice A155_3 ((rd_T28 l0_3 x5_2).f3).length c155_3], .agg #[.int .i64 ((rd_T28 l1_3 x5_2).f0), .int .i64 ((rd_T28 l1_3 x5_2).f1), .int .i64 ((rd_T28 l1_3 x5_2).f2), .slice A156_3 ((rd_T28 l1_3 x5_2).f3).length c156_3]] (by rfl) rfl rfl (by (try simp only [List.map_toArray, List.map_cons, List.map_nil]); first | done | rfl | (simp only [List.length_drop, List.length_take]; rfl)) ?_
          with_reducible refine (ih k2 (by have := HJ2.out; have := HK2.out; omega) ((rd_T28 l0_3 x5_2).f0) ((rd_T28 l0_3 x5_2).f1) ((rd_T28 l0_3 x5_2).f2) _ _ ((rd_T28 l0_3 x5_2).f3) ((rd_T28 l1_3 x5_2).f0) ((rd_T28 l1_3 x5_2).f1) ((rd_T28 l1_3 x5_2).f2) _ _ ((rd_T28 l1_3 x5_2).f3) true _ ?side1 ?side2 ?side3 ?side4 A25.out).mono ?_
          (case side1 => repeat (first | exact (Kd.C_below HR155_3.out HB.out) | with_reducible first | apply Kd.C_alloc | apply Kd.C_drewN | apply Kd.C_drew))
          (case side2 => exact HC155_3.out)
          (case side3 => repeat (first | exact (Kd.C_below HR156_3.out HB.out) | with_reducible first | apply Kd.C_alloc | apply Kd.C_drewN | apply Kd.C_drew))
          (case side4 => exact HC156_3.out)
          rintro e w30 ⟨rfl, hb⟩
          refine ⟨_, rfl, ?_⟩
          have n0_ := Aside0.mk (blk_below (g := gb153) (o := .cells #[.int .i64 a0_0, .int .i64 a0_1, .int .i64 a0_2, .slice (some ad155) l0_3.length c0_3] 28 (0, 0)) (by (with_reducible repeat (first | refine kdN ?_ _ | refine kdr ?_ | refine kal ?_ _)); exact BK153.out) hb)
          have n1_ := Aside0.mk (blk_below (g := gb154) (o := .cells #[.int .i64 a1_0, .int .i64 a1_1, .int .i64 a1_2, .slice (some ad156) l1_3.length c1_3] 28 (0, 0)) (by (with_reducible repeat (first | refine kdN ?_ _ | refine kdr ?_ | refine kal ?_ _)); exact BK154.out) hb)
          have n2_ := Aside0.mk (bsp (by repeat (first | (with_reducible first | exact HB.out | apply bal | apply bdN | apply bd1 | refine bst ?_ GE153.out | refine bst ?_ GE154.out) | exact HB.out)) hb)
          clear BK153
          clear BK154
          clear HB
          have BK153 := n0_
          have BK154 := n1_
          have HB := n2_
          clear n0_ n1_ n2_
          (try clear hb)
          (try clear hb2)
          (try clear hk)
          (try clear hi)
          refine hK.out _ _ ⟨(blk_cell BK153.out 0).trans rfl, (blk_cell BK153.out 1).trans rfl, (blk_cell BK153.out 2).trans rfl, (blk_cell BK153.out 3).trans rfl, (blk_cell BK154.out 0).trans rfl, (blk_cell BK154.out 1).trans rfl, (blk_cell BK154.out 2).trans rfl, (blk_cell BK154.out 3).trans rfl, (bcell HB.out hw155_0), (bcell HB.out hw155_1), (bcell HB.out hw155_2), (bcell HB.out hw155_3), (bcell HB.out hw156_0), (bcell HB.out hw156_1), (bcell HB.out hw156_2), (bcell HB.out hw156_3)⟩ (fun hHeld => ?_)
          clear hK K
          refine norm_ (a' := ?_) ?_ ?_
          rotate_left
          ·show Act.put _ (some 51) _ = _
           simp only [Act.put, List.setIfInBounds_toArray, List.set_cons_zero, List.set_cons_succ, i64_w, i32_w]
           rfl
          refine pure_ (i := 11) (N := some 52) (v := ?_) (a' := ?_) #[true, true, true, true, true, true, true, true, true, true, true, true] rfl rfl (any_of HT_.out (by kernel_rfl)) (fun _ _ _ h => h) (Or.inl ⟨by rfl, ?_⟩) ?_ ?_
          rotate_left
          ·intro w'
           go_simp
           with_reducible rfl
          rotate_left
          ·simp only [Act.put, List.setIfInBounds_toArray, List.set_cons_zero, List.set_cons_succ, i64_w, i32_w]
           rfl
          refine done_ (done_of HT_.out (by kernel_rfl)) ?_
          try go_wp2
          go_roundg k2
          case measure => have := HJ2.out; have := HK2.out; omega
          case rel => exact ⟨(wrap64 (x5_2 + 1)), (by first | rfl | (simp; done) | (simp [*]; done)), H', ⟨by have := HJ2.out; have := HK2.out; omega⟩, ⟨by (with_reducible repeat (first | refine kdN ?_ _ | refine kdr ?_ | refine kal ?_ _)); exact BK153.out⟩, ⟨by (with_reducible repeat (first | refine kdN ?_ _ | refine kdr ?_ | refine kal ?_ _)); exact BK154.out⟩, ⟨by repeat (first | (with_reducible first | exact HB.out | apply bal | apply bdN | apply bd1 | refine bst ?_ GE153.out | refine bst ?_ GE154.out) | exact HB.out)⟩⟩
         ·replace c26 := Bool.eq_false_iff.mpr c26
          subst c26
          have H1 : (some false) = some r := by rw [if_neg (show ¬ (false = true) by decide)] at H; exact H
          clear H
          have H := H1
          clear H1
          obtain rfl := Option.some.inj H
          have hnb31 := NB153_154.out
          have hnc31 := NB154_153.out
          obtain ⟨hcz32_0, hcz32_1, hcz32_2, hcz32_3, hfz32_0, hfz32_1, hfz32_2, hfz32_3⟩ := cf4 BK153.out
          try go_wp2
          have n0_ := Aside0.mk (kdr BK153.out)
          have n1_ := Aside0.mk (kdr BK154.out)
          have n2_ := Aside0.mk (bd1 HB.out)
          clear BK153
          clear BK154
          clear HB
          have BK153 := n0_
          have BK154 := n1_
          have HB := n2_
          clear n0_ n1_ n2_
          have p155 : 0 ≤ (x5_2 : Int) := of_decide_eq_true (by first | (with_reducible assumption) | assumption)
          have q155 : x5_2 < (l0_3.length : Int) := of_decide_eq_true (by first | (with_reducible assumption) | assumption)
          obtain ⟨ad155, A155_3, c155_3, e155, hx155_0, hx155_1, hx155_2, hx155_3, hl155_3, hi155_3⟩ := at_T28 HR0_3.out x5_2 p155 q155
          have hw155_3 := hx155_3
          have hw155_2 := hx155_2
          have hw155_1 := hx155_1
          have hw155_0 := hx155_0
          cases e155
          replace hx155_0 := bcell HB.out hx155_0
          replace hx155_1 := bcell HB.out hx155_1
          replace hx155_2 := bcell HB.out hx155_2
          replace hx155_3 := bcell HB.out hx155_3
          have HR155_3 := Aside0.mk hi155_3
          have HC155_3 := Aside0.mk hl155_3
          clear hi155_3 hl155_3
          replace p155 := eq_true p155
          replace q155 := eq_true q155
          have p156 : 0 ≤ (x5_2 : Int) := of_decide_eq_true (by first | (with_reducible assumption) | assumption)
          have q156 : x5_2 < (l1_3.length : Int) := of_decide_eq_true (by first | (with_reducible assumption) | assumption)
          obtain ⟨ad156, A156_3, c156_3, e156, hx156_0, hx156_1, hx156_2, hx156_3, hl156_3, hi156_3⟩ := at_T28 HR1_3.out x5_2 p156 q156
          have hw156_3 := hx156_3
          have hw156_2 := hx156_2
          have hw156_1 := hx156_1
          have hw156_0 := hx156_0
          cases e156
          replace hx156_0 := bcell HB.out hx156_0
          replace hx156_1 := bcell HB.out hx156_1
          replace hx156_2 := bcell HB.out hx156_2
          replace hx156_3 := bcell HB.out hx156_3
          have HR156_3 := Aside0.mk hi156_3
          have HC156_3 := Aside0.mk hl156_3
          clear hi156_3 hl156_3
          replace p156 := eq_true p156
          replace q156 := eq_true q156
          refine start_ (n := 12) (S := fun w' => w'.cell? ⟨gb153, 0, none⟩ = some (.int .i64 a0_0) ∧ w'.cell? ⟨gb153, 1, none⟩ = some (.int .i64 a0_1) ∧ w'.cell? ⟨gb153, 2, none⟩ = some (.int .i64 a0_2) ∧ w'.cell? ⟨gb153, 3, none⟩ = some (.slice (some ad155) l0_3.length c0_3) ∧ w'.cell? ⟨gb154, 0, none⟩ = some (.int .i64 a1_0) ∧ w'.cell? ⟨gb154, 1, none⟩ = some (.int .i64 a1_1) ∧ w'.cell? ⟨gb154, 2, none⟩ = some (.int .i64 a1_2) ∧ w'.cell? ⟨gb154, 3, none⟩ = some (.slice (some ad156) l1_3.length c1_3) ∧ w'.cell? (ad155.add ((x5_2).toNat * 4)) = some (.int .i64 ((rd_T28 l0_3 x5_2).f0)) ∧ w'.cell? ⟨(ad155.add ((x5_2).toNat * 4)).block, (ad155.add ((x5_2).toNat * 4)).off + 1, none⟩ = some (.int .i64 ((rd_T28 l0_3 x5_2).f1)) ∧ w'.cell? ⟨(ad155.add ((x5_2).toNat * 4)).block, (ad155.add ((x5_2).toNat * 4)).off + 2, none⟩ = some (.int .i64 ((rd_T28 l0_3 x5_2).f2)) ∧ w'.cell? ⟨(ad155.add ((x5_2).toNat * 4)).block, (ad155.add ((x5_2).toNat * 4)).off + 3, none⟩ = some (.slice A155_3 ((rd_T28 l0_3 x5_2).f3).length c155_3) ∧ w'.cell? (ad156.add ((x5_2).toNat * 4)) = some (.int .i64 ((rd_T28 l1_3 x5_2).f0)) ∧ w'.cell? ⟨(ad156.add ((x5_2).toNat * 4)).block, (ad156.add ((x5_2).toNat * 4)).off + 1, none⟩ = some (.int .i64 ((rd_T28 l1_3 x5_2).f1)) ∧ w'.cell? ⟨(ad156.add ((x5_2).toNat * 4)).block, (ad156.add ((x5_2).toNat * 4)).off + 2, none⟩ = some (.int .i64 ((rd_T28 l1_3 x5_2).f2)) ∧ w'.cell? ⟨(ad156.add ((x5_2).toNat * 4)).block, (ad156.add ((x5_2).toNat * 4)).off + 3, none⟩ = some (.slice A156_3 ((rd_T28 l1_3 x5_2).f3).length c156_3)) (ds := []) #[false, false, false, false, false, false, false, false, false, false, false, false] (by kernel_rfl) rfl rfl ⟨(blk_cell BK153.out 0).trans rfl, (blk_cell BK153.out 1).trans rfl, (blk_cell BK153.out 2).trans rfl, (blk_cell BK153.out 3).trans rfl, (blk_cell BK154.out 0).trans rfl, (blk_cell BK154.out 1).trans rfl, (blk_cell BK154.out 2).trans rfl, (blk_cell BK154.out 3).trans rfl, (bcell HB.out hw155_0), (bcell HB.out hw155_1), (bcell HB.out hw155_2), (bcell HB.out hw155_3), (bcell HB.out hw156_0), (bcell HB.out hw156_1), (bcell HB.out hw156_2), (bcell HB.out hw156_3)⟩ (fun hHeld => ?_); refine with_tabW r2_Same.tab6 r2_Same.bits6 (fun HT_ HW_ => ?_)
          generalize wr.drew = w33 at BK153 BK154 HB HR155_3 HR156_3 hx155_0 hx155_1 hx155_2 hx155_3 hx156_0 hx156_1 hx156_2 hx156_3 hHeld ⊢
          refine pure_ (i := 0) (N := some 41) (v := ?_) (a' := ?_) #[true, false, false, false, false, false, false, false, false, false, false, false] rfl rfl (any_of HT_.out (by kernel_rfl)) (fun _ _ _ h => h) (Or.inl ⟨by rfl, ?_⟩) ?_ ?_
          rotate_left
          ·intro w'
           go_simp
           with_reducible rfl
          rotate_left
          ·simp only [Act.put, List.setIfInBounds_toArray, List.set_cons_zero, List.set_cons_succ, i64_w, i32_w]
           rfl
          refine pure_ (i := 2) (N := some 43) (v := ?_) (a' := ?_) #[true, false, true, false, false, false, false, false, false, false, false, false] rfl rfl (any_of HT_.out (by kernel_rfl)) (fun _ _ _ h => h) (Or.inl ⟨by rfl, ?_⟩) ?_ ?_
          rotate_left
          ·intro w'
           go_simp
           with_reducible rfl
          rotate_left
          ·simp only [Act.put, List.setIfInBounds_toArray, List.set_cons_zero, List.set_cons_succ, i64_w, i32_w]
           rfl
          refine pure_ (i := 5) (N := some 46) (v := ?_) (a' := ?_) #[true, false, true, false, false, true, false, false, false, false, false, false] rfl rfl (any_of HT_.out (by kernel_rfl)) (fun _ _ _ h => h) (Or.inl ⟨by rfl, ?_⟩) ?_ ?_
          rotate_left
          ·intro w'
           go_simp
           with_reducible rfl
          rotate_left
          ·simp only [Act.put, List.setIfInBounds_toArray, List.set_cons_zero, List.set_cons_succ, i64_w, i32_w]
           rfl
          refine pure_ (i := 7) (N := some 48) (v := ?_) (a' := ?_) #[true, false, true, false, false, true, false, true, false, false, false, false] rfl rfl (any_of HT_.out (by kernel_rfl)) (fun _ _ _ h => h) (Or.inl ⟨by rfl, ?_⟩) ?_ ?_
          rotate_left
          ·intro w'
           go_simp
           with_reducible rfl
          rotate_left
          ·simp only [Act.put, List.setIfInBounds_toArray, List.set_cons_zero, List.set_cons_succ, i64_w, i32_w]
           rfl
          refine take_ (i := 1) (N := some 42) (v := ?_) (a' := ?_) #[true, true, true, false, false, true, false, true, false, false, false, false] rfl rfl (take_ofW HT_.out HW_.out (by kernel_rfl)) (fun _ _ _ h => h) (Or.inl ⟨by rfl, ?_⟩) hHeld ?_ ?_
          rotate_left
          ·rintro w' ⟨s0, s1, s2, s3, s4, s5, s6, s7, s8, s9, s10, s11, s12, s13, s14, s15⟩
           go_simp
           with_reducible rfl
          rotate_left
          ·simp only [Act.put, List.setIfInBounds_toArray, List.set_cons_zero, List.set_cons_succ, i64_w, i32_w]
           rfl
          refine pure_ (i := 3) (N := some 44) (v := ?_) (a' := ?_) #[true, true, true, true, false, true, false, true, false, false, false, false] rfl rfl (any_of HT_.out (by kernel_rfl)) (fun _ _ _ h => h) (Or.inl ⟨by rfl, ?_⟩) ?_ ?_
          rotate_left
          ·intro w'
           go_simp
           with_reducible rfl
          rotate_left
          ·simp only [Act.put, List.setIfInBounds_toArray, List.set_cons_zero, List.set_cons_succ, i64_w, i32_w]
           rfl
          refine take_ (i := 4) (N := some 45) (v := ?_) (a' := ?_) #[true, true, true, true, true, true, false, true, false, false, false, false] rfl rfl (take_ofW HT_.out HW_.out (by kernel_rfl)) (fun _ _ _ h => h) (Or.inl ⟨by rfl, ?_⟩) hHeld ?_ ?_
          rotate_left
          ·rintro w' ⟨s0, s1, s2, s3, s4, s5, s6, s7, s8, s9, s10, s11, s12, s13, s14, s15⟩
           go_simp
           with_reducible rfl
          rotate_left
          ·simp only [Act.put, List.setIfInBounds_toArray, List.set_cons_zero, List.set_cons_succ, i64_w, i32_w]
           rfl
          refine take_ (i := 6) (N := some 47) (v := ?_) (a' := ?_) #[true, true, true, true, true, true, true, true, false, false, false, false] rfl rfl (take_ofW HT_.out HW_.out (by kernel_rfl)) (fun _ _ _ h => h) (Or.inl ⟨by rfl, ?_⟩) hHeld ?_ ?_
          rotate_left
          ·rintro w' ⟨s0, s1, s2, s3, s4, s5, s6, s7, s8, s9, s10, s11, s12, s13, s14, s15⟩
           go_simp
           with_reducible rfl
          rotate_left
          ·simp only [Act.put, List.setIfInBounds_toArray, List.set_cons_zero, List.set_cons_succ, i64_w, i32_w]
           rfl
          refine pure_ (i := 8) (N := some 49) (v := ?_) (a' := ?_) #[true, true, true, true, true, true, true, true, true, false, false, false] rfl rfl (any_of HT_.out (by kernel_rfl)) (fun _ _ _ h => h) (Or.inl ⟨by rfl, ?_⟩) ?_ ?_
          rotate_left
          ·intro w'
           go_simp
           with_reducible rfl
          rotate_left
          ·simp only [Act.put, List.setIfInBounds_toArray, List.set_cons_zero, List.set_cons_succ, i64_w, i32_w]
           rfl
          refine take_ (i := 9) (N := some 50) (v := ?_) (a' := ?_) #[true, true, true, true, true, true, true, true, true, true, false, false] rfl rfl (take_ofW HT_.out HW_.out (by kernel_rfl)) (fun _ _ _ h => h) (Or.inl ⟨by rfl, ?_⟩) hHeld ?_ ?_
          rotate_left
          ·rintro w' ⟨s0, s1, s2, s3, s4, s5, s6, s7, s8, s9, s10, s11, s12, s13, s14, s15⟩
           go_simp
           with_reducible rfl
          rotate_left
          ·simp only [Act.put, List.setIfInBounds_toArray, List.set_cons_zero, List.set_cons_succ, i64_w, i32_w]
           rfl
          refine one_ (i := 10) (N := some 51) #[true, true, true, true, true, true, true, true, true, true, true, false] rfl rfl (one_of HT_.out (by kernel_rfl)) (by decide) (fun K hK => ?_)
          refine goes_ Try.func14 (by kernel_rfl) rfl #[.agg #[.int .i64 ((rd_T28 l0_3 x5_2).f0), .int .i64 ((rd_T28 l0_3 x5_2).f1), .int .i64 ((rd_T28 l0_3 x5_2).f2), .slice A155_3 ((rd_T28 l0_3 x5_2).f3).length c155_3], .agg #[.int .i64 ((rd_T28 l1_3 x5_2).f0), .int .i64 ((rd_T28 l1_3 x5_2).f1), .int .i64 ((rd_T28 l1_3 x5_2).f2), .slice A156_3 ((rd_T28 l1_3 x5_2).f3).length c156_3]] (by rfl) rfl rfl (by (try simp only [List.map_toArray, List.map_cons, List.map_nil]); first | done | rfl | (simp only [List.length_drop, List.length_take]; rfl)) ?_
          with_reducible refine (ih k2 (by have := HJ2.out; have := HK2.out; omega) ((rd_T28 l0_3 x5_2).f0) ((rd_T28 l0_3 x5_2).f1) ((rd_T28 l0_3 x5_2).f2) _ _ ((rd_T28 l0_3 x5_2).f3) ((rd_T28 l1_3 x5_2).f0) ((rd_T28 l1_3 x5_2).f1) ((rd_T28 l1_3 x5_2).f2) _ _ ((rd_T28 l1_3 x5_2).f3) false _ ?side1 ?side2 ?side3 ?side4 A25.out).mono ?_
          (case side1 => repeat (first | exact (Kd.C_below HR155_3.out HB.out) | with_reducible first | apply Kd.C_alloc | apply Kd.C_drewN | apply Kd.C_drew))
          (case side2 => exact HC155_3.out)
          (case side3 => repeat (first | exact (Kd.C_below HR156_3.out HB.out) | with_reducible first | apply Kd.C_alloc | apply Kd.C_drewN | apply Kd.C_drew))
          (case side4 => exact HC156_3.out)
          rintro e w34 ⟨rfl, hb⟩
          refine ⟨_, rfl, ?_⟩
          have n0_ := Aside0.mk (blk_below (g := gb153) (o := .cells #[.int .i64 a0_0, .int .i64 a0_1, .int .i64 a0_2, .slice (some ad155) l0_3.length c0_3] 28 (0, 0)) (by (with_reducible repeat (first | refine kdN ?_ _ | refine kdr ?_ | refine kal ?_ _)); exact BK153.out) hb)
          have n1_ := Aside0.mk (blk_below (g := gb154) (o := .cells #[.int .i64 a1_0, .int .i64 a1_1, .int .i64 a1_2, .slice (some ad156) l1_3.length c1_3] 28 (0, 0)) (by (with_reducible repeat (first | refine kdN ?_ _ | refine kdr ?_ | refine kal ?_ _)); exact BK154.out) hb)
          have n2_ := Aside0.mk (bsp (by repeat (first | (with_reducible first | exact HB.out | apply bal | apply bdN | apply bd1 | refine bst ?_ GE153.out | refine bst ?_ GE154.out) | exact HB.out)) hb)
          clear BK153
          clear BK154
          clear HB
          have BK153 := n0_
          have BK154 := n1_
          have HB := n2_
          clear n0_ n1_ n2_
          (try clear hb)
          (try clear hb2)
          (try clear hk)
          (try clear hi)
          refine hK.out _ _ ⟨(blk_cell BK153.out 0).trans rfl, (blk_cell BK153.out 1).trans rfl, (blk_cell BK153.out 2).trans rfl, (blk_cell BK153.out 3).trans rfl, (blk_cell BK154.out 0).trans rfl, (blk_cell BK154.out 1).trans rfl, (blk_cell BK154.out 2).trans rfl, (blk_cell BK154.out 3).trans rfl, (bcell HB.out hw155_0), (bcell HB.out hw155_1), (bcell HB.out hw155_2), (bcell HB.out hw155_3), (bcell HB.out hw156_0), (bcell HB.out hw156_1), (bcell HB.out hw156_2), (bcell HB.out hw156_3)⟩ (fun hHeld => ?_)
          clear hK K
          refine norm_ (a' := ?_) ?_ ?_
          rotate_left
          ·show Act.put _ (some 51) _ = _
           simp only [Act.put, List.setIfInBounds_toArray, List.set_cons_zero, List.set_cons_succ, i64_w, i32_w]
           rfl
          refine pure_ (i := 11) (N := some 52) (v := ?_) (a' := ?_) #[true, true, true, true, true, true, true, true, true, true, true, true] rfl rfl (any_of HT_.out (by kernel_rfl)) (fun _ _ _ h => h) (Or.inl ⟨by rfl, ?_⟩) ?_ ?_
          rotate_left
          ·intro w'
           go_simp
           with_reducible rfl
          rotate_left
          ·simp only [Act.put, List.setIfInBounds_toArray, List.set_cons_zero, List.set_cons_succ, i64_w, i32_w]
           rfl
          refine done_ (done_of HT_.out (by kernel_rfl)) ?_
          try go_wp2
          go_ret
          exact ⟨by first | rfl | (simp [*] <;> rfl), by repeat (first | (with_reducible first | exact HB.out | apply bal | apply bdN | apply bd1 | refine bst ?_ GE153.out | refine bst ?_ GE154.out) | exact HB.out)⟩
        ·rw [if_neg c24] at H
         exact absurd H (by simp)
       ·rw [if_neg c23] at H
        exact absurd H (by simp)
      ·rw [if_neg c22] at H
       have c22b0 : decide (x5_2 < (l0_3.length : Int)) = false := decide_eq_false c22
       clear c22
       obtain rfl := Option.some.inj H
       have hnb35 := NB153_154.out
       have hnc35 := NB154_153.out
       obtain ⟨hcz36_0, hcz36_1, hcz36_2, hcz36_3, hfz36_0, hfz36_1, hfz36_2, hfz36_3⟩ := cf4 BK153.out
       go_wp2
       go_ret
       exact ⟨by first | rfl | (simp [*] <;> rfl), by repeat (first | (with_reducible first | exact HB.out | apply bal | apply bdN | apply bd1 | refine bst ?_ GE153.out | refine bst ?_ GE154.out) | exact HB.out)⟩
def r1_Same.l0 : Nat → List Int → List Int → Int → Option (Bool)
 | 0, _, _, _ => none
 | k + 1, x0, x1, x5 => if x5 < (x0.length : Int) then (if 0 ≤ x5 then (if x5 < (x1.length : Int) then (if (rd x0 x5) = (rd x1 x5) then (r1_Same.l0 k x0 x1 (wrap64 (x5 + 1))) else (some false)) else (none)) else (none)) else (some true)
def r1_Same.f (k : Nat) (l0 : List Int) (l1 : List Int) : Option (Bool) := if (l0.length : Int) = (l1.length : Int) then (r1_Same.l0 k l0 l1 0) else (some false)
set_option maxHeartbeats 8000000 in
set_option maxRecDepth 100000 in
theorem r1_Same.calls (k : Nat) (A0 : Option Addr) (c0 : Nat) (l0 : List Int) (A1 : Option Addr) (c1 : Nat) (l1 : List Int) (r : Bool) (w : World) (hr0 : Kd.C (Kd.int .i64) w A0 l0.length l0) (hc0 : l0.length ≤ c0) (hr1 : Kd.C (Kd.int .i64) w A1 l1.length l1) (hc1 : l1.length ≤ c1) (h : r1_Same.f k l0 l1 = some r) :
  Calls Try.prog 35 #[.slice A0 l0.length c0, .slice A1 l1.length c1] w fun e w' => e = .returned (.bool r) ∧ Drawn0 w w' := by
 have HR0 := Aside0.mk hr0
 have HC0 := Aside0.mk hc0
 clear hr0 hc0
 have HR1 := Aside0.mk hr1
 have HC1 := Aside0.mk hc1
 clear hr1 hc1
 have H : (if (l0.length : Int) = (l1.length : Int) then (r1_Same.l0 k l0 l1 0) else (some false)) = some r := h
 clear h
 by_cases c3 : (l0.length : Int) = (l1.length : Int)
 ·rw [if_pos c3] at H
  have c3b0 : ((l0.length : Int) == (l1.length : Int)) = true := beq_iff_eq.mpr c3
  have c3b1 : ((l0.length : Int) != (l1.length : Int)) = false := bne_eq_false_iff_eq.mpr c3
  have c3b2 : (l0.length == l1.length) = true := by first | simpa using c3 | (simp at c3 ⊢; omega)
  clear c3
  have H' := Aside0.mk H
  clear H
  go_enter Try.func35, Try.ntmps35
  go_wp2
  repeat (go_quiet (fail); try go_wp2)
  go_loopg [5] k (fun kq v5 w' => ∃ (x5_1 : Int), v5 = .int .i64 x5_1 ∧ Aside0 (r1_Same.l0 kq l0 l1 x5_1 = some r) ∧ Aside0 (kq ≤ k) ∧ Drawn0 w w')
  case atStart => exact ⟨(0), (by first | rfl | (simp; done) | (simp [*]; done)), H', ⟨Nat.le_refl _⟩, by repeat (first | exact Drawn0.refl _ | apply Drawn0.step)⟩
  case round =>
   clear H'
   try clear c1
   try clear p2
   try clear c3
   try clear c3b0
   try clear c3b1
   try clear c3b2
   obtain ⟨x5_1, rfl, HA, HK1, ⟨m1, rfl⟩⟩ := hrel
   cases gk with
   | zero => exact absurd HA.out (by simp [r1_Same.l0])
   | succ k1 =>
    have H := HA.out
    clear HA
    simp only [r1_Same.l0] at H
    by_cases c4 : x5_1 < (l0.length : Int)
    ·rw [if_pos c4] at H
     have c4b0 : decide (x5_1 < (l0.length : Int)) = true := decide_eq_true c4
     clear c4
     by_cases c5 : 0 ≤ x5_1
     ·rw [if_pos c5] at H
      have c5b0 : decide (0 ≤ x5_1) = true := decide_eq_true c5
      clear c5
      by_cases c6 : x5_1 < (l1.length : Int)
      ·rw [if_pos c6] at H
       have c6b0 : decide (x5_1 < (l1.length : Int)) = true := decide_eq_true c6
       clear c6
       by_cases c7 : (rd l0 x5_1) = (rd l1 x5_1)
       ·rw [if_pos c7] at H
        have c7b0 : ((rd l0 x5_1) == (rd l1 x5_1)) = true := beq_iff_eq.mpr c7
        have c7b1 : ((rd l0 x5_1) != (rd l1 x5_1)) = false := bne_eq_false_iff_eq.mpr c7
        clear c7
        have H' := Aside0.mk H
        clear H
        have p245 : 0 ≤ (x5_1 : Int) := of_decide_eq_true (by first | (with_reducible assumption) | assumption)
        have q245 : x5_1 < (l0.length : Int) := of_decide_eq_true (by first | (with_reducible assumption) | assumption)
        obtain ⟨ad245, e245, hx245_0⟩ := Kd.at_int HR0.out x5_1 p245 q245
        cases e245
        replace p245 := eq_true p245
        replace q245 := eq_true q245
        have p246 : 0 ≤ (x5_1 : Int) := of_decide_eq_true (by first | (with_reducible assumption) | assumption)
        have q246 : x5_1 < (l1.length : Int) := of_decide_eq_true (by first | (with_reducible assumption) | assumption)
        obtain ⟨ad246, e246, hx246_0⟩ := Kd.at_int HR1.out x5_1 p246 q246
        cases e246
        replace p246 := eq_true p246
        replace q246 := eq_true q246
        go_wp2
        repeat (go_quiet (fail); try go_wp2)
        go_roundg k1
        case measure => have := HK1.out; omega
        case rel => exact ⟨(wrap64 (x5_1 + 1)), (by first | rfl | (simp; done) | (simp [*]; done)), H', ⟨by have := HK1.out; omega⟩, by repeat (first | exact Drawn0.refl _ | apply Drawn0.step)⟩
       ·rw [if_neg c7] at H
        have c7b0 : ((rd l0 x5_1) == (rd l1 x5_1)) = false := beq_eq_false_iff_ne.mpr c7
        have c7b1 : ((rd l0 x5_1) != (rd l1 x5_1)) = true := bne_iff_ne.mpr c7
        obtain rfl := Option.some.inj H
        have p245 : 0 ≤ (x5_1 : Int) := of_decide_eq_true (by first | (with_reducible assumption) | assumption)
        have q245 : x5_1 < (l0.length : Int) := of_decide_eq_true (by first | (with_reducible assumption) | assumption)
        obtain ⟨ad245, e245, hx245_0⟩ := Kd.at_int HR0.out x5_1 p245 q245
        cases e245
        replace p245 := eq_true p245
        replace q245 := eq_true q245
        have p246 : 0 ≤ (x5_1 : Int) := of_decide_eq_true (by first | (with_reducible assumption) | assumption)
        have q246 : x5_1 < (l1.length : Int) := of_decide_eq_true (by first | (with_reducible assumption) | assumption)
        obtain ⟨ad246, e246, hx246_0⟩ := Kd.at_int HR1.out x5_1 p246 q246
        cases e246
        replace p246 := eq_true p246
        replace q246 := eq_true q246
        go_wp2
        repeat (go_quiet (fail); try go_wp2)
        go_ret
        exact ⟨by first | rfl | (simp; done) | (simp [*]; done), by repeat (first | exact Drawn0.refl _ | apply Drawn0.step)⟩
      ·rw [if_neg c6] at H
       exact absurd H (by simp)
     ·rw [if_neg c5] at H
      exact absurd H (by simp)
    ·rw [if_neg c4] at H
     have c4b0 : decide (x5_1 < (l0.length : Int)) = false := decide_eq_false c4
     clear c4
     obtain rfl := Option.some.inj H
     go_wp2
     repeat (go_quiet (fail); try go_wp2)
     go_ret
     exact ⟨by first | rfl | (simp; done) | (simp [*]; done), by repeat (first | exact Drawn0.refl _ | apply Drawn0.step)⟩
 ·rw [if_neg c3] at H
  have c3b0 : ((l0.length : Int) == (l1.length : Int)) = false := beq_eq_false_iff_ne.mpr c3
  have c3b1 : ((l0.length : Int) != (l1.length : Int)) = true := bne_iff_ne.mpr c3
  have c3b2 : (l0.length == l1.length) = false := by first | simpa using c3 | (simp at c3 ⊢; omega)
  obtain rfl := Option.some.inj H
  go_enter Try.func35, Try.ntmps35
  go_wp2
  repeat (go_quiet (fail); try go_wp2)
  go_ret
  exact ⟨by first | rfl | (simp; done) | (simp [*]; done), by repeat (first | exact Drawn0.refl _ | apply Drawn0.step)⟩
theorem eqA74 (d : Nat) (w : World) (x0 y0 : Int) (x1 y1 : Int) :
  (Op.equalIn (d + 2) 74 (.agg #[.int .i64 x0, .int .i64 x1]) (.agg #[.int .i64 y0, .int .i64 y1])).run Try.prog w = .ok (x0 == y0 && (x1 == y1)) w := by
 refine eqA_of Try.underlying74 (by kernel_rfl) ?_
 refine eqf_cons (by rfl) (by go_simp; rfl) (by go_simp; rfl) (by go_simp) ?_
 exact eqf_last (by rfl) (by go_simp; rfl) (by go_simp; rfl) (by go_simp)
end Go.Proofs.Ytilebfkehmecaaa.Print
namespace Go.Proofs.Ytilebfkehmecaaa.Print
open Go.RowKit Go.Proofs.YtilebfkehmecaaaW.PrintWords Go.Proofs.YtilebfkehmecaaaW.PrintLast Go.Proofs.YtilebfkehmecaaaW.PrintMore
attribute [local go_sem] max2_int min2_int max_two min_two max_three min_three max_four min_four
set_option linter.unusedVariables false
set_option linter.unusedSimpArgs false
attribute [local go_sem high] eqA74
def r5_Outs.l0 : Nat → List (S74) → List (S74) → Int → Option (Bool)
 | 0, _, _, _ => none
 | k + 1, x0, x1, x5 => if x5 < (x0.length : Int) then (if 0 ≤ x5 then (if x5 < (x1.length : Int) then (if (!(((rd_T74 x0 x5).f0) == ((rd_T74 x1 x5).f0)) || (!(((rd_T74 x0 x5).f1) == ((rd_T74 x1 x5).f1)))) = true then (some false) else (r5_Outs.l0 k x0 x1 (wrap64 (x5 + 1)))) else (none)) else (none)) else (some true)
def r5_Outs.f (k : Nat) (l0 : List (S74)) (l1 : List (S74)) : Option (Bool) := if (l0.length : Int) = (l1.length : Int) then (r5_Outs.l0 k l0 l1 0) else (some false)
set_option maxHeartbeats 8000000 in
set_option maxRecDepth 100000 in
theorem r5_Outs.calls (k : Nat) (A0 : Option Addr) (c0 : Nat) (l0 : List (S74)) (A1 : Option Addr) (c1 : Nat) (l1 : List (S74)) (r : Bool) (w : World) (hr0 : Kd.C k74 w A0 l0.length l0) (hc0 : l0.length ≤ c0) (hr1 : Kd.C k74 w A1 l1.length l1) (hc1 : l1.length ≤ c1) (h : r5_Outs.f k l0 l1 = some r) :
  Calls Try.prog 15 #[.slice A0 l0.length c0, .slice A1 l1.length c1] w fun e w' => e = .returned (.bool r) ∧ Drawn0 w w' := by
 have hu74 := Try.underlying74
 have HR0 := Aside0.mk hr0
 have HC0 := Aside0.mk hc0
 clear hr0 hc0
 have HR1 := Aside0.mk hr1
 have HC1 := Aside0.mk hc1
 clear hr1 hc1
 have H : (if (l0.length : Int) = (l1.length : Int) then (r5_Outs.l0 k l0 l1 0) else (some false)) = some r := h
 clear h
 by_cases c3 : (l0.length : Int) = (l1.length : Int)
 ·rw [if_pos c3] at H
  have c3b0 : ((l0.length : Int) == (l1.length : Int)) = true := beq_iff_eq.mpr c3
  have c3b1 : ((l0.length : Int) != (l1.length : Int)) = false := bne_eq_false_iff_eq.mpr c3
  have c3b2 : (l0.length == l1.length) = true := by first | simpa using c3 | (simp at c3 ⊢; omega)
  clear c3
  have H' := Aside0.mk H
  clear H
  go_enter Try.func15, Try.ntmps15
  go_wp2
  repeat (go_quiet (fail); try go_wp2)
  go_loopg [5] k (fun kq v5 w' => ∃ (x5_1 : Int), v5 = .int .i64 x5_1 ∧ Aside0 (r5_Outs.l0 kq l0 l1 x5_1 = some r) ∧ Aside0 (kq ≤ k) ∧ Drawn0 w w')
  case atStart => exact ⟨(0), (by first | rfl | (simp; done) | (simp [*]; done)), H', ⟨Nat.le_refl _⟩, by repeat (first | exact Drawn0.refl _ | apply Drawn0.step)⟩
  case round =>
   clear H'
   try clear c1
   try clear p2
   try clear c3
   try clear c3b0
   try clear c3b1
   try clear c3b2
   obtain ⟨x5_1, rfl, HA, HK1, ⟨m1, rfl⟩⟩ := hrel
   cases gk with
   | zero => exact absurd HA.out (by simp [r5_Outs.l0])
   | succ k1 =>
    have H := HA.out
    clear HA
    simp only [r5_Outs.l0] at H
    by_cases c4 : x5_1 < (l0.length : Int)
    ·rw [if_pos c4] at H
     have c4b0 : decide (x5_1 < (l0.length : Int)) = true := decide_eq_true c4
     clear c4
     by_cases c5 : 0 ≤ x5_1
     ·rw [if_pos c5] at H
      have c5b0 : decide (0 ≤ x5_1) = true := decide_eq_true c5
      clear c5
      by_cases c6 : x5_1 < (l1.length : Int)
      ·rw [if_pos c6] at H
       have c6b0 : decide (x5_1 < (l1.length : Int)) = true := decide_eq_true c6
       clear c6
       by_cases c7 : (!(((rd_T74 l0 x5_1).f0) == ((rd_T74 l1 x5_1).f0)) || (!(((rd_T74 l0 x5_1).f1) == ((rd_T74 l1 x5_1).f1)))) = true
       ·rw [if_pos c7] at H
        have c7b0 : (!(((rd_T74 l0 x5_1).f0) == ((rd_T74 l1 x5_1).f0)) || (!(((rd_T74 l0 x5_1).f1) == ((rd_T74 l1 x5_1).f1)))) = true := c7
        clear c7
        obtain rfl := Option.some.inj H
        have p158 : 0 ≤ (x5_1 : Int) := of_decide_eq_true (by first | (with_reducible assumption) | assumption)
        have q158 : x5_1 < (l0.length : Int) := of_decide_eq_true (by first | (with_reducible assumption) | assumption)
        obtain ⟨ad158, e158, hx158_0, hx158_1⟩ := at_T74 HR0.out x5_1 p158 q158
        cases e158
        replace p158 := eq_true p158
        replace q158 := eq_true q158
        have p159 : 0 ≤ (x5_1 : Int) := of_decide_eq_true (by first | (with_reducible assumption) | assumption)
        have q159 : x5_1 < (l1.length : Int) := of_decide_eq_true (by first | (with_reducible assumption) | assumption)
        obtain ⟨ad159, e159, hx159_0, hx159_1⟩ := at_T74 HR1.out x5_1 p159 q159
        cases e159
        replace p159 := eq_true p159
        replace q159 := eq_true q159
        go_wp2
        repeat (go_quiet (fail); try go_wp2)
        go_ret
        exact ⟨by first | rfl | (simp; done) | (simp [*]; done), by repeat (first | exact Drawn0.refl _ | apply Drawn0.step)⟩
       ·rw [if_neg c7] at H
        have c7b0 : (!(((rd_T74 l0 x5_1).f0) == ((rd_T74 l1 x5_1).f0)) || (!(((rd_T74 l0 x5_1).f1) == ((rd_T74 l1 x5_1).f1)))) = false := by simpa using c7
        clear c7
        have H' := Aside0.mk H
        clear H
        have p158 : 0 ≤ (x5_1 : Int) := of_decide_eq_true (by first | (with_reducible assumption) | assumption)
        have q158 : x5_1 < (l0.length : Int) := of_decide_eq_true (by first | (with_reducible assumption) | assumption)
        obtain ⟨ad158, e158, hx158_0, hx158_1⟩ := at_T74 HR0.out x5_1 p158 q158
        cases e158
        replace p158 := eq_true p158
        replace q158 := eq_true q158
        have p159 : 0 ≤ (x5_1 : Int) := of_decide_eq_true (by first | (with_reducible assumption) | assumption)
        have q159 : x5_1 < (l1.length : Int) := of_decide_eq_true (by first | (with_reducible assumption) | assumption)
        obtain ⟨ad159, e159, hx159_0, hx159_1⟩ := at_T74 HR1.out x5_1 p159 q159
        cases e159
        replace p159 := eq_true p159
        replace q159 := eq_true q159
        go_wp2
        repeat (go_quiet (fail); try go_wp2)
        go_roundg k1
        case measure => have := HK1.out; omega
        case rel => exact ⟨(wrap64 (x5_1 + 1)), (by first | rfl | (simp; done) | (simp [*]; done)), H', ⟨by have := HK1.out; omega⟩, by repeat (first | exact Drawn0.refl _ | apply Drawn0.step)⟩
      ·rw [if_neg c6] at H
       exact absurd H (by simp)
     ·rw [if_neg c5] at H
      exact absurd H (by simp)
    ·rw [if_neg c4] at H
     have c4b0 : decide (x5_1 < (l0.length : Int)) = false := decide_eq_false c4
     clear c4
     obtain rfl := Option.some.inj H
     go_wp2
     repeat (go_quiet (fail); try go_wp2)
     go_ret
     exact ⟨by first | rfl | (simp; done) | (simp [*]; done), by repeat (first | exact Drawn0.refl _ | apply Drawn0.step)⟩
 ·rw [if_neg c3] at H
  have c3b0 : ((l0.length : Int) == (l1.length : Int)) = false := beq_eq_false_iff_ne.mpr c3
  have c3b1 : ((l0.length : Int) != (l1.length : Int)) = true := bne_iff_ne.mpr c3
  have c3b2 : (l0.length == l1.length) = false := by first | simpa using c3 | (simp at c3 ⊢; omega)
  obtain rfl := Option.some.inj H
  go_enter Try.func15, Try.ntmps15
  go_wp2
  repeat (go_quiet (fail); try go_wp2)
  go_ret
  exact ⟨by first | rfl | (simp; done) | (simp [*]; done), by repeat (first | exact Drawn0.refl _ | apply Drawn0.step)⟩
end Go.Proofs.Ytilebfkehmecaaa.Print
namespace Go.Proofs.Ytilebfkehmecaaa.Print
open Go.RowKit Go.Proofs.YtilebfkehmecaaaW.PrintWords Go.Proofs.YtilebfkehmecaaaW.PrintLast Go.Proofs.YtilebfkehmecaaaW.PrintMore
attribute [local go_sem] max2_int min2_int max_two min_two max_three min_three max_four min_four
set_option linter.unusedVariables false
set_option linter.unusedSimpArgs false
def aw_r (a b : Int) : S28 := ⟨1, a, b, []⟩
def aw_vars : List S66 := [⟨⟨#[104]⟩, 1, 1⟩, ⟨⟨#[108]⟩, 0, 1⟩]
def aw_body : List S64 := [⟨0, 0, [aw_r 1 0], [], []⟩, ⟨3, 2, [aw_r 0 0], [], []⟩]
def aw_qv : List S66 := [⟨⟨#[104, 95, 48]⟩, 1, 1⟩, ⟨⟨#[108, 95, 48]⟩, 0, 1⟩, ⟨⟨#[104, 95, 49]⟩, 17, 1⟩, ⟨⟨#[108, 95, 49]⟩, 16, 1⟩]
def aw_qb : List S64 := [⟨0, 0, [aw_r 1 0], [], []⟩, ⟨3, 2, [aw_r 0 0], [], []⟩, ⟨0, 2, [aw_r 3 0], [], []⟩, ⟨3, 18, [aw_r 2 0], [], []⟩]
set_option maxRecDepth 100000 in
theorem aw_read (a b : Int) : r2_Read.f a b = some (1, a, b, []) := rfl
set_option maxRecDepth 100000 in
theorem aw_of : r2_Of.f 13 [aw_r 0 0, aw_r 1 1] = some (13, 0, 0, [aw_r 0 0, aw_r 1 1]) := by kernel_rfl
set_option maxRecDepth 100000 in
theorem aw_of2 : r2_Of.f 13 [aw_r 0 0, aw_r 3 0] = some (13, 0, 0, [aw_r 0 0, aw_r 3 0]) := by kernel_rfl
set_option maxRecDepth 100000 in
theorem aw_self : prod_Self.f 60 2 aw_vars aw_body 2 = some (2, aw_qv, aw_qb, 0) := by kernel_rfl
set_option maxRecDepth 100000 in
theorem aw_plain : prod_Plain.f 60 2 aw_vars aw_body 2 13 0 0 [aw_r 0 0, aw_r 1 1] = some (13, 0, 0, [aw_r 0 0, aw_r 3 0], 0) := by kernel_rfl
set_option maxRecDepth 100000 in
theorem aw_join : prod_Join.f 60 2 aw_vars aw_body [[1, 2], [3, 0]] = some ([1, 2, 3, 0], 0) := by kernel_rfl
set_option maxRecDepth 100000 in
theorem aw_copy : prod_Copy.f 60 2 aw_vars aw_body 3 = some (0, [], [], 1) := by kernel_rfl
set_option maxRecDepth 100000 in
theorem aw_told : prod_Told.f 60 [⟨17, 3⟩, ⟨1, 2⟩] 1 = some [⟨1, 3⟩] := by kernel_rfl
set_option maxRecDepth 100000 in
theorem aw_sameE : r2_Same.f 60 13 0 0 [aw_r 0 0, aw_r 3 0] 13 0 0 [aw_r 0 0, aw_r 3 0] = some true := by kernel_rfl
set_option maxRecDepth 100000 in
theorem aw_sameI : r1_Same.f 60 [1, 2, 3, 0] [1, 2, 3, 0] = some true := by kernel_rfl
set_option maxRecDepth 100000 in
theorem aw_outs : r5_Outs.f 60 [⟨1, 3⟩] [⟨1, 3⟩] = some true := by kernel_rfl
end Go.Proofs.Ytilebfkehmecaaa.Print
