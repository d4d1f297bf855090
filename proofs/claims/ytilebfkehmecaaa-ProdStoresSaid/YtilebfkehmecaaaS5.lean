/- For every program, number, list of stores and store the law ProdStores returns true, and what came in reads as before. No condition. -/
import Derived.Test.YtilebfkehmecaaaS4
import Derived.Deep.DeepMust
import Derived.Laws.CopyOwn
import Derived.Laws.CopyRow
import Derived.Laws.MakeOwn
import Derived.Lib.SliceRun
import Derived.Orders
import Derived.OrdersHeld
namespace Go.Proofs.Ytilebfkehmecaaa.Print
open Go.RowKit Go.Proofs.YtilebfkehmecaaaW.PrintWords Go.Proofs.YtilebfkehmecaaaW.PrintLast Go.Proofs.YtilebfkehmecaaaW.PrintMore
attribute [local go_sem] max2_int min2_int max_two min_two max_three min_three max_four min_four
set_option linter.unusedVariables false
set_option linter.unusedSimpArgs false
def prod_words.l0 : Nat → Int → Int → Int → List Int → Int → Int → Option (Bool)
 | 0, _, _, _, _, _, _ => none
 | k + 1, x0, x5, x6, x18, x19, x20 => if x20 < x19 then (if 0 ≤ x20 then (if x20 < (x18.length : Int) then (prod_words.l0 k x0 (mn x5 (rd x18 x20)) (mx x6 (rd x18 x20)) x18 x19 (wrap64 (x20 + 1))) else (none)) else (none)) else (if x5 ≥ 0 then (if 0 ≤ (IntKind.u64.wrap (x0)) then (some (decide (x6 < (shl .i64 1 (IntKind.u64.wrap (x0)))))) else (none)) else (some false))
def prod_words.f (k : Nat) (a0 : Int) (l1 : List Int) : Option (Bool) := if (l1.length : Int) = 0 then (some true) else (if 0 < (l1.length : Int) then (prod_words.l0 k a0 (rd l1 0) (rd l1 0) l1 (l1.length : Int) 0) else (none))
set_option maxHeartbeats 8000000 in
set_option maxRecDepth 100000 in
theorem prod_words.calls (k : Nat) (a0 : Int) (A1 : Option Addr) (c1 : Nat) (l1 : List Int) (r : Bool) (w : World) (hr1 : Kd.C (Kd.int .i64) w A1 l1.length l1) (hc1 : l1.length ≤ c1) (h : prod_words.f k a0 l1 = some r) :
  Calls Try.prog 56 #[.int .i64 a0, .slice A1 l1.length c1] w fun e w' => e = .returned (.bool r) ∧ Below w.heap.size w w' := by
 have HR1 := Aside0.mk hr1
 have HC1 := Aside0.mk hc1
 clear hr1 hc1
 have HB := Aside0.mk (Below.refl w.heap.size w)
 have H : (if (l1.length : Int) = 0 then (some true) else (if 0 < (l1.length : Int) then (prod_words.l0 k a0 (rd l1 0) (rd l1 0) l1 (l1.length : Int) 0) else (none))) = some r := h
 clear h
 by_cases c3 : (l1.length : Int) = 0
 ·rw [if_pos c3] at H
  have c3b0 : ((l1.length : Int) == 0) = true := beq_iff_eq.mpr c3
  have c3b1 : ((l1.length : Int) != 0) = false := bne_eq_false_iff_eq.mpr c3
  clear c3
  obtain rfl := Option.some.inj H
  go_enter Try.func56, Try.ntmps56
  go_wp2
  repeat (go_quiet (fail); try go_wp2)
  go_ret
  exact ⟨rr, bb HB⟩
 rw [if_neg c3] at H
 have c3b0 : ((l1.length : Int) == 0) = false := beq_eq_false_iff_ne.mpr c3
 have c3b1 : ((l1.length : Int) != 0) = true := bne_iff_ne.mpr c3
 have c3b2 : ¬ (l1 = []) := fun h_ => c3 (by rw [h_]; rfl)
 by_cases c4 : 0 < (l1.length : Int)
 rotate_left
 ·rw [if_neg c4] at H
  exact absurd H (by simp)
 rw [if_pos c4] at H
 have c4b0 : decide (0 < (l1.length : Int)) = true := decide_eq_true c4
 have c4b1 : decide (0 < l1.length) = true := decide_eq_true (by omega)
 clear c4
 have H' := Aside0.mk H
 clear H
 have p168 : 0 ≤ (0 : Int) := (by omega)
 have q168 : 0 < (l1.length : Int) := od
 obtain ⟨ad168, e168, hx168_0⟩ := Kd.at_int HR1.out 0 p168 q168
 cases e168
 have qi168 : (0 < l1.length) = True := eq_true (by omega)
 (try rw [show ((0 : Int)).toNat = 0 from rfl] at hx168_0)
 (try rw [Addr.add_zero'] at hx168_0)
 replace p168 := eq_true p168
 replace q168 := eq_true q168
 have p169 : 0 ≤ (0 : Int) := (by omega)
 have q169 : 0 < (l1.length : Int) := od
 obtain ⟨ad169, e169, hx169_0⟩ := Kd.at_int HR1.out 0 p169 q169
 obtain rfl : ad168 = ad169 := (by injection e169)
 have qi169 : (0 < l1.length) = True := eq_true (by omega)
 (try rw [show ((0 : Int)).toNat = 0 from rfl] at hx169_0)
 (try rw [Addr.add_zero'] at hx169_0)
 replace p169 := eq_true p169
 replace q169 := eq_true q169
 go_enter Try.func56, Try.ntmps56
 go_wp2
 repeat (go_quiet (fail); try go_wp2)
 go_loopg [5, 6, 20] k (fun kq v5 v6 v20 w' => ∃ (x5_1 : Int) (x6_1 : Int) (x20_1 : Int), v5 = .int .i64 x5_1 ∧ v6 = .int .i64 x6_1 ∧ v20 = .int .i64 x20_1 ∧ Aside0 (prod_words.l0 kq a0 x5_1 x6_1 l1 (l1.length : Int) x20_1 = some r) ∧ Aside0 (kq ≤ k) ∧ Aside0 (Below w.heap.size w w'))
 case atStart => exact ⟨(rd l1 0), (rd l1 0), (0), rs, rs, rs, H', ⟨Nat.le_refl _⟩, ⟨bb HB⟩⟩
 case round =>
  clear H'
  try clear c1
  try clear p1
  try clear q1
  try clear hx1
  try clear qi1
  try clear p2
  try clear c3
  try clear c3b0
  try clear c3b1
  try clear c3b2
  try clear c4
  try clear c4b0
  try clear c4b1
  try clear hx168_0
  try clear hx169_0
  try clear p168
  try clear p169
  try clear q168
  try clear q169
  obtain ⟨x5_1, x6_1, x20_1, rfl, rfl, rfl, HA, HK1, HB⟩ := hrel
  cases gk with
  | zero => exact absurd HA.out (by simp [prod_words.l0])
  | succ k1 =>
   have H := HA.out
   clear HA
   simp only [prod_words.l0] at H
   by_cases c5 : x20_1 < (l1.length : Int)
   ·rw [if_pos c5] at H
    have c5b0 : decide (x20_1 < (l1.length : Int)) = true := decide_eq_true c5
    clear c5
    by_cases c6 : 0 ≤ x20_1
    rotate_left
    ·rw [if_neg c6] at H
     exact absurd H (by simp)
    rw [if_pos c6] at H
    have c6b0 : decide (0 ≤ x20_1) = true := decide_eq_true c6
    clear c6
    by_cases c7 : x20_1 < (l1.length : Int)
    rotate_left
    ·rw [if_neg c7] at H
     exact absurd H (by simp)
    rw [if_pos c7] at H
    have c7b0 : decide (x20_1 < (l1.length : Int)) = true := decide_eq_true c7
    clear c7
    obtain ⟨ji8, hji8⟩ : ∃ j_ : Int, (mn x5_1 (rd l1 x20_1)) = j_ := ⟨_, rfl⟩
    replace H : (prod_words.l0 k1 a0 ji8 (mx x6_1 (rd l1 x20_1)) l1 (l1.length : Int) (wrap64 (x20_1 + 1))) = some r := by first | (rw [hji8] at H; exact H) | (simp only [hji8] at H ⊢; exact H)
    have hji8_ : (if (rd l1 x20_1) < x5_1 then (rd l1 x20_1) else x5_1) = ji8 := hji8
    obtain ⟨ji9, hji9⟩ : ∃ j_ : Int, (mx x6_1 (rd l1 x20_1)) = j_ := ⟨_, rfl⟩
    replace H : (prod_words.l0 k1 a0 ji8 ji9 l1 (l1.length : Int) (wrap64 (x20_1 + 1))) = some r := by first | (rw [hji9] at H; exact H) | (simp only [hji9] at H ⊢; exact H)
    have hji9_ : (if x6_1 < (rd l1 x20_1) then (rd l1 x20_1) else x6_1) = ji9 := hji9
    have H' := Aside0.mk H
    clear H
    have p170 : 0 ≤ (x20_1 : Int) := od
    have q170 : x20_1 < (l1.length : Int) := od
    obtain ⟨ad170, e170, hx170_0⟩ := Kd.at_int HR1.out x20_1 p170 q170
    obtain rfl : ad168 = ad170 := (by injection e170)
    replace hx170_0 := bcell HB.out hx170_0
    replace p170 := eq_true p170
    replace q170 := eq_true q170
    go_wp2
    repeat (go_quiet (fail); try go_wp2)
    go_roundg k1
    case measure => have := HK1.out; omega
    case rel => exact ⟨(ji8), (ji9), (wrap64 (x20_1 + 1)), (by first | rfl | (simp; done) | (simp only [← hji8] <;> (first | rfl | simp)) | (simp [*]; done)), (by first | rfl | (simp; done) | (simp only [← hji9] <;> (first | rfl | simp)) | (simp [*]; done)), rs, H', ⟨by have := HK1.out; omega⟩, ⟨bb HB⟩⟩
   rw [if_neg c5] at H
   have c5b0 : decide (x20_1 < (l1.length : Int)) = false := decide_eq_false c5
   clear c5
   by_cases c10 : x5_1 ≥ 0
   rotate_left
   ·rw [if_neg c10] at H
    have c10b0 : decide (0 ≤ x5_1) = false := decide_eq_false c10
    clear c10
    obtain rfl := Option.some.inj H
    go_wp2
    repeat (go_quiet (fail); try go_wp2)
    go_ret
    exact ⟨rr, bb HB⟩
   rw [if_pos c10] at H
   have c10b0 : decide (0 ≤ x5_1) = true := decide_eq_true c10
   clear c10
   obtain ⟨ji11, hji11⟩ : ∃ j_ : Int, (IntKind.u64.wrap (a0)) = j_ := ⟨_, rfl⟩
   replace H : (if 0 ≤ (ji11) then (some (decide (x6_1 < (shl .i64 1 (ji11))))) else (none)) = some r := by first | (rw [hji11] at H; exact H) | (simp only [hji11] at H ⊢; exact H)
   by_cases c12 : 0 ≤ (ji11)
   rotate_left
   ·rw [if_neg c12] at H
    exact absurd H (by simp)
   rw [if_pos c12] at H
   have c12b0 := eq_true c12
   have c12b1 : decide (0 ≤ (ji11)) = true := decide_eq_true c12
   clear c12
   obtain ⟨ji13, hji13⟩ : ∃ j_ : Int, (shl .i64 1 (ji11)) = j_ := ⟨_, rfl⟩
   replace H : (some (decide (x6_1 < (ji13)))) = some r := by first | (rw [hji13] at H; exact H) | (simp only [hji13] at H ⊢; exact H)
   have hji13_ : (IntKind.i64.wrap (1 * 2 ^ min (ji11).toNat 64)) = ji13 := hji13
   have hji13z : (ji11) ≤ 64 → (IntKind.i64.wrap (1 * 2 ^ (ji11).toNat)) = ji13 := shl_small hji13
   have hji13u : (IntKind.i64.wrap (2 ^ min (ji11).toNat 64)) = ji13 := by have h_ := hji13_; rw [Int.one_mul] at h_; exact h_
   have hji13v : (ji11) ≤ 64 → (IntKind.i64.wrap (2 ^ (ji11).toNat)) = ji13 := fun hle_ => by have h_ := hji13z hle_; rw [Int.one_mul] at h_; exact h_
   have hji13y : (wrap64 (1 * 2 ^ min (ji11).toNat 64)) = ji13 := (i64_w _).symm.trans hji13_
   have hji13x : (ji11) ≤ 64 → (wrap64 (1 * 2 ^ (ji11).toNat)) = ji13 := fun h_ => (i64_w _).symm.trans (hji13z h_)
   obtain rfl := Option.some.inj H
   go_wp2
   repeat (go_quiet (fail); try go_wp2)
   go_ret
   exact ⟨by first | rfl | (simp [errW_none, errW_some] <;> rfl) | (simp only [← hji11, ← hji13]; first | rfl | (simp [errW_none, errW_some] <;> rfl)) | (simp [*, errW_none, errW_some] <;> rfl), bb HB⟩
mutual
def prod_Join.j0 : Nat → List (List Int) → Bool → Int → List (S66) → List (S64) → Option (List Int × Int)
 | 0, _, _, _, _, _ => none
 | k + 1, x1, x24, x172000, x172001, x172002 => if x24 = true then (some (([] : List Int), 1)) else (prod_Join.l0 k ([] : List Int) x1 (x1.length : Int) 0 x172000 x172001 x172002)
def prod_Join.l0 : Nat → List Int → List (List Int) → Int → Int → Int → List (S66) → List (S64) → Option (List Int × Int)
 | 0, _, _, _, _, _, _, _ => none
 | k + 1, x6, x25, x26, x27, x172000, x172001, x172002 => if x27 < x26 then (if 0 ≤ x27 then (if x27 < (x25.length : Int) then ((prod_cells.f k x172000 x172001 x172002).bind fun t175 => (if ((rd_L10 x25 x27).length : Int) = t175 then ((prod_words.f k x172000 (rd_L10 x25 x27)).bind fun t176 => (if t176 = true then (if x6.length + (rd_L10 x25 x27).length < 17592186044416 then (prod_Join.l0 k (x6 ++ (rd_L10 x25 x27)) x25 x26 (wrap64 (x27 + 1)) x172000 x172001 x172002) else (none)) else (some (([] : List Int), 1)))) else (some (([] : List Int), 1)))) else (none)) else (none)) else (some (x6, 0))
end
def prod_Join.f (k : Nat) (a0_0 : Int) (l0_1 : List (S66)) (l0_2 : List (S64)) (l1 : List (List Int)) : Option (List Int × Int) := (prog_Check.f k a0_0 l0_1 l0_2).bind fun t172 => (if t172 = 0 then (if (l1.length : Int) < 1 then (prod_Join.j0 k l1 true a0_0 l0_1 l0_2) else (if (l1.length : Int) > 3 then (prod_Join.j0 k l1 true a0_0 l0_1 l0_2) else ((prod_single.f k a0_0 l0_1 l0_2).bind fun t173 => (prod_Join.j0 k l1 (t173 != 0) a0_0 l0_1 l0_2)))) else (some (([] : List Int), 30)))
set_option maxHeartbeats 8000000 in
set_option maxRecDepth 100000 in
theorem prod_Join.calls (k : Nat) (a0_0 : Int) (A0_1 : Option Addr) (c0_1 : Nat) (l0_1 : List (S66)) (A0_2 : Option Addr) (c0_2 : Nat) (l0_2 : List (S64)) (A1 : Option Addr) (c1 : Nat) (l1 : List (List Int)) (r1 : List Int) (r2 : Int) (w : World) (hr0_1 : Kd.C k66 w A0_1 l0_1.length l0_1) (hc0_1 : l0_1.length ≤ c0_1) (hr0_2 : Kd.C k64 w A0_2 l0_2.length l0_2) (hc0_2 : l0_2.length ≤ c0_2) (hr1 : Kd.C (Kd.slice 3 (Kd.int .i64)) w A1 l1.length l1) (hc1 : l1.length ≤ c1) (h : prod_Join.f k a0_0 l0_1 l0_2 l1 = some (r1, r2)) :
  Calls Try.prog 21 #[.agg #[.int .i64 a0_0, .slice A0_1 l0_1.length c0_1, .slice A0_2 l0_2.length c0_2], .slice A1 l1.length c1] w fun e w' => ∃ v0_ : Value, e = .returned (.tuple #[v0_, .int .i64 r2]) ∧ Kd.R (Kd.int .i64) 3 w' w.heap.size (fun _ => True) v0_ r1 ∧ Below w.heap.size w w' := by
 have hu25 := Try.underlying25
 have HR0_1 := Aside0.mk hr0_1
 have HC0_1 := Aside0.mk hc0_1
 clear hr0_1 hc0_1
 have HR0_2 := Aside0.mk hr0_2
 have HC0_2 := Aside0.mk hc0_2
 clear hr0_2 hc0_2
 have HR1 := Aside0.mk hr1
 have HC1 := Aside0.mk hc1
 clear hr1 hc1
 have HB := Aside0.mk (Below.refl w.heap.size w)
 have H : ((prog_Check.f k a0_0 l0_1 l0_2).bind fun t172 => (if t172 = 0 then (if (l1.length : Int) < 1 then (prod_Join.j0 k l1 true a0_0 l0_1 l0_2) else (if (l1.length : Int) > 3 then (prod_Join.j0 k l1 true a0_0 l0_1 l0_2) else ((prod_single.f k a0_0 l0_1 l0_2).bind fun t173 => (prod_Join.j0 k l1 (t173 != 0) a0_0 l0_1 l0_2)))) else (some (([] : List Int), 30)))) = some (r1, r2) := h
 clear h
 obtain ⟨t172, A3, H⟩ := be H
 replace H : (if t172 = 0 then (if (l1.length : Int) < 1 then (prod_Join.j0 k l1 true a0_0 l0_1 l0_2) else (if (l1.length : Int) > 3 then (prod_Join.j0 k l1 true a0_0 l0_1 l0_2) else ((prod_single.f k a0_0 l0_1 l0_2).bind fun t173 => (prod_Join.j0 k l1 (t173 != 0) a0_0 l0_1 l0_2)))) else (some (([] : List Int), 30))) = some (r1, r2) := H
 by_cases c4 : t172 = 0
 rotate_left
 ·rw [if_neg c4] at H
  have c4b0 : (t172 == 0) = false := beq_eq_false_iff_ne.mpr c4
  have c4b1 : (t172 != 0) = true := bne_iff_ne.mpr c4
  simp only [Option.some.injEq, Prod.mk.injEq] at H
  obtain ⟨rfl, rfl⟩ := H
  go_enter Try.func21, Try.ntmps21
  go_wp2_with (first | ((with_reducible refine gate_dst (N := 2) rfl ?_); (try (refine gate_guard (by rfl) ?_; dsimp only)); refine bx 2 rfl rfl #[.int .i64 a0_0, .slice A0_1 l0_1.length c0_1, .slice A0_2 l0_2.length c0_2] 25 ?_; intro gb171 hg w34 hbox hb; have BK171 := Aside0.mk (hbox); have GW171 := ge HB hg; have GE171 := ge HB hg; replace HB := sb HB hb; clear hb hbox hg; obtain ⟨hcz35_0, hcz35_1, hcz35_2, hfz35_0, hfz35_1, hfz35_2⟩ := cf3 BK171.out) | ((with_reducible refine gate_callee (f := 43) rfl ?_); refine gL (some 10) rfl rfl Try.func43 #[.agg #[.int .i64 a0_0, .slice A0_1 l0_1.length c0_1, .slice A0_2 l0_2.length c0_2]] rfl ?_; (with_reducible refine (prog_Check.calls k a0_0 _ _ l0_1 _ _ l0_2 t172 _ ?side1 ?side2 ?side3 ?side4 A3.out).mono ?_); (case side1 => exact cb HR0_1 HB); (case side2 => exact HC0_1.out); (case side3 => exact cb HR0_2 HB); (case side4 => exact HC0_2.out); rintro e w36 ⟨rfl, hb⟩; refine ⟨_, rfl, ?_⟩; replace BK171 := kb BK171 hb; replace HB := sb HB hb; (try clear hb); (try clear hb2); (try clear hk); (try clear hi)))
  go_ret2
  exact ⟨_, rr, by first | exact Kd.R_nil _ _ _ _ _ | exact Kd.N_nil _ _ _ _ _ | exact Kd.V_nil _ _ _ _ _ | exact Kd.Q_nil _ _ _ _ _ | exact Kd.S_nil _ _ _ _ _, bb HB⟩
 rw [if_pos c4] at H
 have c4b0 : (t172 == 0) = true := beq_iff_eq.mpr c4
 have c4b1 : (t172 != 0) = false := bne_eq_false_iff_eq.mpr c4
 clear c4
 have HC5 := Aside0.mk H
 clear H
 go_enter Try.func21, Try.ntmps21
 go_upto_region 3 with (first | ((with_reducible refine gate_dst (N := 2) rfl ?_); (try (refine gate_guard (by rfl) ?_; dsimp only)); refine bx 2 rfl rfl #[.int .i64 a0_0, .slice A0_1 l0_1.length c0_1, .slice A0_2 l0_2.length c0_2] 25 ?_; intro gb171 hg w6 hbox hb; have BK171 := Aside0.mk (hbox); have GW171 := ge HB hg; have GE171 := ge HB hg; replace HB := sb HB hb; clear hb hbox hg; obtain ⟨hcz7_0, hcz7_1, hcz7_2, hfz7_0, hfz7_1, hfz7_2⟩ := cf3 BK171.out) | ((with_reducible refine gate_callee (f := 43) rfl ?_); refine gL (some 10) rfl rfl Try.func43 #[.agg #[.int .i64 a0_0, .slice A0_1 l0_1.length c0_1, .slice A0_2 l0_2.length c0_2]] rfl ?_; (with_reducible refine (prog_Check.calls k a0_0 _ _ l0_1 _ _ l0_2 t172 _ ?side1 ?side2 ?side3 ?side4 A3.out).mono ?_); (case side1 => exact cb HR0_1 HB); (case side2 => exact HC0_1.out); (case side3 => exact cb HR0_2 HB); (case side4 => exact HC0_2.out); rintro e w8 ⟨rfl, hb⟩; refine ⟨_, rfl, ?_⟩; replace BK171 := kb BK171 hb; replace HB := sb HB hb; (try clear hb); (try clear hb2); (try clear hk); (try clear hi)))
 (try simp only [Act.put, List.setIfInBounds_toArray, List.set_cons_zero, List.set_cons_succ])
 go_cut [24] (fun v24 wc => ∃ (kq : Nat) (x24_4 : Bool), v24 = .bool x24_4 ∧ Aside0 (prod_Join.j0 kq l1 x24_4 a0_0 l0_1 l0_2 = some (r1, r2)) ∧ Aside0 (kq ≤ k) ∧ Aside0 (wc.heap[gb171]? = some (.cells #[.int .i64 a0_0, (.slice A0_1 l0_1.length c0_1), (.slice A0_2 l0_2.length c0_2)] 25 (0, 0))) ∧ Aside0 (Below w.heap.size w wc))
 case first =>
  have H := HC5.out
  clear HC5
  by_cases c9 : (l1.length : Int) < 1
  ·rw [if_pos c9] at H
   have c9b0 : decide ((l1.length : Int) < 1) = true := decide_eq_true c9
   have c9b1 : decide (l1.length < 1) = true := decide_eq_true (by omega)
   clear c9
   (first | rw [c9b0] | (simp only [i64_w, i32_w]; rw [c9b0]) | skip)
   have H' := Aside0.mk H
   clear H
   go_wp2
   go_meet
   case rel => exact ⟨_, (true), rs, H', ⟨by first | omega | exact Nat.le_refl _⟩, ⟨by (with_reducible repeat (first | refine kdN ?_ _ | refine kdr ?_ | refine kal ?_ _)); exact BK171.out⟩, ⟨bb HB⟩⟩
  rw [if_neg c9] at H
  have c9b0 : decide ((l1.length : Int) < 1) = false := decide_eq_false c9
  have c9b1 : decide (l1.length < 1) = false := decide_eq_false (by omega)
  clear c9
  (first | rw [c9b0] | (simp only [i64_w, i32_w]; rw [c9b0]) | skip)
  by_cases c10 : (l1.length : Int) > 3
  ·rw [if_pos c10] at H
   have c10b0 : decide (3 < (l1.length : Int)) = true := decide_eq_true c10
   have c10b1 : decide (3 < l1.length) = true := decide_eq_true (by omega)
   clear c10
   have H' := Aside0.mk H
   clear H
   go_wp2
   go_meet
   case rel => exact ⟨_, (true), rs, H', ⟨by first | omega | exact Nat.le_refl _⟩, ⟨by (with_reducible repeat (first | refine kdN ?_ _ | refine kdr ?_ | refine kal ?_ _)); exact BK171.out⟩, ⟨bb HB⟩⟩
  rw [if_neg c10] at H
  have c10b0 : decide (3 < (l1.length : Int)) = false := decide_eq_false c10
  have c10b1 : decide (3 < l1.length) = false := decide_eq_false (by omega)
  clear c10
  obtain ⟨t173, A11, H⟩ := be H
  replace H : (prod_Join.j0 k l1 (t173 != 0) a0_0 l0_1 l0_2) = some (r1, r2) := H
  have H' := Aside0.mk H
  clear H
  obtain ⟨hcz12_0, hcz12_1, hcz12_2, hfz12_0, hfz12_1, hfz12_2⟩ := cf3 BK171.out
  go_wp2_with (first | (go_at_call 44; (with_reducible refine (prod_single.calls k a0_0 _ _ l0_1 _ _ l0_2 t173 _ ?side1 ?side2 ?side3 ?side4 A11.out).mono ?_); (case side1 => exact cb HR0_1 HB); (case side2 => exact HC0_1.out); (case side3 => exact cb HR0_2 HB); (case side4 => exact HC0_2.out); rintro e w13 ⟨rfl, hb⟩; replace BK171 := kb BK171 hb; replace HB := sb HB hb; (try clear hb); (try clear hb2); (try clear hk); (try clear hi)))
  go_meet
  case rel => exact ⟨_, ((t173 != 0)), rs, H', ⟨by first | omega | exact Nat.le_refl _⟩, ⟨by (with_reducible repeat (first | refine kdN ?_ _ | refine kdr ?_ | refine kal ?_ _)); exact BK171.out⟩, ⟨bb HB⟩⟩
 case rest =>
  clear HC5
  try clear c1
  try clear c2
  try clear p2
  try clear c4
  try clear c4b0
  try clear c4b1
  try clear c9
  try clear c9b0
  try clear c9b1
  try clear c10
  try clear c10b0
  try clear c10b1
  try clear hcz12_0 hcz12_1 hcz12_2
  try clear hcz7_0 hcz7_1 hcz7_2
  try clear hfz12_0 hfz12_1 hfz12_2
  try clear hfz7_0 hfz7_1 hfz7_2
  obtain ⟨kq, x24_4, rfl, HA, HJ4, BK171, HB⟩ := hcut
  cases kq with
  | zero => exact absurd HA.out (by simp [prod_Join.j0])
  | succ kj4 =>
   have H := HA.out
   clear HA
   simp only [prod_Join.j0] at H
   by_cases c14 : x24_4 = true
   ·subst c14
    have H1 : (some (([] : List Int), 1)) = some (r1, r2) := by rw [if_pos rfl] at H; exact H
    clear H
    have H := H1
    clear H1
    simp only [Option.some.injEq, Prod.mk.injEq] at H
    obtain ⟨rfl, rfl⟩ := H
    go_wp2
    go_ret2
    exact ⟨_, rr, by first | exact Kd.R_nil _ _ _ _ _ | exact Kd.N_nil _ _ _ _ _ | exact Kd.V_nil _ _ _ _ _ | exact Kd.Q_nil _ _ _ _ _ | exact Kd.S_nil _ _ _ _ _, bb HB⟩
   replace c14 := Bool.eq_false_iff.mpr c14
   subst c14
   have H1 : (prod_Join.l0 kj4 ([] : List Int) l1 (l1.length : Int) 0 a0_0 l0_1 l0_2) = some (r1, r2) := by rw [if_neg (show ¬ (false = true) by decide)] at H; exact H
   clear H
   have H := H1
   clear H1
   have H' := Aside0.mk H
   clear H
   go_wp2
   go_loopg [6, 27] kj4 (fun kq v6 v27 w' => ∃ (x6_2 : List Int) (x27_2 : Int), v27 = .int .i64 x27_2 ∧ Aside0 (prod_Join.l0 kq x6_2 l1 (l1.length : Int) x27_2 a0_0 l0_1 l0_2 = some (r1, r2)) ∧ Aside0 (kq ≤ kj4) ∧ Aside0 (Kd.R (Kd.int .i64) 3 w' w.heap.size (fun _ => True) v6 x6_2) ∧ Aside0 (w'.heap[gb171]? = some (.cells #[.int .i64 a0_0, (.slice A0_1 l0_1.length c0_1), (.slice A0_2 l0_2.length c0_2)] 25 (0, 0))) ∧ Aside0 (Below w.heap.size w w'))
   case atStart => exact ⟨(([] : List Int)), (0), rs, H', ⟨Nat.le_refl _⟩, ⟨by first | exact Kd.R_nil _ _ _ _ _ | exact Kd.N_nil _ _ _ _ _ | exact Kd.V_nil _ _ _ _ _ | exact Kd.Q_nil _ _ _ _ _ | exact Kd.S_nil _ _ _ _ _⟩, ⟨by (with_reducible repeat (first | refine kdN ?_ _ | refine kdr ?_ | refine kal ?_ _)); exact BK171.out⟩, ⟨bb HB⟩⟩
   case round =>
    clear H'
    try clear c1
    try clear c2
    try clear p2
    try clear c4
    try clear c4b0
    try clear c4b1
    try clear c9
    try clear c9b0
    try clear c9b1
    try clear c10
    try clear c10b0
    try clear c10b1
    try clear c14
    try clear hcz12_0 hcz12_1 hcz12_2
    try clear hcz7_0 hcz7_1 hcz7_2
    try clear hfz12_0 hfz12_1 hfz12_2
    try clear hfz7_0 hfz7_1 hfz7_2
    try clear p2
    obtain ⟨x6_2, x27_2, rfl, HA, HK2, HO_6, BK171, HB⟩ := hrel
    cases gk with
    | zero => exact absurd HA.out (by simp [prod_Join.l0])
    | succ k2 =>
     have H := HA.out
     clear HA
     simp only [prod_Join.l0] at H
     by_cases c15 : x27_2 < (l1.length : Int)
     rotate_left
     ·rw [if_neg c15] at H
      have c15b0 : decide (x27_2 < (l1.length : Int)) = false := decide_eq_false c15
      clear c15
      simp only [Option.some.injEq, Prod.mk.injEq] at H
      obtain ⟨rfl, rfl⟩ := H
      go_wp2
      go_ret2
      exact ⟨_, rr, by (with_reducible repeat (first | apply Kd.R_alloc | apply Kd.R_drewN | apply Kd.R_drew)); exact HO_6.out, bb HB⟩
     rw [if_pos c15] at H
     have c15b0 : decide (x27_2 < (l1.length : Int)) = true := decide_eq_true c15
     clear c15
     by_cases c16 : 0 ≤ x27_2
     rotate_left
     ·rw [if_neg c16] at H
      exact absurd H (by simp)
     rw [if_pos c16] at H
     have c16b0 : decide (0 ≤ x27_2) = true := decide_eq_true c16
     clear c16
     by_cases c17 : x27_2 < (l1.length : Int)
     rotate_left
     ·rw [if_neg c17] at H
      exact absurd H (by simp)
     rw [if_pos c17] at H
     have c17b0 : decide (x27_2 < (l1.length : Int)) = true := decide_eq_true c17
     clear c17
     obtain ⟨t175, A18, H⟩ := be H
     replace H : (if ((rd_L10 l1 x27_2).length : Int) = t175 then ((prod_words.f k2 a0_0 (rd_L10 l1 x27_2)).bind fun t176 => (if t176 = true then (if x6_2.length + (rd_L10 l1 x27_2).length < 17592186044416 then (prod_Join.l0 k2 (x6_2 ++ (rd_L10 l1 x27_2)) l1 (l1.length : Int) (wrap64 (x27_2 + 1)) a0_0 l0_1 l0_2) else (none)) else (some (([] : List Int), 1)))) else (some (([] : List Int), 1))) = some (r1, r2) := H
     by_cases c19 : ((rd_L10 l1 x27_2).length : Int) = t175
     rotate_left
     ·rw [if_neg c19] at H
      have c19b0 : (((rd_L10 l1 x27_2).length : Int) == t175) = false := beq_eq_false_iff_ne.mpr c19
      have c19b1 : (((rd_L10 l1 x27_2).length : Int) != t175) = true := bne_iff_ne.mpr c19
      simp only [Option.some.injEq, Prod.mk.injEq] at H
      obtain ⟨rfl, rfl⟩ := H
      have p174 : 0 ≤ (x27_2 : Int) := od
      have q174 : x27_2 < (l1.length : Int) := od
      obtain ⟨ad174, A174_0, c174_0, e174, hx174_0, hl174_0, hi174_0⟩ := at_L10 HR1.out x27_2 p174 q174
      cases e174
      replace hx174_0 := bcell HB.out hx174_0
      have HR174_0 := Aside0.mk hi174_0
      have HC174_0 := Aside0.mk hl174_0
      clear hi174_0 hl174_0
      replace p174 := eq_true p174
      replace q174 := eq_true q174
      obtain ⟨hcz32_0, hcz32_1, hcz32_2, hfz32_0, hfz32_1, hfz32_2⟩ := cf3 BK171.out
      go_wp2_with (first | ((with_reducible refine gate_callee (f := 55) rfl ?_); refine gL (some 34) rfl rfl Try.func55 #[.agg #[.int .i64 a0_0, .slice A0_1 l0_1.length c0_1, .slice A0_2 l0_2.length c0_2]] rfl ?_; (with_reducible refine (prod_cells.calls k2 a0_0 _ _ l0_1 _ _ l0_2 t175 _ ?side1 ?side2 ?side3 ?side4 A18.out).mono ?_); (case side1 => exact cb HR0_1 HB); (case side2 => exact HC0_1.out); (case side3 => exact cb HR0_2 HB); (case side4 => exact HC0_2.out); rintro e w33 ⟨rfl, hb⟩; refine ⟨_, rfl, ?_⟩; replace HO_6 := Aside0.mk (Kd.R_below (by (with_reducible repeat (first | apply Kd.R_alloc | apply Kd.R_drewN | apply Kd.R_drew)); exact HO_6.out) hb); replace BK171 := kb BK171 hb; replace HB := sb HB hb; (try clear hb); (try clear hb2); (try clear hk); (try clear hi)))
      go_ret2
      exact ⟨_, rr, by first | exact Kd.R_nil _ _ _ _ _ | exact Kd.N_nil _ _ _ _ _ | exact Kd.V_nil _ _ _ _ _ | exact Kd.Q_nil _ _ _ _ _ | exact Kd.S_nil _ _ _ _ _, bb HB⟩
     rw [if_pos c19] at H
     have c19b0 : (((rd_L10 l1 x27_2).length : Int) == t175) = true := beq_iff_eq.mpr c19
     have c19b1 : (((rd_L10 l1 x27_2).length : Int) != t175) = false := bne_eq_false_iff_eq.mpr c19
     clear c19
     obtain ⟨t176, A20, H⟩ := be H
     replace H : (if t176 = true then (if x6_2.length + (rd_L10 l1 x27_2).length < 17592186044416 then (prod_Join.l0 k2 (x6_2 ++ (rd_L10 l1 x27_2)) l1 (l1.length : Int) (wrap64 (x27_2 + 1)) a0_0 l0_1 l0_2) else (none)) else (some (([] : List Int), 1))) = some (r1, r2) := H
     by_cases c21 : t176 = true
     rotate_left
     ·replace c21 := Bool.eq_false_iff.mpr c21
      subst c21
      have H1 : (some (([] : List Int), 1)) = some (r1, r2) := by rw [if_neg (show ¬ (false = true) by decide)] at H; exact H
      clear H
      have H := H1
      clear H1
      simp only [Option.some.injEq, Prod.mk.injEq] at H
      obtain ⟨rfl, rfl⟩ := H
      have p174 : 0 ≤ (x27_2 : Int) := od
      have q174 : x27_2 < (l1.length : Int) := od
      obtain ⟨ad174, A174_0, c174_0, e174, hx174_0, hl174_0, hi174_0⟩ := at_L10 HR1.out x27_2 p174 q174
      cases e174
      replace hx174_0 := bcell HB.out hx174_0
      have HR174_0 := Aside0.mk hi174_0
      have HC174_0 := Aside0.mk hl174_0
      clear hi174_0 hl174_0
      replace p174 := eq_true p174
      replace q174 := eq_true q174
      obtain ⟨hcz28_0, hcz28_1, hcz28_2, hfz28_0, hfz28_1, hfz28_2⟩ := cf3 BK171.out
      go_wp2_with (first | ((with_reducible refine gate_callee (f := 55) rfl ?_); refine gL (some 34) rfl rfl Try.func55 #[.agg #[.int .i64 a0_0, .slice A0_1 l0_1.length c0_1, .slice A0_2 l0_2.length c0_2]] rfl ?_; (with_reducible refine (prod_cells.calls k2 a0_0 _ _ l0_1 _ _ l0_2 t175 _ ?side1 ?side2 ?side3 ?side4 A18.out).mono ?_); (case side1 => exact cb HR0_1 HB); (case side2 => exact HC0_1.out); (case side3 => exact cb HR0_2 HB); (case side4 => exact HC0_2.out); rintro e w29 ⟨rfl, hb⟩; refine ⟨_, rfl, ?_⟩; replace HO_6 := Aside0.mk (Kd.R_below (by (with_reducible repeat (first | apply Kd.R_alloc | apply Kd.R_drewN | apply Kd.R_drew)); exact HO_6.out) hb); replace BK171 := kb BK171 hb; replace HB := sb HB hb; (try clear hb); (try clear hb2); (try clear hk); (try clear hi); obtain ⟨hcz30_0, hcz30_1, hcz30_2, hfz30_0, hfz30_1, hfz30_2⟩ := cf3 BK171.out) | (go_at_call 56; (with_reducible refine (prod_words.calls k2 a0_0 _ _ (rd_L10 l1 x27_2) false _ ?side1 ?side2 A20.out).mono ?_); (case side1 => exact cb HR174_0 HB); (case side2 => exact HC174_0.out); rintro e w31 ⟨rfl, hb⟩; replace HO_6 := Aside0.mk (Kd.R_below (by (with_reducible repeat (first | apply Kd.R_alloc | apply Kd.R_drewN | apply Kd.R_drew)); exact HO_6.out) hb); replace BK171 := kb BK171 hb; replace HB := sb HB hb; (try clear hb); (try clear hb2); (try clear hk); (try clear hi)))
      go_ret2
      exact ⟨_, rr, by first | exact Kd.R_nil _ _ _ _ _ | exact Kd.N_nil _ _ _ _ _ | exact Kd.V_nil _ _ _ _ _ | exact Kd.Q_nil _ _ _ _ _ | exact Kd.S_nil _ _ _ _ _, bb HB⟩
     subst c21
     have H1 : (if x6_2.length + (rd_L10 l1 x27_2).length < 17592186044416 then (prod_Join.l0 k2 (x6_2 ++ (rd_L10 l1 x27_2)) l1 (l1.length : Int) (wrap64 (x27_2 + 1)) a0_0 l0_1 l0_2) else (none)) = some (r1, r2) := by rw [if_pos rfl] at H; exact H
     clear H
     have H := H1
     clear H1
     by_cases c22 : x6_2.length + (rd_L10 l1 x27_2).length < 17592186044416
     rotate_left
     ·rw [if_neg c22] at H
      exact absurd H (by simp)
     rw [if_pos c22] at H
     have LMc22 := Aside0.mk c22
     clear c22
     obtain ⟨y177, hy177⟩ : ∃ y_ : List Int, y_ = (x6_2 ++ (rd_L10 l1 x27_2)) := ⟨_, rfl⟩
     replace H : (prod_Join.l0 k2 y177 l1 (l1.length : Int) (wrap64 (x27_2 + 1)) a0_0 l0_1 l0_2) = some (r1, r2) := by first | (rw [hy177]; with_reducible exact H) | (have H2_ := (Option.bind_some _ _).symm.trans H; rw [hy177]; with_reducible exact H2_) | (have H2_ := (Option.bind_some _ _).symm.trans H; with_reducible exact H2_) | with_reducible exact H | (rw [hy177]; exact H) | exact H
     have Ny177 := Aside0.mk hy177
     clear hy177
     have H' := Aside0.mk H
     clear H
     have p174 : 0 ≤ (x27_2 : Int) := od
     have q174 : x27_2 < (l1.length : Int) := od
     obtain ⟨ad174, A174_0, c174_0, e174, hx174_0, hl174_0, hi174_0⟩ := at_L10 HR1.out x27_2 p174 q174
     cases e174
     replace hx174_0 := bcell HB.out hx174_0
     have HR174_0 := Aside0.mk hi174_0
     have HC174_0 := Aside0.mk hl174_0
     clear hi174_0 hl174_0
     replace p174 := eq_true p174
     replace q174 := eq_true q174
     obtain ⟨hcz23_0, hcz23_1, hcz23_2, hfz23_0, hfz23_1, hfz23_2⟩ := cf3 BK171.out
     go_wp2_with (first | ((with_reducible refine gate_callee (f := 55) rfl ?_); refine gL (some 34) rfl rfl Try.func55 #[.agg #[.int .i64 a0_0, .slice A0_1 l0_1.length c0_1, .slice A0_2 l0_2.length c0_2]] rfl ?_; (with_reducible refine (prod_cells.calls k2 a0_0 _ _ l0_1 _ _ l0_2 t175 _ ?side1 ?side2 ?side3 ?side4 A18.out).mono ?_); (case side1 => exact cb HR0_1 HB); (case side2 => exact HC0_1.out); (case side3 => exact cb HR0_2 HB); (case side4 => exact HC0_2.out); rintro e w24 ⟨rfl, hb⟩; refine ⟨_, rfl, ?_⟩; replace HO_6 := Aside0.mk (Kd.R_below (by (with_reducible repeat (first | apply Kd.R_alloc | apply Kd.R_drewN | apply Kd.R_drew)); exact HO_6.out) hb); replace BK171 := kb BK171 hb; replace HB := sb HB hb; (try clear hb); (try clear hb2); (try clear hk); (try clear hi); obtain ⟨hcz25_0, hcz25_1, hcz25_2, hfz25_0, hfz25_1, hfz25_2⟩ := cf3 BK171.out) | (go_at_call 56; (with_reducible refine (prod_words.calls k2 a0_0 _ _ (rd_L10 l1 x27_2) true _ ?side1 ?side2 A20.out).mono ?_); (case side1 => exact cb HR174_0 HB); (case side2 => exact HC174_0.out); rintro e w26 ⟨rfl, hb⟩; replace HO_6 := Aside0.mk (Kd.R_below (by (with_reducible repeat (first | apply Kd.R_alloc | apply Kd.R_drewN | apply Kd.R_drew)); exact HO_6.out) hb); replace BK171 := kb BK171 hb; replace HB := sb HB hb; (try clear hb); (try clear hb2); (try clear hk); (try clear hi)) | ((with_reducible refine gate_builtin (b := .append) (xs := #[.tmp 43, .tmp 44]) rfl ?_); (try (refine gate_guard (by rfl) ?_; dsimp only)); at_builtin; refine Kd.R_append_rows (Kd.int .i64) (w0 := w) w.heap.size rfl (.tmp 43) (.tmp 44) 45 3 (.int .i64 0) 8 rfl Try.underlying45 info3 rfl (by decide) (by omega) u6 x6_2 (rd_L10 l1 x27_2) _ _ _ (fun _ => True) (fun _ => False) rfl rfl ?aO ?aR (fun _ _ h => h) (fun _ h => h.elim) ?aF ?aB ?aS ?aL ?_; (case aR => repeat (first | exact (Kd.C_below HR174_0.out HB.out) | with_reducible first | apply Kd.C_alloc | apply Kd.C_drewN | apply Kd.C_drew)); (case aB => exact (bb HB)); (case aF => exact (fun _ _ => trivial)); (case aO => exact (by (with_reducible repeat (first | apply Kd.R_alloc | apply Kd.R_drewN | apply Kd.R_drew)); exact HO_6.out)); (case aS => exact (bsz (bb HB))); (case aL => have := LMc22.out; omega); intro v178 w27 ho hb hg hat; rw [← Ny177.out] at ho; have HO179 := Aside0.mk (ho); replace BK171 := Aside0.mk (blk_grown (g := gb171) (o := .cells #[.int .i64 a0_0, .slice A0_1 l0_1.length c0_1, .slice A0_2 l0_2.length c0_2] 25 (0, 0)) (by (with_reducible repeat (first | refine kdN ?_ _ | refine kdr ?_ | refine kal ?_ _)); exact BK171.out) hg (Kd.R_ne HO_6.out BK171.out (by decide))); replace HB := Aside0.mk (hb); clear HO_6; clear ho hb hg hat))
     go_roundg k2
     case measure => have := HJ4.out; have := HK2.out; omega
     case rel => exact ⟨(y177), (wrap64 (x27_2 + 1)), rs, H', ⟨by have := HJ4.out; have := HK2.out; omega⟩, ⟨by (with_reducible repeat (first | apply Kd.R_alloc | apply Kd.R_drewN | apply Kd.R_drew)); exact HO179.out⟩, ⟨by (with_reducible repeat (first | refine kdN ?_ _ | refine kdr ?_ | refine kal ?_ _)); exact BK171.out⟩, ⟨bb HB⟩⟩
def r2_Stores.l0 : Nat → Int → List (S66) → List (List Int) → Int → Option (Bool)
 | 0, _, _, _, _ => none
 | k + 1, x0, x1, x2, x7 => if x7 < (x2.length : Int) then (if 0 ≤ x7 then ((r2_Store.f k x0 x1 (rd_L10 x2 x7)).bind fun t406 => (if t406 = true then (r2_Stores.l0 k x0 x1 x2 (wrap64 (x7 + 1))) else (some false))) else (none)) else (some true)
def r2_Stores.f (k : Nat) (a0 : Int) (l1 : List (S66)) (l2 : List (List Int)) : Option (Bool) := r2_Stores.l0 k a0 l1 l2 0
set_option maxHeartbeats 8000000 in
set_option maxRecDepth 100000 in
theorem r2_Stores.calls (k : Nat) (a0 : Int) (A1 : Option Addr) (c1 : Nat) (l1 : List (S66)) (A2 : Option Addr) (c2 : Nat) (l2 : List (List Int)) (r : Bool) (w : World) (hr1 : Kd.C k66 w A1 l1.length l1) (hc1 : l1.length ≤ c1) (hr2 : Kd.C (Kd.slice 3 (Kd.int .i64)) w A2 l2.length l2) (hc2 : l2.length ≤ c2) (h : r2_Stores.f k a0 l1 l2 = some r) :
  Calls Try.prog 19 #[.int .i64 a0, .slice A1 l1.length c1, .slice A2 l2.length c2] w fun e w' => e = .returned (.bool r) ∧ Drawn0 w w' := by
 have HR1 := Aside0.mk hr1
 have HC1 := Aside0.mk hc1
 clear hr1 hc1
 have HR2 := Aside0.mk hr2
 have HC2 := Aside0.mk hc2
 clear hr2 hc2
 have H : (r2_Stores.l0 k a0 l1 l2 0) = some r := h
 clear h
 have H' := Aside0.mk H
 clear H
 go_enter Try.func19, Try.ntmps19
 go_wp2
 go_loopg [7] k (fun kq v7 w' => ∃ (x7_1 : Int), v7 = .int .i64 x7_1 ∧ Aside0 (r2_Stores.l0 kq a0 l1 l2 x7_1 = some r) ∧ Aside0 (kq ≤ k) ∧ Drawn0 w w')
 case atStart => exact ⟨(0), rs, H', ⟨Nat.le_refl _⟩, dr⟩
 case round =>
  clear H'
  try clear c1
  try clear c2
  try clear p2
  obtain ⟨x7_1, rfl, HA, HK1, ⟨m1, rfl⟩⟩ := hrel
  cases gk with
  | zero => exact absurd HA.out (by simp [r2_Stores.l0])
  | succ k1 =>
   have H := HA.out
   clear HA
   simp only [r2_Stores.l0] at H
   by_cases c4 : x7_1 < (l2.length : Int)
   rotate_left
   ·rw [if_neg c4] at H
    have c4b0 : decide (x7_1 < (l2.length : Int)) = false := decide_eq_false c4
    clear c4
    obtain rfl := Option.some.inj H
    go_wp2
    go_ret
    exact ⟨rs, dr⟩
   rw [if_pos c4] at H
   have c4b0 : decide (x7_1 < (l2.length : Int)) = true := decide_eq_true c4
   clear c4
   by_cases c5 : 0 ≤ x7_1
   rotate_left
   ·rw [if_neg c5] at H
    exact absurd H (by simp)
   rw [if_pos c5] at H
   have c5b0 : decide (0 ≤ x7_1) = true := decide_eq_true c5
   clear c5
   obtain ⟨t406, A6, H⟩ := be H
   replace H : (if t406 = true then (r2_Stores.l0 k1 a0 l1 l2 (wrap64 (x7_1 + 1))) else (some false)) = some r := H
   by_cases c7 : t406 = true
   rotate_left
   ·replace c7 := Bool.eq_false_iff.mpr c7
    subst c7
    have H1 : (some false) = some r := by rw [if_neg (show ¬ (false = true) by decide)] at H; exact H
    clear H
    have H := H1
    clear H1
    obtain rfl := Option.some.inj H
    have p405 : 0 ≤ (x7_1 : Int) := od
    have q405 : x7_1 < (l2.length : Int) := od
    obtain ⟨ad405, A405_0, c405_0, e405, hx405_0, hl405_0, hi405_0⟩ := at_L10 HR2.out x7_1 p405 q405
    cases e405
    have HR405_0 := Aside0.mk hi405_0
    have HC405_0 := Aside0.mk hl405_0
    clear hi405_0 hl405_0
    replace p405 := eq_true p405
    replace q405 := eq_true q405
    go_wp2_with (first | ((with_reducible refine gate_callee (f := 23) rfl ?_); refine gL (some 20) rfl rfl Try.func23 #[.int .i64 a0, .slice A1 l1.length c1, .slice A405_0 (rd_L10 l2 x7_1).length c405_0] rfl ?_; (with_reducible refine (r2_Store.calls k1 a0 _ _ l1 _ _ (rd_L10 l2 x7_1) false _ ?side1 ?side2 ?side3 ?side4 A6.out).mono ?_); (case side1 => exact ca HR1); (case side2 => exact HC1.out); (case side3 => exact ca HR405_0); (case side4 => exact HC405_0.out); rintro e w' ⟨rfl, ⟨nd, rfl⟩⟩; refine ⟨_, rfl, ?_⟩))
    go_ret
    exact ⟨rs, dr⟩
   subst c7
   have H1 : (r2_Stores.l0 k1 a0 l1 l2 (wrap64 (x7_1 + 1))) = some r := by rw [if_pos rfl] at H; exact H
   clear H
   have H := H1
   clear H1
   have H' := Aside0.mk H
   clear H
   have p405 : 0 ≤ (x7_1 : Int) := od
   have q405 : x7_1 < (l2.length : Int) := od
   obtain ⟨ad405, A405_0, c405_0, e405, hx405_0, hl405_0, hi405_0⟩ := at_L10 HR2.out x7_1 p405 q405
   cases e405
   have HR405_0 := Aside0.mk hi405_0
   have HC405_0 := Aside0.mk hl405_0
   clear hi405_0 hl405_0
   replace p405 := eq_true p405
   replace q405 := eq_true q405
   go_wp2_with (first | ((with_reducible refine gate_callee (f := 23) rfl ?_); refine gL (some 20) rfl rfl Try.func23 #[.int .i64 a0, .slice A1 l1.length c1, .slice A405_0 (rd_L10 l2 x7_1).length c405_0] rfl ?_; (with_reducible refine (r2_Store.calls k1 a0 _ _ l1 _ _ (rd_L10 l2 x7_1) true _ ?side1 ?side2 ?side3 ?side4 A6.out).mono ?_); (case side1 => exact ca HR1); (case side2 => exact HC1.out); (case side3 => exact ca HR405_0); (case side4 => exact HC405_0.out); rintro e w' ⟨rfl, ⟨nd, rfl⟩⟩; refine ⟨_, rfl, ?_⟩))
   go_roundg k1
   case measure => have := HK1.out; omega
   case rel => exact ⟨(wrap64 (x7_1 + 1)), rs, H', ⟨by have := HK1.out; omega⟩, dr⟩
def r12_Join.l0 : Nat → List (List Int) → List Int → Int → Option (List Int × Int)
 | 0, _, _, _ => none
 | k + 1, x1, x7, x8 => if x8 < (x1.length : Int) then (if 0 ≤ x8 then (if x7.length + (rd_L10 x1 x8).length < 17592186044416 then (r12_Join.l0 k x1 (x7 ++ (rd_L10 x1 x8)) (wrap64 (x8 + 1))) else (none)) else (none)) else (some (x7, 0))
def r12_Join.f (k : Nat) (a0_0 : Int) (l0_1 : List (S66)) (l0_2 : List (S64)) (l1 : List (List Int)) : Option (List Int × Int) := (r12_Copies.f k a0_0 l0_1 l0_2 (l1.length : Int)).bind fun t712 => (if t712 = 0 then ((r2_Stores.f k a0_0 l0_1 l1).bind fun t713 => (if t713 = true then (r12_Join.l0 k l1 ([] : List Int) 0) else (some (([] : List Int), 1)))) else (some (([] : List Int), t712)))
set_option maxHeartbeats 8000000 in
set_option maxRecDepth 100000 in
theorem r12_Join.calls (k : Nat) (a0_0 : Int) (A0_1 : Option Addr) (c0_1 : Nat) (l0_1 : List (S66)) (A0_2 : Option Addr) (c0_2 : Nat) (l0_2 : List (S64)) (A1 : Option Addr) (c1 : Nat) (l1 : List (List Int)) (r1 : List Int) (r2 : Int) (w : World) (hr0_1 : Kd.C k66 w A0_1 l0_1.length l0_1) (hc0_1 : l0_1.length ≤ c0_1) (hr0_2 : Kd.C k64 w A0_2 l0_2.length l0_2) (hc0_2 : l0_2.length ≤ c0_2) (hr1 : Kd.C (Kd.slice 3 (Kd.int .i64)) w A1 l1.length l1) (hc1 : l1.length ≤ c1) (h : r12_Join.f k a0_0 l0_1 l0_2 l1 = some (r1, r2)) :
  Calls Try.prog 33 #[.agg #[.int .i64 a0_0, .slice A0_1 l0_1.length c0_1, .slice A0_2 l0_2.length c0_2], .slice A1 l1.length c1] w fun e w' => ∃ v0_ : Value, e = .returned (.tuple #[v0_, .int .i64 r2]) ∧ Kd.R (Kd.int .i64) 3 w' w.heap.size (fun _ => True) v0_ r1 ∧ Below w.heap.size w w' := by
 have hu25 := Try.underlying25
 have HR0_1 := Aside0.mk hr0_1
 have HC0_1 := Aside0.mk hc0_1
 clear hr0_1 hc0_1
 have HR0_2 := Aside0.mk hr0_2
 have HC0_2 := Aside0.mk hc0_2
 clear hr0_2 hc0_2
 have HR1 := Aside0.mk hr1
 have HC1 := Aside0.mk hc1
 clear hr1 hc1
 have HB := Aside0.mk (Below.refl w.heap.size w)
 have H : ((r12_Copies.f k a0_0 l0_1 l0_2 (l1.length : Int)).bind fun t712 => (if t712 = 0 then ((r2_Stores.f k a0_0 l0_1 l1).bind fun t713 => (if t713 = true then (r12_Join.l0 k l1 ([] : List Int) 0) else (some (([] : List Int), 1)))) else (some (([] : List Int), t712)))) = some (r1, r2) := h
 clear h
 obtain ⟨t712, A3, H⟩ := be H
 replace H : (if t712 = 0 then ((r2_Stores.f k a0_0 l0_1 l1).bind fun t713 => (if t713 = true then (r12_Join.l0 k l1 ([] : List Int) 0) else (some (([] : List Int), 1)))) else (some (([] : List Int), t712))) = some (r1, r2) := H
 by_cases c4 : t712 = 0
 rotate_left
 ·rw [if_neg c4] at H
  have c4b0 : (t712 == 0) = false := beq_eq_false_iff_ne.mpr c4
  have c4b1 : (t712 != 0) = true := bne_iff_ne.mpr c4
  simp only [Option.some.injEq, Prod.mk.injEq] at H
  obtain ⟨rfl, rfl⟩ := H
  go_enter Try.func33, Try.ntmps33
  go_wp2_with (first | ((with_reducible refine gate_dst (N := 2) rfl ?_); refine bx 2 rfl rfl #[.int .i64 a0_0, .slice A0_1 l0_1.length c0_1, .slice A0_2 l0_2.length c0_2] 25 ?_; intro gb711 hg w19 hbox hb; have BK711 := Aside0.mk (hbox); have GW711 := ge HB hg; have GE711 := ge HB hg; replace HB := sb HB hb; clear hb hbox hg; obtain ⟨hcz20_0, hcz20_1, hcz20_2, hfz20_0, hfz20_1, hfz20_2⟩ := cf3 BK711.out) | ((with_reducible refine gate_callee (f := 18) rfl ?_); refine gL (some 12) rfl rfl Try.func18 #[.agg #[.int .i64 a0_0, .slice A0_1 l0_1.length c0_1, .slice A0_2 l0_2.length c0_2], .int .i64 (l1.length : Int)] rfl ?_; (with_reducible refine (r12_Copies.calls k a0_0 _ _ l0_1 _ _ l0_2 (l1.length : Int) t712 _ ?side1 ?side2 ?side3 ?side4 A3.out).mono ?_); (case side1 => exact cb HR0_1 HB); (case side2 => exact HC0_1.out); (case side3 => exact cb HR0_2 HB); (case side4 => exact HC0_2.out); rintro e w21 ⟨rfl, hb⟩; refine ⟨_, rfl, ?_⟩; replace BK711 := kb BK711 hb; replace HB := sb HB hb; (try clear hb); (try clear hb2); (try clear hk); (try clear hi)))
  go_ret2
  exact ⟨_, rr, by first | exact Kd.R_nil _ _ _ _ _ | exact Kd.N_nil _ _ _ _ _ | exact Kd.V_nil _ _ _ _ _ | exact Kd.Q_nil _ _ _ _ _ | exact Kd.S_nil _ _ _ _ _, bb HB⟩
 rw [if_pos c4] at H
 have c4b0 : (t712 == 0) = true := beq_iff_eq.mpr c4
 have c4b1 : (t712 != 0) = false := bne_eq_false_iff_eq.mpr c4
 clear c4
 obtain ⟨t713, A5, H⟩ := be H
 replace H : (if t713 = true then (r12_Join.l0 k l1 ([] : List Int) 0) else (some (([] : List Int), 1))) = some (r1, r2) := H
 by_cases c6 : t713 = true
 rotate_left
 ·replace c6 := Bool.eq_false_iff.mpr c6
  subst c6
  have H1 : (some (([] : List Int), 1)) = some (r1, r2) := by rw [if_neg (show ¬ (false = true) by decide)] at H; exact H
  clear H
  have H := H1
  clear H1
  simp only [Option.some.injEq, Prod.mk.injEq] at H
  obtain ⟨rfl, rfl⟩ := H
  go_enter Try.func33, Try.ntmps33
  go_wp2_with (first | ((with_reducible refine gate_dst (N := 2) rfl ?_); refine bx 2 rfl rfl #[.int .i64 a0_0, .slice A0_1 l0_1.length c0_1, .slice A0_2 l0_2.length c0_2] 25 ?_; intro gb711 hg w15 hbox hb; have BK711 := Aside0.mk (hbox); have GW711 := ge HB hg; have GE711 := ge HB hg; replace HB := sb HB hb; clear hb hbox hg; obtain ⟨hcz16_0, hcz16_1, hcz16_2, hfz16_0, hfz16_1, hfz16_2⟩ := cf3 BK711.out) | ((with_reducible refine gate_callee (f := 18) rfl ?_); refine gL (some 12) rfl rfl Try.func18 #[.agg #[.int .i64 a0_0, .slice A0_1 l0_1.length c0_1, .slice A0_2 l0_2.length c0_2], .int .i64 (l1.length : Int)] rfl ?_; (with_reducible refine (r12_Copies.calls k a0_0 _ _ l0_1 _ _ l0_2 (l1.length : Int) t712 _ ?side1 ?side2 ?side3 ?side4 A3.out).mono ?_); (case side1 => exact cb HR0_1 HB); (case side2 => exact HC0_1.out); (case side3 => exact cb HR0_2 HB); (case side4 => exact HC0_2.out); rintro e w17 ⟨rfl, hb⟩; refine ⟨_, rfl, ?_⟩; replace BK711 := kb BK711 hb; replace HB := sb HB hb; (try clear hb); (try clear hb2); (try clear hk); (try clear hi); obtain ⟨hcz18_0, hcz18_1, hcz18_2, hfz18_0, hfz18_1, hfz18_2⟩ := cf3 BK711.out) | ((with_reducible refine gate_callee (f := 19) rfl ?_); refine gL (some 21) rfl rfl Try.func19 #[.int .i64 a0_0, .slice A0_1 l0_1.length c0_1, .slice A1 l1.length c1] rfl ?_; (with_reducible refine (r2_Stores.calls k a0_0 _ _ l0_1 _ _ l1 false _ ?side1 ?side2 ?side3 ?side4 A5.out).mono ?_); (case side1 => exact cb HR0_1 HB); (case side2 => exact HC0_1.out); (case side3 => exact cb HR1 HB); (case side4 => exact HC1.out); rintro e w' ⟨rfl, ⟨nd, rfl⟩⟩; refine ⟨_, rfl, ?_⟩))
  go_ret2
  exact ⟨_, rr, by first | exact Kd.R_nil _ _ _ _ _ | exact Kd.N_nil _ _ _ _ _ | exact Kd.V_nil _ _ _ _ _ | exact Kd.Q_nil _ _ _ _ _ | exact Kd.S_nil _ _ _ _ _, bb HB⟩
 subst c6
 have H1 : (r12_Join.l0 k l1 ([] : List Int) 0) = some (r1, r2) := by rw [if_pos rfl] at H; exact H
 clear H
 have H := H1
 clear H1
 have H' := Aside0.mk H
 clear H
 go_enter Try.func33, Try.ntmps33
 go_wp2_with (first | ((with_reducible refine gate_dst (N := 2) rfl ?_); refine bx 2 rfl rfl #[.int .i64 a0_0, .slice A0_1 l0_1.length c0_1, .slice A0_2 l0_2.length c0_2] 25 ?_; intro gb711 hg w7 hbox hb; have BK711 := Aside0.mk (hbox); have GW711 := ge HB hg; have GE711 := ge HB hg; replace HB := sb HB hb; clear hb hbox hg; obtain ⟨hcz8_0, hcz8_1, hcz8_2, hfz8_0, hfz8_1, hfz8_2⟩ := cf3 BK711.out) | ((with_reducible refine gate_callee (f := 18) rfl ?_); refine gL (some 12) rfl rfl Try.func18 #[.agg #[.int .i64 a0_0, .slice A0_1 l0_1.length c0_1, .slice A0_2 l0_2.length c0_2], .int .i64 (l1.length : Int)] rfl ?_; (with_reducible refine (r12_Copies.calls k a0_0 _ _ l0_1 _ _ l0_2 (l1.length : Int) t712 _ ?side1 ?side2 ?side3 ?side4 A3.out).mono ?_); (case side1 => exact cb HR0_1 HB); (case side2 => exact HC0_1.out); (case side3 => exact cb HR0_2 HB); (case side4 => exact HC0_2.out); rintro e w9 ⟨rfl, hb⟩; refine ⟨_, rfl, ?_⟩; replace BK711 := kb BK711 hb; replace HB := sb HB hb; (try clear hb); (try clear hb2); (try clear hk); (try clear hi); obtain ⟨hcz10_0, hcz10_1, hcz10_2, hfz10_0, hfz10_1, hfz10_2⟩ := cf3 BK711.out) | ((with_reducible refine gate_callee (f := 19) rfl ?_); refine gL (some 21) rfl rfl Try.func19 #[.int .i64 a0_0, .slice A0_1 l0_1.length c0_1, .slice A1 l1.length c1] rfl ?_; (with_reducible refine (r2_Stores.calls k a0_0 _ _ l0_1 _ _ l1 true _ ?side1 ?side2 ?side3 ?side4 A5.out).mono ?_); (case side1 => exact cb HR0_1 HB); (case side2 => exact HC0_1.out); (case side3 => exact cb HR1 HB); (case side4 => exact HC1.out); rintro e w' ⟨rfl, ⟨nd, rfl⟩⟩; refine ⟨_, rfl, ?_⟩))
 go_loopg [7, 8] k (fun kq v7 v8 w' => ∃ (x7_1 : List Int) (x8_1 : Int), v8 = .int .i64 x8_1 ∧ Aside0 (r12_Join.l0 kq l1 x7_1 x8_1 = some (r1, r2)) ∧ Aside0 (kq ≤ k) ∧ Aside0 (Kd.R (Kd.int .i64) 3 w' w.heap.size (fun _ => True) v7 x7_1) ∧ Aside0 (w'.heap[gb711]? = some (.cells #[.int .i64 a0_0, (.slice A0_1 l0_1.length c0_1), (.slice A0_2 l0_2.length c0_2)] 25 (0, 0))) ∧ Aside0 (Below w.heap.size w w'))
 case atStart => exact ⟨(([] : List Int)), (0), rs, H', ⟨Nat.le_refl _⟩, ⟨by first | exact Kd.R_nil _ _ _ _ _ | exact Kd.N_nil _ _ _ _ _ | exact Kd.V_nil _ _ _ _ _ | exact Kd.Q_nil _ _ _ _ _ | exact Kd.S_nil _ _ _ _ _⟩, ⟨by (with_reducible repeat (first | refine kdN ?_ _ | refine kdr ?_ | refine kal ?_ _)); exact BK711.out⟩, ⟨bb HB⟩⟩
 case round =>
  clear H'
  try clear c1
  try clear p2
  try clear c3
  try clear c4
  try clear c4b0
  try clear c4b1
  try clear c6
  try clear hcz10_0 hcz10_1 hcz10_2
  try clear hcz8_0 hcz8_1 hcz8_2
  try clear hfz10_0 hfz10_1 hfz10_2
  try clear hfz8_0 hfz8_1 hfz8_2
  obtain ⟨x7_1, x8_1, rfl, HA, HK1, HO_7, BK711, HB⟩ := hrel
  cases gk with
  | zero => exact absurd HA.out (by simp [r12_Join.l0])
  | succ k1 =>
   have H := HA.out
   clear HA
   simp only [r12_Join.l0] at H
   by_cases c11 : x8_1 < (l1.length : Int)
   rotate_left
   ·rw [if_neg c11] at H
    have c11b0 : decide (x8_1 < (l1.length : Int)) = false := decide_eq_false c11
    clear c11
    simp only [Option.some.injEq, Prod.mk.injEq] at H
    obtain ⟨rfl, rfl⟩ := H
    go_wp2
    go_ret2
    exact ⟨_, rr, by (with_reducible repeat (first | apply Kd.R_alloc | apply Kd.R_drewN | apply Kd.R_drew)); exact HO_7.out, bb HB⟩
   rw [if_pos c11] at H
   have c11b0 : decide (x8_1 < (l1.length : Int)) = true := decide_eq_true c11
   clear c11
   by_cases c12 : 0 ≤ x8_1
   rotate_left
   ·rw [if_neg c12] at H
    exact absurd H (by simp)
   rw [if_pos c12] at H
   have c12b0 : decide (0 ≤ x8_1) = true := decide_eq_true c12
   clear c12
   by_cases c13 : x7_1.length + (rd_L10 l1 x8_1).length < 17592186044416
   rotate_left
   ·rw [if_neg c13] at H
    exact absurd H (by simp)
   rw [if_pos c13] at H
   have LMc13 := Aside0.mk c13
   clear c13
   obtain ⟨y715, hy715⟩ : ∃ y_ : List Int, y_ = (x7_1 ++ (rd_L10 l1 x8_1)) := ⟨_, rfl⟩
   replace H : (r12_Join.l0 k1 l1 y715 (wrap64 (x8_1 + 1))) = some (r1, r2) := by first | (rw [hy715]; with_reducible exact H) | (have H2_ := (Option.bind_some _ _).symm.trans H; rw [hy715]; with_reducible exact H2_) | (have H2_ := (Option.bind_some _ _).symm.trans H; with_reducible exact H2_) | with_reducible exact H | (rw [hy715]; exact H) | exact H
   have Ny715 := Aside0.mk hy715
   clear hy715
   have H' := Aside0.mk H
   clear H
   have p714 : 0 ≤ (x8_1 : Int) := od
   have q714 : x8_1 < (l1.length : Int) := od
   obtain ⟨ad714, A714_0, c714_0, e714, hx714_0, hl714_0, hi714_0⟩ := at_L10 HR1.out x8_1 p714 q714
   cases e714
   replace hx714_0 := bcell HB.out hx714_0
   have HR714_0 := Aside0.mk hi714_0
   have HC714_0 := Aside0.mk hl714_0
   clear hi714_0 hl714_0
   replace p714 := eq_true p714
   replace q714 := eq_true q714
   go_wp2_with (first | ((with_reducible refine gate_builtin (b := .append) (xs := #[.tmp 29, .tmp 33]) rfl ?_); at_builtin; refine Kd.R_append_rows (Kd.int .i64) (w0 := w) w.heap.size rfl (.tmp 29) (.tmp 33) 45 3 (.int .i64 0) 8 rfl Try.underlying45 info3 rfl (by decide) (by omega) u7 x7_1 (rd_L10 l1 x8_1) _ _ _ (fun _ => True) (fun _ => False) rfl rfl ?aO ?aR (fun _ _ h => h) (fun _ h => h.elim) ?aF ?aB ?aS ?aL ?_; (case aR => repeat (first | exact (Kd.C_below HR714_0.out HB.out) | with_reducible first | apply Kd.C_alloc | apply Kd.C_drewN | apply Kd.C_drew)); (case aB => exact (bb HB)); (case aF => exact (fun _ _ => trivial)); (case aO => exact (by (with_reducible repeat (first | apply Kd.R_alloc | apply Kd.R_drewN | apply Kd.R_drew)); exact HO_7.out)); (case aS => exact (bsz (bb HB))); (case aL => have := LMc13.out; omega); intro v716 w14 ho hb hg hat; rw [← Ny715.out] at ho; have HO717 := Aside0.mk (ho); replace BK711 := Aside0.mk (blk_grown (g := gb711) (o := .cells #[.int .i64 a0_0, .slice A0_1 l0_1.length c0_1, .slice A0_2 l0_2.length c0_2] 25 (0, 0)) (by (with_reducible repeat (first | refine kdN ?_ _ | refine kdr ?_ | refine kal ?_ _)); exact BK711.out) hg (Kd.R_ne HO_7.out BK711.out (by decide))); replace HB := Aside0.mk (hb); clear HO_7; clear ho hb hg hat))
   go_roundg k1
   case measure => have := HK1.out; omega
   case rel => exact ⟨(y715), (wrap64 (x8_1 + 1)), rs, H', ⟨by have := HK1.out; omega⟩, ⟨by (with_reducible repeat (first | apply Kd.R_alloc | apply Kd.R_drewN | apply Kd.R_drew)); exact HO717.out⟩, ⟨by (with_reducible repeat (first | refine kdN ?_ _ | refine kdr ?_ | refine kal ?_ _)); exact BK711.out⟩, ⟨bb HB⟩⟩
theorem pcells_loop : ∀ (suf pre : List S66) (acc : Int), (∀ v ∈ suf, 1 ≤ v.f2 ∧ v.f2 ≤ 8) → (pre ++ suf).length ≤ 1000 → 0 ≤ acc → acc + 8 * suf.length ≤ 1000000 →
    Tells (fun k => prod_cells.l0 k acc (pre ++ suf) ((pre ++ suf).length : Int) (pre.length : Int)) (acc + cs suf)
  | [], pre, acc, _, _, _, _ => by
    refine Tells.succ ?_
    simp only [prod_cells.l0, pre_nlt, if_false]
    rw [cs_nil, Int.add_zero]
    exact Tells.pure _
  | v :: r, pre, acc, hv, hl, h0, h1 => by
    refine Tells.succ ?_
    have hv1 := hv v (by simp)
    rw [List.length_cons] at h1
    simp only [prod_cells.l0, pre_lt, pre_pos, if_true, rdV_mid]
    have t := pcells_loop r (pre ++ [v]) (acc + v.f2) (fun u hu => hv u (by simp [hu])) (by rw [← pre_app]; exact hl) (by omega) (by omega)
    rw [← pre_app] at t
    rw [w64 (n := acc + v.f2) (by omega) (by omega), pre_next pre v r (by omega), cs_cons, ← Int.add_assoc]
    exact t
theorem pcells_tells (w : Int) (vars : List S66) (l2 : List S64) (hv : ∀ v ∈ vars, 1 ≤ v.f2 ∧ v.f2 ≤ 8) (hl : vars.length ≤ 18) : Tells (fun k => prod_cells.f k w vars l2) (cs vars) := by
  unfold prod_cells.f
  have := pcells_loop vars [] 0 hv (by rw [List.nil_append]; omega) (by decide) (by omega)
  rw [Int.zero_add] at this
  exact this
theorem pwords_loop (w : Int) (h1 : 1 ≤ w) (h8 : w ≤ 8) : ∀ (suf pre : List Int) (a b : Int), (pre ++ suf).length ≤ 9223372036854775807 →
    Tells (fun k => prod_words.l0 k w a b (pre ++ suf) ((pre ++ suf).length : Int) (pre.length : Int)) ((decide (0 ≤ a) && decide (b < 2 ^ w.toNat)) && valid (2 ^ w.toNat) suf)
  | [], pre, a, b, _ => by
    refine Tells.succ ?_
    simp only [prod_words.l0, pre_nlt, if_false]
    rw [u64_small (by omega) (by omega), shl_one (by omega) (by omega)]
    have hv : valid (2 ^ w.toNat) [] = true := rfl
    rw [hv, Bool.and_true]
    by_cases c : 0 ≤ a
    · rw [decide_eq_true c, Bool.true_and]
      exact Tells.ifT c (Tells.ifT (by omega) (Tells.pure _))
    · rw [decide_eq_false c, Bool.false_and]
      exact Tells.ifF c (Tells.pure _)
  | s :: r, pre, a, b, hl => by
    refine Tells.succ ?_
    simp only [prod_words.l0, pre_lt, pre_pos, if_true, rd_mid]
    have ih := pwords_loop w h1 h8 r (pre ++ [s]) (mn a s) (mx b s) (by rw [← pre_app]; exact hl)
    rw [← pre_app] at ih
    rw [pre_next pre s r hl, show valid (2 ^ w.toNat) (s :: r) = (decide (0 ≤ s ∧ s < 2 ^ w.toNat) && valid (2 ^ w.toNat) r) from List.all_cons]
    have e : ((decide (0 ≤ mn a s) && decide (mx b s < 2 ^ w.toNat)) && valid (2 ^ w.toNat) r) = ((decide (0 ≤ a) && decide (b < 2 ^ w.toNat)) && (decide (0 ≤ s ∧ s < 2 ^ w.toNat) && valid (2 ^ w.toNat) r)) := by
      generalize (2 : Int) ^ w.toNat = p
      have e1 : decide (0 ≤ mn a s) = (decide (0 ≤ a) && decide (0 ≤ s)) := by
        rw [← Bool.decide_and]; apply decide_eq_decide.2; unfold mn; split <;> omega
      have e2 : decide (mx b s < p) = (decide (b < p) && decide (s < p)) := by
        rw [← Bool.decide_and]; apply decide_eq_decide.2; unfold mx; split <;> omega
      rw [e1, e2, Bool.decide_and]
      cases decide (0 ≤ a) <;> cases decide (0 ≤ s) <;> cases decide (b < p) <;> cases decide (s < p) <;> simp
    rw [← e]
    exact ih
theorem pwords_tells (w : Int) (h1 : 1 ≤ w) (h8 : w ≤ 8) (l : List Int) (hl : l.length ≤ 9223372036854775807) : Tells (fun k => prod_words.f k w l) (valid (2 ^ w.toNat) l) := by
  unfold prod_words.f
  cases l with
  | nil => exact Tells.ifT rfl (Tells.pure _)
  | cons s r =>
    refine Tells.ifF (by rw [List.length_cons]; omega) (Tells.ifT (by rw [List.length_cons]; omega) ?_)
    have e : rd (s :: r) 0 = s := rd_mid [] s r
    rw [e]
    have := pwords_loop w h1 h8 (s :: r) [] s s hl
    have e2 : ((decide (0 ≤ s) && decide (s < 2 ^ w.toNat)) && valid (2 ^ w.toNat) (s :: r)) = valid (2 ^ w.toNat) (s :: r) := by
      rw [show valid (2 ^ w.toNat) (s :: r) = (decide (0 ≤ s ∧ s < 2 ^ w.toNat) && valid (2 ^ w.toNat) r) from List.all_cons, Bool.decide_and]
      cases decide (0 ≤ s) <;> cases decide (s < 2 ^ w.toNat) <;> simp
    rw [e2] at this
    exact this
theorem Words_tells (w : Int) (h1 : 1 ≤ w) (h8 : w ≤ 8) (l : List Int) (hl : l.length ≤ 9223372036854775807) : Tells (fun k => r1_Words.f k w l) (valid (2 ^ w.toNat) l) := by
  unfold r1_Words.f
  exact words_loop w h1 h8 l [] hl
theorem rdI_mid (pre : List (List Int)) (x : List Int) (r : List (List Int)) : rd_L10 (pre ++ x :: r) (pre.length : Int) = x := getD_mid pre x _ r
def isSto (w : Int) (vars : List S66) (s : List Int) : Bool := decide ((s.length : Int) = cs vars) && valid (2 ^ w.toNat) s
theorem pIs_cells {w : Int} {vars : List S66} {body : List S64} (hp : pIs w vars body = true) : 1 ≤ w ∧ w ≤ 8 ∧ (∀ v ∈ vars, 1 ≤ v.f2 ∧ v.f2 ≤ 8) ∧ vars.length ≤ 18 ∧ 0 ≤ cs vars ∧ cs vars ≤ 144 := by
  obtain ⟨hh, _⟩ := pIs_all hp
  obtain ⟨h1, h8, _, h18, hv, _⟩ := hIs_all hh
  have hv' : ∀ v ∈ vars, 1 ≤ v.f2 ∧ v.f2 ≤ 8 := fun v h => ⟨(hv v h).2.2.1, (hv v h).2.2.2⟩
  have := cs_bound vars hv'
  exact ⟨h1, h8, hv', h18, this.1, by omega⟩
theorem stores_loop (w : Int) (vars : List S66) (h1 : 1 ≤ w) (h8 : w ≤ 8) (hv : ∀ v ∈ vars, 1 ≤ v.f2 ∧ v.f2 ≤ 8) (h18 : vars.length ≤ 18) : ∀ (suf pre : List (List Int)), (pre ++ suf).length ≤ 1000 → (∀ s ∈ suf, s.length ≤ 9223372036854775807) →
    Tells (fun k => r2_Stores.l0 k w vars (pre ++ suf) (pre.length : Int)) (suf.all (isSto w vars))
  | [], pre, _, _ => by
    refine Tells.succ ?_
    simp only [r2_Stores.l0, pre_nlt, if_false]
    exact Tells.pure _
  | s :: r, pre, hl, hs => by
    refine Tells.succ ?_
    simp only [r2_Stores.l0, pre_lt, pre_pos, if_true, rdI_mid, List.all_cons]
    refine Tells.bind (Store_is w vars s h1 h8 hv h18 (hs s (by simp))) (Tells.ifB ?_)
    rw [pre_next pre s r (by omega)]
    have ih := stores_loop w vars h1 h8 hv h18 r (pre ++ [s]) (by rw [← pre_app]; exact hl) (fun u hu => hs u (by simp [hu]))
    rw [← pre_app] at ih
    exact ih
theorem Stores_tells (w : Int) (vars : List S66) (h1 : 1 ≤ w) (h8 : w ≤ 8) (hv : ∀ v ∈ vars, 1 ≤ v.f2 ∧ v.f2 ≤ 8) (h18 : vars.length ≤ 18) (l : List (List Int)) (hl : l.length ≤ 1000) (hs : ∀ s ∈ l, s.length ≤ 9223372036854775807) :
    Tells (fun k => r2_Stores.f k w vars l) (l.all (isSto w vars)) := by
  unfold r2_Stores.f
  exact stores_loop w vars h1 h8 hv h18 l [] hl hs
theorem isSto_len {w : Int} {vars : List S66} {s : List Int} (h : isSto w vars s = true) : (s.length : Int) = cs vars ∧ valid (2 ^ w.toNat) s = true := by
  unfold isSto at h
  rw [Bool.and_eq_true, decide_eq_true_eq] at h
  exact h
def jnV (w : Int) (vars : List S66) (acc : List Int) (l : List (List Int)) : List Int × Int := if l.all (isSto w vars) = true then (acc ++ l.flatten, 0) else ([], 1)
def jnR (w : Int) (vars : List S66) (body : List S64) (l : List (List Int)) : List Int × Int := if cpE w vars body (l.length : Int) = 0 then jnV w vars [] l else ([], cpE w vars body (l.length : Int))
theorem join_loop (w : Int) (vars : List S66) (body : List S64) (h1 : 1 ≤ w) (h8 : w ≤ 8) (hv : ∀ v ∈ vars, 1 ≤ v.f2 ∧ v.f2 ≤ 8) (h18 : vars.length ≤ 18) (c0 : 0 ≤ cs vars) (c1 : cs vars ≤ 144) : ∀ (suf pre : List (List Int)) (acc : List Int), (pre ++ suf).length ≤ 1000 → acc.length + suf.length * 144 ≤ 1000000 → (∀ s ∈ suf, s.length ≤ 9223372036854775807) →
    Tells (fun k => prod_Join.l0 k acc (pre ++ suf) ((pre ++ suf).length : Int) (pre.length : Int) w vars body) (jnV w vars acc suf)
  | [], pre, acc, _, _, _ => by
    refine Tells.succ ?_
    simp only [prod_Join.l0, pre_nlt, if_false]
    have : jnV w vars acc [] = (acc, 0) := by unfold jnV; rw [List.all_nil, if_pos rfl, List.flatten_nil, List.append_nil]
    rw [this]
    exact Tells.pure _
  | s :: r, pre, acc, hl, ha, hs => by
    refine Tells.succ ?_
    simp only [prod_Join.l0, pre_lt, pre_pos, if_true, rdI_mid]
    refine Tells.bind (pcells_tells w vars body hv h18) ?_
    rw [List.length_cons] at ha
    by_cases e : (s.length : Int) = cs vars
    · refine Tells.ifT e (Tells.bind (pwords_tells w h1 h8 s (hs s (by simp))) ?_)
      by_cases hv2 : valid (2 ^ w.toNat) s = true
      · refine Tells.ifT hv2 (Tells.ifT (by omega) ?_)
        have hi : isSto w vars s = true := by unfold isSto; rw [decide_eq_true e, hv2]; rfl
        have : jnV w vars acc (s :: r) = jnV w vars (acc ++ s) r := by
          unfold jnV
          rw [List.all_cons, hi, Bool.true_and, List.flatten_cons, List.append_assoc]
        rw [this, pre_next pre s r (by omega)]
        have ih := join_loop w vars body h1 h8 hv h18 c0 c1 r (pre ++ [s]) (acc ++ s) (by rw [← pre_app]; exact hl) (by rw [List.length_append]; omega) (fun u hu => hs u (by simp [hu]))
        rw [← pre_app] at ih
        exact ih
      · have hi : isSto w vars s = false := by unfold isSto; rw [Bool.eq_false_iff.2 hv2, Bool.and_false]
        have : jnV w vars acc (s :: r) = ([], 1) := by unfold jnV; rw [List.all_cons, hi, Bool.false_and, if_neg (by decide)]
        rw [this]
        exact Tells.ifF hv2 (Tells.pure _)
    · have hi : isSto w vars s = false := by unfold isSto; rw [decide_eq_false e, Bool.false_and]
      have : jnV w vars acc (s :: r) = ([], 1) := by unfold jnV; rw [List.all_cons, hi, Bool.false_and, if_neg (by decide)]
      rw [this]
      exact Tells.ifF e (Tells.pure _)
theorem rjoin_loop (l : List (List Int)) : ∀ (suf pre : List (List Int)) (acc : List Int), l = pre ++ suf → (pre ++ suf).length ≤ 1000 → acc.length + suf.flatten.length ≤ 1000000 →
    Tells (fun k => r12_Join.l0 k (pre ++ suf) acc (pre.length : Int)) (acc ++ suf.flatten, 0)
  | [], pre, acc, _, _, _ => by
    refine Tells.succ ?_
    simp only [r12_Join.l0, pre_nlt, if_false]
    rw [List.flatten_nil, List.append_nil]
    exact Tells.pure _
  | s :: r, pre, acc, e, hl, ha => by
    refine Tells.succ ?_
    simp only [r12_Join.l0, pre_lt, pre_pos, if_true, rdI_mid]
    rw [List.flatten_cons, List.length_append] at ha
    refine Tells.ifT (by omega) ?_
    rw [pre_next pre s r (by omega), List.flatten_cons, ← List.append_assoc]
    have ih := rjoin_loop l r (pre ++ [s]) (acc ++ s) (by rw [← pre_app]; exact e) (by rw [← pre_app]; exact hl) (by rw [List.length_append]; omega)
    rw [← pre_app] at ih
    exact ih
theorem flatten_len {c : Int} (h0 : 0 ≤ c) : ∀ {l : List (List Int)}, (∀ s ∈ l, (s.length : Int) = c) → (l.flatten.length : Int) = l.length * c
  | [], _ => by simp
  | s :: r, h => by
    have h1 := h s (by simp)
    have h2 := flatten_len h0 (l := r) (fun u hu => h u (by simp [hu]))
    rw [List.flatten_cons, List.length_append, List.length_cons, Int.natCast_add, h2, h1]
    have : ((r.length + 1 : Nat) : Int) * c = (r.length : Int) * c + c := by rw [Int.natCast_add, Int.add_mul]; simp
    rw [this]
    omega
theorem cpE_ok {w : Int} {vars : List S66} {body : List S64} {k : Int} (hc : cpE w vars body k = 0) : pIs w vars body = true ∧ sgE w vars body = 0 ∧ 1 ≤ k ∧ k ≤ 3 := by
  unfold cpE at hc
  rcases sgE_vals w vars body with ⟨hp, hs⟩ | ⟨hp, hs⟩ | ⟨hp, hs⟩
  · rw [hs, if_pos rfl] at hc
    by_cases c1 : k < 1
    · rw [if_pos c1] at hc; cases hc
    · rw [if_neg c1] at hc
      by_cases c3 : k > 3
      · rw [if_pos c3] at hc; cases hc
      · exact ⟨hp, hs, by omega, by omega⟩
  · rw [hs, if_neg (by decide)] at hc; cases hc
  · rw [hs, if_neg (by decide)] at hc; cases hc
theorem join_tells (w : Int) (vars : List S66) (body : List S64) (hl : body.length ≤ 9223372036854775807) (hg : goodSs body) (l : List (List Int)) (hs : ∀ s ∈ l, s.length ≤ 9223372036854775807) :
    Tells (fun j => prod_Join.f j w vars body l) (jnR w vars body l) := by
  unfold prod_Join.f
  refine Tells.bind (pCheck_tells w vars body hl hg) ?_
  have ts := prodSingle_tells w vars body hl hg
  have no : ∀ b, b = true → cpE w vars body (l.length : Int) = 1 → Tells (fun j => prod_Join.j0 j l b w vars body) (jnR w vars body l) := by
    rintro b rfl h
    have : jnR w vars body l = ([], 1) := by unfold jnR; rw [h, if_neg (by decide)]
    rw [this]
    refine Tells.succ ?_
    simp only [prod_Join.j0, if_true]
    exact Tells.pure _
  rcases sgE_vals w vars body with ⟨hp, h⟩ | ⟨hp, h⟩ | ⟨hp, h⟩
  · rw [hp]
    refine Tells.ifT rfl ?_
    by_cases c1 : (l.length : Int) < 1
    · exact Tells.ifT c1 (no _ rfl (by unfold cpE; rw [h, if_pos rfl, if_pos c1]))
    refine Tells.ifF c1 ?_
    by_cases c3 : (l.length : Int) > 3
    · exact Tells.ifT c3 (no _ rfl (by unfold cpE; rw [h, if_pos rfl, if_neg c1, if_pos c3]))
    refine Tells.ifF c3 (Tells.bind ts ?_)
    have hcp : cpE w vars body (l.length : Int) = 0 := by unfold cpE; rw [h, if_pos rfl, if_neg c1, if_neg c3]
    obtain ⟨h1, h8, hv, h18, k0, k1⟩ := pIs_cells hp
    rw [h]
    refine Tells.succ ?_
    simp only [prod_Join.j0, bne_self_eq_false, Bool.false_eq_true, if_false]
    have : jnR w vars body l = jnV w vars [] l := by unfold jnR; rw [hcp, if_pos rfl]
    rw [this]
    exact join_loop w vars body h1 h8 hv h18 k0 k1 l [] [] (by simp only [List.nil_append]; omega) (by simp only [List.length_nil]; omega) hs
  · rw [hp]
    refine Tells.ifT rfl ?_
    have hc : cpE w vars body (l.length : Int) = 1 := by unfold cpE; rw [h, if_neg (by decide)]
    by_cases c1 : (l.length : Int) < 1
    · exact Tells.ifT c1 (no _ rfl hc)
    refine Tells.ifF c1 ?_
    by_cases c3 : (l.length : Int) > 3
    · exact Tells.ifT c3 (no _ rfl hc)
    exact Tells.ifF c3 (Tells.bind ts (no _ (by rw [h]; rfl) hc))
  · rw [hp]
    have hc : cpE w vars body (l.length : Int) = 30 := by unfold cpE; rw [h, if_neg (by decide)]
    have : jnR w vars body l = ([], 30) := by unfold jnR; rw [hc, if_neg (by decide)]
    rw [this]
    exact Tells.ifF (by decide) (Tells.pure _)
theorem rjoin_tells (w : Int) (vars : List S66) (body : List S64) (hl : body.length ≤ 9223372036854775807) (hg : goodSs body) (l : List (List Int)) (hs : ∀ s ∈ l, s.length ≤ 9223372036854775807) :
    Tells (fun j => r12_Join.f j w vars body l) (jnR w vars body l) := by
  unfold r12_Join.f
  refine Tells.bind (Copies_tells w vars body hl hg (l.length : Int)) ?_
  by_cases hc : cpE w vars body (l.length : Int) = 0
  · refine Tells.ifT hc ?_
    obtain ⟨hp, _, k1, k3⟩ := cpE_ok hc
    obtain ⟨h1, h8, hv, h18, c0, c1⟩ := pIs_cells hp
    have : jnR w vars body l = jnV w vars [] l := by unfold jnR; rw [hc, if_pos rfl]
    rw [this]
    refine Tells.bind (Stores_tells w vars h1 h8 hv h18 l (by omega) hs) ?_
    unfold jnV
    by_cases ha : l.all (isSto w vars) = true
    · rw [if_pos ha]
      refine Tells.ifT ha ?_
      have hf := flatten_len c0 (l := l) (fun s h => (isSto_len (List.all_eq_true.1 ha s h)).1)
      have hb : (l.length : Int) * cs vars ≤ 3 * 144 := Int.mul_le_mul k3 c1 c0 (by decide)
      exact rjoin_loop l l [] [] rfl (by simp only [List.nil_append]; omega) (by simp only [List.length_nil]; omega)
    · rw [if_neg ha]
      exact Tells.ifF ha (Tells.pure _)
  · have : jnR w vars body l = ([], cpE w vars body (l.length : Int)) := by unfold jnR; rw [if_neg hc]
    rw [this]
    exact Tells.ifF hc (Tells.pure _)
end Go.Proofs.Ytilebfkehmecaaa.Print
namespace Go.Proofs.Ytilebfkehmecaaa.Print
open Go.RowKit Go.Proofs.YtilebfkehmecaaaW.PrintWords Go.Proofs.YtilebfkehmecaaaW.PrintLast Go.Proofs.YtilebfkehmecaaaW.PrintMore
attribute [local go_sem] max2_int min2_int max_two min_two max_three min_three max_four min_four
set_option linter.unusedVariables false
set_option linter.unusedSimpArgs false
open Go.RowKit
attribute [local go_sem] Lib.run_eql_slice_nil
def slices_Clone_int_int.f (_ : Nat) (l0 : List Int) : Option (List Int) := if l0.length ≤ 1000000 then some l0 else none
set_option maxHeartbeats 8000000 in
set_option maxRecDepth 100000 in
theorem slices_Clone_int_int.calls (k : Nat) (A0 : Option Addr) (c0 : Nat) (l0 r : List Int) (w : World) (hr0 : Kd.C (Kd.int .i64) w A0 l0.length l0) (hc0 : l0.length ≤ c0) (h : slices_Clone_int_int.f k l0 = some r) :
    Calls Try.prog 71 #[.slice A0 l0.length c0] w fun e w' => ∃ v_ : Value, e = .returned v_ ∧ Kd.R (Kd.int .i64) 3 w' w.heap.size (fun _ => True) v_ r ∧ Below w.heap.size w w' := by
  unfold slices_Clone_int_int.f at h
  have hl : l0.length ≤ 1000000 := by
    rcases Nat.lt_or_ge 1000000 l0.length with h1 | h1
    · rw [if_neg (by omega)] at h; cases h
    · exact h1
  rw [if_pos hl] at h
  obtain rfl := Option.some.inj h
  clear h
  have huI := Try.underlying45
  cases A0 with
  | none =>
    have h0 : l0.length = 0 := by
      rcases Nat.eq_zero_or_pos l0.length with h0 | h0
      · exact h0
      · obtain ⟨ad, e1, _⟩ := hr0.2.2 h0
        cases e1
    obtain rfl := List.eq_nil_of_length_eq_zero h0
    go_enter Try.func71, Try.ntmps71
    go_wp2
    go_ret
    exact ⟨_, rfl, Kd.R_nil _ _ _ _ _, Below.refl _ _⟩
  | some ad =>
    have HR := Aside0.mk hr0
    clear hr0
    have o1 : Kd.R (Kd.int .i64) 3 (w.alloc (.cells #[] 3)) w.heap.size (fun _ => True) (.slice (some ⟨w.heap.size, 0, none⟩) 0 0) [] := ⟨fun _ _ => trivial, [], World.ownsRow_lit w #[] 0 (Nat.le_refl _) (by decide) rfl, ⟨rfl, fun j x hj => by simp at hj⟩⟩
    have O1 := Aside0.mk o1
    clear o1
    go_enter Try.func71, Try.ntmps71
    go_wp2_with (first | ((with_reducible refine gate_builtin (b := .append) (xs := #[.tmp 5, .tmp 6]) rfl ?_); at_builtin; refine Kd.R_append_rows (Kd.int .i64) (w0 := w) w.heap.size rfl (.tmp 5) (.tmp 6) 45 3 (.int .i64 0) 8 rfl Try.underlying45 info3 rfl (by decide) (by omega) _ [] l0 _ _ _ (fun _ => True) (fun _ => False) rfl rfl O1.out (Kd.C_alloc HR.out _) (fun _ _ h => h) (fun _ h => h.elim) (fun _ _ => trivial) (bal (Below.refl _ _) _) (by simp) (by simp; omega) ?_; intro v178 w27 ho hb hg hat))
    go_ret
    exact ⟨_, rfl, ho, hb⟩
end Go.Proofs.Ytilebfkehmecaaa.Print
namespace Go.Proofs.Ytilebfkehmecaaa.Print
open Go.RowKit Go.Proofs.YtilebfkehmecaaaW.PrintWords Go.Proofs.YtilebfkehmecaaaW.PrintLast Go.Proofs.YtilebfkehmecaaaW.PrintMore
attribute [local go_sem] max2_int min2_int max_two min_two max_three min_three max_four min_four
set_option linter.unusedVariables false
set_option linter.unusedSimpArgs false
mutual
def prod_Split.j0 : Nat → Int → List Int → Int → Bool → Option ((List (List Int)) × Int)
 | 0, _, _, _, _ => none
 | k + 1, x1, x2, x8, x41 => if x41 = true then (some (([] : List (List Int)), 1)) else (prod_Split.l0 k x2 x8 ([] : List (List Int)) x1 0)
def prod_Split.l0 : Nat → List Int → Int → List (List Int) → Int → Int → Option ((List (List Int)) × Int)
 | 0, _, _, _, _, _ => none
 | k + 1, x2, x8, x9, x42, x43 => if x43 < x42 then (if 0 ≤ (wrap64 (x43 * x8)) then (if (wrap64 (x43 * x8)) ≤ (wrap64 ((wrap64 (x43 + 1)) * x8)) then (if (wrap64 ((wrap64 (x43 + 1)) * x8)) ≤ (x2.length : Int) then ((slices_Clone_int_int.f k ((x2.take ((wrap64 ((wrap64 (x43 + 1)) * x8)) : Int).toNat).drop ((wrap64 (x43 * x8)) : Int).toNat)).bind fun t705 => (if x9.length < 5864062014805 then (prod_Split.l0 k x2 x8 (x9 ++ [t705]) x42 (wrap64 (x43 + 1))) else (none))) else (none)) else (none)) else (none)) else (some (x9, 0))
end
def prod_Split.f (k : Nat) (a0_0 : Int) (l0_1 : List (S66)) (l0_2 : List (S64)) (a1 : Int) (l2 : List Int) : Option ((List (List Int)) × Int) := (prog_Check.f k a0_0 l0_1 l0_2).bind fun t700 => (if t700 = 0 then ((prod_cells.f k a0_0 l0_1 l0_2).bind fun t701 => (if a1 < 1 then (prod_Split.j0 k a1 l2 t701 true) else (if a1 > 3 then (prod_Split.j0 k a1 l2 t701 true) else ((prod_single.f k a0_0 l0_1 l0_2).bind fun t702 => (if t702 = 0 then (if (l2.length : Int) = (wrap64 (a1 * t701)) then ((prod_words.f k a0_0 l2).bind fun t703 => (prod_Split.j0 k a1 l2 t701 (!t703))) else (prod_Split.j0 k a1 l2 t701 true)) else (prod_Split.j0 k a1 l2 t701 true)))))) else (some (([] : List (List Int)), 30)))
set_option maxHeartbeats 8000000 in
set_option maxRecDepth 100000 in
theorem prod_Split.calls (k : Nat) (a0_0 : Int) (A0_1 : Option Addr) (c0_1 : Nat) (l0_1 : List (S66)) (A0_2 : Option Addr) (c0_2 : Nat) (l0_2 : List (S64)) (a1 : Int) (A2 : Option Addr) (c2 : Nat) (l2 : List Int) (r1 : List (List Int)) (r2 : Int) (w : World) (hr0_1 : Kd.C k66 w A0_1 l0_1.length l0_1) (hc0_1 : l0_1.length ≤ c0_1) (hr0_2 : Kd.C k64 w A0_2 l0_2.length l0_2) (hc0_2 : l0_2.length ≤ c0_2) (hr2 : Kd.C (Kd.int .i64) w A2 l2.length l2) (hc2 : l2.length ≤ c2) (h : prod_Split.f k a0_0 l0_1 l0_2 a1 l2 = some (r1, r2)) :
  Calls Try.prog 32 #[.agg #[.int .i64 a0_0, .slice A0_1 l0_1.length c0_1, .slice A0_2 l0_2.length c0_2], .int .i64 a1, .slice A2 l2.length c2] w fun e w' => ∃ v0_ : Value, e = .returned (.tuple #[v0_, .int .i64 r2]) ∧ Kd.S (Kd.slice 3 (Kd.int .i64)) 45 w' w.heap.size (fun _ => True) v0_ r1 ∧ Below w.heap.size w w' := by
 have hu25 := Try.underlying25
 have HR0_1 := Aside0.mk hr0_1
 have HC0_1 := Aside0.mk hc0_1
 clear hr0_1 hc0_1
 have HR0_2 := Aside0.mk hr0_2
 have HC0_2 := Aside0.mk hc0_2
 clear hr0_2 hc0_2
 have HR2 := Aside0.mk hr2
 have HC2 := Aside0.mk hc2
 clear hr2 hc2
 have HB := Aside0.mk (Below.refl w.heap.size w)
 have H : ((prog_Check.f k a0_0 l0_1 l0_2).bind fun t700 => (if t700 = 0 then ((prod_cells.f k a0_0 l0_1 l0_2).bind fun t701 => (if a1 < 1 then (prod_Split.j0 k a1 l2 t701 true) else (if a1 > 3 then (prod_Split.j0 k a1 l2 t701 true) else ((prod_single.f k a0_0 l0_1 l0_2).bind fun t702 => (if t702 = 0 then (if (l2.length : Int) = (wrap64 (a1 * t701)) then ((prod_words.f k a0_0 l2).bind fun t703 => (prod_Split.j0 k a1 l2 t701 (!t703))) else (prod_Split.j0 k a1 l2 t701 true)) else (prod_Split.j0 k a1 l2 t701 true)))))) else (some (([] : List (List Int)), 30)))) = some (r1, r2) := h
 clear h
 obtain ⟨t700, A4, H⟩ := be H
 replace H : (if t700 = 0 then ((prod_cells.f k a0_0 l0_1 l0_2).bind fun t701 => (if a1 < 1 then (prod_Split.j0 k a1 l2 t701 true) else (if a1 > 3 then (prod_Split.j0 k a1 l2 t701 true) else ((prod_single.f k a0_0 l0_1 l0_2).bind fun t702 => (if t702 = 0 then (if (l2.length : Int) = (wrap64 (a1 * t701)) then ((prod_words.f k a0_0 l2).bind fun t703 => (prod_Split.j0 k a1 l2 t701 (!t703))) else (prod_Split.j0 k a1 l2 t701 true)) else (prod_Split.j0 k a1 l2 t701 true)))))) else (some (([] : List (List Int)), 30))) = some (r1, r2) := H
 by_cases c5 : t700 = 0
 rotate_left
 ·rw [if_neg c5] at H
  have c5b0 : (t700 == 0) = false := beq_eq_false_iff_ne.mpr c5
  have c5b1 : (t700 != 0) = true := bne_iff_ne.mpr c5
  simp only [Option.some.injEq, Prod.mk.injEq] at H
  obtain ⟨rfl, rfl⟩ := H
  go_enter Try.func32, Try.ntmps32
  go_wp2_with (first | ((with_reducible refine gate_dst (N := 3) rfl ?_); (try (refine gate_guard (by rfl) ?_; dsimp only)); refine bx 3 rfl rfl #[.int .i64 a0_0, .slice A0_1 l0_1.length c0_1, .slice A0_2 l0_2.length c0_2] 25 ?_; intro gb699 hg w39 hbox hb; have BK699 := Aside0.mk (hbox); have GW699 := ge HB hg; have GE699 := ge HB hg; replace HB := sb HB hb; clear hb hbox hg; obtain ⟨hcz40_0, hcz40_1, hcz40_2, hfz40_0, hfz40_1, hfz40_2⟩ := cf3 BK699.out) | ((with_reducible refine gate_callee (f := 43) rfl ?_); refine gL (some 12) rfl rfl Try.func43 #[.agg #[.int .i64 a0_0, .slice A0_1 l0_1.length c0_1, .slice A0_2 l0_2.length c0_2]] rfl ?_; (with_reducible refine (prog_Check.calls k a0_0 _ _ l0_1 _ _ l0_2 t700 _ ?side1 ?side2 ?side3 ?side4 A4.out).mono ?_); (case side1 => exact cb HR0_1 HB); (case side2 => exact HC0_1.out); (case side3 => exact cb HR0_2 HB); (case side4 => exact HC0_2.out); rintro e w41 ⟨rfl, hb⟩; refine ⟨_, rfl, ?_⟩; replace BK699 := kb BK699 hb; replace HB := sb HB hb; (try clear hb); (try clear hb2); (try clear hk); (try clear hi)))
  go_ret2
  exact ⟨_, rr, by first | exact Kd.S_nil _ _ _ _ _ | exact Kd.N_nil _ _ _ _ _ | exact Kd.V_nil _ _ _ _ _ | exact Kd.Q_nil _ _ _ _ _ | exact Kd.R_nil _ _ _ _ _, bb HB⟩
 rw [if_pos c5] at H
 have c5b0 : (t700 == 0) = true := beq_iff_eq.mpr c5
 have c5b1 : (t700 != 0) = false := bne_eq_false_iff_eq.mpr c5
 clear c5
 obtain ⟨t701, A6, H⟩ := be H
 replace H : (if a1 < 1 then (prod_Split.j0 k a1 l2 t701 true) else (if a1 > 3 then (prod_Split.j0 k a1 l2 t701 true) else ((prod_single.f k a0_0 l0_1 l0_2).bind fun t702 => (if t702 = 0 then (if (l2.length : Int) = (wrap64 (a1 * t701)) then ((prod_words.f k a0_0 l2).bind fun t703 => (prod_Split.j0 k a1 l2 t701 (!t703))) else (prod_Split.j0 k a1 l2 t701 true)) else (prod_Split.j0 k a1 l2 t701 true))))) = some (r1, r2) := H
 have HC7 := Aside0.mk H
 clear H
 go_enter Try.func32, Try.ntmps32
 go_upto_region 4 with (first | ((with_reducible refine gate_dst (N := 3) rfl ?_); (try (refine gate_guard (by rfl) ?_; dsimp only)); refine bx 3 rfl rfl #[.int .i64 a0_0, .slice A0_1 l0_1.length c0_1, .slice A0_2 l0_2.length c0_2] 25 ?_; intro gb699 hg w8 hbox hb; have BK699 := Aside0.mk (hbox); have GW699 := ge HB hg; have GE699 := ge HB hg; replace HB := sb HB hb; clear hb hbox hg; obtain ⟨hcz9_0, hcz9_1, hcz9_2, hfz9_0, hfz9_1, hfz9_2⟩ := cf3 BK699.out) | ((with_reducible refine gate_callee (f := 43) rfl ?_); refine gL (some 12) rfl rfl Try.func43 #[.agg #[.int .i64 a0_0, .slice A0_1 l0_1.length c0_1, .slice A0_2 l0_2.length c0_2]] rfl ?_; (with_reducible refine (prog_Check.calls k a0_0 _ _ l0_1 _ _ l0_2 t700 _ ?side1 ?side2 ?side3 ?side4 A4.out).mono ?_); (case side1 => exact cb HR0_1 HB); (case side2 => exact HC0_1.out); (case side3 => exact cb HR0_2 HB); (case side4 => exact HC0_2.out); rintro e w10 ⟨rfl, hb⟩; refine ⟨_, rfl, ?_⟩; replace BK699 := kb BK699 hb; replace HB := sb HB hb; (try clear hb); (try clear hb2); (try clear hk); (try clear hi); obtain ⟨hcz11_0, hcz11_1, hcz11_2, hfz11_0, hfz11_1, hfz11_2⟩ := cf3 BK699.out) | ((with_reducible refine gate_callee (f := 55) rfl ?_); refine gL (some 15) rfl rfl Try.func55 #[.agg #[.int .i64 a0_0, .slice A0_1 l0_1.length c0_1, .slice A0_2 l0_2.length c0_2]] rfl ?_; (with_reducible refine (prod_cells.calls k a0_0 _ _ l0_1 _ _ l0_2 t701 _ ?side1 ?side2 ?side3 ?side4 A6.out).mono ?_); (case side1 => exact cb HR0_1 HB); (case side2 => exact HC0_1.out); (case side3 => exact cb HR0_2 HB); (case side4 => exact HC0_2.out); rintro e w12 ⟨rfl, hb⟩; refine ⟨_, rfl, ?_⟩; replace BK699 := kb BK699 hb; replace HB := sb HB hb; (try clear hb); (try clear hb2); (try clear hk); (try clear hi)))
 (try simp only [Act.put, List.setIfInBounds_toArray, List.set_cons_zero, List.set_cons_succ])
 go_cut [41] (fun v41 wc => ∃ (kq : Nat) (x41_6 : Bool), v41 = .bool x41_6 ∧ Aside0 (prod_Split.j0 kq a1 l2 t701 x41_6 = some (r1, r2)) ∧ Aside0 (kq ≤ k) ∧ Aside0 (wc.heap[gb699]? = some (.cells #[.int .i64 a0_0, (.slice A0_1 l0_1.length c0_1), (.slice A0_2 l0_2.length c0_2)] 25 (0, 0))) ∧ Aside0 (Below w.heap.size w wc))
 case first =>
  have H := HC7.out
  clear HC7
  by_cases c13 : a1 < 1
  ·rw [if_pos c13] at H
   have c13b0 : decide (a1 < 1) = true := decide_eq_true c13
   clear c13
   (first | rw [c13b0] | (simp only [i64_w, i32_w]; rw [c13b0]) | skip)
   have H' := Aside0.mk H
   clear H
   go_wp2
   go_meet
   case rel => exact ⟨_, (true), rs, H', ⟨by first | omega | exact Nat.le_refl _⟩, ⟨by (with_reducible repeat (first | refine kdN ?_ _ | refine kdr ?_ | refine kal ?_ _)); exact BK699.out⟩, ⟨bb HB⟩⟩
  rw [if_neg c13] at H
  have c13b0 : decide (a1 < 1) = false := decide_eq_false c13
  clear c13
  (first | rw [c13b0] | (simp only [i64_w, i32_w]; rw [c13b0]) | skip)
  by_cases c14 : a1 > 3
  ·rw [if_pos c14] at H
   have c14b0 : decide (3 < a1) = true := decide_eq_true c14
   clear c14
   have H' := Aside0.mk H
   clear H
   go_wp2
   go_meet
   case rel => exact ⟨_, (true), rs, H', ⟨by first | omega | exact Nat.le_refl _⟩, ⟨by (with_reducible repeat (first | refine kdN ?_ _ | refine kdr ?_ | refine kal ?_ _)); exact BK699.out⟩, ⟨bb HB⟩⟩
  rw [if_neg c14] at H
  have c14b0 : decide (3 < a1) = false := decide_eq_false c14
  clear c14
  obtain ⟨t702, A15, H⟩ := be H
  replace H : (if t702 = 0 then (if (l2.length : Int) = (wrap64 (a1 * t701)) then ((prod_words.f k a0_0 l2).bind fun t703 => (prod_Split.j0 k a1 l2 t701 (!t703))) else (prod_Split.j0 k a1 l2 t701 true)) else (prod_Split.j0 k a1 l2 t701 true)) = some (r1, r2) := H
  by_cases c16 : t702 = 0
  rotate_left
  ·rw [if_neg c16] at H
   have c16b0 : (t702 == 0) = false := beq_eq_false_iff_ne.mpr c16
   have c16b1 : (t702 != 0) = true := bne_iff_ne.mpr c16
   have H' := Aside0.mk H
   clear H
   obtain ⟨hcz25_0, hcz25_1, hcz25_2, hfz25_0, hfz25_1, hfz25_2⟩ := cf3 BK699.out
   go_wp2_with (first | (go_at_call 44; (with_reducible refine (prod_single.calls k a0_0 _ _ l0_1 _ _ l0_2 t702 _ ?side1 ?side2 ?side3 ?side4 A15.out).mono ?_); (case side1 => exact cb HR0_1 HB); (case side2 => exact HC0_1.out); (case side3 => exact cb HR0_2 HB); (case side4 => exact HC0_2.out); rintro e w26 ⟨rfl, hb⟩; replace BK699 := kb BK699 hb; replace HB := sb HB hb; (try clear hb); (try clear hb2); (try clear hk); (try clear hi)))
   go_meet
   case rel => exact ⟨_, (true), rs, H', ⟨by first | omega | exact Nat.le_refl _⟩, ⟨by (with_reducible repeat (first | refine kdN ?_ _ | refine kdr ?_ | refine kal ?_ _)); exact BK699.out⟩, ⟨bb HB⟩⟩
  rw [if_pos c16] at H
  have c16b0 : (t702 == 0) = true := beq_iff_eq.mpr c16
  have c16b1 : (t702 != 0) = false := bne_eq_false_iff_eq.mpr c16
  clear c16
  by_cases c17 : (l2.length : Int) = (wrap64 (a1 * t701))
  rotate_left
  ·rw [if_neg c17] at H
   have c17b0 : ((l2.length : Int) == (wrap64 (a1 * t701))) = false := beq_eq_false_iff_ne.mpr c17
   have c17b1 : ((l2.length : Int) != (wrap64 (a1 * t701))) = true := bne_iff_ne.mpr c17
   have H' := Aside0.mk H
   clear H
   obtain ⟨hcz23_0, hcz23_1, hcz23_2, hfz23_0, hfz23_1, hfz23_2⟩ := cf3 BK699.out
   go_wp2_with (first | (go_at_call 44; (with_reducible refine (prod_single.calls k a0_0 _ _ l0_1 _ _ l0_2 t702 _ ?side1 ?side2 ?side3 ?side4 A15.out).mono ?_); (case side1 => exact cb HR0_1 HB); (case side2 => exact HC0_1.out); (case side3 => exact cb HR0_2 HB); (case side4 => exact HC0_2.out); rintro e w24 ⟨rfl, hb⟩; replace BK699 := kb BK699 hb; replace HB := sb HB hb; (try clear hb); (try clear hb2); (try clear hk); (try clear hi)))
   go_meet
   case rel => exact ⟨_, (true), rs, H', ⟨by first | omega | exact Nat.le_refl _⟩, ⟨by (with_reducible repeat (first | refine kdN ?_ _ | refine kdr ?_ | refine kal ?_ _)); exact BK699.out⟩, ⟨bb HB⟩⟩
  rw [if_pos c17] at H
  have c17b0 : ((l2.length : Int) == (wrap64 (a1 * t701))) = true := beq_iff_eq.mpr c17
  have c17b1 : ((l2.length : Int) != (wrap64 (a1 * t701))) = false := bne_eq_false_iff_eq.mpr c17
  clear c17
  obtain ⟨t703, A18, H⟩ := be H
  replace H : (prod_Split.j0 k a1 l2 t701 (!t703)) = some (r1, r2) := H
  have H' := Aside0.mk H
  clear H
  obtain ⟨hcz19_0, hcz19_1, hcz19_2, hfz19_0, hfz19_1, hfz19_2⟩ := cf3 BK699.out
  go_wp2_with (first | (go_at_call 44; (with_reducible refine (prod_single.calls k a0_0 _ _ l0_1 _ _ l0_2 t702 _ ?side1 ?side2 ?side3 ?side4 A15.out).mono ?_); (case side1 => exact cb HR0_1 HB); (case side2 => exact HC0_1.out); (case side3 => exact cb HR0_2 HB); (case side4 => exact HC0_2.out); rintro e w20 ⟨rfl, hb⟩; replace BK699 := kb BK699 hb; replace HB := sb HB hb; (try clear hb); (try clear hb2); (try clear hk); (try clear hi); obtain ⟨hcz21_0, hcz21_1, hcz21_2, hfz21_0, hfz21_1, hfz21_2⟩ := cf3 BK699.out) | (go_at_call 56; (with_reducible refine (prod_words.calls k a0_0 _ _ l2 t703 _ ?side1 ?side2 A18.out).mono ?_); (case side1 => exact cb HR2 HB); (case side2 => exact HC2.out); rintro e w22 ⟨rfl, hb⟩; replace BK699 := kb BK699 hb; replace HB := sb HB hb; (try clear hb); (try clear hb2); (try clear hk); (try clear hi)))
  go_meet
  case rel => exact ⟨_, (!t703), rs, H', ⟨by first | omega | exact Nat.le_refl _⟩, ⟨by (with_reducible repeat (first | refine kdN ?_ _ | refine kdr ?_ | refine kal ?_ _)); exact BK699.out⟩, ⟨bb HB⟩⟩
 case rest =>
  clear HC7
  try clear c1
  try clear c2
  try clear p2
  try clear c3
  try clear c4
  try clear c5
  try clear c5b0
  try clear c5b1
  try clear p6
  try clear c13
  try clear c13b0
  try clear c14
  try clear c14b0
  try clear c16
  try clear c16b0
  try clear c16b1
  try clear c17
  try clear c17b0
  try clear c17b1
  try clear hcz11_0 hcz11_1 hcz11_2
  try clear hcz19_0 hcz19_1 hcz19_2
  try clear hcz21_0 hcz21_1 hcz21_2
  try clear hcz23_0 hcz23_1 hcz23_2
  try clear hcz25_0 hcz25_1 hcz25_2
  try clear hcz9_0 hcz9_1 hcz9_2
  try clear hfz11_0 hfz11_1 hfz11_2
  try clear hfz19_0 hfz19_1 hfz19_2
  try clear hfz21_0 hfz21_1 hfz21_2
  try clear hfz23_0 hfz23_1 hfz23_2
  try clear hfz25_0 hfz25_1 hfz25_2
  try clear hfz9_0 hfz9_1 hfz9_2
  obtain ⟨kq, x41_6, rfl, HA, HJ6, BK699, HB⟩ := hcut
  cases kq with
  | zero => exact absurd HA.out (by simp [prod_Split.j0])
  | succ kj6 =>
   have H := HA.out
   clear HA
   simp only [prod_Split.j0] at H
   by_cases c27 : x41_6 = true
   ·subst c27
    have H1 : (some (([] : List (List Int)), 1)) = some (r1, r2) := by rw [if_pos rfl] at H; exact H
    clear H
    have H := H1
    clear H1
    simp only [Option.some.injEq, Prod.mk.injEq] at H
    obtain ⟨rfl, rfl⟩ := H
    go_wp2
    go_ret2
    exact ⟨_, rr, by first | exact Kd.S_nil _ _ _ _ _ | exact Kd.N_nil _ _ _ _ _ | exact Kd.V_nil _ _ _ _ _ | exact Kd.Q_nil _ _ _ _ _ | exact Kd.R_nil _ _ _ _ _, bb HB⟩
   replace c27 := Bool.eq_false_iff.mpr c27
   subst c27
   have H1 : (prod_Split.l0 kj6 l2 t701 ([] : List (List Int)) a1 0) = some (r1, r2) := by rw [if_neg (show ¬ (false = true) by decide)] at H; exact H
   clear H
   have H := H1
   clear H1
   have H' := Aside0.mk H
   clear H
   go_wp2
   go_loopg [9, 43] kj6 (fun kq v9 v43 w' => ∃ (x9_2 : List (List Int)) (x43_2 : Int), v43 = .int .i64 x43_2 ∧ Aside0 (prod_Split.l0 kq l2 t701 x9_2 a1 x43_2 = some (r1, r2)) ∧ Aside0 (kq ≤ kj6) ∧ Aside0 (Kd.S (Kd.slice 3 (Kd.int .i64)) 45 w' w.heap.size (fun _ => True) v9 x9_2) ∧ Aside0 (w'.heap[gb699]? = some (.cells #[.int .i64 a0_0, (.slice A0_1 l0_1.length c0_1), (.slice A0_2 l0_2.length c0_2)] 25 (0, 0))) ∧ Aside0 (Below w.heap.size w w'))
   case atStart => exact ⟨(([] : List (List Int))), (0), rs, H', ⟨Nat.le_refl _⟩, ⟨by first | exact Kd.S_nil _ _ _ _ _ | exact Kd.N_nil _ _ _ _ _ | exact Kd.V_nil _ _ _ _ _ | exact Kd.Q_nil _ _ _ _ _ | exact Kd.R_nil _ _ _ _ _⟩, ⟨by (with_reducible repeat (first | refine kdN ?_ _ | refine kdr ?_ | refine kal ?_ _)); exact BK699.out⟩, ⟨bb HB⟩⟩
   case round =>
    clear H'
    try clear c1
    try clear c2
    try clear p2
    try clear c3
    try clear c4
    try clear c5
    try clear c5b0
    try clear c5b1
    try clear p6
    try clear c13
    try clear c13b0
    try clear c14
    try clear c14b0
    try clear c16
    try clear c16b0
    try clear c16b1
    try clear c17
    try clear c17b0
    try clear c17b1
    try clear c27
    try clear hcz11_0 hcz11_1 hcz11_2
    try clear hcz19_0 hcz19_1 hcz19_2
    try clear hcz21_0 hcz21_1 hcz21_2
    try clear hcz23_0 hcz23_1 hcz23_2
    try clear hcz25_0 hcz25_1 hcz25_2
    try clear hcz9_0 hcz9_1 hcz9_2
    try clear hfz11_0 hfz11_1 hfz11_2
    try clear hfz19_0 hfz19_1 hfz19_2
    try clear hfz21_0 hfz21_1 hfz21_2
    try clear hfz23_0 hfz23_1 hfz23_2
    try clear hfz25_0 hfz25_1 hfz25_2
    try clear hfz9_0 hfz9_1 hfz9_2
    try clear p2
    try clear p6
    obtain ⟨x9_2, x43_2, rfl, HA, HK2, HO_9, BK699, HB⟩ := hrel
    cases gk with
    | zero => exact absurd HA.out (by simp [prod_Split.l0])
    | succ k2 =>
     have H := HA.out
     clear HA
     simp only [prod_Split.l0] at H
     by_cases c28 : x43_2 < a1
     rotate_left
     ·rw [if_neg c28] at H
      have c28b0 : decide (x43_2 < a1) = false := decide_eq_false c28
      clear c28
      simp only [Option.some.injEq, Prod.mk.injEq] at H
      obtain ⟨rfl, rfl⟩ := H
      go_wp2
      go_ret2
      exact ⟨_, rr, by (with_reducible repeat (first | apply Kd.S_alloc | apply Kd.S_drewN | apply Kd.S_drew)); exact HO_9.out, bb HB⟩
     rw [if_pos c28] at H
     have c28b0 : decide (x43_2 < a1) = true := decide_eq_true c28
     clear c28
     obtain ⟨ji29, hji29⟩ : ∃ j_ : Int, (wrap64 (x43_2 * t701)) = j_ := ⟨_, rfl⟩
     replace H : (if 0 ≤ (ji29) then (if (ji29) ≤ (wrap64 ((wrap64 (x43_2 + 1)) * t701)) then (if (wrap64 ((wrap64 (x43_2 + 1)) * t701)) ≤ (l2.length : Int) then ((slices_Clone_int_int.f k2 ((l2.take ((wrap64 ((wrap64 (x43_2 + 1)) * t701)) : Int).toNat).drop ((ji29) : Int).toNat)).bind fun t705 => (if x9_2.length < 5864062014805 then (prod_Split.l0 k2 l2 t701 (x9_2 ++ [t705]) a1 (wrap64 (x43_2 + 1))) else (none))) else (none)) else (none)) else (none)) = some (r1, r2) := by first | (rw [hji29] at H; exact H) | (simp only [hji29] at H ⊢; exact H)
     have hji29w : (IntKind.i64.wrap (x43_2 * t701)) = ji29 := (i64_w _).trans hji29
     by_cases c30 : 0 ≤ (ji29)
     rotate_left
     ·rw [if_neg c30] at H
      exact absurd H (by simp)
     rw [if_pos c30] at H
     have c30b0 := eq_true c30
     have c30b1 : decide (0 ≤ (ji29)) = true := decide_eq_true c30
     clear c30
     by_cases c31 : (ji29) ≤ (wrap64 ((wrap64 (x43_2 + 1)) * t701))
     rotate_left
     ·rw [if_neg c31] at H
      exact absurd H (by simp)
     rw [if_pos c31] at H
     have c31b0 := eq_true c31
     have c31b1 : decide ((ji29) ≤ (wrap64 ((wrap64 (x43_2 + 1)) * t701))) = true := decide_eq_true c31
     by_cases c32 : (wrap64 ((wrap64 (x43_2 + 1)) * t701)) ≤ (l2.length : Int)
     rotate_left
     ·rw [if_neg c32] at H
      exact absurd H (by simp)
     rw [if_pos c32] at H
     have c32b0 := eq_true c32
     have c32b1 : decide ((wrap64 ((wrap64 (x43_2 + 1)) * t701)) ≤ (l2.length : Int)) = true := decide_eq_true c32
     obtain ⟨t705, A33, H⟩ := be H
     replace H : (if x9_2.length < 5864062014805 then (prod_Split.l0 k2 l2 t701 (x9_2 ++ [t705]) a1 (wrap64 (x43_2 + 1))) else (none)) = some (r1, r2) := H
     by_cases c34 : x9_2.length < 5864062014805
     rotate_left
     ·rw [if_neg c34] at H
      exact absurd H (by simp)
     rw [if_pos c34] at H
     have LMc34 := Aside0.mk c34
     clear c34
     obtain ⟨y708, hy708⟩ : ∃ y_ : List (List Int), y_ = (x9_2 ++ [t705]) := ⟨_, rfl⟩
     replace H : (prod_Split.l0 k2 l2 t701 y708 a1 (wrap64 (x43_2 + 1))) = some (r1, r2) := by first | (rw [hy708]; with_reducible exact H) | (have H2_ := (Option.bind_some _ _).symm.trans H; rw [hy708]; with_reducible exact H2_) | (have H2_ := (Option.bind_some _ _).symm.trans H; with_reducible exact H2_) | with_reducible exact H | (rw [hy708]; exact H) | exact H
     have Ny708 := Aside0.mk hy708
     clear hy708
     have H' := Aside0.mk H
     clear H
     obtain ⟨i035, hi035, _, hsz35, _⟩ := info_parts info3
     obtain ⟨A35, hcut35, hA35, hC35⟩ := print_mid_of (P := Try.prog) (Value.int .i64) 0 45 3 .i64 .i64 Try.underlying45 hi035 hsz35 A2 c2 l2 (ji29) (wrap64 ((wrap64 (x43_2 + 1)) * t701)) (od) (by first | omega | exact od) (od) HC2.out
     have HR704 := Aside0.mk (Kd.C_of_reads (h1 := fun _ => rfl) (hA35 _ (Kd.reads_of_C HR2.out)))
     have HC704 := Aside0.mk hC35
     clear hA35 hC35 hi035 hsz35
     go_wp2_with (first | ((with_reducible refine gate_callee (f := 71) rfl ?_); refine goesL_ (some 56) rfl rfl Try.func71 (by kernel_rfl) rfl #[.slice A35 ((l2.take ((wrap64 ((wrap64 (x43_2 + 1)) * t701)) : Int).toNat).drop ((ji29) : Int).toNat).length (c2 - (ji29).toNat)] rfl (by (try simp only [List.map_toArray, List.map_cons, List.map_nil]); first | done | (rw [show ((l2.take ((wrap64 ((wrap64 (x43_2 + 1)) * t701)) : Int).toNat).drop ((ji29) : Int).toNat).length = ((wrap64 ((wrap64 (x43_2 + 1)) * t701)).toNat - (ji29).toNat) from (by rw [List.length_drop, List.length_take]; have h_ : ((wrap64 ((wrap64 (x43_2 + 1)) * t701)) : Int) ≤ (l2.length : Int) := od; omega)] <;> rfl) | (simp only [hji29]; rfl) | rfl | (simp only [List.length_drop, List.length_take]; rfl)) ?_; (with_reducible refine (slices_Clone_int_int.calls k2 _ _ ((l2.take ((wrap64 ((wrap64 (x43_2 + 1)) * t701)) : Int).toNat).drop ((ji29) : Int).toNat) t705 _ ?side1 ?side2 A33.out).mono ?_); (case side1 => exact cb HR704 HB); (case side2 => exact HC704.out); rintro e w36 ⟨v706, rfl, ho0, hb⟩; refine ⟨_, rfl, ?_⟩; have HO707 := Aside0.mk (Kd.R_lower ho0 (bsz (bb HB))); replace HO_9 := Aside0.mk (Kd.S_elder' (by (with_reducible repeat (first | apply Kd.S_alloc | apply Kd.S_drewN | apply Kd.S_drew)); exact HO_9.out) (Kd.R_base ho0) hb); replace BK699 := kb BK699 hb; replace HB := sb HB hb; (try clear hb); (try clear hb2); (try clear hk); (try clear hi); (try clear ho0); obtain ⟨Ao38, co38, eo38⟩ := Kd.R_slice HO707.out; subst eo38) | ((with_reducible refine gate_builtin (b := .append) (xs := #[.tmp 46, .tmp 57]) rfl ?_); (try (refine gate_guard (by rfl) ?_; dsimp only)); at_builtin; refine Kd.S_append (Kd.slice 3 (Kd.int .i64)) (w0 := w) w.heap.size rfl (.tmp 46) (.tmp 57) 41 45 (.slice none 0 0) 24 rfl Try.underlying41 info45 rfl (by decide) (by omega) u9 x9_2 t705 [.slice Ao38 t705.length co38] (fun _ => True) (fun k_ => some k_ = (.slice Ao38 t705.length co38 : Value).ownBlock) rfl rfl ?aP (fun k_ hk_ => ((Kd.R_mono (ok' := fun k_ => ((fun _ => True)) k_ ∧ some k_ ≠ (u9 : Value).ownBlock) (Kd.R_apart' (HO707.out) (Kd.S_typed HO_9.out) (by decide)) (fun k_ hk => ⟨trivial, hk.2⟩))).1 k_ hk_.symm) ?aF ?aO ?aB ?aS ?aL ?_; (case aP => exact Kd.M_row (Kd.R_mono (Kd.R_tight rfl (Kd.R_mono (ok' := fun k_ => ((fun _ => True)) k_ ∧ some k_ ≠ (u9 : Value).ownBlock) (Kd.R_apart' (HO707.out) (Kd.S_typed HO_9.out) (by decide)) (fun k_ hk => ⟨trivial, hk.2⟩))) (fun _ h_ => h_))); (case aB => exact (bb HB)); (case aF => exact (fun _ _ => trivial)); (case aO => exact (by (with_reducible repeat (first | apply Kd.S_alloc | apply Kd.S_drewN | apply Kd.S_drew)); exact Kd.S_mono HO_9.out (fun k_ hk => ⟨trivial, fun e_ => hk.2 e_⟩))); (case aS => exact (bsz (bb HB))); (case aL => have := LMc34.out; omega); intro v709 w37 ho hb hg hat; rw [← Ny708.out] at ho; have HO710 := Aside0.mk (ho); replace BK699 := Aside0.mk (blk_grown (g := gb699) (o := .cells #[.int .i64 a0_0, .slice A0_1 l0_1.length c0_1, .slice A0_2 l0_2.length c0_2] 25 (0, 0)) (by (with_reducible repeat (first | refine kdN ?_ _ | refine kdr ?_ | refine kal ?_ _)); exact BK699.out) hg (Kd.S_ne HO_9.out BK699.out (by decide))); replace HB := Aside0.mk (hb); clear HO_9 HO707; clear ho hb hg hat))
     go_roundg k2
     case measure => have := HJ6.out; have := HK2.out; omega
     case rel => exact ⟨(y708), (wrap64 (x43_2 + 1)), rs, H', ⟨by have := HJ6.out; have := HK2.out; omega⟩, ⟨by (with_reducible repeat (first | apply Kd.S_alloc | apply Kd.S_drewN | apply Kd.S_drew)); exact HO710.out⟩, ⟨by (with_reducible repeat (first | refine kdN ?_ _ | refine kdr ?_ | refine kal ?_ _)); exact BK699.out⟩, ⟨bb HB⟩⟩
def r1_Copy.l0 : Nat → List Int → List Int → Int → Option (List Int)
 | 0, _, _, _ => none
 | k + 1, x0, x3, x4 => if x4 < (x0.length : Int) then (if 0 ≤ x4 then (if x3.length < 17592186044416 then (r1_Copy.l0 k x0 (x3 ++ [rd x0 x4]) (wrap64 (x4 + 1))) else (none)) else (none)) else (some x3)
def r1_Copy.f (k : Nat) (l0 : List Int) : Option (List Int) := r1_Copy.l0 k l0 ([] : List Int) 0
set_option maxHeartbeats 8000000 in
set_option maxRecDepth 100000 in
theorem r1_Copy.calls (k : Nat) (A0 : Option Addr) (c0 : Nat) (l0 : List Int) (r : List Int) (w : World) (hr0 : Kd.C (Kd.int .i64) w A0 l0.length l0) (hc0 : l0.length ≤ c0) (h : r1_Copy.f k l0 = some r) :
  Calls Try.prog 73 #[.slice A0 l0.length c0] w fun e w' => ∃ v0_ : Value, e = .returned (v0_) ∧ Kd.R (Kd.int .i64) 3 w' w.heap.size (fun _ => True) v0_ r ∧ Below w.heap.size w w' := by
 have HR0 := Aside0.mk hr0
 have HC0 := Aside0.mk hc0
 clear hr0 hc0
 have HB := Aside0.mk (Below.refl w.heap.size w)
 have H : (r1_Copy.l0 k l0 ([] : List Int) 0) = some r := h
 clear h
 have H' := Aside0.mk H
 clear H
 go_enter Try.func73, Try.ntmps73
 go_wp2
 go_loopg [3, 4] k (fun kq v3 v4 w' => ∃ (x3_1 : List Int) (x4_1 : Int), v4 = .int .i64 x4_1 ∧ Aside0 (r1_Copy.l0 kq l0 x3_1 x4_1 = some r) ∧ Aside0 (kq ≤ k) ∧ Aside0 (Kd.R (Kd.int .i64) 3 w' w.heap.size (fun _ => True) v3 x3_1) ∧ Aside0 (Below w.heap.size w w'))
 case atStart => exact ⟨(([] : List Int)), (0), rs, H', ⟨Nat.le_refl _⟩, ⟨by first | exact Kd.R_nil _ _ _ _ _ | exact Kd.N_nil _ _ _ _ _ | exact Kd.V_nil _ _ _ _ _ | exact Kd.Q_nil _ _ _ _ _ | exact Kd.S_nil _ _ _ _ _⟩, ⟨bb HB⟩⟩
 case round =>
  clear H'
  obtain ⟨x3_1, x4_1, rfl, HA, HK1, HO_3, HB⟩ := hrel
  cases gk with
  | zero => exact absurd HA.out (by simp [r1_Copy.l0])
  | succ k1 =>
   have H := HA.out
   clear HA
   simp only [r1_Copy.l0] at H
   by_cases c2 : x4_1 < (l0.length : Int)
   rotate_left
   ·rw [if_neg c2] at H
    have c2b0 : decide (x4_1 < (l0.length : Int)) = false := decide_eq_false c2
    clear c2
    obtain rfl := Option.some.inj H
    go_wp2
    go_ret
    exact ⟨_, rr, by (with_reducible repeat (first | apply Kd.R_alloc | apply Kd.R_drewN | apply Kd.R_drew)); exact HO_3.out, bb HB⟩
   rw [if_pos c2] at H
   have c2b0 : decide (x4_1 < (l0.length : Int)) = true := decide_eq_true c2
   clear c2
   by_cases c3 : 0 ≤ x4_1
   rotate_left
   ·rw [if_neg c3] at H
    exact absurd H (by simp)
   rw [if_pos c3] at H
   have c3b0 : decide (0 ≤ x4_1) = true := decide_eq_true c3
   clear c3
   by_cases c4 : x3_1.length < 17592186044416
   rotate_left
   ·rw [if_neg c4] at H
    exact absurd H (by simp)
   rw [if_pos c4] at H
   have LMc4 := Aside0.mk c4
   clear c4
   obtain ⟨y721, hy721⟩ : ∃ y_ : List Int, y_ = (x3_1 ++ [rd l0 x4_1]) := ⟨_, rfl⟩
   replace H : (r1_Copy.l0 k1 l0 y721 (wrap64 (x4_1 + 1))) = some r := by first | (rw [hy721]; with_reducible exact H) | (have H2_ := (Option.bind_some _ _).symm.trans H; rw [hy721]; with_reducible exact H2_) | (have H2_ := (Option.bind_some _ _).symm.trans H; with_reducible exact H2_) | with_reducible exact H | (rw [hy721]; exact H) | exact H
   have Ny721 := Aside0.mk hy721
   clear hy721
   have H' := Aside0.mk H
   clear H
   have p720 : 0 ≤ (x4_1 : Int) := od
   have q720 : x4_1 < (l0.length : Int) := od
   obtain ⟨ad720, e720, hx720_0⟩ := Kd.at_int HR0.out x4_1 p720 q720
   cases e720
   replace hx720_0 := bcell HB.out hx720_0
   replace p720 := eq_true p720
   replace q720 := eq_true q720
   go_wp2_with (first | ((with_reducible refine gate_builtin (b := .append) (xs := #[.tmp 11, .tmp 16]) rfl ?_); at_builtin; refine Kd.R_append (Kd.int .i64) (w0 := w) w.heap.size rfl (.tmp 11) (.tmp 16) 45 3 (.int .i64 0) 8 rfl Try.underlying45 info3 rfl (by decide) (by omega) u3 x3_1 (rd l0 x4_1) [.int .i64 (rd l0 x4_1)] (fun _ => True) (fun _ => False) rfl rfl ?aP (fun _ hk => hk.elim) ?aF ?aO ?aB ?aS ?aL ?_; (case aP => exact rfl); (case aB => exact (bb HB)); (case aF => exact (fun _ _ => trivial)); (case aO => exact (by (with_reducible repeat (first | apply Kd.R_alloc | apply Kd.R_drewN | apply Kd.R_drew)); exact HO_3.out)); (case aS => exact (bsz (bb HB))); (case aL => have := LMc4.out; omega); intro v722 w5 ho hb hg hat; rw [← Ny721.out] at ho; have HO723 := Aside0.mk (ho); replace HB := Aside0.mk (hb); clear HO_3; clear ho hb hg hat))
   go_roundg k1
   case measure => have := HK1.out; omega
   case rel => exact ⟨(y721), (wrap64 (x4_1 + 1)), rs, H', ⟨by have := HK1.out; omega⟩, ⟨by (with_reducible repeat (first | apply Kd.R_alloc | apply Kd.R_drewN | apply Kd.R_drew)); exact HO723.out⟩, ⟨bb HB⟩⟩
def r3_Cells.f (k : Nat) (a0_0 : Int) (l0_1 : List (S66)) (l0_2 : List (S64)) : Option (Int) := (r2_First.f k l0_1 (l0_1.length : Int)).bind fun t719 => (some t719)
set_option maxHeartbeats 8000000 in
set_option maxRecDepth 100000 in
theorem r3_Cells.calls (k : Nat) (a0_0 : Int) (A0_1 : Option Addr) (c0_1 : Nat) (l0_1 : List (S66)) (A0_2 : Option Addr) (c0_2 : Nat) (l0_2 : List (S64)) (r : Int) (w : World) (hr0_1 : Kd.C k66 w A0_1 l0_1.length l0_1) (hc0_1 : l0_1.length ≤ c0_1) (hr0_2 : Kd.C k64 w A0_2 l0_2.length l0_2) (hc0_2 : l0_2.length ≤ c0_2) (h : r3_Cells.f k a0_0 l0_1 l0_2 = some r) :
  Calls Try.prog 72 #[.agg #[.int .i64 a0_0, .slice A0_1 l0_1.length c0_1, .slice A0_2 l0_2.length c0_2]] w fun e w' => e = .returned (.int .i64 r) ∧ Below w.heap.size w w' := by
 have hu25 := Try.underlying25
 have HR0_1 := Aside0.mk hr0_1
 have HC0_1 := Aside0.mk hc0_1
 clear hr0_1 hc0_1
 have HR0_2 := Aside0.mk hr0_2
 have HC0_2 := Aside0.mk hc0_2
 clear hr0_2 hc0_2
 have HB := Aside0.mk (Below.refl w.heap.size w)
 have H : ((r2_First.f k l0_1 (l0_1.length : Int)).bind fun t719 => (some t719)) = some r := h
 clear h
 obtain ⟨t719, A2, H⟩ := be H
 replace H : (some t719) = some r := H
 obtain rfl := Option.some.inj H
 go_enter Try.func72, Try.ntmps72
 go_wp2_with (first | ((with_reducible refine gate_dst (N := 1) rfl ?_); refine bx 1 rfl rfl #[.int .i64 a0_0, .slice A0_1 l0_1.length c0_1, .slice A0_2 l0_2.length c0_2] 25 ?_; intro gb718 hg w3 hbox hb; have BK718 := Aside0.mk (hbox); have GW718 := ge HB hg; have GE718 := ge HB hg; replace HB := sb HB hb; clear hb hbox hg; obtain ⟨hcz4_0, hcz4_1, hcz4_2, hfz4_0, hfz4_1, hfz4_2⟩ := cf3 BK718.out) | ((with_reducible refine gate_callee (f := 58) rfl ?_); refine gL (some 8) rfl rfl Try.func58 #[.slice A0_1 l0_1.length c0_1, .int .i64 (l0_1.length : Int)] rfl ?_; (with_reducible refine (r2_First.calls k _ _ l0_1 (l0_1.length : Int) t719 _ ?side1 ?side2 A2.out).mono ?_); (case side1 => exact cb HR0_1 HB); (case side2 => exact HC0_1.out); rintro e w' ⟨rfl, ⟨nd, rfl⟩⟩; refine ⟨_, rfl, ?_⟩))
 go_ret
 exact ⟨rr, bb HB⟩
mutual
def r12_Split.j0 : Nat → Int → List Int → Int → Bool → Option ((List (List Int)) × Int)
 | 0, _, _, _, _ => none
 | k + 1, x1, x2, x9, x32 => if x32 = true then (some (([] : List (List Int)), 1)) else (r12_Split.l0 k x1 x2 x9 ([] : List (List Int)) 0)
def r12_Split.l0 : Nat → Int → List Int → Int → List (List Int) → Int → Option ((List (List Int)) × Int)
 | 0, _, _, _, _, _ => none
 | k + 1, x1, x2, x9, x10, x11 => if x11 < x1 then (if 0 ≤ (wrap64 (x11 * x9)) then (if (wrap64 (x11 * x9)) ≤ (wrap64 ((wrap64 (x11 * x9)) + x9)) then (if (wrap64 ((wrap64 (x11 * x9)) + x9)) ≤ (x2.length : Int) then ((r1_Copy.f k ((x2.take ((wrap64 ((wrap64 (x11 * x9)) + x9)) : Int).toNat).drop ((wrap64 (x11 * x9)) : Int).toNat)).bind fun t729 => (if x10.length < 5864062014805 then (r12_Split.l0 k x1 x2 x9 (x10 ++ [t729]) (wrap64 (x11 + 1))) else (none))) else (none)) else (none)) else (none)) else (some (x10, 0))
end
def r12_Split.f (k : Nat) (a0_0 : Int) (l0_1 : List (S66)) (l0_2 : List (S64)) (a1 : Int) (l2 : List Int) : Option ((List (List Int)) × Int) := (r12_Copies.f k a0_0 l0_1 l0_2 a1).bind fun t725 => (if t725 = 0 then ((r3_Cells.f k a0_0 l0_1 l0_2).bind fun t726 => (if (l2.length : Int) = (wrap64 (a1 * t726)) then ((r1_Words.f k a0_0 l2).bind fun t727 => (r12_Split.j0 k a1 l2 t726 (!t727))) else (r12_Split.j0 k a1 l2 t726 true))) else (some (([] : List (List Int)), t725)))
set_option maxHeartbeats 8000000 in
set_option maxRecDepth 100000 in
theorem r12_Split.calls (k : Nat) (a0_0 : Int) (A0_1 : Option Addr) (c0_1 : Nat) (l0_1 : List (S66)) (A0_2 : Option Addr) (c0_2 : Nat) (l0_2 : List (S64)) (a1 : Int) (A2 : Option Addr) (c2 : Nat) (l2 : List Int) (r1 : List (List Int)) (r2 : Int) (w : World) (hr0_1 : Kd.C k66 w A0_1 l0_1.length l0_1) (hc0_1 : l0_1.length ≤ c0_1) (hr0_2 : Kd.C k64 w A0_2 l0_2.length l0_2) (hc0_2 : l0_2.length ≤ c0_2) (hr2 : Kd.C (Kd.int .i64) w A2 l2.length l2) (hc2 : l2.length ≤ c2) (h : r12_Split.f k a0_0 l0_1 l0_2 a1 l2 = some (r1, r2)) :
  Calls Try.prog 34 #[.agg #[.int .i64 a0_0, .slice A0_1 l0_1.length c0_1, .slice A0_2 l0_2.length c0_2], .int .i64 a1, .slice A2 l2.length c2] w fun e w' => ∃ v0_ : Value, e = .returned (.tuple #[v0_, .int .i64 r2]) ∧ Kd.S (Kd.slice 3 (Kd.int .i64)) 45 w' w.heap.size (fun _ => True) v0_ r1 ∧ Below w.heap.size w w' := by
 have hu25 := Try.underlying25
 have HR0_1 := Aside0.mk hr0_1
 have HC0_1 := Aside0.mk hc0_1
 clear hr0_1 hc0_1
 have HR0_2 := Aside0.mk hr0_2
 have HC0_2 := Aside0.mk hc0_2
 clear hr0_2 hc0_2
 have HR2 := Aside0.mk hr2
 have HC2 := Aside0.mk hc2
 clear hr2 hc2
 have HB := Aside0.mk (Below.refl w.heap.size w)
 have H : ((r12_Copies.f k a0_0 l0_1 l0_2 a1).bind fun t725 => (if t725 = 0 then ((r3_Cells.f k a0_0 l0_1 l0_2).bind fun t726 => (if (l2.length : Int) = (wrap64 (a1 * t726)) then ((r1_Words.f k a0_0 l2).bind fun t727 => (r12_Split.j0 k a1 l2 t726 (!t727))) else (r12_Split.j0 k a1 l2 t726 true))) else (some (([] : List (List Int)), t725)))) = some (r1, r2) := h
 clear h
 obtain ⟨t725, A4, H⟩ := be H
 replace H : (if t725 = 0 then ((r3_Cells.f k a0_0 l0_1 l0_2).bind fun t726 => (if (l2.length : Int) = (wrap64 (a1 * t726)) then ((r1_Words.f k a0_0 l2).bind fun t727 => (r12_Split.j0 k a1 l2 t726 (!t727))) else (r12_Split.j0 k a1 l2 t726 true))) else (some (([] : List (List Int)), t725))) = some (r1, r2) := H
 by_cases c5 : t725 = 0
 rotate_left
 ·rw [if_neg c5] at H
  have c5b0 : (t725 == 0) = false := beq_eq_false_iff_ne.mpr c5
  have c5b1 : (t725 != 0) = true := bne_iff_ne.mpr c5
  simp only [Option.some.injEq, Prod.mk.injEq] at H
  obtain ⟨rfl, rfl⟩ := H
  go_enter Try.func34, Try.ntmps34
  go_wp2_with (first | ((with_reducible refine gate_dst (N := 3) rfl ?_); refine bx 3 rfl rfl #[.int .i64 a0_0, .slice A0_1 l0_1.length c0_1, .slice A0_2 l0_2.length c0_2] 25 ?_; intro gb724 hg w28 hbox hb; have BK724 := Aside0.mk (hbox); have GW724 := ge HB hg; have GE724 := ge HB hg; replace HB := sb HB hb; clear hb hbox hg; obtain ⟨hcz29_0, hcz29_1, hcz29_2, hfz29_0, hfz29_1, hfz29_2⟩ := cf3 BK724.out) | ((with_reducible refine gate_callee (f := 18) rfl ?_); refine gL (some 14) rfl rfl Try.func18 #[.agg #[.int .i64 a0_0, .slice A0_1 l0_1.length c0_1, .slice A0_2 l0_2.length c0_2], .int .i64 a1] rfl ?_; (with_reducible refine (r12_Copies.calls k a0_0 _ _ l0_1 _ _ l0_2 a1 t725 _ ?side1 ?side2 ?side3 ?side4 A4.out).mono ?_); (case side1 => exact cb HR0_1 HB); (case side2 => exact HC0_1.out); (case side3 => exact cb HR0_2 HB); (case side4 => exact HC0_2.out); rintro e w30 ⟨rfl, hb⟩; refine ⟨_, rfl, ?_⟩; replace BK724 := kb BK724 hb; replace HB := sb HB hb; (try clear hb); (try clear hb2); (try clear hk); (try clear hi)))
  go_ret2
  exact ⟨_, rr, by first | exact Kd.S_nil _ _ _ _ _ | exact Kd.N_nil _ _ _ _ _ | exact Kd.V_nil _ _ _ _ _ | exact Kd.Q_nil _ _ _ _ _ | exact Kd.R_nil _ _ _ _ _, bb HB⟩
 rw [if_pos c5] at H
 have c5b0 : (t725 == 0) = true := beq_iff_eq.mpr c5
 have c5b1 : (t725 != 0) = false := bne_eq_false_iff_eq.mpr c5
 clear c5
 obtain ⟨t726, A6, H⟩ := be H
 replace H : (if (l2.length : Int) = (wrap64 (a1 * t726)) then ((r1_Words.f k a0_0 l2).bind fun t727 => (r12_Split.j0 k a1 l2 t726 (!t727))) else (r12_Split.j0 k a1 l2 t726 true)) = some (r1, r2) := H
 have HC7 := Aside0.mk H
 clear H
 go_enter Try.func34, Try.ntmps34
 go_upto_region 5 with (first | ((with_reducible refine gate_dst (N := 3) rfl ?_); refine bx 3 rfl rfl #[.int .i64 a0_0, .slice A0_1 l0_1.length c0_1, .slice A0_2 l0_2.length c0_2] 25 ?_; intro gb724 hg w8 hbox hb; have BK724 := Aside0.mk (hbox); have GW724 := ge HB hg; have GE724 := ge HB hg; replace HB := sb HB hb; clear hb hbox hg; obtain ⟨hcz9_0, hcz9_1, hcz9_2, hfz9_0, hfz9_1, hfz9_2⟩ := cf3 BK724.out) | ((with_reducible refine gate_callee (f := 18) rfl ?_); refine gL (some 14) rfl rfl Try.func18 #[.agg #[.int .i64 a0_0, .slice A0_1 l0_1.length c0_1, .slice A0_2 l0_2.length c0_2], .int .i64 a1] rfl ?_; (with_reducible refine (r12_Copies.calls k a0_0 _ _ l0_1 _ _ l0_2 a1 t725 _ ?side1 ?side2 ?side3 ?side4 A4.out).mono ?_); (case side1 => exact cb HR0_1 HB); (case side2 => exact HC0_1.out); (case side3 => exact cb HR0_2 HB); (case side4 => exact HC0_2.out); rintro e w10 ⟨rfl, hb⟩; refine ⟨_, rfl, ?_⟩; replace BK724 := kb BK724 hb; replace HB := sb HB hb; (try clear hb); (try clear hb2); (try clear hk); (try clear hi); obtain ⟨hcz11_0, hcz11_1, hcz11_2, hfz11_0, hfz11_1, hfz11_2⟩ := cf3 BK724.out) | ((with_reducible refine gate_callee (f := 72) rfl ?_); refine gL (some 19) rfl rfl Try.func72 #[.agg #[.int .i64 a0_0, .slice A0_1 l0_1.length c0_1, .slice A0_2 l0_2.length c0_2]] rfl ?_; (with_reducible refine (r3_Cells.calls k a0_0 _ _ l0_1 _ _ l0_2 t726 _ ?side1 ?side2 ?side3 ?side4 A6.out).mono ?_); (case side1 => exact cb HR0_1 HB); (case side2 => exact HC0_1.out); (case side3 => exact cb HR0_2 HB); (case side4 => exact HC0_2.out); rintro e w12 ⟨rfl, hb⟩; refine ⟨_, rfl, ?_⟩; replace BK724 := kb BK724 hb; replace HB := sb HB hb; (try clear hb); (try clear hb2); (try clear hk); (try clear hi)))
 (try simp only [Act.put, List.setIfInBounds_toArray, List.set_cons_zero, List.set_cons_succ])
 go_cut [32] (fun v32 wc => ∃ (kq : Nat) (x32_6 : Bool), v32 = .bool x32_6 ∧ Aside0 (r12_Split.j0 kq a1 l2 t726 x32_6 = some (r1, r2)) ∧ Aside0 (kq ≤ k) ∧ Aside0 (wc.heap[gb724]? = some (.cells #[.int .i64 a0_0, (.slice A0_1 l0_1.length c0_1), (.slice A0_2 l0_2.length c0_2)] 25 (0, 0))) ∧ Aside0 (Below w.heap.size w wc))
 case first =>
  have H := HC7.out
  clear HC7
  by_cases c13 : (l2.length : Int) = (wrap64 (a1 * t726))
  rotate_left
  ·rw [if_neg c13] at H
   have c13b0 : ((l2.length : Int) == (wrap64 (a1 * t726))) = false := beq_eq_false_iff_ne.mpr c13
   have c13b1 : ((l2.length : Int) != (wrap64 (a1 * t726))) = true := bne_iff_ne.mpr c13
   (first | rw [c13b0] | (simp only [i64_w, i32_w]; rw [c13b0]) | skip)
   have H' := Aside0.mk H
   clear H
   go_wp2
   go_meet
   case rel => exact ⟨_, (true), rs, H', ⟨by first | omega | exact Nat.le_refl _⟩, ⟨by (with_reducible repeat (first | refine kdN ?_ _ | refine kdr ?_ | refine kal ?_ _)); exact BK724.out⟩, ⟨bb HB⟩⟩
  rw [if_pos c13] at H
  have c13b0 : ((l2.length : Int) == (wrap64 (a1 * t726))) = true := beq_iff_eq.mpr c13
  have c13b1 : ((l2.length : Int) != (wrap64 (a1 * t726))) = false := bne_eq_false_iff_eq.mpr c13
  clear c13
  (first | rw [c13b0] | (simp only [i64_w, i32_w]; rw [c13b0]) | skip)
  obtain ⟨t727, A14, H⟩ := be H
  replace H : (r12_Split.j0 k a1 l2 t726 (!t727)) = some (r1, r2) := H
  have H' := Aside0.mk H
  clear H
  obtain ⟨hcz15_0, hcz15_1, hcz15_2, hfz15_0, hfz15_1, hfz15_2⟩ := cf3 BK724.out
  go_wp2_with (first | (go_at_call 59; (with_reducible refine (r1_Words.calls k a0_0 _ _ l2 t727 _ ?side1 ?side2 A14.out).mono ?_); (case side1 => exact cb HR2 HB); (case side2 => exact HC2.out); rintro e w' ⟨rfl, ⟨nd, rfl⟩⟩))
  go_meet
  case rel => exact ⟨_, (!t727), rs, H', ⟨by first | omega | exact Nat.le_refl _⟩, ⟨by (with_reducible repeat (first | refine kdN ?_ _ | refine kdr ?_ | refine kal ?_ _)); exact BK724.out⟩, ⟨bb HB⟩⟩
 case rest =>
  clear HC7
  try clear c1
  try clear c2
  try clear p2
  try clear c3
  try clear c5
  try clear c5b0
  try clear c5b1
  try clear p6
  try clear c7
  try clear c13
  try clear c13b0
  try clear c13b1
  try clear hcz11_0 hcz11_1 hcz11_2
  try clear hcz15_0 hcz15_1 hcz15_2
  try clear hcz9_0 hcz9_1 hcz9_2
  try clear hfz11_0 hfz11_1 hfz11_2
  try clear hfz15_0 hfz15_1 hfz15_2
  try clear hfz9_0 hfz9_1 hfz9_2
  obtain ⟨kq, x32_6, rfl, HA, HJ6, BK724, HB⟩ := hcut
  cases kq with
  | zero => exact absurd HA.out (by simp [r12_Split.j0])
  | succ kj6 =>
   have H := HA.out
   clear HA
   simp only [r12_Split.j0] at H
   by_cases c16 : x32_6 = true
   ·subst c16
    have H1 : (some (([] : List (List Int)), 1)) = some (r1, r2) := by rw [if_pos rfl] at H; exact H
    clear H
    have H := H1
    clear H1
    simp only [Option.some.injEq, Prod.mk.injEq] at H
    obtain ⟨rfl, rfl⟩ := H
    go_wp2
    go_ret2
    exact ⟨_, rr, by first | exact Kd.S_nil _ _ _ _ _ | exact Kd.N_nil _ _ _ _ _ | exact Kd.V_nil _ _ _ _ _ | exact Kd.Q_nil _ _ _ _ _ | exact Kd.R_nil _ _ _ _ _, bb HB⟩
   replace c16 := Bool.eq_false_iff.mpr c16
   subst c16
   have H1 : (r12_Split.l0 kj6 a1 l2 t726 ([] : List (List Int)) 0) = some (r1, r2) := by rw [if_neg (show ¬ (false = true) by decide)] at H; exact H
   clear H
   have H := H1
   clear H1
   have H' := Aside0.mk H
   clear H
   go_wp2
   go_loopg [10, 11] kj6 (fun kq v10 v11 w' => ∃ (x10_2 : List (List Int)) (x11_2 : Int), v11 = .int .i64 x11_2 ∧ Aside0 (r12_Split.l0 kq a1 l2 t726 x10_2 x11_2 = some (r1, r2)) ∧ Aside0 (kq ≤ kj6) ∧ Aside0 (Kd.S (Kd.slice 3 (Kd.int .i64)) 45 w' w.heap.size (fun _ => True) v10 x10_2) ∧ Aside0 (w'.heap[gb724]? = some (.cells #[.int .i64 a0_0, (.slice A0_1 l0_1.length c0_1), (.slice A0_2 l0_2.length c0_2)] 25 (0, 0))) ∧ Aside0 (Below w.heap.size w w'))
   case atStart => exact ⟨(([] : List (List Int))), (0), rs, H', ⟨Nat.le_refl _⟩, ⟨by first | exact Kd.S_nil _ _ _ _ _ | exact Kd.N_nil _ _ _ _ _ | exact Kd.V_nil _ _ _ _ _ | exact Kd.Q_nil _ _ _ _ _ | exact Kd.R_nil _ _ _ _ _⟩, ⟨by (with_reducible repeat (first | refine kdN ?_ _ | refine kdr ?_ | refine kal ?_ _)); exact BK724.out⟩, ⟨bb HB⟩⟩
   case round =>
    clear H'
    try clear c1
    try clear c2
    try clear p2
    try clear c3
    try clear c5
    try clear c5b0
    try clear c5b1
    try clear p6
    try clear c7
    try clear c13
    try clear c13b0
    try clear c13b1
    try clear c16
    try clear hcz11_0 hcz11_1 hcz11_2
    try clear hcz15_0 hcz15_1 hcz15_2
    try clear hcz9_0 hcz9_1 hcz9_2
    try clear hfz11_0 hfz11_1 hfz11_2
    try clear hfz15_0 hfz15_1 hfz15_2
    try clear hfz9_0 hfz9_1 hfz9_2
    try clear p2
    try clear p6
    obtain ⟨x10_2, x11_2, rfl, HA, HK2, HO_10, BK724, HB⟩ := hrel
    cases gk with
    | zero => exact absurd HA.out (by simp [r12_Split.l0])
    | succ k2 =>
     have H := HA.out
     clear HA
     simp only [r12_Split.l0] at H
     by_cases c17 : x11_2 < a1
     rotate_left
     ·rw [if_neg c17] at H
      have c17b0 : decide (x11_2 < a1) = false := decide_eq_false c17
      clear c17
      simp only [Option.some.injEq, Prod.mk.injEq] at H
      obtain ⟨rfl, rfl⟩ := H
      go_wp2
      go_ret2
      exact ⟨_, rr, by (with_reducible repeat (first | apply Kd.S_alloc | apply Kd.S_drewN | apply Kd.S_drew)); exact HO_10.out, bb HB⟩
     rw [if_pos c17] at H
     have c17b0 : decide (x11_2 < a1) = true := decide_eq_true c17
     clear c17
     obtain ⟨ji18, hji18⟩ : ∃ j_ : Int, (wrap64 (x11_2 * t726)) = j_ := ⟨_, rfl⟩
     replace H : (if 0 ≤ (ji18) then (if (ji18) ≤ (wrap64 ((ji18) + t726)) then (if (wrap64 ((ji18) + t726)) ≤ (l2.length : Int) then ((r1_Copy.f k2 ((l2.take ((wrap64 ((ji18) + t726)) : Int).toNat).drop ((ji18) : Int).toNat)).bind fun t729 => (if x10_2.length < 5864062014805 then (r12_Split.l0 k2 a1 l2 t726 (x10_2 ++ [t729]) (wrap64 (x11_2 + 1))) else (none))) else (none)) else (none)) else (none)) = some (r1, r2) := by first | (rw [hji18] at H; exact H) | (simp only [hji18] at H ⊢; exact H)
     have hji18w : (IntKind.i64.wrap (x11_2 * t726)) = ji18 := (i64_w _).trans hji18
     by_cases c19 : 0 ≤ (ji18)
     rotate_left
     ·rw [if_neg c19] at H
      exact absurd H (by simp)
     rw [if_pos c19] at H
     have c19b0 := eq_true c19
     have c19b1 : decide (0 ≤ (ji18)) = true := decide_eq_true c19
     clear c19
     by_cases c20 : (ji18) ≤ (wrap64 ((ji18) + t726))
     rotate_left
     ·rw [if_neg c20] at H
      exact absurd H (by simp)
     rw [if_pos c20] at H
     have c20b0 := eq_true c20
     have c20b1 : decide ((ji18) ≤ (wrap64 ((ji18) + t726))) = true := decide_eq_true c20
     by_cases c21 : (wrap64 ((ji18) + t726)) ≤ (l2.length : Int)
     rotate_left
     ·rw [if_neg c21] at H
      exact absurd H (by simp)
     rw [if_pos c21] at H
     have c21b0 := eq_true c21
     have c21b1 : decide ((wrap64 ((ji18) + t726)) ≤ (l2.length : Int)) = true := decide_eq_true c21
     obtain ⟨t729, A22, H⟩ := be H
     replace H : (if x10_2.length < 5864062014805 then (r12_Split.l0 k2 a1 l2 t726 (x10_2 ++ [t729]) (wrap64 (x11_2 + 1))) else (none)) = some (r1, r2) := H
     by_cases c23 : x10_2.length < 5864062014805
     rotate_left
     ·rw [if_neg c23] at H
      exact absurd H (by simp)
     rw [if_pos c23] at H
     have LMc23 := Aside0.mk c23
     clear c23
     obtain ⟨y732, hy732⟩ : ∃ y_ : List (List Int), y_ = (x10_2 ++ [t729]) := ⟨_, rfl⟩
     replace H : (r12_Split.l0 k2 a1 l2 t726 y732 (wrap64 (x11_2 + 1))) = some (r1, r2) := by first | (rw [hy732]; with_reducible exact H) | (have H2_ := (Option.bind_some _ _).symm.trans H; rw [hy732]; with_reducible exact H2_) | (have H2_ := (Option.bind_some _ _).symm.trans H; with_reducible exact H2_) | with_reducible exact H | (rw [hy732]; exact H) | exact H
     have Ny732 := Aside0.mk hy732
     clear hy732
     have H' := Aside0.mk H
     clear H
     obtain ⟨i024, hi024, _, hsz24, _⟩ := info_parts info3
     obtain ⟨A24, hcut24, hA24, hC24⟩ := print_mid_of (P := Try.prog) (Value.int .i64) 0 45 3 .i64 .i64 Try.underlying45 hi024 hsz24 A2 c2 l2 (ji18) (wrap64 ((ji18) + t726)) (od) (by first | omega | exact od) (od) HC2.out
     have HR728 := Aside0.mk (Kd.C_of_reads (h1 := fun _ => rfl) (hA24 _ (Kd.reads_of_C HR2.out)))
     have HC728 := Aside0.mk hC24
     clear hA24 hC24 hi024 hsz24
     go_wp2_with (first | ((with_reducible refine gate_callee (f := 73) rfl ?_); refine goesL_ (some 49) rfl rfl Try.func73 (by kernel_rfl) rfl #[.slice A24 ((l2.take ((wrap64 ((ji18) + t726)) : Int).toNat).drop ((ji18) : Int).toNat).length (c2 - (ji18).toNat)] rfl (by (try simp only [List.map_toArray, List.map_cons, List.map_nil]); first | done | (rw [show ((l2.take ((wrap64 ((ji18) + t726)) : Int).toNat).drop ((ji18) : Int).toNat).length = ((wrap64 ((ji18) + t726)).toNat - (ji18).toNat) from (by rw [List.length_drop, List.length_take]; have h_ : ((wrap64 ((ji18) + t726)) : Int) ≤ (l2.length : Int) := od; omega)] <;> rfl) | (simp only [hji18]; rfl) | rfl | (simp only [List.length_drop, List.length_take]; rfl)) ?_; (with_reducible refine (r1_Copy.calls k2 _ _ ((l2.take ((wrap64 ((ji18) + t726)) : Int).toNat).drop ((ji18) : Int).toNat) t729 _ ?side1 ?side2 A22.out).mono ?_); (case side1 => exact cb HR728 HB); (case side2 => exact HC728.out); rintro e w25 ⟨v730, rfl, ho0, hb⟩; refine ⟨_, rfl, ?_⟩; have HO731 := Aside0.mk (Kd.R_lower ho0 (bsz (bb HB))); replace HO_10 := Aside0.mk (Kd.S_elder' (by (with_reducible repeat (first | apply Kd.S_alloc | apply Kd.S_drewN | apply Kd.S_drew)); exact HO_10.out) (Kd.R_base ho0) hb); replace BK724 := kb BK724 hb; replace HB := sb HB hb; (try clear hb); (try clear hb2); (try clear hk); (try clear hi); (try clear ho0); obtain ⟨Ao27, co27, eo27⟩ := Kd.R_slice HO731.out; subst eo27) | ((with_reducible refine gate_builtin (b := .append) (xs := #[.tmp 38, .tmp 50]) rfl ?_); at_builtin; refine Kd.S_append (Kd.slice 3 (Kd.int .i64)) (w0 := w) w.heap.size rfl (.tmp 38) (.tmp 50) 41 45 (.slice none 0 0) 24 rfl Try.underlying41 info45 rfl (by decide) (by omega) u10 x10_2 t729 [.slice Ao27 t729.length co27] (fun _ => True) (fun k_ => some k_ = (.slice Ao27 t729.length co27 : Value).ownBlock) rfl rfl ?aP (fun k_ hk_ => ((Kd.R_mono (ok' := fun k_ => ((fun _ => True)) k_ ∧ some k_ ≠ (u10 : Value).ownBlock) (Kd.R_apart' (HO731.out) (Kd.S_typed HO_10.out) (by decide)) (fun k_ hk => ⟨trivial, hk.2⟩))).1 k_ hk_.symm) ?aF ?aO ?aB ?aS ?aL ?_; (case aP => exact Kd.M_row (Kd.R_mono (Kd.R_tight rfl (Kd.R_mono (ok' := fun k_ => ((fun _ => True)) k_ ∧ some k_ ≠ (u10 : Value).ownBlock) (Kd.R_apart' (HO731.out) (Kd.S_typed HO_10.out) (by decide)) (fun k_ hk => ⟨trivial, hk.2⟩))) (fun _ h_ => h_))); (case aB => exact (bb HB)); (case aF => exact (fun _ _ => trivial)); (case aO => exact (by (with_reducible repeat (first | apply Kd.S_alloc | apply Kd.S_drewN | apply Kd.S_drew)); exact Kd.S_mono HO_10.out (fun k_ hk => ⟨trivial, fun e_ => hk.2 e_⟩))); (case aS => exact (bsz (bb HB))); (case aL => have := LMc23.out; omega); intro v733 w26 ho hb hg hat; rw [← Ny732.out] at ho; have HO734 := Aside0.mk (ho); replace BK724 := Aside0.mk (blk_grown (g := gb724) (o := .cells #[.int .i64 a0_0, .slice A0_1 l0_1.length c0_1, .slice A0_2 l0_2.length c0_2] 25 (0, 0)) (by (with_reducible repeat (first | refine kdN ?_ _ | refine kdr ?_ | refine kal ?_ _)); exact BK724.out) hg (Kd.S_ne HO_10.out BK724.out (by decide))); replace HB := Aside0.mk (hb); clear HO_10 HO731; clear ho hb hg hat))
     go_roundg k2
     case measure => have := HJ6.out; have := HK2.out; omega
     case rel => exact ⟨(y732), (wrap64 (x11_2 + 1)), rs, H', ⟨by have := HJ6.out; have := HK2.out; omega⟩, ⟨by (with_reducible repeat (first | apply Kd.S_alloc | apply Kd.S_drewN | apply Kd.S_drew)); exact HO734.out⟩, ⟨by (with_reducible repeat (first | refine kdN ?_ _ | refine kdr ?_ | refine kal ?_ _)); exact BK724.out⟩, ⟨bb HB⟩⟩
def r6_Alike.l0 : Nat → List (List Int) → List (List Int) → Int → Option (Bool)
 | 0, _, _, _ => none
 | k + 1, x0, x1, x5 => if x5 < (x0.length : Int) then (if 0 ≤ x5 then (if x5 < (x1.length : Int) then ((r1_Same.f k (rd_L10 x0 x5) (rd_L10 x1 x5)).bind fun t737 => (if t737 = true then (r6_Alike.l0 k x0 x1 (wrap64 (x5 + 1))) else (some false))) else (none)) else (none)) else (some true)
def r6_Alike.f (k : Nat) (l0 : List (List Int)) (l1 : List (List Int)) : Option (Bool) := if (l0.length : Int) = (l1.length : Int) then (r6_Alike.l0 k l0 l1 0) else (some false)
set_option maxHeartbeats 8000000 in
set_option maxRecDepth 100000 in
theorem r6_Alike.calls (k : Nat) (A0 : Option Addr) (c0 : Nat) (l0 : List (List Int)) (A1 : Option Addr) (c1 : Nat) (l1 : List (List Int)) (r : Bool) (w : World) (hr0 : Kd.C (Kd.slice 3 (Kd.int .i64)) w A0 l0.length l0) (hc0 : l0.length ≤ c0) (hr1 : Kd.C (Kd.slice 3 (Kd.int .i64)) w A1 l1.length l1) (hc1 : l1.length ≤ c1) (h : r6_Alike.f k l0 l1 = some r) :
  Calls Try.prog 74 #[.slice A0 l0.length c0, .slice A1 l1.length c1] w fun e w' => e = .returned (.bool r) ∧ Drawn0 w w' := by
 have HR0 := Aside0.mk hr0
 have HC0 := Aside0.mk hc0
 clear hr0 hc0
 have HR1 := Aside0.mk hr1
 have HC1 := Aside0.mk hc1
 clear hr1 hc1
 have H : (if (l0.length : Int) = (l1.length : Int) then (r6_Alike.l0 k l0 l1 0) else (some false)) = some r := h
 clear h
 by_cases c3 : (l0.length : Int) = (l1.length : Int)
 rotate_left
 ·rw [if_neg c3] at H
  have c3b0 : ((l0.length : Int) == (l1.length : Int)) = false := beq_eq_false_iff_ne.mpr c3
  have c3b1 : ((l0.length : Int) != (l1.length : Int)) = true := bne_iff_ne.mpr c3
  have c3b2 : (l0.length == l1.length) = false := by first | simpa using c3 | (simp at c3 ⊢; omega)
  obtain rfl := Option.some.inj H
  go_enter Try.func74, Try.ntmps74
  go_wp2
  repeat (go_quiet (fail); try go_wp2)
  go_ret
  exact ⟨rs, dr⟩
 rw [if_pos c3] at H
 have c3b0 : ((l0.length : Int) == (l1.length : Int)) = true := beq_iff_eq.mpr c3
 have c3b1 : ((l0.length : Int) != (l1.length : Int)) = false := bne_eq_false_iff_eq.mpr c3
 have c3b2 : (l0.length == l1.length) = true := by first | simpa using c3 | (simp at c3 ⊢; omega)
 clear c3
 have H' := Aside0.mk H
 clear H
 go_enter Try.func74, Try.ntmps74
 go_wp2
 repeat (go_quiet (fail); try go_wp2)
 go_loopg [5] k (fun kq v5 w' => ∃ (x5_1 : Int), v5 = .int .i64 x5_1 ∧ Aside0 (r6_Alike.l0 kq l0 l1 x5_1 = some r) ∧ Aside0 (kq ≤ k) ∧ Drawn0 w w')
 case atStart => exact ⟨(0), rs, H', ⟨Nat.le_refl _⟩, dr⟩
 case round =>
  clear H'
  try clear c1
  try clear p2
  try clear c3
  try clear c3b0
  try clear c3b1
  try clear c3b2
  obtain ⟨x5_1, rfl, HA, HK1, ⟨m1, rfl⟩⟩ := hrel
  cases gk with
  | zero => exact absurd HA.out (by simp [r6_Alike.l0])
  | succ k1 =>
   have H := HA.out
   clear HA
   simp only [r6_Alike.l0] at H
   by_cases c4 : x5_1 < (l0.length : Int)
   rotate_left
   ·rw [if_neg c4] at H
    have c4b0 : decide (x5_1 < (l0.length : Int)) = false := decide_eq_false c4
    clear c4
    obtain rfl := Option.some.inj H
    go_wp2
    repeat (go_quiet (fail); try go_wp2)
    go_ret
    exact ⟨rs, dr⟩
   rw [if_pos c4] at H
   have c4b0 : decide (x5_1 < (l0.length : Int)) = true := decide_eq_true c4
   clear c4
   by_cases c5 : 0 ≤ x5_1
   rotate_left
   ·rw [if_neg c5] at H
    exact absurd H (by simp)
   rw [if_pos c5] at H
   have c5b0 : decide (0 ≤ x5_1) = true := decide_eq_true c5
   clear c5
   by_cases c6 : x5_1 < (l1.length : Int)
   rotate_left
   ·rw [if_neg c6] at H
    exact absurd H (by simp)
   rw [if_pos c6] at H
   have c6b0 : decide (x5_1 < (l1.length : Int)) = true := decide_eq_true c6
   clear c6
   obtain ⟨t737, A7, H⟩ := be H
   replace H : (if t737 = true then (r6_Alike.l0 k1 l0 l1 (wrap64 (x5_1 + 1))) else (some false)) = some r := H
   by_cases c8 : t737 = true
   rotate_left
   ·replace c8 := Bool.eq_false_iff.mpr c8
    subst c8
    have H1 : (some false) = some r := by rw [if_neg (show ¬ (false = true) by decide)] at H; exact H
    clear H
    have H := H1
    clear H1
    obtain rfl := Option.some.inj H
    have p735 : 0 ≤ (x5_1 : Int) := od
    have q735 : x5_1 < (l0.length : Int) := od
    obtain ⟨ad735, A735_0, c735_0, e735, hx735_0, hl735_0, hi735_0⟩ := at_L10 HR0.out x5_1 p735 q735
    cases e735
    have HR735_0 := Aside0.mk hi735_0
    have HC735_0 := Aside0.mk hl735_0
    clear hi735_0 hl735_0
    replace p735 := eq_true p735
    replace q735 := eq_true q735
    have p736 : 0 ≤ (x5_1 : Int) := od
    have q736 : x5_1 < (l1.length : Int) := od
    obtain ⟨ad736, A736_0, c736_0, e736, hx736_0, hl736_0, hi736_0⟩ := at_L10 HR1.out x5_1 p736 q736
    cases e736
    have HR736_0 := Aside0.mk hi736_0
    have HC736_0 := Aside0.mk hl736_0
    clear hi736_0 hl736_0
    replace p736 := eq_true p736
    replace q736 := eq_true q736
    go_wp2_with (first | (go_at_call 35; (with_reducible refine (r1_Same.calls k1 _ _ (rd_L10 l0 x5_1) _ _ (rd_L10 l1 x5_1) false _ ?side1 ?side2 ?side3 ?side4 A7.out).mono ?_); (case side1 => exact ca HR735_0); (case side2 => exact HC735_0.out); (case side3 => exact ca HR736_0); (case side4 => exact HC736_0.out); rintro e w' ⟨rfl, ⟨nd, rfl⟩⟩; (try first | exact ⟨rfl, _, World.drewN_drewN _ _ _⟩ | exact ⟨rfl, _, Eq.trans (World.drewN_drewN _ _ _) (congrArg (World.drewN _) (Nat.add_assoc _ _ _))⟩)))
    repeat (go_quiet (first | (go_at_call 35; (with_reducible refine (r1_Same.calls k1 _ _ (rd_L10 l0 x5_1) _ _ (rd_L10 l1 x5_1) false _ ?side1 ?side2 ?side3 ?side4 A7.out).mono ?_); (case side1 => exact ca HR735_0); (case side2 => exact HC735_0.out); (case side3 => exact ca HR736_0); (case side4 => exact HC736_0.out); rintro e w' ⟨rfl, ⟨nd, rfl⟩⟩; (try first | exact ⟨rfl, _, World.drewN_drewN _ _ _⟩ | exact ⟨rfl, _, Eq.trans (World.drewN_drewN _ _ _) (congrArg (World.drewN _) (Nat.add_assoc _ _ _))⟩))); try go_wp2_with (first | (go_at_call 35; (with_reducible refine (r1_Same.calls k1 _ _ (rd_L10 l0 x5_1) _ _ (rd_L10 l1 x5_1) false _ ?side1 ?side2 ?side3 ?side4 A7.out).mono ?_); (case side1 => exact ca HR735_0); (case side2 => exact HC735_0.out); (case side3 => exact ca HR736_0); (case side4 => exact HC736_0.out); rintro e w' ⟨rfl, ⟨nd, rfl⟩⟩; (try first | exact ⟨rfl, _, World.drewN_drewN _ _ _⟩ | exact ⟨rfl, _, Eq.trans (World.drewN_drewN _ _ _) (congrArg (World.drewN _) (Nat.add_assoc _ _ _))⟩))))
    go_ret
    exact ⟨rs, dr⟩
   subst c8
   have H1 : (r6_Alike.l0 k1 l0 l1 (wrap64 (x5_1 + 1))) = some r := by rw [if_pos rfl] at H; exact H
   clear H
   have H := H1
   clear H1
   have H' := Aside0.mk H
   clear H
   have p735 : 0 ≤ (x5_1 : Int) := od
   have q735 : x5_1 < (l0.length : Int) := od
   obtain ⟨ad735, A735_0, c735_0, e735, hx735_0, hl735_0, hi735_0⟩ := at_L10 HR0.out x5_1 p735 q735
   cases e735
   have HR735_0 := Aside0.mk hi735_0
   have HC735_0 := Aside0.mk hl735_0
   clear hi735_0 hl735_0
   replace p735 := eq_true p735
   replace q735 := eq_true q735
   have p736 : 0 ≤ (x5_1 : Int) := od
   have q736 : x5_1 < (l1.length : Int) := od
   obtain ⟨ad736, A736_0, c736_0, e736, hx736_0, hl736_0, hi736_0⟩ := at_L10 HR1.out x5_1 p736 q736
   cases e736
   have HR736_0 := Aside0.mk hi736_0
   have HC736_0 := Aside0.mk hl736_0
   clear hi736_0 hl736_0
   replace p736 := eq_true p736
   replace q736 := eq_true q736
   go_wp2_with (first | (go_at_call 35; (with_reducible refine (r1_Same.calls k1 _ _ (rd_L10 l0 x5_1) _ _ (rd_L10 l1 x5_1) true _ ?side1 ?side2 ?side3 ?side4 A7.out).mono ?_); (case side1 => exact ca HR735_0); (case side2 => exact HC735_0.out); (case side3 => exact ca HR736_0); (case side4 => exact HC736_0.out); rintro e w' ⟨rfl, ⟨nd, rfl⟩⟩; (try first | exact ⟨rfl, _, World.drewN_drewN _ _ _⟩ | exact ⟨rfl, _, Eq.trans (World.drewN_drewN _ _ _) (congrArg (World.drewN _) (Nat.add_assoc _ _ _))⟩)))
   repeat (go_quiet (first | (go_at_call 35; (with_reducible refine (r1_Same.calls k1 _ _ (rd_L10 l0 x5_1) _ _ (rd_L10 l1 x5_1) true _ ?side1 ?side2 ?side3 ?side4 A7.out).mono ?_); (case side1 => exact ca HR735_0); (case side2 => exact HC735_0.out); (case side3 => exact ca HR736_0); (case side4 => exact HC736_0.out); rintro e w' ⟨rfl, ⟨nd, rfl⟩⟩; (try first | exact ⟨rfl, _, World.drewN_drewN _ _ _⟩ | exact ⟨rfl, _, Eq.trans (World.drewN_drewN _ _ _) (congrArg (World.drewN _) (Nat.add_assoc _ _ _))⟩))); try go_wp2_with (first | (go_at_call 35; (with_reducible refine (r1_Same.calls k1 _ _ (rd_L10 l0 x5_1) _ _ (rd_L10 l1 x5_1) true _ ?side1 ?side2 ?side3 ?side4 A7.out).mono ?_); (case side1 => exact ca HR735_0); (case side2 => exact HC735_0.out); (case side3 => exact ca HR736_0); (case side4 => exact HC736_0.out); rintro e w' ⟨rfl, ⟨nd, rfl⟩⟩; (try first | exact ⟨rfl, _, World.drewN_drewN _ _ _⟩ | exact ⟨rfl, _, Eq.trans (World.drewN_drewN _ _ _) (congrArg (World.drewN _) (Nat.add_assoc _ _ _))⟩))))
   go_roundg k1
   case measure => have := HK1.out; omega
   case rel => exact ⟨(wrap64 (x5_1 + 1)), rs, H', ⟨by have := HK1.out; omega⟩, dr⟩
def w12_lists.f (k : Nat) (l0 : List (List Int)) (l1 : List (List Int)) : Option (Bool) := (r6_Alike.f k l0 l1).bind fun t738 => (some t738)
set_option maxHeartbeats 8000000 in
set_option maxRecDepth 100000 in
theorem w12_lists.calls (k : Nat) (A0 : Option Addr) (c0 : Nat) (l0 : List (List Int)) (A1 : Option Addr) (c1 : Nat) (l1 : List (List Int)) (r : Bool) (w : World) (hr0 : Kd.C (Kd.slice 3 (Kd.int .i64)) w A0 l0.length l0) (hc0 : l0.length ≤ c0) (hr1 : Kd.C (Kd.slice 3 (Kd.int .i64)) w A1 l1.length l1) (hc1 : l1.length ≤ c1) (h : w12_lists.f k l0 l1 = some r) :
  Calls Try.prog 36 #[.slice A0 l0.length c0, .slice A1 l1.length c1] w fun e w' => e = .returned (.bool r) ∧ Drawn0 w w' := by
 have HR0 := Aside0.mk hr0
 have HC0 := Aside0.mk hc0
 clear hr0 hc0
 have HR1 := Aside0.mk hr1
 have HC1 := Aside0.mk hc1
 clear hr1 hc1
 have H : ((r6_Alike.f k l0 l1).bind fun t738 => (some t738)) = some r := h
 clear h
 obtain ⟨t738, A3, H⟩ := be H
 replace H : (some t738) = some r := H
 obtain rfl := Option.some.inj H
 go_enter Try.func36, Try.ntmps36
 go_wp2_with (first | ((with_reducible refine gate_callee (f := 74) rfl ?_); refine gL (some 7) rfl rfl Try.func74 #[.slice A0 l0.length c0, .slice A1 l1.length c1] rfl ?_; (with_reducible refine (r6_Alike.calls k _ _ l0 _ _ l1 t738 _ ?side1 ?side2 ?side3 ?side4 A3.out).mono ?_); (case side1 => exact ca HR0); (case side2 => exact HC0.out); (case side3 => exact ca HR1); (case side4 => exact HC1.out); rintro e w' ⟨rfl, ⟨nd, rfl⟩⟩; refine ⟨_, rfl, ?_⟩))
 go_ret
 exact ⟨rs, dr⟩
def chunk (n : Nat) (l : List Int) (i : Nat) : List Int := (l.take ((i + 1) * n)).drop (i * n)
def chunks (n : Nat) (l : List Int) : Nat → List (List Int)
  | 0 => []
  | k + 1 => chunks n l k ++ [chunk n l k]
theorem chunks_length (n : Nat) (l : List Int) : ∀ k, (chunks n l k).length = k
  | 0 => rfl
  | k + 1 => by rw [chunks, List.length_append, chunks_length n l k]; rfl
theorem chunk_length (n : Nat) (l : List Int) (i : Nat) : (chunk n l i).length ≤ n := by
  unfold chunk
  rw [List.length_drop, List.length_take]
  have : (i + 1) * n = i * n + n := Nat.succ_mul i n
  omega
theorem chunks_good (n : Nat) (l : List Int) : ∀ k, ∀ s ∈ chunks n l k, s.length ≤ n
  | 0, s, h => by cases h
  | k + 1, s, h => by
    rw [chunks, List.mem_append] at h
    rcases h with h | h
    · exact chunks_good n l k s h
    · rw [List.mem_singleton] at h
      subst h
      exact chunk_length n l k
theorem snoc_ind {α : Type} {P : List α → Prop} (h0 : P []) (h1 : ∀ l x, P l → P (l ++ [x])) : ∀ l, P l := by
  intro l
  have : ∀ m : List α, P m.reverse := by
    intro m
    induction m with
    | nil => exact h0
    | cons x r ih => rw [List.reverse_cons]; exact h1 _ _ ih
  have h := this l.reverse
  rw [List.reverse_reverse] at h
  exact h
theorem chunks_flat {n : Nat} : ∀ (l : List (List Int)), (∀ s ∈ l, s.length = n) → ∀ (x : List (List Int)), (∀ s ∈ x, s.length = n) → ∀ k, k = l.length → chunks n (l.flatten ++ x.flatten) k = l := by
  refine snoc_ind ?_ (fun l s ih => ?_)
  · intro _ x _ k hk
    subst hk
    rfl
  · intro hl x hx k hk
    rw [List.length_append, List.length_singleton] at hk
    subst hk
    have h1 := ih (fun u hu => hl u (by simp [hu])) (s :: x) (by
      intro u hu
      rcases List.mem_cons.1 hu with rfl | hu
      · exact hl _ (by simp)
      · exact hx u hu) l.length rfl
    have e : (l ++ [s]).flatten ++ x.flatten = l.flatten ++ (s :: x).flatten := by simp
    rw [chunks, e, h1]
    congr 1
    have hs : s.length = n := hl s (by simp)
    have hf : ∀ (m : List (List Int)), (∀ u ∈ m, u.length = n) → m.flatten.length = m.length * n := by
      intro m
      induction m with
      | nil => intro _; simp
      | cons u r ih2 =>
        intro hm
        rw [List.flatten_cons, List.length_append, ih2 (fun v hv => hm v (by simp [hv])), hm u (by simp), List.length_cons, Nat.succ_mul]
        omega
    have h2 := hf l (fun u hu => hl u (by simp [hu]))
    unfold chunk
    rw [Nat.succ_mul, ← h2, ← hs, List.take_length_add_append, List.drop_append_of_le_length (Nat.le_refl _)]
    simp
def isWide (w : Int) (vars : List S66) (k : Int) (l : List Int) : Bool := decide ((l.length : Int) = k * cs vars) && valid (2 ^ w.toNat) l
def spR (w : Int) (vars : List S66) (body : List S64) (k : Int) (l : List Int) : List (List Int) × Int :=
  if cpE w vars body k = 0 then (if isWide w vars k l = true then (chunks (cs vars).toNat l k.toNat, 0) else ([], 1)) else ([], cpE w vars body k)
theorem clone_tells (l : List Int) (h : l.length ≤ 1000000) : Tells (fun k => slices_Clone_int_int.f k l) l := ⟨0, fun k _ => by unfold slices_Clone_int_int.f; rw [if_pos h]⟩
theorem wcopy_loop : ∀ (suf pre acc : List Int), (pre ++ suf).length ≤ 1000 → acc.length + suf.length ≤ 1000 → Tells (fun k => r1_Copy.l0 k (pre ++ suf) acc (pre.length : Int)) (acc ++ suf)
  | [], pre, acc, _, _ => by
    refine Tells.succ ?_
    simp only [r1_Copy.l0, pre_nlt, if_false]
    rw [List.append_nil]
    exact Tells.pure _
  | s :: r, pre, acc, hl, ha => by
    refine Tells.succ ?_
    rw [List.length_cons] at ha
    simp only [r1_Copy.l0, pre_lt, pre_pos, if_true, rd_mid]
    refine Tells.ifT (by omega) ?_
    rw [pre_next pre s r (by omega)]
    have ih := wcopy_loop r (pre ++ [s]) (acc ++ [s]) (by rw [← pre_app]; exact hl) (by rw [List.length_append]; simp only [List.length_cons, List.length_nil]; omega)
    rw [← pre_app, List.append_assoc, List.singleton_append] at ih
    exact ih
theorem wcopy_tells (l : List Int) (h : l.length ≤ 1000) : Tells (fun k => r1_Copy.f k l) l := by
  unfold r1_Copy.f
  exact wcopy_loop l [] [] h (by simp only [List.length_nil]; omega)
theorem cut_nums {i n : Nat} (hi : i ≤ 3) (hn : n ≤ 144) : wrap64 ((i : Int) * (n : Int)) = ((i * n : Nat) : Int) ∧ wrap64 ((i : Int) + 1) = ((i + 1 : Nat) : Int) ∧ i * n ≤ 432 := by
  have h : i * n ≤ 3 * 144 := Nat.mul_le_mul hi hn
  have e : (i : Int) * (n : Int) = ((i * n : Nat) : Int) := by rw [Int.natCast_mul]
  refine ⟨by rw [e]; exact w64 (by omega) (by omega), by rw [w64 (by omega) (by omega)]; omega, by omega⟩
theorem cut_sum {i n : Nat} (hi : i ≤ 3) (hn : n ≤ 144) : wrap64 (((i * n : Nat) : Int) + (n : Int)) = (((i + 1) * n : Nat) : Int) := by
  have h : i * n ≤ 3 * 144 := Nat.mul_le_mul hi hn
  have e : (i + 1) * n = i * n + n := Nat.succ_mul i n
  rw [e]
  generalize i * n = x at h
  rw [w64 (by omega) (by omega)]
  omega
theorem cut_le {i n m L : Nat} (hi : i + 1 ≤ m) (hL : L = m * n) : (0 : Int) ≤ ((i * n : Nat) : Int) ∧ ((i * n : Nat) : Int) ≤ (((i + 1) * n : Nat) : Int) ∧ (((i + 1) * n : Nat) : Int) ≤ (L : Int) := by
  have h1 : i * n ≤ (i + 1) * n := Nat.mul_le_mul (by omega) (Nat.le_refl _)
  have h2 : (i + 1) * n ≤ m * n := Nat.mul_le_mul hi (Nat.le_refl _)
  rw [← hL] at h2
  exact ⟨Int.natCast_nonneg _, Int.ofNat_le.2 h1, Int.ofNat_le.2 h2⟩
theorem split_loop (l : List Int) (n : Nat) (hn : n ≤ 144) (m : Nat) (hm : m ≤ 3) (hll : l.length = m * n) : ∀ (j i : Nat), i + j = m →
    Tells (fun k => prod_Split.l0 k l (n : Int) (chunks n l i) (m : Int) (i : Int)) (chunks n l m, 0)
  | 0, i, h => by
    obtain rfl : i = m := by omega
    refine Tells.succ ?_
    simp only [prod_Split.l0, Int.lt_irrefl, if_false]
    exact Tells.pure _
  | j + 1, i, h => by
    refine Tells.succ ?_
    have hlt : (i : Int) < (m : Int) := by omega
    have hi3 : i ≤ 3 := by omega
    simp only [prod_Split.l0, hlt, if_true]
    have hi3' : i + 1 ≤ 3 := by omega
    have him : i + 1 ≤ m := by omega
    have hij : i + 1 + j = m := by omega
    obtain ⟨q1, q2, q3⟩ := cut_le him hll
    have e1 := (cut_nums hi3 hn).1
    have e2 := (cut_nums hi3 hn).2.1
    have e3 := (cut_nums hi3' hn).1
    rw [e1, e2, e3]
    refine Tells.ifT q1 (Tells.ifT q2 (Tells.ifT q3 ?_))
    rw [Int.toNat_natCast, Int.toNat_natCast]
    have hc := chunk_length n l i
    have tc := clone_tells (chunk n l i) (Nat.le_trans hc (Nat.le_trans hn (by decide)))
    have ih := split_loop l n hn m hm hll j (i + 1) hij
    rw [chunks] at ih
    unfold chunk at tc ih
    have hcl := chunks_length n l i
    refine Tells.bind tc ?_
    generalize chunks n l i = X at hcl ih ⊢
    exact Tells.ifT (by rw [hcl]; exact Nat.lt_of_le_of_lt hi3 (by decide)) ih
theorem rsplit_loop (l : List Int) (n : Nat) (hn : n ≤ 144) (m : Nat) (hm : m ≤ 3) (hll : l.length = m * n) : ∀ (j i : Nat), i + j = m →
    Tells (fun k => r12_Split.l0 k (m : Int) l (n : Int) (chunks n l i) (i : Int)) (chunks n l m, 0)
  | 0, i, h => by
    obtain rfl : i = m := by omega
    refine Tells.succ ?_
    simp only [r12_Split.l0, Int.lt_irrefl, if_false]
    exact Tells.pure _
  | j + 1, i, h => by
    refine Tells.succ ?_
    have hlt : (i : Int) < (m : Int) := by omega
    have hi3 : i ≤ 3 := by omega
    simp only [r12_Split.l0, hlt, if_true]
    have hi3' : i + 1 ≤ 3 := by omega
    have him : i + 1 ≤ m := by omega
    have hij : i + 1 + j = m := by omega
    obtain ⟨q1, q2, q3⟩ := cut_le him hll
    have e1 := (cut_nums hi3 hn).1
    have e2 := (cut_nums hi3 hn).2.1
    have e4 := cut_sum hi3 hn
    rw [e1, e4, e2]
    refine Tells.ifT q1 (Tells.ifT q2 (Tells.ifT q3 ?_))
    rw [Int.toNat_natCast, Int.toNat_natCast]
    have hc := chunk_length n l i
    have tc := wcopy_tells (chunk n l i) (Nat.le_trans hc (Nat.le_trans hn (by decide)))
    have ih := rsplit_loop l n hn m hm hll j (i + 1) hij
    rw [chunks] at ih
    unfold chunk at tc ih
    have hcl := chunks_length n l i
    refine Tells.bind tc ?_
    generalize chunks n l i = X at hcl ih ⊢
    exact Tells.ifT (by rw [hcl]; exact Nat.lt_of_le_of_lt hi3 (by decide)) ih
theorem split_tells (w : Int) (vars : List S66) (body : List S64) (hl : body.length ≤ 9223372036854775807) (hg : goodSs body) (k : Int) (l : List Int) (hs : l.length ≤ 9223372036854775807) :
    Tells (fun j => prod_Split.f j w vars body k l) (spR w vars body k l) := by
  unfold prod_Split.f
  refine Tells.bind (pCheck_tells w vars body hl hg) ?_
  have ts := prodSingle_tells w vars body hl hg
  have no : ∀ b n, b = true → spR w vars body k l = ([], 1) → Tells (fun j => prod_Split.j0 j k l n b) (spR w vars body k l) := by
    rintro b n rfl h
    rw [h]
    refine Tells.succ ?_
    simp only [prod_Split.j0, if_true]
    exact Tells.pure _
  have n1 : cpE w vars body k = 1 → spR w vars body k l = ([], 1) := by
    intro h; unfold spR; rw [h, if_neg (by decide)]
  rcases sgE_vals w vars body with ⟨hp, h⟩ | ⟨hp, h⟩ | ⟨hp, h⟩
  · rw [hp]
    obtain ⟨h1, h8, hv, h18, k0, k1⟩ := pIs_cells hp
    refine Tells.ifT rfl (Tells.bind (pcells_tells w vars body hv h18) ?_)
    by_cases c1 : k < 1
    · exact Tells.ifT c1 (no _ _ rfl (n1 (by unfold cpE; rw [h, if_pos rfl, if_pos c1])))
    refine Tells.ifF c1 ?_
    by_cases c3 : k > 3
    · exact Tells.ifT c3 (no _ _ rfl (n1 (by unfold cpE; rw [h, if_pos rfl, if_neg c1, if_pos c3])))
    refine Tells.ifF c3 (Tells.bind ts (Tells.ifT h ?_))
    have hcp : cpE w vars body k = 0 := by unfold cpE; rw [h, if_pos rfl, if_neg c1, if_neg c3]
    have hb : k * cs vars ≤ 3 * 144 := Int.mul_le_mul (by omega) k1 k0 (by decide)
    have hb0 : 0 ≤ k * cs vars := Int.mul_nonneg (by omega) k0
    rw [w64 (n := k * cs vars) (by omega) (by omega)]
    by_cases e : (l.length : Int) = k * cs vars
    · refine Tells.ifT e (Tells.bind (pwords_tells w h1 h8 l hs) ?_)
      by_cases hv2 : valid (2 ^ w.toNat) l = true
      · rw [hv2]
        have : spR w vars body k l = (chunks (cs vars).toNat l k.toNat, 0) := by
          unfold spR isWide
          rw [if_pos hcp, decide_eq_true e, hv2, Bool.true_and, if_pos rfl]
        rw [this]
        refine Tells.succ ?_
        simp only [prod_Split.j0, Bool.not_true, Bool.false_eq_true, if_false]
        have e1 : ((cs vars).toNat : Int) = cs vars := Int.toNat_of_nonneg k0
        have e2 : (k.toNat : Int) = k := Int.toNat_of_nonneg (by omega)
        have := split_loop l (cs vars).toNat (by omega) k.toNat (by omega) (by apply Int.ofNat_inj.1; rw [Int.natCast_mul, e1, e2]; exact e) k.toNat 0 (by omega)
        rw [e1, e2] at this
        exact this
      · rw [Bool.eq_false_iff.2 hv2]
        exact no _ _ rfl (by unfold spR isWide; rw [if_pos hcp, Bool.eq_false_iff.2 hv2, Bool.and_false, if_neg (by decide)])
    · exact Tells.ifF e (no _ _ rfl (by unfold spR isWide; rw [if_pos hcp, decide_eq_false e, Bool.false_and, if_neg (by decide)]))
  · rw [hp]
    obtain ⟨h1, h8, hv, h18, k0, k1⟩ := pIs_cells hp
    have hc : cpE w vars body k = 1 := by unfold cpE; rw [h, if_neg (by decide)]
    refine Tells.ifT rfl (Tells.bind (pcells_tells w vars body hv h18) ?_)
    by_cases c1 : k < 1
    · exact Tells.ifT c1 (no _ _ rfl (n1 hc))
    refine Tells.ifF c1 ?_
    by_cases c3 : k > 3
    · exact Tells.ifT c3 (no _ _ rfl (n1 hc))
    exact Tells.ifF c3 (Tells.bind ts (Tells.ifF (by rw [h]; decide) (no _ _ rfl (n1 hc))))
  · rw [hp]
    have hc : cpE w vars body k = 30 := by unfold cpE; rw [h, if_neg (by decide)]
    have : spR w vars body k l = ([], 30) := by unfold spR; rw [hc, if_neg (by decide)]
    rw [this]
    exact Tells.ifF (by decide) (Tells.pure _)
theorem rsplit_tells (w : Int) (vars : List S66) (body : List S64) (hl : body.length ≤ 9223372036854775807) (hg : goodSs body) (k : Int) (l : List Int) (hs : l.length ≤ 9223372036854775807) :
    Tells (fun j => r12_Split.f j w vars body k l) (spR w vars body k l) := by
  unfold r12_Split.f
  refine Tells.bind (Copies_tells w vars body hl hg k) ?_
  by_cases hc : cpE w vars body k = 0
  · refine Tells.ifT hc ?_
    obtain ⟨hp, _, c1, c3⟩ := cpE_ok hc
    obtain ⟨h1, h8, hv, h18, k0, k1⟩ := pIs_cells hp
    have tc : Tells (fun j => r3_Cells.f j w vars body) (cs vars) := by
      unfold r3_Cells.f
      exact Tells.bind (first_all vars hv h18) (Tells.pure _)
    refine Tells.bind tc ?_
    have no : ∀ b n, b = true → spR w vars body k l = ([], 1) → Tells (fun j => r12_Split.j0 j k l n b) (spR w vars body k l) := by
      rintro b n rfl h
      rw [h]
      refine Tells.succ ?_
      simp only [r12_Split.j0, if_true]
      exact Tells.pure _
    have hb : k * cs vars ≤ 3 * 144 := Int.mul_le_mul (by omega) k1 k0 (by decide)
    have hb0 : 0 ≤ k * cs vars := Int.mul_nonneg (by omega) k0
    rw [w64 (n := k * cs vars) (by omega) (by omega)]
    by_cases e : (l.length : Int) = k * cs vars
    · refine Tells.ifT e (Tells.bind (Words_tells w h1 h8 l hs) ?_)
      by_cases hv2 : valid (2 ^ w.toNat) l = true
      · rw [hv2]
        have : spR w vars body k l = (chunks (cs vars).toNat l k.toNat, 0) := by
          unfold spR isWide
          rw [if_pos hc, decide_eq_true e, hv2, Bool.true_and, if_pos rfl]
        rw [this]
        refine Tells.succ ?_
        simp only [r12_Split.j0, Bool.not_true, Bool.false_eq_true, if_false]
        have e1 : ((cs vars).toNat : Int) = cs vars := Int.toNat_of_nonneg k0
        have e2 : (k.toNat : Int) = k := Int.toNat_of_nonneg (by omega)
        have := rsplit_loop l (cs vars).toNat (by omega) k.toNat (by omega) (by apply Int.ofNat_inj.1; rw [Int.natCast_mul, e1, e2]; exact e) k.toNat 0 (by omega)
        rw [e1, e2] at this
        exact this
      · rw [Bool.eq_false_iff.2 hv2]
        exact no _ _ rfl (by unfold spR isWide; rw [if_pos hc, Bool.eq_false_iff.2 hv2, Bool.and_false, if_neg (by decide)])
    · exact Tells.ifF e (no _ _ rfl (by unfold spR isWide; rw [if_pos hc, decide_eq_false e, Bool.false_and, if_neg (by decide)]))
  · have : spR w vars body k l = ([], cpE w vars body k) := by unfold spR; rw [if_neg hc]
    rw [this]
    exact Tells.ifF hc (Tells.pure _)
theorem alike_loop : ∀ (suf pre : List (List Int)), (pre ++ suf).length ≤ 9223372036854775807 → (∀ s ∈ suf, s.length ≤ 9223372036854775807) → Tells (fun k => r6_Alike.l0 k (pre ++ suf) (pre ++ suf) (pre.length : Int)) true
  | [], pre, _, _ => by
    refine Tells.succ ?_
    simp only [r6_Alike.l0, pre_nlt, if_false]
    exact Tells.pure _
  | s :: r, pre, hl, hs => by
    refine Tells.succ ?_
    simp only [r6_Alike.l0, pre_lt, pre_pos, if_true, rdI_mid]
    refine Tells.bind (same_tells s (hs s (by simp))) (Tells.ifT rfl ?_)
    rw [pre_next pre s r hl]
    have ih := alike_loop r (pre ++ [s]) (by rw [← pre_app]; exact hl) (fun u hu => hs u (by simp [hu]))
    rw [← pre_app] at ih
    exact ih
theorem lists_tells (l : List (List Int)) (hl : l.length ≤ 9223372036854775807) (hs : ∀ s ∈ l, s.length ≤ 9223372036854775807) : Tells (fun k => w12_lists.f k l l) true := by
  unfold w12_lists.f r6_Alike.f
  exact Tells.bind (Tells.ifT rfl (alike_loop l [] hl hs)) (Tells.pure _)
theorem eqA66 (d : Nat) (w : World) (x0 y0 : ByteArray) (x1 y1 : Int) (x2 y2 : Int) :
  (Op.equalIn (d + 2) 66 (.agg #[.string x0, .int .i64 x1, .int .i64 x2]) (.agg #[.string y0, .int .i64 y1, .int .i64 y2])).run Try.prog w = .ok (x0.toList == y0.toList && (x1 == y1 && (x2 == y2))) w := by
 refine eqA_of Try.underlying66 (by kernel_rfl) ?_
 refine eqf_cons (by rfl) (by go_simp; rfl) (by go_simp; rfl) (by go_simp) ?_
 refine eqf_cons (by rfl) (by go_simp; rfl) (by go_simp; rfl) (by go_simp) ?_
 exact eqf_last (by rfl) (by go_simp; rfl) (by go_simp; rfl) (by go_simp)
end Go.Proofs.Ytilebfkehmecaaa.Print
namespace Go.Proofs.Ytilebfkehmecaaa.Print
open Go.RowKit Go.Proofs.YtilebfkehmecaaaW.PrintWords Go.Proofs.YtilebfkehmecaaaW.PrintLast Go.Proofs.YtilebfkehmecaaaW.PrintMore
attribute [local go_sem] max2_int min2_int max_two min_two max_three min_three max_four min_four
set_option linter.unusedVariables false
set_option linter.unusedSimpArgs false
section
variable {P : Program} {ops : Array Oper} {Q : Exit → Act → World → Prop} {md : Region.Mode}
end
end Go.Proofs.Ytilebfkehmecaaa.Print
namespace Go.Proofs.Ytilebfkehmecaaa.Print
open Go.RowKit Go.Proofs.YtilebfkehmecaaaW.PrintWords Go.Proofs.YtilebfkehmecaaaW.PrintLast Go.Proofs.YtilebfkehmecaaaW.PrintMore
attribute [local go_sem] max2_int min2_int max_two min_two max_three min_three max_four min_four
set_option linter.unusedVariables false
set_option linter.unusedSimpArgs false
open Go.RowKit
section
variable {α : Type} {d : Kd α} {e : Nat} {W W1 : World} {v : Value}
theorem flatten_get {sz : Nat} : ∀ (css : List (List Value)) (j : Nat) (c : List Value) (i : Nat), (∀ c ∈ css, c.length = sz) → css[j]? = some c → i < sz → css.flatten[j * sz + i]? = c[i]?
  | [], j, c, i, _, h, _ => by simp at h
  | x :: r, 0, c, i, hl, h, hi => by
    obtain rfl : x = c := by simpa using h
    have := hl x (by simp)
    simp only [List.flatten_cons, Nat.zero_mul, Nat.zero_add]
    rw [List.getElem?_append_left (by omega)]
  | x :: r, j + 1, c, i, hl, h, hi => by
    have h1 := hl x (by simp)
    have h2 : r[j]? = some c := by simpa using h
    simp only [List.flatten_cons]
    have e1 : (j + 1) * sz + i = x.length + (j * sz + i) := by rw [h1, Nat.succ_mul]; omega
    rw [e1, List.getElem?_append_right (by omega), Nat.add_sub_cancel_left]
    exact flatten_get r j c i (fun c hc => hl c (by simp [hc])) h2 hi
def Is (d : Kd α) (B : Nat) (W : World) (v : Value) (x : α) : Prop := ∃ cs : List Value, v = .agg cs.toArray ∧ Kd.FK d W (fun k => B ≤ k ∧ k < W.heap.size) x cs
def IsRow (d : Kd α) (B : Nat) (e : Nat) (W : World) (v : Value) (l : List α) : Prop :=
  ∃ (b : Nat) (css : List (List Value)), v = .slice (some ⟨b, 0, none⟩) l.length l.length ∧ W.heap[b]? = some (.cells css.flatten.toArray e (0, 0)) ∧ B ≤ b ∧ css.length = l.length ∧ l.length ≤ 9223372036854775807 ∧
    ∀ (j : Nat) (x : α) (c : List Value), l[j]? = some x → css[j]? = some c → Kd.FK d W (fun k => B ≤ k ∧ k < b) x c
variable {B : Nat}
theorem Is.below {x : α} (h : Is d B W v x) (hb : Below W.heap.size W W1) : Is d B W1 v x := by
  obtain ⟨cs, e1, h⟩ := h
  exact ⟨cs, e1, Kd.FK_mono (Kd.FK_below h hb) (fun k hk => ⟨hk.1, Nat.lt_of_lt_of_le hk.2 hb.size⟩)⟩
theorem IsRow.below {l : List α} (h : IsRow d B e W v l) (hb : Below W.heap.size W W1) : IsRow d B e W1 v l := by
  obtain ⟨b, css, e1, h1, h0, h2, h3, h4⟩ := h
  exact ⟨b, css, e1, (hb.block _ (blk_lt h1)).trans h1, h0, h2, h3, fun j x c hj hc => Kd.FK_below (h4 j x c hj hc) hb⟩
theorem IsRow.F {l : List α} {b : Nat} {css : List (List Value)} (h1 : W.heap[b]? = some (.cells css.flatten.toArray e (0, 0))) (h0 : B ≤ b) (h2 : css.length = l.length) (h3 : l.length ≤ 9223372036854775807)
    (h4 : ∀ (j : Nat) (x : α) (c : List Value), l[j]? = some x → css[j]? = some c → Kd.FK d W (fun k => B ≤ k ∧ k < b) x c) : Kd.F d W (fun k => B ≤ k ∧ k < W.heap.size) (some ⟨b, 0, none⟩) l.length l := by
  intro W' hW'
  have hb := blk_lt h1
  have hlen : ∀ c ∈ css, c.length = d.sz := by
    intro c hc
    obtain ⟨j, hj, e2⟩ := List.mem_iff_getElem.1 hc
    have hj2 : j < l.length := by omega
    exact d.K_len (Kd.FK_now (h4 j l[j] c (List.getElem?_eq_getElem hj2) (by rw [List.getElem?_eq_getElem hj, e2])))
  refine ⟨rfl, h3, fun _ => ⟨_, rfl, fun j x hj => ?_⟩⟩
  have hj2 : j < css.length := by have := (List.getElem?_eq_some_iff.1 hj).1; omega
  have hc := List.getElem?_eq_getElem hj2
  have hk := h4 j x _ hj hc
  refine ⟨css[j], hlen _ (List.getElem_mem hj2), hk W' (fun k hk' hk2 => hW' k ⟨hk'.1, hk2⟩ hk2), fun i u hu => ?_⟩
  have hi : i < d.sz := by have := (List.getElem?_eq_some_iff.1 hu).1; rw [hlen _ (List.getElem_mem hj2)] at this; exact this
  have hg := flatten_get css j _ i hlen hc hi
  have hB := (hW' b ⟨h0, hb⟩ hb).trans h1
  have : (⟨b, 0, none⟩ : Addr).add (j * d.sz + i) = ⟨b, j * d.sz + i, none⟩ := by unfold Addr.add; split <;> simp_all
  rw [this, blk_cell hB (j * d.sz + i)]
  simpa [hg] using hu
theorem IsRow.foot {l : List α} (h : IsRow d B e W v l) : ∃ A, v = .slice A l.length l.length ∧ Kd.F d W (fun k => B ≤ k ∧ k < W.heap.size) A l.length l := by
  obtain ⟨b, css, e1, h1, h0, h2, h3, h4⟩ := h
  exact ⟨_, e1, IsRow.F h1 h0 h2 h3 h4⟩
theorem IsRow.C {l : List α} (h : IsRow d B e W v l) : ∃ A, v = .slice A l.length l.length ∧ d.C W A l.length l := by
  obtain ⟨A, e1, h1⟩ := h.foot
  exact ⟨A, e1, Kd.F_now h1⟩
theorem IsRow.new {l : List α} (hB : B ≤ W.heap.size) (css : List (List Value)) {cs : Array Value} (hcs : cs = css.flatten.toArray) (h2 : css.length = l.length) (h3 : l.length ≤ 9223372036854775807) (h4 : ∀ (j : Nat) (x : α) (c : List Value), l[j]? = some x → css[j]? = some c → Kd.FK d W (fun k => B ≤ k ∧ k < W.heap.size) x c) :
    IsRow d B e (W.alloc (.cells cs e)) (.slice (some ⟨W.heap.size, 0, none⟩) l.length l.length) l := by
  subst hcs
  exact ⟨_, css, rfl, heap_alloc_new _ _, hB, h2, h3, fun j x c hj hc => Kd.FK_below (h4 j x c hj hc) (bal (Below.refl _ _) _)⟩
theorem F_zero (A : Option Addr) (ok : Nat → Prop) : Kd.F d W ok A ([] : List α).length [] := fun W' _ => ⟨rfl, by simp, fun h => by simp at h⟩
end
end Go.Proofs.Ytilebfkehmecaaa.Print
namespace Go.Proofs.Ytilebfkehmecaaa.Print
open Go.RowKit Go.Proofs.YtilebfkehmecaaaW.PrintWords Go.Proofs.YtilebfkehmecaaaW.PrintLast Go.Proofs.YtilebfkehmecaaaW.PrintMore
attribute [local go_sem] max2_int min2_int max_two min_two max_three min_three max_four min_four
set_option linter.unusedVariables false
set_option linter.unusedSimpArgs false
open Go.Shelf Go.RowKit
attribute [local go_sem] Oper.semAt_some
theorem run_copy_rowk {P : Program} (w : World) (dT sT ty elem : TypeId) (k g o dLen dCap : Nat) (a : Addr) (sLen sCap : Nat) (cur : Array Value) (t : TypeId) (cs : List Value)
    (hu : P.underlying dT = some (.slice elem)) (hs : (P.info? elem).map (·.size) = some k)
    (hg : w.heap[g]? = some (.cells cur t (0, 0))) (hn : cs.length = Nat.min sLen dLen * k)
    (hsrc : ∀ j v, cs[j]? = some v → w.cell? (a.add j) = some v) (hfit : o + cs.length ≤ cur.size) (h1 : ∀ v ∈ cs, v.oneCell' = true) :
    (Builtin.copy_ #[dT, sT] ty #[.slice (some ⟨g, o, none⟩) dLen dCap, .slice (some a) sLen sCap]).run P w =
      .ok (goInt (Nat.min sLen dLen)) (w.setRow g (cur.toList.take o ++ cs ++ cur.toList.drop (o + cs.length)).toArray) := by
  have hl := run_loadCells_list (P := P) w a cs hsrc
  have hst := run_storeCells_at P g o t cs 0 cur w hg (by simpa using hfit) h1
  cases hq : P.info? elem with
  | none => simp [hq] at hs
  | some i =>
    have hi : i.size = k := by simpa [hq] using hs
    simp [Builtin.copy_, run_underlying hu, Builtin.lenOf, Builtin.firstCells, sizeOf, typeInfo, hq, hi, ← hn, hl, hst]
theorem wpList_copy_rowk {P : Program} {w : World} {ops : Array Oper} {rest : List Oper} {o : Oper} {a : Act} {Q : Exit → Act → World → Prop} (hgd : o.guard = none) (d s : Operand) (dT sT : TypeId)
    (ho : o.op = .call { callee := .builtin .copy, args := #[d, s], argTypes := #[dT, sT] }) (elem k : TypeId) (hu : P.underlying dT = some (.slice elem)) (hsz : (P.info? elem).map (·.size) = some k)
    (g off dLen dCap : Nat) (ad : Addr) (sLen sCap : Nat) (hd : a.eval d = .slice (some ⟨g, off, none⟩) dLen dCap) (hs : a.eval s = .slice (some ad) sLen sCap)
    (cur : Array Value) (t : TypeId) (hg : w.heap[g]? = some (.cells cur t (0, 0))) (cs : List Value) (hn : cs.length = Nat.min sLen dLen * k)
    (hsrc : ∀ j v, cs[j]? = some v → w.cell? (ad.add j) = some v) (hfit : off + cs.length ≤ cur.size) (h1 : ∀ v ∈ cs, v.oneCell' = true) (new : Array Value) (hnew : (cur.toList.take off ++ cs ++ cur.toList.drop (off + cs.length)).toArray = new)
    (h : ∀ w', w'.heap[g]? = some (.cells new t (0, 0)) → (∀ B, B ≤ g → Below B w w') → w'.heap.size = w.heap.size → wpList P ops Q rest (a.put o.dst (goInt (Nat.min sLen dLen))) w') : wpList P ops Q (o :: rest) a w := by
  subst hnew
  refine wpList_plain hgd fun K hK => ?_
  have hrun := run_copy_rowk (P := P) w dT sT o.type elem k g off dLen dCap ad sLen sCap cur t cs hu hsz hg hn hsrc hfit h1
  unfold Oper.wp
  simp [execOp, ho, resolve, invoke, builtin, hd, hs, hrun, Result.andThen]
  refine hK _ _ (h _ ?_ (fun B hB => below_setRow (Below.refl _ _) hB _) (by simp [World.setRow]))
  have := setRow_heap w g cur ((cur.toList.take off ++ cs ++ cur.toList.drop (off + cs.length)).toArray) t (0, 0) hg
  simpa using this
theorem step_copy_rowk {P : Program} {w : World} {ops : Array Oper} {o : Oper} {a : Act} {Kc : Act → World → Prop} {Q : Exit → Act → World → Prop} (hw : Region.wanted o (yielded ops a.tmps) = true) (d s : Operand) (dT sT : TypeId)
    (ho : o.op = .call { callee := .builtin .copy, args := #[d, s], argTypes := #[dT, sT] }) (elem k : TypeId) (hu : P.underlying dT = some (.slice elem)) (hsz : (P.info? elem).map (·.size) = some k)
    (g off dLen dCap : Nat) (ad : Addr) (sLen sCap : Nat) (hd : a.eval d = .slice (some ⟨g, off, none⟩) dLen dCap) (hs : a.eval s = .slice (some ad) sLen sCap)
    (cur : Array Value) (t : TypeId) (hg : w.heap[g]? = some (.cells cur t (0, 0))) (cs : List Value) (hn : cs.length = Nat.min sLen dLen * k)
    (hsrc : ∀ j v, cs[j]? = some v → w.cell? (ad.add j) = some v) (hfit : off + cs.length ≤ cur.size) (h1 : ∀ v ∈ cs, v.oneCell' = true) (new : Array Value) (hnew : (cur.toList.take off ++ cs ++ cur.toList.drop (off + cs.length)).toArray = new)
    (h : ∀ w', w'.heap[g]? = some (.cells new t (0, 0)) → (∀ B, B ≤ g → Below B w w') → w'.heap.size = w.heap.size → Kc (a.put o.dst (goInt (Nat.min sLen dLen))) w') :
    if Region.wanted o (yielded ops a.tmps) = true then Oper.wp P o a w Kc Q else Kc (a.put o.dst undef) w := by
  subst hnew
  rw [if_pos hw]
  have hrun := run_copy_rowk (P := P) w dT sT o.type elem k g off dLen dCap ad sLen sCap cur t cs hu hsz hg hn hsrc hfit h1
  unfold Oper.wp
  simp [execOp, ho, resolve, invoke, builtin, hd, hs, hrun, Result.andThen]
  refine h _ ?_ (fun B hB => below_setRow (Below.refl _ _) hB _) (by simp [World.setRow])
  have := setRow_heap w g cur ((cur.toList.take off ++ cs ++ cur.toList.drop (off + cs.length)).toArray) t (0, 0) hg
  simpa using this
theorem srcn {W : World} {b t : Nat} {cur : Array Value} {cs : List Value} (h : W.heap[b]? = some (.cells cur t (0, 0))) (hc : ∀ (j : Nat) (v : Value), cs[j]? = some v → cur[j]? = some v) : ∀ j v, cs[j]? = some v → W.cell? ((⟨b, 0, none⟩ : Addr).add j) = some v := by
  intro j v hj
  have : (⟨b, 0, none⟩ : Addr).add j = ⟨b, j, none⟩ := by unfold Addr.add; split <;> simp_all
  rw [this, blk_cell h j]
  exact hc j v hj
theorem C_of_row {α : Type} {d : Kd α} {W : World} {b e : Nat} {l : List α} {css : List (List Value)} (h1 : W.heap[b]? = some (.cells css.flatten.toArray e (0, 0))) (h2 : css.length = l.length) (h3 : l.length ≤ 9223372036854775807)
    (h4 : ∀ (j : Nat) (x : α) (c : List Value), l[j]? = some x → css[j]? = some c → d.K W x c) : d.C W (some ⟨b, 0, none⟩) l.length l := by
  have hlen : ∀ c ∈ css, c.length = d.sz := by
    intro c hc
    obtain ⟨j, hj, e2⟩ := List.mem_iff_getElem.1 hc
    have hj2 : j < l.length := by omega
    exact d.K_len (h4 j l[j] c (List.getElem?_eq_getElem hj2) (by rw [List.getElem?_eq_getElem hj, e2]))
  have flat : ∀ (css : List (List Value)) (j : Nat) (c : List Value) (i : Nat), (∀ c ∈ css, c.length = d.sz) → css[j]? = some c → i < d.sz → css.flatten[j * d.sz + i]? = c[i]? := by
    intro css
    induction css with
    | nil => intro j c i _ h _; simp at h
    | cons x r ih =>
      intro j c i hl h hi
      have h1 := hl x (by simp)
      cases j with
      | zero =>
        obtain rfl : x = c := by simpa using h
        simp only [List.flatten_cons, Nat.zero_mul, Nat.zero_add]
        rw [List.getElem?_append_left (by omega)]
      | succ j =>
        have e1 : (j + 1) * d.sz + i = x.length + (j * d.sz + i) := by rw [h1, Nat.succ_mul]; omega
        simp only [List.flatten_cons]
        rw [e1, List.getElem?_append_right (by omega), Nat.add_sub_cancel_left]
        exact ih j c i (fun c hc => hl c (by simp [hc])) (by simpa using h) hi
  refine ⟨rfl, h3, fun _ => ⟨_, rfl, fun j x hj => ?_⟩⟩
  have hj2 : j < css.length := by have := (List.getElem?_eq_some_iff.1 hj).1; omega
  have hc := List.getElem?_eq_getElem hj2
  refine ⟨css[j], hlen _ (List.getElem_mem hj2), h4 j x _ hj hc, fun i u hu => ?_⟩
  have hi : i < d.sz := by have := (List.getElem?_eq_some_iff.1 hu).1; rw [hlen _ (List.getElem_mem hj2)] at this; exact this
  have hg := flat css j _ i hlen hc hi
  have : (⟨b, 0, none⟩ : Addr).add (j * d.sz + i) = ⟨b, j * d.sz + i, none⟩ := by unfold Addr.add; split <;> simp_all
  rw [this, blk_cell h1 (j * d.sz + i)]
  simpa [hg] using hu
set_option maxHeartbeats 4000000 in
set_option maxRecDepth 100000 in
theorem bits_Mul.one (n : Int) (w : World) (hn : n = 1 ∨ n = 2 ∨ n = 3) : Calls Try.prog 97 #[.int .u64 1, .int .u64 n] w fun e w' => e = .returned (.tuple #[.int .u64 0, .int .u64 n]) ∧ w = w' := by
  rcases hn with rfl | rfl | rfl
  all_goals
    go_enter Try.func97, Try.ntmps97
    go_wp2
    go_ret2
    exact ⟨rfl, rfl⟩
theorem src3 {W : World} {b t : Nat} {x y z : Value} (h : W.heap[b]? = some (.cells #[x, y, z] t (0, 0))) : ∀ j v, [x, y, z][j]? = some v → W.cell? ((⟨b, 0, none⟩ : Addr).add j) = some v := by
  intro j v hj
  have : (⟨b, 0, none⟩ : Addr).add j = ⟨b, j, none⟩ := by unfold Addr.add; split <;> simp_all
  rw [this, blk_cell h j]
  simpa using hj
set_option maxHeartbeats 8000000 in
set_option maxRecDepth 100000 in
theorem slices_Repeat.calls (n : Nat) (hn : n = 1 ∨ n = 2 ∨ n = 3) (p0 : Int) (A1 : Option Addr) (n1 c1 : Nat) (A2 : Option Addr) (n2 c2 : Nat) (b : Nat) (w : World) (hb : w.heap[b]? = some (.cells #[.int .i64 p0, .slice A1 n1 c1, .slice A2 n2 c2] 25 (0, 0))) :
    Calls Try.prog 66 #[.slice (some ⟨b, 0, none⟩) 1 1, .int .i64 (n : Int)] w fun e w' => ∃ B, e = .returned (.slice (some ⟨B, 0, none⟩) n n) ∧ w'.heap[B]? = some (.cells (List.replicate n [.int .i64 p0, .slice A1 n1 c1, .slice A2 n2 c2]).flatten.toArray 25 (0, 0)) ∧ Below w.heap.size w w' := by
  have huP := Try.underlying93
  have hlt := blk_lt hb
  have hi : ∃ i, Try.prog.info? 25 = some i ∧ i.zero = some (.agg #[.int .i64 0, .slice none 0 0, .slice none 0 0]) ∧ i.size = 3 ∧ i.bytes = 56 := by
    have h := info25
    obtain ⟨i, h1, h2⟩ := Option.map_eq_some_iff.1 h
    simp only [Prod.mk.injEq] at h2
    exact ⟨i, h1, h2.1, h2.2.1, h2.2.2⟩
  have hsz : (Try.prog.info? 25).map (·.size) = some 3 := by
    obtain ⟨i, h1, _, h3, _⟩ := hi
    rw [h1]; simp [h3]
  have hmk : ∀ m : Nat, m ≤ 3 → ∀ W : World, (Instr.makeSlice 93 (.int .i64 (m : Int)) (.int .i64 (m : Int))).run Try.prog W = .ok (.slice (some ⟨W.heap.size, 0, none⟩) m m) (W.alloc (.cells (madeCells #[.int .i64 0, .slice none 0 0, .slice none 0 0] (m * 3)) 25)) := by
    intro m hm W
    obtain ⟨i, h1, h2, h3, h4⟩ := hi
    have := run_make (P := Try.prog) W 93 25 i _ huP h1 h2 .i64 .i64 (m : Int) (m : Int) (by omega) (Int.le_refl _) (by rw [h4]; omega) (by omega)
    rw [h3] at this
    simp only [Int.toNat_natCast] at this
    exact this
  have HB := Aside0.mk hb
  clear hi hb
  rcases hn with rfl | rfl | rfl
  · have hm : ∀ W : World, (Instr.makeSlice 93 (.int .i64 1) (.int .i64 1)).run Try.prog W = .ok (.slice (some ⟨W.heap.size, 0, none⟩) 1 1) (W.alloc (.cells #[.int .i64 0, .slice none 0 0, .slice none 0 0] 25)) := fun W => by have h9 := hmk 1 (by omega) W; rwa [show madeCells #[.int .i64 0, .slice none 0 0, .slice none 0 0] (1 * 3) = #[.int .i64 0, .slice none 0 0, .slice none 0 0] from by first | rfl | kernel_rfl] at h9
    clear hmk
    have b0 := bal (Below.refl w.heap.size w) (.cells #[.int .i64 0, .slice none 0 0, .slice none 0 0] 25)
    have z0 : (w.alloc (.cells #[.int .i64 0, .slice none 0 0, .slice none 0 0] 25)).heap[w.heap.size]? = some (.cells #[.int .i64 0, .slice none 0 0, .slice none 0 0] 25 (0, 0)) := blk_new _ _
    have d0 := blk_below HB.out b0
    obtain ⟨W0, hW0⟩ : ∃ X, w.alloc (.cells #[.int .i64 0, .slice none 0 0, .slice none 0 0] 25) = X := ⟨_, rfl⟩
    rw [hW0] at b0 z0 d0
    go_enter Try.func66, Try.ntmps66
    go_wp2_with (first | (go_at_call 97; refine (bits_Mul.one 1 _ (by decide)).mono ?_; rintro e W ⟨rfl, rfl⟩) | ((with_reducible refine gate_builtin (b := .copy) (xs := #[.tmp 31, .tmp 32]) rfl ?_); go_must (refine wpList_copy_rowk (P := Try.prog) (w := W0) rfl (.tmp 31) (.tmp 32) 93 93 rfl 25 3 huP hsz w.heap.size 0 1 1 ⟨b, 0, none⟩ 1 1 rfl rfl _ 25 z0 [.int .i64 p0, .slice A1 n1 c1, .slice A2 n2 c2] rfl (src3 d0) (by simp) (by simp [Value.oneCell']) #[.int .i64 p0, .slice A1 n1 c1, .slice A2 n2 c2] rfl ?_; intro W1 z1 b1 s1)))
    have s2 : W0.heap.size = w.heap.size + 1 := by rw [← hW0]; simp
    have SS := Aside0.mk (show w.heap.size + 1 ≤ W1.heap.size by omega)
    have BW := Aside0.mk (b0.trans (b1 _ (Nat.le_refl _)))
    have ROW := Aside0.mk z1
    clear z0 b0 d0 hW0 z1 b1 s1 s2 hm HB hlt
    go_loopg [8] 0 (fun kq v8 X => ((v8 = .int .i64 1 ∧ 1 + kq = 1 ∧ Aside0 (X.heap[w.heap.size]? = some (.cells #[.int .i64 p0, .slice A1 n1 c1, .slice A2 n2 c2] 25 (0, 0))))) ∧ Aside0 (Below w.heap.size w X))
    case atStart => exact ⟨⟨rfl, by decide, ROW⟩, BW⟩
    case round =>
      clear ROW BW SS
      obtain ⟨hrel, BW⟩ := hrel
      rcases hrel with ⟨rfl, hk, ROW⟩
      · obtain rfl : gk = 0 := by omega
        go_wp2
        go_ret
        exact ⟨_, rfl, ROW.out, BW.out⟩
  · have hm : ∀ W : World, (Instr.makeSlice 93 (.int .i64 2) (.int .i64 2)).run Try.prog W = .ok (.slice (some ⟨W.heap.size, 0, none⟩) 2 2) (W.alloc (.cells #[.int .i64 0, .slice none 0 0, .slice none 0 0, .int .i64 0, .slice none 0 0, .slice none 0 0] 25)) := fun W => by have h9 := hmk 2 (by omega) W; rwa [show madeCells #[.int .i64 0, .slice none 0 0, .slice none 0 0] (2 * 3) = #[.int .i64 0, .slice none 0 0, .slice none 0 0, .int .i64 0, .slice none 0 0, .slice none 0 0] from by first | rfl | kernel_rfl] at h9
    clear hmk
    have b0 := bal (Below.refl w.heap.size w) (.cells #[.int .i64 0, .slice none 0 0, .slice none 0 0, .int .i64 0, .slice none 0 0, .slice none 0 0] 25)
    have z0 : (w.alloc (.cells #[.int .i64 0, .slice none 0 0, .slice none 0 0, .int .i64 0, .slice none 0 0, .slice none 0 0] 25)).heap[w.heap.size]? = some (.cells #[.int .i64 0, .slice none 0 0, .slice none 0 0, .int .i64 0, .slice none 0 0, .slice none 0 0] 25 (0, 0)) := blk_new _ _
    have d0 := blk_below HB.out b0
    obtain ⟨W0, hW0⟩ : ∃ X, w.alloc (.cells #[.int .i64 0, .slice none 0 0, .slice none 0 0, .int .i64 0, .slice none 0 0, .slice none 0 0] 25) = X := ⟨_, rfl⟩
    rw [hW0] at b0 z0 d0
    go_enter Try.func66, Try.ntmps66
    go_wp2_with (first | (go_at_call 97; refine (bits_Mul.one 2 _ (by decide)).mono ?_; rintro e W ⟨rfl, rfl⟩) | ((with_reducible refine gate_builtin (b := .copy) (xs := #[.tmp 31, .tmp 32]) rfl ?_); go_must (refine wpList_copy_rowk (P := Try.prog) (w := W0) rfl (.tmp 31) (.tmp 32) 93 93 rfl 25 3 huP hsz w.heap.size 0 2 2 ⟨b, 0, none⟩ 1 1 rfl rfl _ 25 z0 [.int .i64 p0, .slice A1 n1 c1, .slice A2 n2 c2] rfl (src3 d0) (by simp) (by simp [Value.oneCell']) #[.int .i64 p0, .slice A1 n1 c1, .slice A2 n2 c2, .int .i64 0, .slice none 0 0, .slice none 0 0] rfl ?_; intro W1 z1 b1 s1)))
    have s2 : W0.heap.size = w.heap.size + 1 := by rw [← hW0]; simp
    have SS := Aside0.mk (show w.heap.size + 1 ≤ W1.heap.size by omega)
    have BW := Aside0.mk (b0.trans (b1 _ (Nat.le_refl _)))
    have ROW := Aside0.mk z1
    clear z0 b0 d0 hW0 z1 b1 s1 s2 hm HB hlt
    go_loopg [8] 1 (fun kq v8 X => ((v8 = .int .i64 1 ∧ 1 + kq = 2 ∧ Aside0 (X.heap[w.heap.size]? = some (.cells #[.int .i64 p0, .slice A1 n1 c1, .slice A2 n2 c2, .int .i64 0, .slice none 0 0, .slice none 0 0] 25 (0, 0)))) ∨ (v8 = .int .i64 2 ∧ 2 + kq = 2 ∧ Aside0 (X.heap[w.heap.size]? = some (.cells #[.int .i64 p0, .slice A1 n1 c1, .slice A2 n2 c2, .int .i64 p0, .slice A1 n1 c1, .slice A2 n2 c2] 25 (0, 0))))) ∧ Aside0 (Below w.heap.size w X))
    case atStart => exact ⟨.inl ⟨rfl, by decide, ROW⟩, BW⟩
    case round =>
      clear ROW BW SS
      obtain ⟨hrel, BW⟩ := hrel
      rcases hrel with ⟨rfl, hk, ROW⟩ | ⟨rfl, hk, ROW⟩
      · obtain rfl : gk = 1 := by omega
        go_wp2
        have RD := Aside0.mk (kdr ROW.out)
        have BD := Aside0.mk (below_drew BW.out)
        refine start_ (n := 10) (S := fun _ => True) (ds := []) #[false, false, false, false, false, false, false, false, false, false] (by kernel_rfl) rfl rfl trivial (fun hHeld => ?_)
        generalize wr.drew = Y at RD BD hHeld ⊢
        refine pu (i := 0) (N := some 38) #[true, false, false, false, false, false, false, false, false, false] rfl rfl (by kernel_rfl) ?_
        refine pu (i := 1) (N := some 39) #[true, true, false, false, false, false, false, false, false, false] rfl rfl (by kernel_rfl) ?_
        refine pu (i := 2) (N := some 40) #[true, true, true, false, false, false, false, false, false, false] rfl rfl (by kernel_rfl) ?_
        refine pu (i := 3) (N := some 41) #[true, true, true, true, false, false, false, false, false, false] rfl rfl (by kernel_rfl) ?_
        refine pu (i := 4) (N := some 42) #[true, true, true, true, true, false, false, false, false, false] rfl rfl (by kernel_rfl) ?_
        refine pu (i := 5) (N := some 43) #[true, true, true, true, true, true, false, false, false, false] rfl rfl (by kernel_rfl) ?_
        refine pu (i := 6) (N := some 44) #[true, true, true, true, true, true, true, false, false, false] rfl rfl (by kernel_rfl) ?_
        refine one_ (i := 7) (N := (some 45)) #[true, true, true, true, true, true, true, true, false, false] rfl rfl (by kernel_rfl) (by decide) (fun K hK => ?_)
        refine step_copy_rowk (P := Try.prog) (w := Y) (by rfl) (.tmp 41) (.tmp 44) 93 93 rfl 25 3 huP hsz w.heap.size 3 1 1 ⟨w.heap.size, 0, none⟩ 1 2 rfl rfl _ 25 RD.out [.int .i64 p0, .slice A1 n1 c1, .slice A2 n2 c2] rfl (srcn RD.out (by intro j v hj; rcases j with _ | _ | _ | j <;> simp_all)) (by simp) (by simp [Value.oneCell']) #[.int .i64 p0, .slice A1 n1 c1, .slice A2 n2 c2, .int .i64 p0, .slice A1 n1 c1, .slice A2 n2 c2] rfl ?_
        intro Y2 z2 b2 s2
        refine hK.out _ _ trivial (fun hHeld => ?_)
        clear hK K
        refine nm 45 ?_
        refine pu (i := 8) (N := some 46) #[true, true, true, true, true, true, true, true, true, false] rfl rfl (by kernel_rfl) ?_
        refine pu (i := 9) (N := some 8) #[true, true, true, true, true, true, true, true, true, true] rfl rfl (by kernel_rfl) ?_
        refine done_ (by kernel_rfl) ?_
        try simp only [Exit.then, Exit.inBlock]
        have bz := Aside0.mk (BD.out.trans (b2 _ (Nat.le_refl _)))
        have rz := Aside0.mk z2
        try go_wp2
        go_roundg 0
        case measure => omega
        case rel => exact ⟨.inr (⟨by first | rfl | (unfold wrap64; rfl) | (simp [wrap64]; done), by decide, rz⟩), bz⟩
      · obtain rfl : gk = 0 := by omega
        go_wp2
        go_ret
        exact ⟨_, rfl, ROW.out, BW.out⟩
  · have hm : ∀ W : World, (Instr.makeSlice 93 (.int .i64 3) (.int .i64 3)).run Try.prog W = .ok (.slice (some ⟨W.heap.size, 0, none⟩) 3 3) (W.alloc (.cells #[.int .i64 0, .slice none 0 0, .slice none 0 0, .int .i64 0, .slice none 0 0, .slice none 0 0, .int .i64 0, .slice none 0 0, .slice none 0 0] 25)) := fun W => by have h9 := hmk 3 (by omega) W; rwa [show madeCells #[.int .i64 0, .slice none 0 0, .slice none 0 0] (3 * 3) = #[.int .i64 0, .slice none 0 0, .slice none 0 0, .int .i64 0, .slice none 0 0, .slice none 0 0, .int .i64 0, .slice none 0 0, .slice none 0 0] from by first | rfl | kernel_rfl] at h9
    clear hmk
    have b0 := bal (Below.refl w.heap.size w) (.cells #[.int .i64 0, .slice none 0 0, .slice none 0 0, .int .i64 0, .slice none 0 0, .slice none 0 0, .int .i64 0, .slice none 0 0, .slice none 0 0] 25)
    have z0 : (w.alloc (.cells #[.int .i64 0, .slice none 0 0, .slice none 0 0, .int .i64 0, .slice none 0 0, .slice none 0 0, .int .i64 0, .slice none 0 0, .slice none 0 0] 25)).heap[w.heap.size]? = some (.cells #[.int .i64 0, .slice none 0 0, .slice none 0 0, .int .i64 0, .slice none 0 0, .slice none 0 0, .int .i64 0, .slice none 0 0, .slice none 0 0] 25 (0, 0)) := blk_new _ _
    have d0 := blk_below HB.out b0
    obtain ⟨W0, hW0⟩ : ∃ X, w.alloc (.cells #[.int .i64 0, .slice none 0 0, .slice none 0 0, .int .i64 0, .slice none 0 0, .slice none 0 0, .int .i64 0, .slice none 0 0, .slice none 0 0] 25) = X := ⟨_, rfl⟩
    rw [hW0] at b0 z0 d0
    go_enter Try.func66, Try.ntmps66
    go_wp2_with (first | (go_at_call 97; refine (bits_Mul.one 3 _ (by decide)).mono ?_; rintro e W ⟨rfl, rfl⟩) | ((with_reducible refine gate_builtin (b := .copy) (xs := #[.tmp 31, .tmp 32]) rfl ?_); go_must (refine wpList_copy_rowk (P := Try.prog) (w := W0) rfl (.tmp 31) (.tmp 32) 93 93 rfl 25 3 huP hsz w.heap.size 0 3 3 ⟨b, 0, none⟩ 1 1 rfl rfl _ 25 z0 [.int .i64 p0, .slice A1 n1 c1, .slice A2 n2 c2] rfl (src3 d0) (by simp) (by simp [Value.oneCell']) #[.int .i64 p0, .slice A1 n1 c1, .slice A2 n2 c2, .int .i64 0, .slice none 0 0, .slice none 0 0, .int .i64 0, .slice none 0 0, .slice none 0 0] rfl ?_; intro W1 z1 b1 s1)))
    have s2 : W0.heap.size = w.heap.size + 1 := by rw [← hW0]; simp
    have SS := Aside0.mk (show w.heap.size + 1 ≤ W1.heap.size by omega)
    have BW := Aside0.mk (b0.trans (b1 _ (Nat.le_refl _)))
    have ROW := Aside0.mk z1
    clear z0 b0 d0 hW0 z1 b1 s1 s2 hm HB hlt
    go_loopg [8] 2 (fun kq v8 X => ((v8 = .int .i64 1 ∧ 1 + kq = 3 ∧ Aside0 (X.heap[w.heap.size]? = some (.cells #[.int .i64 p0, .slice A1 n1 c1, .slice A2 n2 c2, .int .i64 0, .slice none 0 0, .slice none 0 0, .int .i64 0, .slice none 0 0, .slice none 0 0] 25 (0, 0)))) ∨ (v8 = .int .i64 2 ∧ 2 + kq = 3 ∧ Aside0 (X.heap[w.heap.size]? = some (.cells #[.int .i64 p0, .slice A1 n1 c1, .slice A2 n2 c2, .int .i64 p0, .slice A1 n1 c1, .slice A2 n2 c2, .int .i64 0, .slice none 0 0, .slice none 0 0] 25 (0, 0)))) ∨ (v8 = .int .i64 3 ∧ 3 + kq = 3 ∧ Aside0 (X.heap[w.heap.size]? = some (.cells #[.int .i64 p0, .slice A1 n1 c1, .slice A2 n2 c2, .int .i64 p0, .slice A1 n1 c1, .slice A2 n2 c2, .int .i64 p0, .slice A1 n1 c1, .slice A2 n2 c2] 25 (0, 0))))) ∧ Aside0 (Below w.heap.size w X))
    case atStart => exact ⟨.inl ⟨rfl, by decide, ROW⟩, BW⟩
    case round =>
      clear ROW BW SS
      obtain ⟨hrel, BW⟩ := hrel
      rcases hrel with ⟨rfl, hk, ROW⟩ | ⟨rfl, hk, ROW⟩ | ⟨rfl, hk, ROW⟩
      · obtain rfl : gk = 2 := by omega
        go_wp2
        have RD := Aside0.mk (kdr ROW.out)
        have BD := Aside0.mk (below_drew BW.out)
        refine start_ (n := 10) (S := fun _ => True) (ds := []) #[false, false, false, false, false, false, false, false, false, false] (by kernel_rfl) rfl rfl trivial (fun hHeld => ?_)
        generalize wr.drew = Y at RD BD hHeld ⊢
        refine pu (i := 0) (N := some 38) #[true, false, false, false, false, false, false, false, false, false] rfl rfl (by kernel_rfl) ?_
        refine pu (i := 1) (N := some 39) #[true, true, false, false, false, false, false, false, false, false] rfl rfl (by kernel_rfl) ?_
        refine pu (i := 2) (N := some 40) #[true, true, true, false, false, false, false, false, false, false] rfl rfl (by kernel_rfl) ?_
        refine pu (i := 3) (N := some 41) #[true, true, true, true, false, false, false, false, false, false] rfl rfl (by kernel_rfl) ?_
        refine pu (i := 4) (N := some 42) #[true, true, true, true, true, false, false, false, false, false] rfl rfl (by kernel_rfl) ?_
        refine pu (i := 5) (N := some 43) #[true, true, true, true, true, true, false, false, false, false] rfl rfl (by kernel_rfl) ?_
        refine pu (i := 6) (N := some 44) #[true, true, true, true, true, true, true, false, false, false] rfl rfl (by kernel_rfl) ?_
        refine one_ (i := 7) (N := (some 45)) #[true, true, true, true, true, true, true, true, false, false] rfl rfl (by kernel_rfl) (by decide) (fun K hK => ?_)
        refine step_copy_rowk (P := Try.prog) (w := Y) (by rfl) (.tmp 41) (.tmp 44) 93 93 rfl 25 3 huP hsz w.heap.size 3 2 2 ⟨w.heap.size, 0, none⟩ 1 3 rfl rfl _ 25 RD.out [.int .i64 p0, .slice A1 n1 c1, .slice A2 n2 c2] rfl (srcn RD.out (by intro j v hj; rcases j with _ | _ | _ | j <;> simp_all)) (by simp) (by simp [Value.oneCell']) #[.int .i64 p0, .slice A1 n1 c1, .slice A2 n2 c2, .int .i64 p0, .slice A1 n1 c1, .slice A2 n2 c2, .int .i64 0, .slice none 0 0, .slice none 0 0] rfl ?_
        intro Y2 z2 b2 s2
        refine hK.out _ _ trivial (fun hHeld => ?_)
        clear hK K
        refine nm 45 ?_
        refine pu (i := 8) (N := some 46) #[true, true, true, true, true, true, true, true, true, false] rfl rfl (by kernel_rfl) ?_
        refine pu (i := 9) (N := some 8) #[true, true, true, true, true, true, true, true, true, true] rfl rfl (by kernel_rfl) ?_
        refine done_ (by kernel_rfl) ?_
        try simp only [Exit.then, Exit.inBlock]
        have bz := Aside0.mk (BD.out.trans (b2 _ (Nat.le_refl _)))
        have rz := Aside0.mk z2
        try go_wp2
        go_roundg 1
        case measure => omega
        case rel => exact ⟨.inr (.inl ⟨by first | rfl | (unfold wrap64; rfl) | (simp [wrap64]; done), by decide, rz⟩), bz⟩
      · obtain rfl : gk = 1 := by omega
        go_wp2
        have RD := Aside0.mk (kdr ROW.out)
        have BD := Aside0.mk (below_drew BW.out)
        refine start_ (n := 10) (S := fun _ => True) (ds := []) #[false, false, false, false, false, false, false, false, false, false] (by kernel_rfl) rfl rfl trivial (fun hHeld => ?_)
        generalize wr.drew = Y at RD BD hHeld ⊢
        refine pu (i := 0) (N := some 38) #[true, false, false, false, false, false, false, false, false, false] rfl rfl (by kernel_rfl) ?_
        refine pu (i := 1) (N := some 39) #[true, true, false, false, false, false, false, false, false, false] rfl rfl (by kernel_rfl) ?_
        refine pu (i := 2) (N := some 40) #[true, true, true, false, false, false, false, false, false, false] rfl rfl (by kernel_rfl) ?_
        refine pu (i := 3) (N := some 41) #[true, true, true, true, false, false, false, false, false, false] rfl rfl (by kernel_rfl) ?_
        refine pu (i := 4) (N := some 42) #[true, true, true, true, true, false, false, false, false, false] rfl rfl (by kernel_rfl) ?_
        refine pu (i := 5) (N := some 43) #[true, true, true, true, true, true, false, false, false, false] rfl rfl (by kernel_rfl) ?_
        refine pu (i := 6) (N := some 44) #[true, true, true, true, true, true, true, false, false, false] rfl rfl (by kernel_rfl) ?_
        refine one_ (i := 7) (N := (some 45)) #[true, true, true, true, true, true, true, true, false, false] rfl rfl (by kernel_rfl) (by decide) (fun K hK => ?_)
        refine step_copy_rowk (P := Try.prog) (w := Y) (by rfl) (.tmp 41) (.tmp 44) 93 93 rfl 25 3 huP hsz w.heap.size 6 1 1 ⟨w.heap.size, 0, none⟩ 2 3 rfl rfl _ 25 RD.out [.int .i64 p0, .slice A1 n1 c1, .slice A2 n2 c2] rfl (srcn RD.out (by intro j v hj; rcases j with _ | _ | _ | j <;> simp_all)) (by simp) (by simp [Value.oneCell']) #[.int .i64 p0, .slice A1 n1 c1, .slice A2 n2 c2, .int .i64 p0, .slice A1 n1 c1, .slice A2 n2 c2, .int .i64 p0, .slice A1 n1 c1, .slice A2 n2 c2] rfl ?_
        intro Y2 z2 b2 s2
        refine hK.out _ _ trivial (fun hHeld => ?_)
        clear hK K
        refine nm 45 ?_
        refine pu (i := 8) (N := some 46) #[true, true, true, true, true, true, true, true, true, false] rfl rfl (by kernel_rfl) ?_
        refine pu (i := 9) (N := some 8) #[true, true, true, true, true, true, true, true, true, true] rfl rfl (by kernel_rfl) ?_
        refine done_ (by kernel_rfl) ?_
        try simp only [Exit.then, Exit.inBlock]
        have bz := Aside0.mk (BD.out.trans (b2 _ (Nat.le_refl _)))
        have rz := Aside0.mk z2
        try go_wp2
        go_roundg 0
        case measure => omega
        case rel => exact ⟨.inr (.inr (⟨by first | rfl | (unfold wrap64; rfl) | (simp [wrap64]; done), by decide, rz⟩)), bz⟩
      · obtain rfl : gk = 0 := by omega
        go_wp2
        go_ret
        exact ⟨_, rfl, ROW.out, BW.out⟩
def mvN (i fr op n : Int) : Int := if op = 0 then wrap64 (n + fr) else if op = 4 then wrap64 (n + fr) else if op = 3 then wrap64 (n + wrap64 (16 * i)) else n
mutual
def mvS (i fr : Int) : S64 → Option S64
  | ⟨op, n, a, t, e⟩ => (mvEs (fun _ => some fr) a).bind fun a' => (mvSs i fr t).bind fun t' => (mvSs i fr e).bind fun e' => some ⟨op, mvN i fr op n, a', t', e'⟩
def mvSs (i fr : Int) : List S64 → Option (List S64)
  | [] => some []
  | x :: r => (mvS i fr x).bind fun y => (mvSs i fr r).bind fun s => if r.length < 1000000 then some (y :: s) else none
end
theorem mvSs_get {i fr : Int} : ∀ {l l' : List S64}, mvSs i fr l = some l' → l'.length = l.length ∧ l.length ≤ 1000000 ∧ ∀ (j : Nat) (x : S64), l[j]? = some x → ∃ y, mvS i fr x = some y ∧ l'[j]? = some y
  | [], l', h => by
    rw [mvSs] at h
    obtain rfl := Option.some.inj h
    exact ⟨rfl, by simp, fun j x hj => by simp at hj⟩
  | x :: r, l', h => by
    rw [mvSs] at h
    obtain ⟨y, h1, h⟩ := Option.bind_eq_some_iff.mp h
    obtain ⟨s, h2, h⟩ := Option.bind_eq_some_iff.mp h
    obtain ⟨e1, e2, e3⟩ := mvSs_get h2
    by_cases hl : r.length < 1000000
    · rw [if_pos hl] at h
      obtain rfl := Option.some.inj h
      refine ⟨by simp [e1], by simp; omega, fun j z hj => ?_⟩
      cases j with
      | zero => obtain rfl : x = z := by simpa using hj
                exact ⟨y, h1, rfl⟩
      | succ j => exact e3 j z (by simpa using hj)
    · rw [if_neg hl] at h; cases h
theorem rows_ind {Q : List S64 → Prop} (h : ∀ l, (∀ x ∈ l, Q x.f3 ∧ Q x.f4) → Q l) : ∀ l, Q l :=
  fun l => h l (S64.rec_1 (motive_1 := fun x => Q x.f3 ∧ Q x.f4) (motive_2 := fun l => ∀ x ∈ l, Q x.f3 ∧ Q x.f4) (fun _ _ _ t e h1 h2 => ⟨h t h1, h e h2⟩) (fun _ h => by simp at h) (fun x r h1 h2 y hy => by rcases List.mem_cons.1 hy with rfl | h; exact h1; exact h2 y h) l)
theorem mv_takeS {l' : List S64} {i : Nat} {y : S64} (h : l'[i]? = some y) : l'.take (i + 1) = l'.take i ++ [y] := by
  rw [List.take_add_one, h]; rfl
set_option maxHeartbeats 2000000 in
theorem prod_Moved1.fn (w : World) (b : Nat) (fr : Int) (h : w.heap[b]? = some (.cells #[.int .i64 fr] 3 (0, 0))) : FnAt w (.func (.func 96) #[] #[.pointer (some ⟨b, 0, none⟩)]) (fun _ => some fr) := by
  refine ⟨_, _, rfl, enters_of Try.func96 (by kernel_rfl) rfl, fun W n r hW hr => ?_⟩
  obtain rfl : fr = r := Option.some.inj hr
  show Calls Try.prog 96 #[.int .i64 n, .pointer (some ⟨b, 0, none⟩)] W _
  have c0 : W.cell? ⟨b, 0, none⟩ = some (.int .i64 fr) := (blk_cell ((hW.block _ (blk_lt h)).trans h) 0).trans rfl
  go_enter Try.func96, Try.ntmps96
  go_wp2
  go_ret
  exact ⟨rfl, Below.refl _ _⟩
set_option maxHeartbeats 16000000 in
set_option maxRecDepth 100000 in
theorem prod_Moved.go (i fr : Int) : ∀ (l l' : List S64) (A : Option Addr) (c : Nat) (w : World), mvSs i fr l = some l' → Kd.C k64 w A l.length l → l.length ≤ c →
    Calls Try.prog 64 #[.slice A l.length c, .int .i64 i, .int .i64 fr] w fun en w' => ∃ v : Value, en = .returned v ∧ Kd.R k64 64 w' w.heap.size (fun _ => True) v l' ∧ Below w.heap.size w w' := by
  refine rows_ind fun l ih => ?_
  intro l' A c w h hr hc
  have huE := Try.underlying28
  have huS := Try.underlying64
  have HR := Aside0.mk hr
  have HC := Aside0.mk hc
  have IH := Aside0.mk ih
  obtain ⟨hll, hl6, hget⟩ := mvSs_get h
  have GET := Aside0.mk hget
  clear hr hc ih h hget
  have q0 : (w.alloc (.cells #[.int .i64 fr] 3)).heap[w.heap.size]? = some (.cells #[.int .i64 fr] 3 (0, 0)) := blk_new _ _
  have b0 := bal (Below.refl w.heap.size w) (.cells #[.int .i64 fr] 3)
  have hfn := Aside0.mk (prod_Moved1.fn _ _ _ q0)
  go_enter Try.func64, Try.ntmps64
  go_wp2_with (first | (go_at_call 48; refine (prod_moving.fn _ (fun _ => some fr) _ hfn.out).mono ?_; rintro e W1 ⟨rfl, hmv, hb1⟩))
  have s0 : (w.alloc (.cells #[.int .i64 fr] 3)).heap.size = w.heap.size + 1 := by simp
  rw [s0] at hmv hb1
  have MV := Aside0.mk hmv
  have BX := Aside0.mk ((hb1.block _ (by omega)).trans q0)
  have B1 := Aside0.mk (b0.trans (hb1.mono (by omega)))
  have hlt := blk_lt BX.out
  clear hmv hb1 q0 b0 hfn s0
  go_loopg [8, 18] l.length (fun kq v8 v18 X => ∃ (j : Nat) (A8 : Option Addr) (c8 : Nat), v18 = .int .i64 (j : Int) ∧ v8 = .slice A8 j c8 ∧ Aside0 (j + kq = l.length) ∧ Aside0 (Kd.R k64 64 X W1.heap.size (fun _ => True) (.slice A8 j c8) (l'.take j)) ∧ Aside0 (Below W1.heap.size W1 X))
  case atStart => exact ⟨0, none, 0, rfl, rfl, ⟨by omega⟩, ⟨Kd.R_nil _ _ _ _ _⟩, ⟨Below.refl _ _⟩⟩
  case round =>
    obtain ⟨j, A8, c8, rfl, rfl, HI, HO, BB⟩ := hrel
    cases gk with
    | zero =>
      have hj : j = l.length := by have := HI.out; omega
      subst hj
      have hd : decide ((l.length : Int) < (l.length : Int)) = false := decide_eq_false (by omega)
      have o1 : Kd.R k64 64 wr W1.heap.size (fun _ => True) (.slice A8 l.length c8) l' := by
        have := HO.out
        rwa [List.take_of_length_le (by omega)] at this
      go_wp2
      go_ret
      exact ⟨_, rfl, Kd.R_lower o1 B1.out.size, B1.out.trans (BB.out.mono B1.out.size)⟩
    | succ k1 =>
      obtain ⟨Wr, rfl⟩ : ∃ X, X = wr := ⟨_, rfl⟩
      have hj : j < l.length := by have := HI.out; omega
      have hd : decide ((j : Int) < (l.length : Int)) = true := decide_eq_true (by omega)
      have HBW := Aside0.mk (B1.out.trans (BB.out.mono B1.out.size))
      obtain ⟨ad, B2, b2, B3, b3, B4, b4, e3, q0, q1, q2, q3, q4, ql2, qr2, ql3, qr3, ql4, qr4⟩ := at_T64 HR.out (j : Int) (by omega) (by omega)
      subst e3
      have hxi : l[j]? = some (rd_T64 l (j : Int)) := by unfold rd_T64; rw [Int.toNat_natCast, List.getD_eq_getElem?_getD, List.getElem?_eq_getElem hj]; rfl
      generalize rd_T64 l (j : Int) = x at q0 q1 q2 q3 q4 ql2 qr2 ql3 qr3 ql4 qr4 hxi
      obtain ⟨y, hy, hyi⟩ := GET.out j x hxi
      have hxm : x ∈ l := List.mem_of_getElem? hxi
      obtain ⟨op, n, xa, xt, xe⟩ := x
      obtain ⟨iht, ihe⟩ := IH.out _ hxm
      dsimp only at q0 q1 q2 q3 q4 ql2 qr2 ql3 qr3 ql4 qr4 iht ihe
      rw [mvS] at hy
      obtain ⟨a', ha', hy⟩ := Option.bind_eq_some_iff.mp hy
      obtain ⟨t', ht', hy⟩ := Option.bind_eq_some_iff.mp hy
      obtain ⟨e', he', hy⟩ := Option.bind_eq_some_iff.mp hy
      obtain rfl := Option.some.inj hy
      obtain ⟨hal, ha6, hag⟩ := mvEs_get ha'
      simp only [Int.toNat_natCast] at q0 q1 q2 q3 q4
      replace q0 := (HBW.out.cell (World.block_lt_of_cell? w _ q0)).trans q0
      replace q1 := (HBW.out.cell (World.block_lt_of_cell? w _ q1)).trans q1
      replace q2 := (HBW.out.cell (World.block_lt_of_cell? w _ q2)).trans q2
      replace q3 := (HBW.out.cell (World.block_lt_of_cell? w _ q3)).trans q3
      replace q4 := (HBW.out.cell (World.block_lt_of_cell? w _ q4)).trans q4
      have QL2 := Aside0.mk ql2
      have QR2 := Aside0.mk qr2
      have QL3 := Aside0.mk ql3
      have QR3 := Aside0.mk qr3
      have QL4 := Aside0.mk ql4
      have QR4 := Aside0.mk qr4
      have IT := Aside0.mk iht
      have IE := Aside0.mk ihe
      have HAG := Aside0.mk hag
      have HT := Aside0.mk ht'
      have HE := Aside0.mk he'
      clear ql2 qr2 ql3 qr3 ql4 qr4 iht ihe hag ht' he' hy ha' hxi hxm
      have hBX := Aside0.mk ((BB.out.block _ hlt).trans BX.out)
      have mb : Wr.cell? ⟨w.heap.size, 0, none⟩ = some (.int .i64 fr) := (blk_cell hBX.out 0).trans rfl
      have hltr := blk_lt hBX.out
      have HMV := Aside0.mk (MV.out.below BB.out)
      have hSB := BB.out.size
      have hob := Kd.R_base HO.out
      have hol := Kd.R_lt HO.out
      have hjl : (l'.take j).length = j := by rw [List.length_take]; omega
      obtain ⟨n', hn'⟩ : ∃ n', mvN i fr op n = n' := ⟨_, rfl⟩
      obtain ⟨opn, hopn⟩ : ∃ z : Int, op = z := ⟨_, rfl⟩
      rw [hn', hopn] at hyi
      have HYI := Aside0.mk hyi
      have HOPN := Aside0.mk hopn
      clear hyi
      have hw1 : IntKind.i64.wrap ((j : Int) + 1) = (j : Int) + 1 := by rw [i64_w]; unfold wrap64; omega
      have ways : (op = 0 ∧ wrap64 (n + fr) = n') ∨ (op ≠ 0 ∧ op = 4 ∧ wrap64 (n + fr) = n') ∨ (op ≠ 0 ∧ op ≠ 4 ∧ op = 3 ∧ wrap64 (n + wrap64 (16 * i)) = n') ∨ (op ≠ 0 ∧ op ≠ 4 ∧ op ≠ 3 ∧ n = n') := by
        rw [← hn', mvN]
        by_cases h0 : op = 0
        · exact .inl ⟨h0, by rw [if_pos h0]⟩
        · by_cases h4 : op = 4
          · exact .inr (.inl ⟨h0, h4, by rw [if_neg h0, if_pos h4]⟩)
          · by_cases h3 : op = 3
            · exact .inr (.inr (.inl ⟨h0, h4, h3, by rw [if_neg h0, if_neg h4, if_pos h3]⟩))
            · exact .inr (.inr (.inr ⟨h0, h4, h3, by rw [if_neg h0, if_neg h4, if_neg h3]⟩))
      clear hn' hopn
      go_upto_if 24 with (fail)
      (try simp only [Act.put, List.setIfInBounds_toArray, List.set_cons_zero, List.set_cons_succ])
      rename_i Kr hKr Kb hKb
      refine (fun (key : ∀ (a : Act) (W : World), (∃ u11 u13 u19 u20 u21 u22 u23 u24 u25 u26 u27 u28 u29 u30 u31 u32 u33 u34 u35 u36 u37 u38 u39 u40 u41 u42 u43 u44 u45 u46 u47 u48 u49 u50 u51 u52 u53 u54 u55 u56 u57 u58 u59 u60 u61 u62 u63 u64 u65 u66 u67 u68 u69 u70 u71 u72 : Value, a = { tmps := #[.slice (some ad) l.length c, .int .i64 i, .int .i64 fr, undef, undef, .pointer (some ⟨w.heap.size, 0, none⟩), .slice none 0 0, .func (.func 83) #[] #[.pointer (some ⟨w.heap.size + 1, 0, none⟩), .pointer (some ⟨w.heap.size + 1 + 1, 0, none⟩)], .slice A8 j c8, undef, .pointer (some ⟨Wr.heap.size, 0, none⟩), u11, undef, u13, .func (.func 96) #[] #[.pointer (some ⟨w.heap.size, 0, none⟩)], .func (.func 83) #[] #[.pointer (some ⟨w.heap.size + 1, 0, none⟩), .pointer (some ⟨w.heap.size + 1 + 1, 0, none⟩)], .slice (some ad) l.length c, .int .i64 l.length, .int .i64 j, u19, u20, u21, u22, u23, u24, u25, u26, u27, u28, u29, u30, u31, u32, u33, u34, u35, u36, u37, u38, u39, u40, u41, u42, u43, u44, u45, u46, u47, u48, u49, u50, u51, u52, u53, u54, u55, u56, u57, u58, u59, u60, u61, u62, u63, u64, u65, u66, u67, u68, u69, u70, u71, u72, undef], defers := [] }) → W.heap[Wr.heap.size]? = some (.cells #[.int .i64 opn, .int .i64 n', .slice B2 xa.length b2, .slice B3 xt.length b3, .slice B4 xe.length b4] 64 (0, 0)) → Below Wr.heap.size Wr W → W.heap.size = Wr.heap.size + 1 → Kr a W) => ?main) ?key
      case main =>
        clear hKr
        rcases ways with ⟨h0, en⟩ | ⟨h0, h4, en⟩ | ⟨h0, h4, h3, en⟩ | ⟨h0, h4, h3, en⟩
        · subst h0
          go_wp2
          exact key _ _ ⟨_, _, _, _, _, _, _, _, _, _, _, _, _, _, _, _, _, _, _, _, _, _, _, _, _, _, _, _, _, _, _, _, _, _, _, _, _, _, _, _, _, _, _, _, _, _, _, _, _, _, _, _, _, _, _, _, rfl⟩ (by rw [← HOPN.out]; exact blk_new _ _) (bal (Below.refl _ _) _) (by simp)
        · subst h4
          go_wp2
          exact key _ _ ⟨_, _, _, _, _, _, _, _, _, _, _, _, _, _, _, _, _, _, _, _, _, _, _, _, _, _, _, _, _, _, _, _, _, _, _, _, _, _, _, _, _, _, _, _, _, _, _, _, _, _, _, _, _, _, _, _, rfl⟩ (by rw [← HOPN.out]; exact blk_new _ _) (bal (Below.refl _ _) _) (by simp)
        · subst h3
          go_wp2
          exact key _ _ ⟨_, _, _, _, _, _, _, _, _, _, _, _, _, _, _, _, _, _, _, _, _, _, _, _, _, _, _, _, _, _, _, _, _, _, _, _, _, _, _, _, _, _, _, _, _, _, _, _, _, _, _, _, _, _, _, _, rfl⟩ (by rw [← HOPN.out]; exact blk_new _ _) (bal (Below.refl _ _) _) (by simp)
        · have e0 := (beq_eq_false_iff_ne (a := op)).mpr h0; have e4 := (beq_eq_false_iff_ne (a := op)).mpr h4; have e3 := (beq_eq_false_iff_ne (a := op)).mpr h3; subst en; clear h0 h4 h3
          go_wp2
          exact key _ _ ⟨_, _, _, _, _, _, _, _, _, _, _, _, _, _, _, _, _, _, _, _, _, _, _, _, _, _, _, _, _, _, _, _, _, _, _, _, _, _, _, _, _, _, _, _, _, _, _, _, _, _, _, _, _, _, _, _, rfl⟩ (by rw [← HOPN.out]; exact blk_new _ _) (bal (Below.refl _ _) _) (by simp)
      case key =>
        clear q0 q1 q2 q3 q4 ways HOPN
        rintro a Wg ⟨u11, u13, u19, u20, u21, u22, u23, u24, u25, u26, u27, u28, u29, u30, u31, u32, u33, u34, u35, u36, u37, u38, u39, u40, u41, u42, u43, u44, u45, u46, u47, u48, u49, u50, u51, u52, u53, u54, u55, u56, u57, u58, u59, u60, u61, u62, u63, u64, u65, u66, u67, u68, u69, u70, u71, u72, rfl⟩ pg bg sg
        refine hKr _ _ ?_
        have g2 : Wg.cell? ⟨Wr.heap.size, 2, none⟩ = some (.slice B2 xa.length b2) := (blk_cell pg 2).trans rfl
        have PG := Aside0.mk pg
        have BG := Aside0.mk bg
        have SG := Aside0.mk sg
        clear pg bg sg hKb Kb
        go_wp2
        go_loopg [11, 43] xa.length (fun kq v11 v43 Y => ∃ (m : Nat) (A11 : Option Addr) (c11 : Nat), v43 = .int .i64 (m : Int) ∧ v11 = .slice A11 m c11 ∧ Aside0 (m + kq = xa.length) ∧ Aside0 (Kd.R k28 28 Y (Wr.heap.size + 1) (fun _ => True) (.slice A11 m c11) (a'.take m)) ∧ Aside0 (Y.heap[Wr.heap.size]? = some (.cells #[.int .i64 opn, .int .i64 n', .slice B2 xa.length b2, .slice B3 xt.length b3, .slice B4 xe.length b4] 64 (0, 0))) ∧ Aside0 (Below Wr.heap.size Wr Y) ∧ Aside0 (Wr.heap.size + 1 ≤ Y.heap.size))
        case atStart => exact ⟨0, none, 0, rfl, rfl, ⟨by omega⟩, ⟨Kd.R_nil _ _ _ _ _⟩, PG, BG, ⟨by have := SG.out; omega⟩⟩
        case round =>
          clear PG BG SG
          obtain ⟨m, A11, c11, rfl, rfl, MI, MO, PG, BG, SG⟩ := hrel
          cases gk with
          | zero =>
            have hm : m = xa.length := by have := MI.out; omega
            subst hm
            have hd2 : decide ((xa.length : Int) < (xa.length : Int)) = false := decide_eq_false (by omega)
            have o2 : Kd.R k28 28 wr (Wr.heap.size + 1) (fun _ => True) (.slice A11 xa.length c11) a' := by
              have := MO.out
              rwa [List.take_of_length_le (by omega)] at this
            have O2 := Aside0.mk o2
            clear o2 MO
            go_wp2
            have PD := Aside0.mk (kdr PG.out)
            have BD := Aside0.mk (below_drew BG.out)
            have OD := Aside0.mk (Kd.R_drew O2.out)
            have SD := Aside0.mk (show Wr.heap.size + 1 ≤ wr.drew.heap.size from SG.out)
            have XD := Aside0.mk ((BD.out.block _ hltr).trans hBX.out)
            refine start_ (n := 17) (S := fun w' => w'.cell? ⟨Wr.heap.size, 3, none⟩ = some (.slice B3 xt.length b3) ∧ w'.cell? ⟨Wr.heap.size, 4, none⟩ = some (.slice B4 xe.length b4) ∧ w'.cell? ⟨w.heap.size, 0, none⟩ = some (.int .i64 fr)) (ds := [12, 14, 16]) #[false, false, false, false, false, false, false, false, false, false, false, false, false, false, false, false, false] (by kernel_rfl) rfl rfl ⟨(blk_cell PD.out 3).trans rfl, (blk_cell PD.out 4).trans rfl, (blk_cell XD.out 0).trans rfl⟩ (fun hHeld => ?_)
            generalize wr.drew = Y at PD BD OD SD XD hHeld ⊢
            clear PG BG SG O2
            refine pu (i := 0) (N := some 54) #[true, false, false, false, false, false, false, false, false, false, false, false, false, false, false, false, false] rfl rfl (by kernel_rfl) ?_
            refine pu (i := 1) (N := some 55) #[true, true, false, false, false, false, false, false, false, false, false, false, false, false, false, false, false] rfl rfl (by kernel_rfl) ?_
            refine tk (i := 2) (N := some 56) #[true, true, true, false, false, false, false, false, false, false, false, false, false, false, false, false, false] rfl rfl (by kernel_rfl) hHeld ?_
            refine pu (i := 3) (N := some 57) #[true, true, true, true, false, false, false, false, false, false, false, false, false, false, false, false, false] rfl rfl (by kernel_rfl) ?_
            refine tk (i := 4) (N := some 58) #[true, true, true, true, true, false, false, false, false, false, false, false, false, false, false, false, false] rfl rfl (by kernel_rfl) hHeld ?_
            refine pu (i := 6) (N := some 60) #[true, true, true, true, true, false, true, false, false, false, false, false, false, false, false, false, false] rfl rfl (by kernel_rfl) ?_
            refine tk (i := 7) (N := some 61) #[true, true, true, true, true, false, true, true, false, false, false, false, false, false, false, false, false] rfl rfl (by kernel_rfl) hHeld ?_
            refine pu (i := 8) (N := some 62) #[true, true, true, true, true, false, true, true, true, false, false, false, false, false, false, false, false] rfl rfl (by kernel_rfl) ?_
            refine tk (i := 9) (N := some 63) #[true, true, true, true, true, false, true, true, true, true, false, false, false, false, false, false, false] rfl rfl (by kernel_rfl) hHeld ?_
            refine pu (i := 11) (N := some 65) #[true, true, true, true, true, false, true, true, true, true, false, true, false, false, false, false, false] rfl rfl (by kernel_rfl) ?_
            refine one_ (i := 5) (N := (some 59)) #[true, true, true, true, true, true, true, true, true, true, false, true, false, false, false, false, false] rfl rfl (by kernel_rfl) (by decide) (fun K hK => ?_)
            refine goes_ Try.func64 (by kernel_rfl) rfl #[.slice B3 xt.length b3, .int .i64 i, .int .i64 fr] (by rfl) rfl rfl (by (try simp only [List.map_toArray, List.map_cons, List.map_nil]); rfl) ?_
            refine (IT.out _ _ _ Y HT.out (Kd.C_below QR3.out (HBW.out.trans (BD.out.mono HBW.out.size))) QL3.out).mono ?_
            rintro e Y2 ⟨v3, rfl, o3, hb3⟩
            have PE := Aside0.mk (blk_below PD.out hb3)
            have BE := Aside0.mk (BD.out.trans (hb3.mono BD.out.size))
            have OE := Aside0.mk (Kd.R_below OD.out hb3)
            have XE := Aside0.mk ((BE.out.block _ hltr).trans hBX.out)
            have SE := Aside0.mk (Nat.le_trans SD.out hb3.size)
            have TE := Aside0.mk (Kd.R_lower o3 SD.out)
            clear PD BD OD XD SD o3 hb3
            refine ⟨_, rfl, ?_⟩
            refine hK.out _ _ ⟨(blk_cell PE.out 3).trans rfl, (blk_cell PE.out 4).trans rfl, (blk_cell XE.out 0).trans rfl⟩ (fun hHeld => ?_)
            clear hK K
            refine nm 59 ?_
            refine one_ (i := 10) (N := (some 64)) #[true, true, true, true, true, true, true, true, true, true, true, true, false, false, false, false, false] rfl rfl (by kernel_rfl) (by decide) (fun K hK => ?_)
            refine goes_ Try.func64 (by kernel_rfl) rfl #[.slice B4 xe.length b4, .int .i64 i, .int .i64 fr] (by rfl) rfl rfl (by (try simp only [List.map_toArray, List.map_cons, List.map_nil]); rfl) ?_
            refine (IE.out _ _ _ Y2 HE.out (Kd.C_below QR4.out (HBW.out.trans (BE.out.mono HBW.out.size))) QL4.out).mono ?_
            rintro e Y3 ⟨v4, rfl, o4, hb4⟩
            have PF := Aside0.mk (blk_below PE.out hb4)
            have BF := Aside0.mk (BE.out.trans (hb4.mono BE.out.size))
            have OF := Aside0.mk (Kd.R_below OE.out hb4)
            have XF := Aside0.mk ((BF.out.block _ hltr).trans hBX.out)
            have SF := Aside0.mk (Nat.le_trans SE.out hb4.size)
            have TF := Aside0.mk (Kd.R_below TE.out hb4)
            have UF := Aside0.mk (Kd.R_lower o4 SE.out)
            clear PE BE OE XE SE TE o4 hb4
            refine ⟨_, rfl, ?_⟩
            refine hK.out _ _ ⟨(blk_cell PF.out 3).trans rfl, (blk_cell PF.out 4).trans rfl, (blk_cell XF.out 0).trans rfl⟩ (fun hHeld => ?_)
            clear hK K
            refine nm 64 ?_
            obtain ⟨D3, d3, e3⟩ := Kd.R_slice TF.out
            subst e3
            obtain ⟨D4, d4, e4⟩ := Kd.R_slice UF.out
            subst e4
            refine last_ (i := 12) (N := none) #[true, true, true, true, true, true, true, true, true, true, true, true, true, false, false, false, false] rfl rfl (by kernel_rfl) (by decide) (fun K hK => ?_)
            refine skip_ (w1 := (Y3.setCell ⟨Wr.heap.size, 2, none⟩ (.slice A11 xa.length c11))) (by rfl) rfl ?st2 ?_
            case st2 =>
              have x0 : Y3.cell? ⟨Wr.heap.size, 2, none⟩ = some _ := (blk_cell PF.out 2).trans rfl
              have x1 : Y3.cell? ⟨Wr.heap.size, 3, none⟩ = some _ := (blk_cell PF.out 3).trans rfl
              have x2 : Y3.cell? ⟨Wr.heap.size, 4, none⟩ = some _ := (blk_cell PF.out 4).trans rfl
              have x3 := blk_frozen PF.out 2
              have x4 := blk_frozen PF.out 3
              have x5 := blk_frozen PF.out 4
              go_simp
            refine hK.out _ _ ?_
            clear hK K
            refine pu (i := 13) (N := some 66) #[true, true, true, true, true, true, true, true, true, true, true, true, true, true, false, false, false] rfl rfl (by kernel_rfl) ?_
            refine last_ (i := 14) (N := none) #[true, true, true, true, true, true, true, true, true, true, true, true, true, true, true, false, false] rfl rfl (by kernel_rfl) (by decide) (fun K hK => ?_)
            refine skip_ (w1 := ((Y3.setCell ⟨Wr.heap.size, 2, none⟩ (.slice A11 xa.length c11)).setCell ⟨Wr.heap.size, 3, none⟩ (.slice D3 t'.length d3))) (by rfl) rfl ?st3 ?_
            case st3 =>
              have x0 : Y3.cell? ⟨Wr.heap.size, 2, none⟩ = some _ := (blk_cell PF.out 2).trans rfl
              have x1 : Y3.cell? ⟨Wr.heap.size, 3, none⟩ = some _ := (blk_cell PF.out 3).trans rfl
              have x2 : Y3.cell? ⟨Wr.heap.size, 4, none⟩ = some _ := (blk_cell PF.out 4).trans rfl
              have x3 := blk_frozen PF.out 2
              have x4 := blk_frozen PF.out 3
              have x5 := blk_frozen PF.out 4
              go_simp
            refine hK.out _ _ ?_
            clear hK K
            refine pu (i := 15) (N := some 67) #[true, true, true, true, true, true, true, true, true, true, true, true, true, true, true, true, false] rfl rfl (by kernel_rfl) ?_
            refine last_ (i := 16) (N := none) #[true, true, true, true, true, true, true, true, true, true, true, true, true, true, true, true, true] rfl rfl (by kernel_rfl) (by decide) (fun K hK => ?_)
            refine skip_ (w1 := (((Y3.setCell ⟨Wr.heap.size, 2, none⟩ (.slice A11 xa.length c11)).setCell ⟨Wr.heap.size, 3, none⟩ (.slice D3 t'.length d3)).setCell ⟨Wr.heap.size, 4, none⟩ (.slice D4 e'.length d4))) (by rfl) rfl ?st4 ?_
            case st4 =>
              have x0 : Y3.cell? ⟨Wr.heap.size, 2, none⟩ = some _ := (blk_cell PF.out 2).trans rfl
              have x1 : Y3.cell? ⟨Wr.heap.size, 3, none⟩ = some _ := (blk_cell PF.out 3).trans rfl
              have x2 : Y3.cell? ⟨Wr.heap.size, 4, none⟩ = some _ := (blk_cell PF.out 4).trans rfl
              have x3 := blk_frozen PF.out 2
              have x4 := blk_frozen PF.out 3
              have x5 := blk_frozen PF.out 4
              go_simp
            refine hK.out _ _ ?_
            clear hK K
            refine done_ (by kernel_rfl) ?_
            have p7 := blk_put (blk_put (blk_put PF.out 2 (.slice A11 xa.length c11) (cs' := #[.int .i64 opn, .int .i64 n', .slice A11 xa.length c11, .slice B3 xt.length b3, .slice B4 xe.length b4]) rfl) 3 (.slice D3 t'.length d3) (cs' := #[.int .i64 opn, .int .i64 n', .slice A11 xa.length c11, .slice D3 t'.length d3, .slice B4 xe.length b4]) rfl) 4 (.slice D4 e'.length d4) (cs' := #[.int .i64 opn, .int .i64 n', .slice A11 xa.length c11, .slice D3 t'.length d3, .slice D4 e'.length d4]) rfl
            have b7 := ((BF.out.trans (below_cell Y3 (i := 2) (.slice A11 xa.length c11) (Nat.le_refl _))).trans (below_cell _ (i := 3) (.slice D3 t'.length d3) (Nat.le_refl _))).trans (below_cell _ (i := 4) (.slice D4 e'.length d4) (Nat.le_refl _))
            have k7 : ∀ k, Wr.heap.size + 1 ≤ k → (((Y3.setCell ⟨Wr.heap.size, 2, none⟩ (.slice A11 xa.length c11)).setCell ⟨Wr.heap.size, 3, none⟩ (.slice D3 t'.length d3)).setCell ⟨Wr.heap.size, 4, none⟩ (.slice D4 e'.length d4)).heap[k]? = Y3.heap[k]? := fun k hk => by rw [Below.heap_setCell _ _ _ _ (by simp; omega), Below.heap_setCell _ _ _ _ (by simp; omega), Below.heap_setCell _ _ _ _ (by simp; omega)]
            have O7 := Aside0.mk (Kd.R_mono (Kd.R_step (Kd.R_bound OF.out) (fun k hk _ => k7 k hk.2.1)) (fun k hk => (show Wr.heap.size ≤ k from Nat.le_of_succ_le hk.2.1)))
            have T7 := Aside0.mk (Kd.R_mono (Kd.R_step (Kd.R_bound TF.out) (fun k hk _ => k7 k hk.2.1)) (fun k hk => (show Wr.heap.size ≤ k from Nat.le_of_succ_le hk.2.1)))
            have U7 := Aside0.mk (Kd.R_mono (Kd.R_step (Kd.R_bound UF.out) (fun k hk _ => k7 k hk.2.1)) (fun k hk => (show Wr.heap.size ≤ k from Nat.le_of_succ_le hk.2.1)))
            have P7 := Aside0.mk p7
            have B7 := Aside0.mk b7
            clear p7 b7 k7 PF BF OF XF SF TF UF
            generalize (((Y3.setCell ⟨Wr.heap.size, 2, none⟩ (.slice A11 xa.length c11)).setCell ⟨Wr.heap.size, 3, none⟩ (.slice D3 t'.length d3)).setCell ⟨Wr.heap.size, 4, none⟩ (.slice D4 e'.length d4)) = W7 at P7 B7 O7 T7 U7 ⊢
            have x0 : W7.cell? ⟨Wr.heap.size, 0, none⟩ = some _ := (blk_cell P7.out 0).trans rfl
            have x1 : W7.cell? ⟨Wr.heap.size, 1, none⟩ = some _ := (blk_cell P7.out 1).trans rfl
            have x2 : W7.cell? ⟨Wr.heap.size, 2, none⟩ = some _ := (blk_cell P7.out 2).trans rfl
            have x3 : W7.cell? ⟨Wr.heap.size, 3, none⟩ = some _ := (blk_cell P7.out 3).trans rfl
            have x4 : W7.cell? ⟨Wr.heap.size, 4, none⟩ = some _ := (blk_cell P7.out 4).trans rfl
            have hS7 := B7.out.size
            go_wp2_with (first | ((with_reducible refine gate_builtin (b := .append) (xs := #[.tmp 68, .tmp 70]) rfl ?_); at_builtin; refine Kd.R_append k64 (w0 := W1) (W := W7) W1.heap.size rfl (.tmp 68) (.tmp 70) 23 64 (.agg #[(.int .i64 0), (.int .i64 0), (.slice none 0 0), (.slice none 0 0), (.slice none 0 0)]) 88 rfl Try.underlying23 info64 rfl (by decide) (by omega) (.slice A8 j c8) (l'.take j) (⟨opn, n', a', t', e'⟩ : S64) [.int .i64 opn, .int .i64 n', .slice A11 xa.length c11, .slice D3 t'.length d3, .slice D4 e'.length d4] (fun _ => True) (fun k => Wr.heap.size ≤ k) rfl rfl ?aP ?aK (fun _ _ => trivial) ?aO ?aB ?aS ?aL ?_; (case aP => exact k64_mkM _ _ _ (⟨opn, n', a', t', e'⟩ : S64) (Kd.R_lower O7.out (Nat.le_succ_of_le hSB)) (Kd.R_lower T7.out (Nat.le_succ_of_le hSB)) (Kd.R_lower U7.out (Nat.le_succ_of_le hSB))); (case aK => exact fun k hk => ⟨trivial, fun e => by have h9 := hol _ e.symm; omega⟩); (case aO => exact Kd.R_below HO.out B7.out); (case aB => exact BB.out.trans (B7.out.mono hSB)); (case aS => exact Nat.le_trans hSB hS7); (case aL => rw [hjl]; omega); intro v1 W8 o8 b8 g8 t8))
            obtain ⟨A9, c9, e9⟩ := Kd.R_slice o8
            subst e9
            have O8 := Aside0.mk o8
            have B8 := Aside0.mk b8
            clear o8 b8 g8 t8 B7 O7 T7 U7 P7 x0 x1 x2 x3 x4
            go_roundg k1
            case measure => omega
            case rel =>
              refine ⟨j + 1, A9, c9, by simp, by simp; omega, ⟨by have := HI.out; omega⟩, ⟨?_⟩, B8⟩
              have := O8.out
              rw [mv_takeS HYI.out]
              have e7 : (List.take j l' ++ [(⟨opn, n', a', t', e'⟩ : S64)]).length = j + 1 := by simp; omega
              rw [e7] at this
              exact this
          | succ k2 =>
            have hm : m < xa.length := by have := MI.out; omega
            have hd2 : decide ((m : Int) < (xa.length : Int)) = true := decide_eq_true (by omega)
            have HBY := Aside0.mk (HBW.out.trans (BG.out.mono HBW.out.size))
            obtain ⟨ad2, D3, d3, e3, s0, s1, s2, s3, sl3, sr3⟩ := at_T28 QR2.out (m : Int) (by omega) (by omega)
            subst e3
            have hzm : xa[m]? = some (rd_T28 xa (m : Int)) := by unfold rd_T28; rw [Int.toNat_natCast, List.getD_eq_getElem?_getD, List.getElem?_eq_getElem hm]; rfl
            generalize rd_T28 xa (m : Int) = z at s0 s1 s2 s3 sl3 sr3 hzm
            obtain ⟨u, hu, hum⟩ := HAG.out m z hzm
            simp only [Int.toNat_natCast] at s0 s1 s2 s3
            replace s0 := (HBY.out.cell (World.block_lt_of_cell? w _ s0)).trans s0
            replace s1 := (HBY.out.cell (World.block_lt_of_cell? w _ s1)).trans s1
            replace s2 := (HBY.out.cell (World.block_lt_of_cell? w _ s2)).trans s2
            replace s3 := (HBY.out.cell (World.block_lt_of_cell? w _ s3)).trans s3
            have hw2 : IntKind.i64.wrap ((m : Int) + 1) = (m : Int) + 1 := by rw [i64_w]; unfold wrap64; omega
            have W1B := bal (Below.refl wr.heap.size wr) (.cells #[.int .i64 z.f0, .int .i64 z.f1, .int .i64 z.f2, .slice D3 z.f3.length d3] 28)
            have hSY := SG.out
            have hob2 := Kd.R_base MO.out
            have hol2 := Kd.R_lt MO.out
            have htk : (a'.take m).length = m := by rw [List.length_take]; omega
            go_wp2_with (first | (go_at_call 83; refine (prod_moving1.calls _ z u D3 d3 (w.heap.size + 1) _ hu ((HMV.out.below BG.out).below W1B) (Kd.C_below (Kd.C_below sr3 HBY.out) W1B) sl3).mono ?_; rintro e W2 ⟨v, rfl, p2, hb2⟩) | ((with_reducible refine gate_builtin (b := .append) (xs := #[.tmp 47, .tmp 51]) rfl ?_); at_builtin; refine Kd.R_append k28 (w0 := wr) (W := W2) (Wr.heap.size + 1) rfl (.tmp 47) (.tmp 51) 26 28 (.agg #[(.int .i64 0), (.int .i64 0), (.int .i64 0), (.slice none 0 0)]) 48 rfl Try.underlying26 info28 rfl (by decide) (by omega) (.slice A11 m c11) (a'.take m) u [.int .i64 u.f0, .int .i64 u.f1, .int .i64 u.f2, v] (fun _ => True) (fun k => wr.heap.size ≤ k) rfl rfl ?aP ?aK (fun _ _ => trivial) ?aO ?aB ?aS ?aL ?_; (case aP => exact k28_mkM _ _ _ u (Kd.R_lower (Kd.R_mono (Kd.R_bound p2) (fun k hk => Nat.le_trans W1B.size hk.2.1)) (Nat.le_trans hSY W1B.size))); (case aK => exact fun k hk => ⟨trivial, fun e => by have h9 := hol2 _ e.symm; omega⟩); (case aO => exact Kd.R_below (Kd.R_below MO.out W1B) hb2); (case aB => exact (W1B.trans (hb2.mono W1B.size)).mono hSY); (case aS => exact Nat.le_trans hSY (Nat.le_trans W1B.size hb2.size)); (case aL => rw [htk]; omega); intro v1 W3 o3 b3 g3 t3))
            obtain ⟨A6, c6, e6⟩ := Kd.R_slice o3
            subst e6
            have hWW := W1B.trans (hb2.mono W1B.size)
            have pf := Aside0.mk (blk_grown (blk_below PG.out hWW) g3 (fun e => by have h9 := hob2 _ e.symm; omega))
            have bf := Aside0.mk (BG.out.trans (b3.mono (show Wr.heap.size ≤ Wr.heap.size + 1 by omega)))
            have sf := Aside0.mk (Nat.le_trans (Nat.le_trans hSY hWW.size) g3.size)
            have of := Aside0.mk o3
            clear o3 b3 g3 t3 hWW PG BG SG MO W1B hb2 p2
            go_roundg k2
            case measure => omega
            case rel =>
              refine ⟨m + 1, A6, c6, by simp, by simp; omega, ⟨by have := MI.out; omega⟩, ⟨?_⟩, pf, bf, sf⟩
              have := of.out
              rw [mv_take hum]
              have e7 : (List.take m a' ++ [u]).length = m + 1 := by simp; omega
              rw [e7] at this
              exact this
def prod_Moved.f (_ : Nat) (l0 : List S64) (a1 a2 : Int) : Option (List S64) := mvSs a1 a2 l0
theorem prod_Moved.calls (k : Nat) (A0 : Option Addr) (c0 : Nat) (l0 : List S64) (a1 a2 : Int) (r : List S64) (w : World) (hr0 : Kd.C k64 w A0 l0.length l0) (hc0 : l0.length ≤ c0) (h : prod_Moved.f k l0 a1 a2 = some r) :
    Calls Try.prog 64 #[.slice A0 l0.length c0, .int .i64 a1, .int .i64 a2] w fun e w' => ∃ v0_ : Value, e = .returned v0_ ∧ Kd.R k64 64 w' w.heap.size (fun _ => True) v0_ r ∧ Below w.heap.size w w' :=
  prod_Moved.go a1 a2 l0 r A0 c0 w h hr0 hc0
end Go.Proofs.Ytilebfkehmecaaa.Print
namespace Go.Proofs.Ytilebfkehmecaaa.Print
open Go.RowKit Go.Proofs.YtilebfkehmecaaaW.PrintWords Go.Proofs.YtilebfkehmecaaaW.PrintLast Go.Proofs.YtilebfkehmecaaaW.PrintMore
attribute [local go_sem] max2_int min2_int max_two min_two max_three min_three max_four min_four
set_option linter.unusedVariables false
set_option linter.unusedSimpArgs false
def prod_Of.l0 : Nat → List (S25) → Int → Int → Int → List (S66) → List (S64) → Option (Int × (List (S66)) × (List (S64)))
 | 0, _, _, _, _, _, _ => none
 | k + 1, x11, x12, x13, x204000, x204001, x204002 => if x13 < x12 then (if 0 ≤ x13 then (if x13 < (x11.length : Int) then ((prod_variables.f k ((rd_T25 x11 x13).f1) x13).bind fun t206 => (if x204001.length + t206.length < 4398046511104 then ((prod_Moved.f k ((rd_T25 x11 x13).f2) x13 (wrap64 (x13 * (((rd_T25 x11 x13).f1).length : Int)))).bind fun t212 => (if x204002.length + t212.length < 1599289640401 then (prod_Of.l0 k x11 x12 (wrap64 (x13 + 1)) x204000 (x204001 ++ t206) (x204002 ++ t212)) else (none))) else (none))) else (none)) else (none)) else (some (x204000, x204001, x204002))
def prod_Of.f (k : Nat) (l0 : List (S25)) : Option (Int × (List (S66)) × (List (S64))) := if 0 < (l0.length : Int) then (prod_Of.l0 k l0 (l0.length : Int) 0 ((rd_T25 l0 0).f0) ([] : List (S66)) ([] : List (S64))) else (none)
def prod_Of.T5 : Bool × List (List Nat × List Nat) := (true, [([], []), ([0], [0]), ([], []), ([2], [2]), ([], []), ([3, 4], [3, 4]), ([1, 5, 5], [1, 5]), ([0, 1, 2, 3, 4, 5, 6], []), ([7, 6, 6, 0, 1, 2, 3, 4, 5, 6], [6, 7])])
def prod_Of.B5 : List Nat := [0, 1, 0, 4, 0, 28, 63, 127, 255]
theorem prod_Of.tab5 : rtab .any (opsOf Try.f65 5) = prod_Of.T5 := by kernel_rfl
theorem prod_Of.bits5 : waitsOk prod_Of.T5.2 prod_Of.B5 = true := by kernel_rfl
def prod_Of.T6 : Bool × List (List Nat × List Nat) := (true, [([], []), ([0], [0]), ([], []), ([2], [2]), ([], []), ([], []), ([], []), ([6], [6]), ([7], [7]), ([5, 8], [5, 8]), ([3, 4, 9], [3, 4, 9]), ([1, 10, 10], [1, 10]), ([0, 1, 2, 3, 4, 5, 6, 7, 8, 9, 10, 11], []), ([12, 11, 11, 0, 1, 2, 3, 4, 5, 6, 7, 8, 9, 10, 11], [11, 12])])
def prod_Of.B6 : List Nat := [0, 1, 0, 4, 0, 0, 0, 64, 192, 480, 1020, 2047, 4095, 8191]
theorem prod_Of.tab6 : rtab .any (opsOf Try.f65 6) = prod_Of.T6 := by kernel_rfl
theorem prod_Of.bits6 : waitsOk prod_Of.T6.2 prod_Of.B6 = true := by kernel_rfl
set_option maxHeartbeats 8000000 in
set_option maxRecDepth 100000 in
theorem prod_Of.calls (k : Nat) (A0 : Option Addr) (c0 : Nat) (l0 : List (S25)) (r1 : Int) (r2 : List (S66)) (r3 : List (S64)) (w : World) (hr0 : Kd.C k25 w A0 l0.length l0) (hc0 : l0.length ≤ c0) (h : prod_Of.f k l0 = some (r1, r2, r3)) :
  Calls Try.prog 65 #[.slice A0 l0.length c0] w fun e w' => ∃ v1_ v2_ : Value, e = .returned (.agg #[.int .i64 r1, v1_, v2_]) ∧ Kd.R k66 66 w' w.heap.size (fun k_ => (w.heap.size ≤ k_)) v1_ r2 ∧ Kd.N k64 64 w' w.heap.size (fun k_ => (w.heap.size ≤ k_) ∧ some k_ ≠ (v1_ : Value).ownBlock) v2_ r3 ∧ Below w.heap.size w w' := by
 have hu25 := Try.underlying25
 have HR0 := Aside0.mk hr0
 have HC0 := Aside0.mk hc0
 clear hr0 hc0
 have HB := Aside0.mk (Below.refl w.heap.size w)
 have H : (if 0 < (l0.length : Int) then (prod_Of.l0 k l0 (l0.length : Int) 0 ((rd_T25 l0 0).f0) ([] : List (S66)) ([] : List (S64))) else (none)) = some (r1, r2, r3) := h
 clear h
 by_cases c2 : 0 < (l0.length : Int)
 rotate_left
 ·rw [if_neg c2] at H
  exact absurd H (by simp)
 rw [if_pos c2] at H
 have c2b0 : decide (0 < (l0.length : Int)) = true := decide_eq_true c2
 have c2b1 : decide (0 < l0.length) = true := decide_eq_true (by omega)
 clear c2
 have H' := Aside0.mk H
 clear H
 go_enter Try.func65, Try.ntmps65
 go_wp2_with (first | ((with_reducible refine gate_dst (N := 2) rfl ?_); refine bx 2 rfl rfl #[.int .i64 0, .slice none 0 0, .slice none 0 0] 25 ?_; intro gb201 hg w3 hbox hb; have BK201 := Aside0.mk (hbox); have GW201 := ge HB hg; have GE201 := ge HB hg; replace HB := sb HB hb; clear hb hbox hg; have p202 : 0 ≤ (0 : Int) := (by omega); have q202 : 0 < (l0.length : Int) := od; obtain ⟨ad202, A202_1, c202_1, A202_2, c202_2, e202, hx202_0, hx202_1, hx202_2, hl202_1, hi202_1, hl202_2, hi202_2⟩ := at_T25 HR0.out 0 p202 q202; cases e202; have qi202 : (0 < l0.length) = True := eq_true (by omega); (try rw [show ((0 : Int)).toNat = 0 from rfl] at hx202_0); (try rw [show 0 * 3 = 0 from rfl] at hx202_0); (try rw [Addr.add_zero'] at hx202_0); (try rw [show ((0 : Int)).toNat = 0 from rfl] at hx202_1); (try rw [show 0 * 3 = 0 from rfl] at hx202_1); (try rw [Addr.add_zero'] at hx202_1); (try rw [show ((0 : Int)).toNat = 0 from rfl] at hx202_2); (try rw [show 0 * 3 = 0 from rfl] at hx202_2); (try rw [Addr.add_zero'] at hx202_2); replace hx202_0 := bcell HB.out hx202_0; replace hx202_1 := bcell HB.out hx202_1; replace hx202_2 := bcell HB.out hx202_2; have HR202_1 := Aside0.mk hi202_1; have HC202_1 := Aside0.mk hl202_1; clear hi202_1 hl202_1; have HR202_2 := Aside0.mk hi202_2; have HC202_2 := Aside0.mk hl202_2; clear hi202_2 hl202_2; replace p202 := eq_true p202; replace q202 := eq_true q202) | ((with_reducible refine gate_dst (N := 3) rfl ?_); refine bx 3 rfl rfl #[.int .i64 0, .slice none 0 0, .slice none 0 0] 25 ?_; intro gb203 hg w4 hbox hb; have BK203 := Aside0.mk (hbox); have GW203 := ge HB hg; have GE203 := ge HB hg; have NB201_203 := nl BK201 hg; have NB203_201 := ng BK201 hg; replace BK201 := kb BK201 hb; replace HB := sb HB hb; clear hb hbox hg; have hnb5 := NB203_201.out; have hnc5 := NB201_203.out; obtain ⟨hcz6_0, hcz6_1, hcz6_2, hfz6_0, hfz6_1, hfz6_2⟩ := cf3 BK203.out))
 go_loopg [13] k (fun kq v13 w' => ∃ (x13_1 : Int) (x204001_1 : List (S66)) (x204002_1 : List (S64)) (u204001 : Value) (u204002 : Value), v13 = .int .i64 x13_1 ∧ Aside0 (prod_Of.l0 kq l0 (l0.length : Int) x13_1 ((rd_T25 l0 0).f0) x204001_1 x204002_1 = some (r1, r2, r3)) ∧ Aside0 (kq ≤ k) ∧ Aside0 (Kd.R k66 66 w' w.heap.size (fun k_ => (w.heap.size ≤ k_)) u204001 x204001_1) ∧ Aside0 (Kd.N k64 64 w' w.heap.size (fun k_ => (w.heap.size ≤ k_) ∧ some k_ ≠ (u204001 : Value).ownBlock ∧ k_ ≠ gb201 ∧ k_ ≠ gb203) u204002 x204002_1) ∧ Aside0 (w'.heap[gb201]? = some (.cells #[.int .i64 0, (.slice none 0 0), (.slice none 0 0)] 25 (0, 0))) ∧ Aside0 (w'.heap[gb203]? = some (.cells #[.int .i64 ((rd_T25 l0 0).f0), u204001, u204002] 25 (0, 0))) ∧ Aside0 (Below w.heap.size w w'))
 case atStart => exact ⟨(0), (([] : List (S66))), (([] : List (S64))), (.slice none 0 0), (.slice none 0 0), rs, H', ⟨Nat.le_refl _⟩, ⟨by first | exact Kd.R_nil _ _ _ _ _ | exact Kd.N_nil _ _ _ _ _ | exact Kd.V_nil _ _ _ _ _ | exact Kd.Q_nil _ _ _ _ _ | exact Kd.S_nil _ _ _ _ _⟩, ⟨by first | exact Kd.R_nil _ _ _ _ _ | exact Kd.N_nil _ _ _ _ _ | exact Kd.V_nil _ _ _ _ _ | exact Kd.Q_nil _ _ _ _ _ | exact Kd.S_nil _ _ _ _ _⟩, ⟨by (with_reducible repeat (first | refine kdN ?_ _ | refine kdr ?_ | refine kal ?_ _)); refine blk_far ?_ NB201_203.out _; (with_reducible repeat (first | refine kdN ?_ _ | refine kdr ?_ | refine kal ?_ _)); refine blk_far ?_ NB201_203.out _; (with_reducible repeat (first | refine kdN ?_ _ | refine kdr ?_ | refine kal ?_ _)); refine blk_far ?_ NB201_203.out _; (with_reducible repeat (first | refine kdN ?_ _ | refine kdr ?_ | refine kal ?_ _)); exact BK201.out⟩, ⟨by (with_reducible repeat (first | refine kdN ?_ _ | refine kdr ?_ | refine kal ?_ _)); refine blk_put (cs := #[.int .i64 ((rd_T25 l0 0).f0), .slice none 0 0, .slice none 0 0]) ?_ 2 _ rfl; (with_reducible repeat (first | refine kdN ?_ _ | refine kdr ?_ | refine kal ?_ _)); refine blk_put (cs := #[.int .i64 ((rd_T25 l0 0).f0), .slice none 0 0, .slice none 0 0]) ?_ 1 _ rfl; (with_reducible repeat (first | refine kdN ?_ _ | refine kdr ?_ | refine kal ?_ _)); refine blk_put (cs := #[.int .i64 0, .slice none 0 0, .slice none 0 0]) ?_ 0 _ rfl; (with_reducible repeat (first | refine kdN ?_ _ | refine kdr ?_ | refine kal ?_ _)); exact BK203.out⟩, ⟨bb HB⟩⟩
 case round =>
  clear H'
  try clear c2
  try clear c2b0
  try clear c2b1
  try clear p2
  try clear q2
  try clear hx2
  try clear qi2
  try clear c5
  try clear c6
  try clear hcz6_0 hcz6_1 hcz6_2 hfz6_0 hfz6_1 hfz6_2
  try clear hx202_0
  try clear hx202_1
  try clear hx202_2
  try clear p202
  try clear q202
  obtain ⟨x13_1, x204001_1, x204002_1, u204001, u204002, rfl, HA, HK1, HO_204001, HO_204002, BK201, BK203, HB⟩ := hrel
  cases gk with
  | zero => exact absurd HA.out (by simp [prod_Of.l0])
  | succ k1 =>
   have H := HA.out
   clear HA
   simp only [prod_Of.l0] at H
   by_cases c7 : x13_1 < (l0.length : Int)
   rotate_left
   ·rw [if_neg c7] at H
    have c7b0 : decide (x13_1 < (l0.length : Int)) = false := decide_eq_false c7
    clear c7
    simp only [Option.some.injEq, Prod.mk.injEq] at H
    obtain ⟨rfl, rfl, rfl⟩ := H
    have hnb32 := NB203_201.out
    have hnc32 := NB201_203.out
    obtain ⟨hcz33_0, hcz33_1, hcz33_2, hfz33_0, hfz33_1, hfz33_2⟩ := cf3 BK203.out
    obtain ⟨hcz34_0, hcz34_1, hcz34_2, hfz34_0, hfz34_1, hfz34_2⟩ := cf3 BK201.out
    obtain ⟨Ao35, co35, eo35⟩ := Kd.R_slice HO_204001.out
    subst eo35
    obtain ⟨Ao36, co36, eo36⟩ := Kd.N_slice HO_204002.out
    subst eo36
    go_wp2
    refine bodyPost_ret (results_cell_row rfl _ _ gb201 25 #[.int .i64 ((rd_T25 l0 0).f0), .slice Ao35 x204001_1.length co35, .slice Ao36 x204002_1.length co36] (0, 0) _ rfl (by (with_reducible repeat (first | refine kdN ?_ _ | refine kdr ?_ | refine kal ?_ _)); refine blk_put (cs := #[.int .i64 ((rd_T25 l0 0).f0), .slice Ao35 x204001_1.length co35, .slice none 0 0]) ?_ 2 _ rfl; (with_reducible repeat (first | refine kdN ?_ _ | refine kdr ?_ | refine kal ?_ _)); refine blk_put (cs := #[.int .i64 ((rd_T25 l0 0).f0), .slice none 0 0, .slice none 0 0]) ?_ 1 _ rfl; (with_reducible repeat (first | refine kdN ?_ _ | refine kdr ?_ | refine kal ?_ _)); refine blk_put (cs := #[.int .i64 0, .slice none 0 0, .slice none 0 0]) ?_ 0 _ rfl; (with_reducible repeat (first | refine kdN ?_ _ | refine kdr ?_ | refine kal ?_ _)); exact BK201.out) Try.underlying25 rfl (by kernel_rfl)) rfl ?_
    exact ⟨_, _, rr, by (with_reducible repeat (first | apply Kd.R_alloc | apply Kd.R_drewN | apply Kd.R_drew)); exact Kd.R_mono (Kd.R_far (p := ⟨gb201, 2, none⟩) (Kd.R_far (p := ⟨gb201, 1, none⟩) (Kd.R_far (p := ⟨gb201, 0, none⟩) (Kd.R_types HO_204001.out BK201.out (by decide)) (fun _ hk => hk.2) (.int .i64 ((rd_T25 l0 0).f0))) (fun _ hk => hk.2) (.slice Ao35 x204001_1.length co35)) (fun _ hk => hk.2) (.slice Ao36 x204002_1.length co36)) (fun _ hk => hk.1), by (with_reducible repeat (first | apply Kd.N_alloc | apply Kd.N_drewN | apply Kd.N_drew)); exact Kd.N_mono (Kd.N_far (p := ⟨gb201, 2, none⟩) (Kd.N_far (p := ⟨gb201, 1, none⟩) (Kd.N_far (p := ⟨gb201, 0, none⟩) (Kd.N_mono HO_204002.out (fun k_ hk => (⟨hk, hk.2.2.1⟩ : _ ∧ k_ ≠ gb201))) (fun _ hk => hk.2) (.int .i64 ((rd_T25 l0 0).f0))) (fun _ hk => hk.2) (.slice Ao35 x204001_1.length co35)) (fun _ hk => hk.2) (.slice Ao36 x204002_1.length co36)) (fun _ hk => ⟨hk.1.1, hk.1.2.1⟩), bb HB⟩
   rw [if_pos c7] at H
   have c7b0 : decide (x13_1 < (l0.length : Int)) = true := decide_eq_true c7
   clear c7
   by_cases c8 : 0 ≤ x13_1
   rotate_left
   ·rw [if_neg c8] at H
    exact absurd H (by simp)
   rw [if_pos c8] at H
   have c8b0 : decide (0 ≤ x13_1) = true := decide_eq_true c8
   clear c8
   by_cases c9 : x13_1 < (l0.length : Int)
   rotate_left
   ·rw [if_neg c9] at H
    exact absurd H (by simp)
   rw [if_pos c9] at H
   have c9b0 : decide (x13_1 < (l0.length : Int)) = true := decide_eq_true c9
   clear c9
   obtain ⟨t206, A10, H⟩ := be H
   replace H : (if x204001_1.length + t206.length < 4398046511104 then ((prod_Moved.f k1 ((rd_T25 l0 x13_1).f2) x13_1 (wrap64 (x13_1 * (((rd_T25 l0 x13_1).f1).length : Int)))).bind fun t212 => (if x204002_1.length + t212.length < 1599289640401 then (prod_Of.l0 k1 l0 (l0.length : Int) (wrap64 (x13_1 + 1)) ((rd_T25 l0 0).f0) (x204001_1 ++ t206) (x204002_1 ++ t212)) else (none))) else (none)) = some (r1, r2, r3) := H
   by_cases c11 : x204001_1.length + t206.length < 4398046511104
   rotate_left
   ·rw [if_neg c11] at H
    exact absurd H (by simp)
   rw [if_pos c11] at H
   have LMc11 := Aside0.mk c11
   clear c11
   obtain ⟨y209, hy209⟩ : ∃ y_ : List (S66), y_ = (x204001_1 ++ t206) := ⟨_, rfl⟩
   replace H : ((prod_Moved.f k1 ((rd_T25 l0 x13_1).f2) x13_1 (wrap64 (x13_1 * (((rd_T25 l0 x13_1).f1).length : Int)))).bind fun t212 => (if x204002_1.length + t212.length < 1599289640401 then (prod_Of.l0 k1 l0 (l0.length : Int) (wrap64 (x13_1 + 1)) ((rd_T25 l0 0).f0) y209 (x204002_1 ++ t212)) else (none))) = some (r1, r2, r3) := by first | (rw [hy209]; with_reducible exact H) | (have H2_ := (Option.bind_some _ _).symm.trans H; rw [hy209]; with_reducible exact H2_) | (have H2_ := (Option.bind_some _ _).symm.trans H; with_reducible exact H2_) | with_reducible exact H | (rw [hy209]; exact H) | exact H
   have Ny209 := Aside0.mk hy209
   clear hy209
   obtain ⟨t212, A12, H⟩ := be H
   replace H : (if x204002_1.length + t212.length < 1599289640401 then (prod_Of.l0 k1 l0 (l0.length : Int) (wrap64 (x13_1 + 1)) ((rd_T25 l0 0).f0) y209 (x204002_1 ++ t212)) else (none)) = some (r1, r2, r3) := H
   by_cases c13 : x204002_1.length + t212.length < 1599289640401
   rotate_left
   ·rw [if_neg c13] at H
    exact absurd H (by simp)
   rw [if_pos c13] at H
   have LMc13 := Aside0.mk c13
   clear c13
   obtain ⟨y215, hy215⟩ : ∃ y_ : List (S64), y_ = (x204002_1 ++ t212) := ⟨_, rfl⟩
   replace H : (prod_Of.l0 k1 l0 (l0.length : Int) (wrap64 (x13_1 + 1)) ((rd_T25 l0 0).f0) y209 y215) = some (r1, r2, r3) := by first | (rw [hy215]; with_reducible exact H) | (have H2_ := (Option.bind_some _ _).symm.trans H; rw [hy215]; with_reducible exact H2_) | (have H2_ := (Option.bind_some _ _).symm.trans H; with_reducible exact H2_) | with_reducible exact H | (rw [hy215]; exact H) | exact H
   have Ny215 := Aside0.mk hy215
   clear hy215
   have H' := Aside0.mk H
   clear H
   have p204 : 0 ≤ (x13_1 : Int) := od
   have q204 : x13_1 < (l0.length : Int) := od
   obtain ⟨ad204, A204_1, c204_1, A204_2, c204_2, e204, hx204_0, hx204_1, hx204_2, hl204_1, hi204_1, hl204_2, hi204_2⟩ := at_T25 HR0.out x13_1 p204 q204
   obtain rfl : ad202 = ad204 := (by injection e204)
   replace hx204_0 := bcell HB.out hx204_0
   replace hx204_1 := bcell HB.out hx204_1
   replace hx204_2 := bcell HB.out hx204_2
   have HR204_1 := Aside0.mk hi204_1
   have HC204_1 := Aside0.mk hl204_1
   clear hi204_1 hl204_1
   have HR204_2 := Aside0.mk hi204_2
   have HC204_2 := Aside0.mk hl204_2
   clear hi204_2 hl204_2
   replace p204 := eq_true p204
   replace q204 := eq_true q204
   try go_wp2_with (first | ((with_reducible refine gate_dst (N := 5) rfl ?_); refine bx 5 rfl rfl #[.int .i64 0, .slice none 0 0, .slice none 0 0] 25 ?_; intro gb205 hg w14 hbox hb; have BK205 := Aside0.mk (hbox); have GW205 := ge HB hg; have GE205 := ge HB hg; have NB201_205 := nl BK201 hg; have NB205_201 := ng BK201 hg; have NB203_205 := nl BK203 hg; have NB205_203 := ng BK203 hg; replace HO_204001 := Aside0.mk (Kd.R_below (by (with_reducible repeat (first | apply Kd.R_alloc | apply Kd.R_drewN | apply Kd.R_drew)); exact HO_204001.out) hb); replace HO_204002 := Aside0.mk (Kd.N_below (Kd.N_elderB (by (with_reducible repeat (first | apply Kd.N_alloc | apply Kd.N_drewN | apply Kd.N_drew)); exact HO_204002.out) gb205 (Nat.le_of_eq hg.symm)) hb); replace BK201 := kb BK201 hb; replace BK203 := kb BK203 hb; replace HB := sb HB hb; clear hb hbox hg; have hnb15 := NB205_201.out; have hnc15 := NB201_205.out; have hnb16 := NB205_203.out; have hnc16 := NB203_205.out; obtain ⟨hcz17_0, hcz17_1, hcz17_2, hfz17_0, hfz17_1, hfz17_2⟩ := cf3 BK205.out))
   have n0_ : Aside0 (Kd.R k66 66 (((w14.setCell ⟨gb205, 0, none⟩ (.int .i64 ((rd_T25 l0 x13_1).f0))).setCell ⟨gb205, 1, none⟩ (.slice A204_1 ((rd_T25 l0 x13_1).f1).length c204_1)).setCell ⟨gb205, 2, none⟩ (.slice A204_2 ((rd_T25 l0 x13_1).f2).length c204_2)) w.heap.size (fun k_ => (w.heap.size ≤ k_)) u204001 x204001_1) := ⟨by (with_reducible repeat (first | apply Kd.R_alloc | apply Kd.R_drewN | apply Kd.R_drew)); exact Kd.R_mono (Kd.R_far (p := ⟨gb205, 2, none⟩) (Kd.R_far (p := ⟨gb205, 1, none⟩) (Kd.R_far (p := ⟨gb205, 0, none⟩) (Kd.R_types HO_204001.out BK205.out (by decide)) (fun _ hk => hk.2) (.int .i64 ((rd_T25 l0 x13_1).f0))) (fun _ hk => hk.2) (.slice A204_1 ((rd_T25 l0 x13_1).f1).length c204_1)) (fun _ hk => hk.2) (.slice A204_2 ((rd_T25 l0 x13_1).f2).length c204_2)) (fun _ hk => hk.1)⟩
   have n1_ : Aside0 (Kd.N k64 64 (((w14.setCell ⟨gb205, 0, none⟩ (.int .i64 ((rd_T25 l0 x13_1).f0))).setCell ⟨gb205, 1, none⟩ (.slice A204_1 ((rd_T25 l0 x13_1).f1).length c204_1)).setCell ⟨gb205, 2, none⟩ (.slice A204_2 ((rd_T25 l0 x13_1).f2).length c204_2)) w.heap.size (fun k_ => (w.heap.size ≤ k_) ∧ some k_ ≠ (u204001 : Value).ownBlock ∧ k_ ≠ gb201 ∧ k_ ≠ gb203 ∧ k_ ≠ gb205) u204002 x204002_1) := ⟨by (with_reducible repeat (first | apply Kd.N_alloc | apply Kd.N_drewN | apply Kd.N_drew)); exact Kd.N_mono (Kd.N_far (p := ⟨gb205, 2, none⟩) (Kd.N_far (p := ⟨gb205, 1, none⟩) (Kd.N_far (p := ⟨gb205, 0, none⟩) (Kd.N_mono HO_204002.out (fun k_ hk => (⟨hk, hk.2⟩ : _ ∧ k_ ≠ gb205))) (fun _ hk => hk.2) (.int .i64 ((rd_T25 l0 x13_1).f0))) (fun _ hk => hk.2) (.slice A204_1 ((rd_T25 l0 x13_1).f1).length c204_1)) (fun _ hk => hk.2) (.slice A204_2 ((rd_T25 l0 x13_1).f2).length c204_2)) (fun _ hk => ⟨hk.1.1.1, ⟨hk.1.1.2.1, ⟨hk.1.1.2.2.1, ⟨hk.1.1.2.2.2, hk.1.2⟩⟩⟩⟩)⟩
   have n2_ : Aside0 ((((w14.setCell ⟨gb205, 0, none⟩ (.int .i64 ((rd_T25 l0 x13_1).f0))).setCell ⟨gb205, 1, none⟩ (.slice A204_1 ((rd_T25 l0 x13_1).f1).length c204_1)).setCell ⟨gb205, 2, none⟩ (.slice A204_2 ((rd_T25 l0 x13_1).f2).length c204_2)).heap[gb201]? = some (.cells #[.int .i64 0, .slice none 0 0, .slice none 0 0] 25 (0, 0))) := ⟨by (with_reducible repeat (first | refine kdN ?_ _ | refine kdr ?_ | refine kal ?_ _)); refine blk_far ?_ NB201_205.out _; (with_reducible repeat (first | refine kdN ?_ _ | refine kdr ?_ | refine kal ?_ _)); refine blk_far ?_ NB201_205.out _; (with_reducible repeat (first | refine kdN ?_ _ | refine kdr ?_ | refine kal ?_ _)); refine blk_far ?_ NB201_205.out _; (with_reducible repeat (first | refine kdN ?_ _ | refine kdr ?_ | refine kal ?_ _)); exact BK201.out⟩
   have n3_ : Aside0 ((((w14.setCell ⟨gb205, 0, none⟩ (.int .i64 ((rd_T25 l0 x13_1).f0))).setCell ⟨gb205, 1, none⟩ (.slice A204_1 ((rd_T25 l0 x13_1).f1).length c204_1)).setCell ⟨gb205, 2, none⟩ (.slice A204_2 ((rd_T25 l0 x13_1).f2).length c204_2)).heap[gb203]? = some (.cells #[.int .i64 ((rd_T25 l0 0).f0), u204001, u204002] 25 (0, 0))) := ⟨by (with_reducible repeat (first | refine kdN ?_ _ | refine kdr ?_ | refine kal ?_ _)); refine blk_far ?_ NB203_205.out _; (with_reducible repeat (first | refine kdN ?_ _ | refine kdr ?_ | refine kal ?_ _)); refine blk_far ?_ NB203_205.out _; (with_reducible repeat (first | refine kdN ?_ _ | refine kdr ?_ | refine kal ?_ _)); refine blk_far ?_ NB203_205.out _; (with_reducible repeat (first | refine kdN ?_ _ | refine kdr ?_ | refine kal ?_ _)); exact BK203.out⟩
   have n4_ : Aside0 ((((w14.setCell ⟨gb205, 0, none⟩ (.int .i64 ((rd_T25 l0 x13_1).f0))).setCell ⟨gb205, 1, none⟩ (.slice A204_1 ((rd_T25 l0 x13_1).f1).length c204_1)).setCell ⟨gb205, 2, none⟩ (.slice A204_2 ((rd_T25 l0 x13_1).f2).length c204_2)).heap[gb205]? = some (.cells #[.int .i64 ((rd_T25 l0 x13_1).f0), .slice A204_1 ((rd_T25 l0 x13_1).f1).length c204_1, .slice A204_2 ((rd_T25 l0 x13_1).f2).length c204_2] 25 (0, 0))) := ⟨by (with_reducible repeat (first | refine kdN ?_ _ | refine kdr ?_ | refine kal ?_ _)); refine blk_put (cs := #[.int .i64 ((rd_T25 l0 x13_1).f0), .slice A204_1 ((rd_T25 l0 x13_1).f1).length c204_1, .slice none 0 0]) ?_ 2 _ rfl; (with_reducible repeat (first | refine kdN ?_ _ | refine kdr ?_ | refine kal ?_ _)); refine blk_put (cs := #[.int .i64 ((rd_T25 l0 x13_1).f0), .slice none 0 0, .slice none 0 0]) ?_ 1 _ rfl; (with_reducible repeat (first | refine kdN ?_ _ | refine kdr ?_ | refine kal ?_ _)); refine blk_put (cs := #[.int .i64 0, .slice none 0 0, .slice none 0 0]) ?_ 0 _ rfl; (with_reducible repeat (first | refine kdN ?_ _ | refine kdr ?_ | refine kal ?_ _)); exact BK205.out⟩
   have n5_ : Aside0 (Below w.heap.size w (((w14.setCell ⟨gb205, 0, none⟩ (.int .i64 ((rd_T25 l0 x13_1).f0))).setCell ⟨gb205, 1, none⟩ (.slice A204_1 ((rd_T25 l0 x13_1).f1).length c204_1)).setCell ⟨gb205, 2, none⟩ (.slice A204_2 ((rd_T25 l0 x13_1).f2).length c204_2))) := ⟨bb HB⟩
   (try clear HO_204001)
   (try clear HO_204002)
   (try clear BK201)
   (try clear BK203)
   (try clear BK205)
   (try clear HB)
   generalize (((w14.setCell ⟨gb205, 0, none⟩ (.int .i64 ((rd_T25 l0 x13_1).f0))).setCell ⟨gb205, 1, none⟩ (.slice A204_1 ((rd_T25 l0 x13_1).f1).length c204_1)).setCell ⟨gb205, 2, none⟩ (.slice A204_2 ((rd_T25 l0 x13_1).f2).length c204_2)) = w18 at n0_ n1_ n2_ n3_ n4_ n5_ ⊢
   have HO_204001 := n0_
   have HO_204002 := n1_
   have BK201 := n2_
   have BK203 := n3_
   have BK205 := n4_
   have HB := n5_
   clear n0_ n1_ n2_ n3_ n4_ n5_
   replace HO_204001 := Aside0.mk (Kd.R_drew HO_204001.out)
   replace HO_204002 := Aside0.mk (Kd.N_drew HO_204002.out)
   replace BK201 := Aside0.mk (kdr BK201.out)
   replace BK203 := Aside0.mk (kdr BK203.out)
   replace BK205 := Aside0.mk (kdr BK205.out)
   replace HB := Aside0.mk (bd1 HB.out)
   refine start_ (n := 9) (S := fun w' => w'.cell? ⟨gb203, 0, none⟩ = some (.int .i64 ((rd_T25 l0 0).f0)) ∧ w'.cell? ⟨gb203, 1, none⟩ = some (u204001) ∧ w'.cell? ⟨gb203, 2, none⟩ = some (u204002) ∧ w'.cell? ⟨gb205, 0, none⟩ = some (.int .i64 ((rd_T25 l0 x13_1).f0)) ∧ w'.cell? ⟨gb205, 1, none⟩ = some (.slice A204_1 ((rd_T25 l0 x13_1).f1).length c204_1) ∧ w'.cell? ⟨gb205, 2, none⟩ = some (.slice A204_2 ((rd_T25 l0 x13_1).f2).length c204_2)) (ds := [8]) #[false, false, false, false, false, false, false, false, false] (by kernel_rfl) rfl rfl ⟨(blk_cell BK203.out 0).trans rfl, (blk_cell BK203.out 1).trans rfl, (blk_cell BK203.out 2).trans rfl, (blk_cell BK205.out 0).trans rfl, (blk_cell BK205.out 1).trans rfl, (blk_cell BK205.out 2).trans rfl⟩ (fun hHeld => ?_); refine with_tabW prod_Of.tab5 prod_Of.bits5 (fun HT_ HW_ => ?_)
   generalize w18.drew = w19 at HO_204001 HO_204002 BK201 BK203 BK205 HB hHeld ⊢
   refine pu (i := 0) (N := some 18) #[true, false, false, false, false, false, false, false, false] rfl rfl (any_of HT_.out (by kernel_rfl)) ?_
   refine pu (i := 2) (N := some 20) #[true, false, true, false, false, false, false, false, false] rfl rfl (any_of HT_.out (by kernel_rfl)) ?_
   refine pu (i := 4) (N := some 22) #[true, false, true, false, true, false, false, false, false] rfl rfl (any_of HT_.out (by kernel_rfl)) ?_
   refine tk (i := 1) (N := some 19) #[true, true, true, false, true, false, false, false, false] rfl rfl (take_ofW HT_.out HW_.out (by kernel_rfl)) hHeld ?_
   refine tk (i := 3) (N := some 21) #[true, true, true, true, true, false, false, false, false] rfl rfl (take_ofW HT_.out HW_.out (by kernel_rfl)) hHeld ?_
   refine one_ (i := 5) (N := some 23) #[true, true, true, true, true, true, false, false, false] rfl rfl (one_of HT_.out (by kernel_rfl)) (by decide) (fun K hK => ?_)
   refine gO Try.func45 #[.slice A204_1 ((rd_T25 l0 x13_1).f1).length c204_1, .int .i64 x13_1] (by rfl) rfl rfl ?_
   with_reducible refine (prod_variables.calls k1 _ _ ((rd_T25 l0 x13_1).f1) x13_1 t206 _ ?side1 ?side2 A10.out).mono ?_
   (case side1 => exact cb HR204_1 HB)
   (case side2 => exact HC204_1.out)
   rintro e w20 ⟨v207, rfl, ho0, hb⟩
   refine ⟨_, rfl, ?_⟩
   have HO208 := Aside0.mk (Kd.R_lower (Kd.R_new' (Kd.R_newM (M := fun k_ => (w.heap.size ≤ k_)) ho0 (bsz (bb HB)) (fun k_ h_ => h_)) (Kd.R_lt (by (with_reducible repeat (first | apply Kd.R_alloc | apply Kd.R_drewN | apply Kd.R_drew)); exact HO_204001.out))) (bsz (bb HB)))
   replace HO_204001 := Aside0.mk (Kd.R_elder' (by (with_reducible repeat (first | apply Kd.R_alloc | apply Kd.R_drewN | apply Kd.R_drew)); exact HO_204001.out) (Kd.R_base ho0) hb)
   replace HO_204002 := Aside0.mk (Kd.N_elder' (by (with_reducible repeat (first | apply Kd.N_alloc | apply Kd.N_drewN | apply Kd.N_drew)); exact HO_204002.out) (Kd.R_base ho0) hb)
   replace BK201 := kb BK201 hb
   replace BK203 := kb BK203 hb
   replace BK205 := kb BK205 hb
   replace HB := sb HB hb
   (try clear hb)
   (try clear hb2)
   (try clear hk)
   (try clear hi)
   (try clear ho0)
   obtain ⟨Ao22, co22, eo22⟩ := Kd.R_slice HO208.out
   (first | subst eo22 | (injection eo22 with f1_ f2_ f3_; have f4_ := f1_.symm; have f5_ := f3_.symm; clear f1_ f2_ f3_; subst f4_; subst f5_))
   refine hK.out _ _ ⟨(blk_cell BK203.out 0).trans rfl, (blk_cell BK203.out 1).trans rfl, (blk_cell BK203.out 2).trans rfl, (blk_cell BK205.out 0).trans rfl, (blk_cell BK205.out 1).trans rfl, (blk_cell BK205.out 2).trans rfl⟩ (fun hHeld => ?_)
   clear hK K
   refine nm 23 ?_
   refine one_ (i := 6) (N := some 24) #[true, true, true, true, true, true, true, false, false] rfl rfl (one_of HT_.out (by kernel_rfl)) (by decide) (fun K hK => ?_)
   refine Kd.R_append_rows_step k66 (w0 := w) w.heap.size (by rfl) (.tmp 19) (.tmp 23) 22 66 (.agg #[(.string ⟨#[]⟩), (.int .i64 0), (.int .i64 0)]) 32 rfl Try.underlying22 info66 rfl (by decide) (by omega) u204001 x204001_1 t206 _ _ _ (fun k_ => (w.heap.size ≤ k_) ∧ some k_ ≠ (.slice Ao22 t206.length co22 : Value).ownBlock) (fun _ => False) rfl rfl ?aO ?aR (fun _ _ h => h) (fun _ h => h.elim) ?aF ?aB ?aS ?aL ?_
   (case aR => repeat (first | exact (Kd.R_reads' HO208.out).2.2 | with_reducible first | apply Kd.C_alloc | apply Kd.C_drewN | apply Kd.C_drew))
   (case aB => exact (bb HB))
   (case aF => exact (fun k_ hk => ⟨(Nat.le_trans (bsz (bb HB)) hk), Kd.fresh' (Kd.R_lt (by (with_reducible repeat (first | apply Kd.R_alloc | apply Kd.R_drewN | apply Kd.R_drew)); exact HO208.out)) k_ hk⟩))
   (case aO => exact (by (with_reducible repeat (first | apply Kd.R_alloc | apply Kd.R_drewN | apply Kd.R_drew)); exact HO_204001.out))
   (case aS => exact (bsz (bb HB)))
   (case aL => have := LMc11.out; omega)
   intro v210 w21 ho hb hg hat
   rw [← Ny209.out] at ho
   have HO211 := Aside0.mk (ho)
   replace HO_204002 := Aside0.mk (Kd.N_afterv (ok := (fun k_ => (w.heap.size ≤ k_) ∧ some k_ ≠ (.slice Ao22 t206.length co22 : Value).ownBlock ∧ k_ ≠ gb201 ∧ k_ ≠ gb203 ∧ k_ ≠ gb205)) (by (with_reducible repeat (first | apply Kd.N_alloc | apply Kd.N_drewN | apply Kd.N_drew)); exact Kd.N_mono HO_204002.out (fun _ hk => ⟨⟨hk.1.1, ⟨hk.2, ⟨hk.1.2.2.1, ⟨hk.1.2.2.2.1, hk.1.2.2.2.2⟩⟩⟩⟩, hk.1.2.1⟩)) hg hat)
   replace BK201 := Aside0.mk (blk_grown (g := gb201) (o := .cells #[.int .i64 0, .slice none 0 0, .slice none 0 0] 25 (0, 0)) (by (with_reducible repeat (first | refine kdN ?_ _ | refine kdr ?_ | refine kal ?_ _)); exact BK201.out) hg (Kd.R_ne HO_204001.out BK201.out (by decide)))
   replace BK203 := Aside0.mk (blk_grown (g := gb203) (o := .cells #[.int .i64 ((rd_T25 l0 0).f0), u204001, u204002] 25 (0, 0)) (by (with_reducible repeat (first | refine kdN ?_ _ | refine kdr ?_ | refine kal ?_ _)); exact BK203.out) hg (Kd.R_ne HO_204001.out BK203.out (by decide)))
   replace BK205 := Aside0.mk (blk_grown (g := gb205) (o := .cells #[.int .i64 ((rd_T25 l0 x13_1).f0), .slice A204_1 ((rd_T25 l0 x13_1).f1).length c204_1, .slice A204_2 ((rd_T25 l0 x13_1).f2).length c204_2] 25 (0, 0)) (by (with_reducible repeat (first | refine kdN ?_ _ | refine kdr ?_ | refine kal ?_ _)); exact BK205.out) hg (Kd.R_ne HO_204001.out BK205.out (by decide)))
   replace HO208 := Aside0.mk (Kd.R_after (ok := (fun k_ => (w.heap.size ≤ k_))) (by (with_reducible repeat (first | apply Kd.R_alloc | apply Kd.R_drewN | apply Kd.R_drew)); exact Kd.R_mono HO208.out (fun _ hk => ⟨hk.1.1, hk.2⟩)) hg hat)
   replace HB := Aside0.mk (hb)
   clear HO_204001
   clear ho hb hg hat
   obtain ⟨Ao23, co23, eo23⟩ := Kd.R_slice HO211.out
   (first | subst eo23 | (injection eo23 with f1_ f2_ f3_; have f4_ := f1_.symm; have f5_ := f3_.symm; clear f1_ f2_ f3_; subst f4_; subst f5_))
   refine hK.out _ _ ⟨(blk_cell BK203.out 0).trans rfl, (blk_cell BK203.out 1).trans rfl, (blk_cell BK203.out 2).trans rfl, (blk_cell BK205.out 0).trans rfl, (blk_cell BK205.out 1).trans rfl, (blk_cell BK205.out 2).trans rfl⟩ (fun hHeld => ?_)
   clear hK K
   refine nm 24 ?_
   refine pu (i := 7) (N := some 25) #[true, true, true, true, true, true, true, true, false] rfl rfl (any_of HT_.out (by kernel_rfl)) ?_
   refine last_ (i := 8) (N := none) #[true, true, true, true, true, true, true, true, true] rfl rfl (one_of HT_.out (by kernel_rfl)) (by decide) (fun K hK => ?_)
   have hs24 : w21.cell? ⟨gb203, 1, none⟩ = some (u204001) := (blk_cell BK203.out 1).trans rfl
   have hfs24 := blk_frozen BK203.out 1
   have hns24_0 := NB201_203.out
   have hns24_2 := NB205_203.out
   have hms24_0 := NB203_201.out
   have hms24_2 := NB203_205.out
   refine skip_ (w1 := ?_) (by rfl) rfl ?_ ?_
   rotate_left
   ·go_simp
    rfl
   refine hK.out _ _ ?_
   clear hK K
   refine done_ (done_of HT_.out (by kernel_rfl)) ?_
   try go_wp2
   have n0_ : Aside0 (Kd.N k64 64 (w21.setCell ⟨gb203, 1, none⟩ (.slice Ao23 y209.length co23)) w.heap.size (fun k_ => (w.heap.size ≤ k_) ∧ some k_ ≠ (.slice Ao22 t206.length co22 : Value).ownBlock ∧ some k_ ≠ (.slice Ao23 y209.length co23 : Value).ownBlock ∧ k_ ≠ gb201 ∧ k_ ≠ gb203 ∧ k_ ≠ gb205) u204002 x204002_1) := ⟨by (with_reducible repeat (first | apply Kd.N_alloc | apply Kd.N_drewN | apply Kd.N_drew)); exact Kd.N_mono (Kd.N_far (p := ⟨gb203, 1, none⟩) (Kd.N_mono HO_204002.out (fun k_ hk => (⟨hk, hk.1.2.2.2.1⟩ : _ ∧ k_ ≠ gb203))) (fun _ hk => hk.2) (.slice Ao23 y209.length co23)) (fun _ hk => ⟨hk.1.1.1, ⟨hk.1.1.2.1, ⟨hk.1.2, ⟨hk.1.1.2.2.1, ⟨hk.1.1.2.2.2.1, hk.1.1.2.2.2.2⟩⟩⟩⟩⟩)⟩
   have n1_ : Aside0 (Kd.R k66 66 (w21.setCell ⟨gb203, 1, none⟩ (.slice Ao23 y209.length co23)) w.heap.size (fun k_ => (w.heap.size ≤ k_) ∧ some k_ ≠ (.slice Ao23 y209.length co23 : Value).ownBlock) (.slice Ao22 t206.length co22) t206) := ⟨by (with_reducible repeat (first | apply Kd.R_alloc | apply Kd.R_drewN | apply Kd.R_drew)); exact Kd.R_mono (Kd.R_far (p := ⟨gb203, 1, none⟩) (Kd.R_types HO208.out BK203.out (by decide)) (fun _ hk => hk.2) (.slice Ao23 y209.length co23)) (fun _ hk => ⟨hk.1.1, hk.1.2⟩)⟩
   have n2_ : Aside0 (Kd.R k66 66 (w21.setCell ⟨gb203, 1, none⟩ (.slice Ao23 y209.length co23)) w.heap.size (fun k_ => (w.heap.size ≤ k_) ∧ some k_ ≠ (.slice Ao22 t206.length co22 : Value).ownBlock) (.slice Ao23 y209.length co23) y209) := ⟨by (with_reducible repeat (first | apply Kd.R_alloc | apply Kd.R_drewN | apply Kd.R_drew)); exact Kd.R_mono (Kd.R_far (p := ⟨gb203, 1, none⟩) (Kd.R_types HO211.out BK203.out (by decide)) (fun _ hk => hk.2) (.slice Ao23 y209.length co23)) (fun _ hk => ⟨hk.1.1, hk.1.2⟩)⟩
   have n3_ : Aside0 ((w21.setCell ⟨gb203, 1, none⟩ (.slice Ao23 y209.length co23)).heap[gb201]? = some (.cells #[.int .i64 0, .slice none 0 0, .slice none 0 0] 25 (0, 0))) := ⟨by (with_reducible repeat (first | refine kdN ?_ _ | refine kdr ?_ | refine kal ?_ _)); refine blk_far ?_ NB201_203.out _; (with_reducible repeat (first | refine kdN ?_ _ | refine kdr ?_ | refine kal ?_ _)); exact BK201.out⟩
   have n4_ : Aside0 ((w21.setCell ⟨gb203, 1, none⟩ (.slice Ao23 y209.length co23)).heap[gb203]? = some (.cells #[.int .i64 ((rd_T25 l0 0).f0), .slice Ao23 y209.length co23, u204002] 25 (0, 0))) := ⟨by (with_reducible repeat (first | refine kdN ?_ _ | refine kdr ?_ | refine kal ?_ _)); refine blk_put (cs := #[.int .i64 ((rd_T25 l0 0).f0), u204001, u204002]) ?_ 1 _ rfl; (with_reducible repeat (first | refine kdN ?_ _ | refine kdr ?_ | refine kal ?_ _)); exact BK203.out⟩
   have n5_ : Aside0 ((w21.setCell ⟨gb203, 1, none⟩ (.slice Ao23 y209.length co23)).heap[gb205]? = some (.cells #[.int .i64 ((rd_T25 l0 x13_1).f0), .slice A204_1 ((rd_T25 l0 x13_1).f1).length c204_1, .slice A204_2 ((rd_T25 l0 x13_1).f2).length c204_2] 25 (0, 0))) := ⟨by (with_reducible repeat (first | refine kdN ?_ _ | refine kdr ?_ | refine kal ?_ _)); refine blk_far ?_ NB205_203.out _; (with_reducible repeat (first | refine kdN ?_ _ | refine kdr ?_ | refine kal ?_ _)); exact BK205.out⟩
   have n6_ : Aside0 (Below w.heap.size w (w21.setCell ⟨gb203, 1, none⟩ (.slice Ao23 y209.length co23))) := ⟨bb HB⟩
   (try clear HO_204002)
   (try clear HO208)
   (try clear HO211)
   (try clear BK201)
   (try clear BK203)
   (try clear BK205)
   (try clear HB)
   generalize (w21.setCell ⟨gb203, 1, none⟩ (.slice Ao23 y209.length co23)) = w25 at n0_ n1_ n2_ n3_ n4_ n5_ n6_ ⊢
   have HO_204002 := n0_
   have HO208 := n1_
   have HO211 := n2_
   have BK201 := n3_
   have BK203 := n4_
   have BK205 := n5_
   have HB := n6_
   clear n0_ n1_ n2_ n3_ n4_ n5_ n6_
   replace HO_204002 := Aside0.mk (Kd.N_drew HO_204002.out)
   replace HO208 := Aside0.mk (Kd.R_drew HO208.out)
   replace HO211 := Aside0.mk (Kd.R_drew HO211.out)
   replace BK201 := Aside0.mk (kdr BK201.out)
   replace BK203 := Aside0.mk (kdr BK203.out)
   replace BK205 := Aside0.mk (kdr BK205.out)
   replace HB := Aside0.mk (bd1 HB.out)
   refine start_ (n := 14) (S := fun w' => w'.cell? ⟨gb203, 0, none⟩ = some (.int .i64 ((rd_T25 l0 0).f0)) ∧ w'.cell? ⟨gb203, 1, none⟩ = some (.slice Ao23 y209.length co23) ∧ w'.cell? ⟨gb203, 2, none⟩ = some (u204002) ∧ w'.cell? ⟨gb205, 0, none⟩ = some (.int .i64 ((rd_T25 l0 x13_1).f0)) ∧ w'.cell? ⟨gb205, 1, none⟩ = some (.slice A204_1 ((rd_T25 l0 x13_1).f1).length c204_1) ∧ w'.cell? ⟨gb205, 2, none⟩ = some (.slice A204_2 ((rd_T25 l0 x13_1).f2).length c204_2)) (ds := [13]) #[false, false, false, false, false, false, false, false, false, false, false, false, false, false] (by kernel_rfl) rfl rfl ⟨(blk_cell BK203.out 0).trans rfl, (blk_cell BK203.out 1).trans rfl, (blk_cell BK203.out 2).trans rfl, (blk_cell BK205.out 0).trans rfl, (blk_cell BK205.out 1).trans rfl, (blk_cell BK205.out 2).trans rfl⟩ (fun hHeld => ?_); refine with_tabW prod_Of.tab6 prod_Of.bits6 (fun HT_ HW_ => ?_)
   generalize w25.drew = w26 at HO_204002 HO208 HO211 BK201 BK203 BK205 HB hHeld ⊢
   refine pu (i := 0) (N := some 26) #[true, false, false, false, false, false, false, false, false, false, false, false, false, false] rfl rfl (any_of HT_.out (by kernel_rfl)) ?_
   refine pu (i := 2) (N := some 28) #[true, false, true, false, false, false, false, false, false, false, false, false, false, false] rfl rfl (any_of HT_.out (by kernel_rfl)) ?_
   refine pu (i := 4) (N := some 30) #[true, false, true, false, true, false, false, false, false, false, false, false, false, false] rfl rfl (any_of HT_.out (by kernel_rfl)) ?_
   refine pu (i := 5) (N := some 31) #[true, false, true, false, true, true, false, false, false, false, false, false, false, false] rfl rfl (any_of HT_.out (by kernel_rfl)) ?_
   refine pu (i := 6) (N := some 32) #[true, false, true, false, true, true, true, false, false, false, false, false, false, false] rfl rfl (any_of HT_.out (by kernel_rfl)) ?_
   refine tk (i := 1) (N := some 27) #[true, true, true, false, true, true, true, false, false, false, false, false, false, false] rfl rfl (take_ofW HT_.out HW_.out (by kernel_rfl)) hHeld ?_
   refine tk (i := 3) (N := some 29) #[true, true, true, true, true, true, true, false, false, false, false, false, false, false] rfl rfl (take_ofW HT_.out HW_.out (by kernel_rfl)) hHeld ?_
   refine tk (i := 7) (N := some 33) #[true, true, true, true, true, true, true, true, false, false, false, false, false, false] rfl rfl (take_ofW HT_.out HW_.out (by kernel_rfl)) hHeld ?_
   refine pu (i := 8) (N := some 34) #[true, true, true, true, true, true, true, true, true, false, false, false, false, false] rfl rfl (any_of HT_.out (by kernel_rfl)) ?_
   refine pu (i := 9) (N := some 35) #[true, true, true, true, true, true, true, true, true, true, false, false, false, false] rfl rfl (any_of HT_.out (by kernel_rfl)) ?_
   refine one_ (i := 10) (N := some 36) #[true, true, true, true, true, true, true, true, true, true, true, false, false, false] rfl rfl (one_of HT_.out (by kernel_rfl)) (by decide) (fun K hK => ?_)
   refine gO Try.func64 #[.slice A204_2 ((rd_T25 l0 x13_1).f2).length c204_2, .int .i64 x13_1, .int .i64 (wrap64 (x13_1 * (((rd_T25 l0 x13_1).f1).length : Int)))] (by rfl) rfl rfl ?_
   with_reducible refine (prod_Moved.calls k1 _ _ ((rd_T25 l0 x13_1).f2) x13_1 (wrap64 (x13_1 * (((rd_T25 l0 x13_1).f1).length : Int))) t212 _ ?side1 ?side2 A12.out).mono ?_
   (case side1 => exact cb HR204_2 HB)
   (case side2 => exact HC204_2.out)
   rintro e w27 ⟨v213, rfl, ho0, hb⟩
   refine ⟨_, rfl, ?_⟩
   have HO214 := Aside0.mk (Kd.N_lower (Kd.N_mono (ok' := fun k_ => (w.heap.size ≤ k_) ∧ some k_ ≠ (u204002 : Value).ownBlock ∧ some k_ ≠ (.slice Ao22 t206.length co22 : Value).ownBlock ∧ some k_ ≠ (.slice Ao23 y209.length co23 : Value).ownBlock ∧ k_ ≠ gb201 ∧ k_ ≠ gb203 ∧ k_ ≠ gb205) (Kd.R_N (Kd.R_bound ho0)) (fun k_ hk_ => ⟨(Nat.le_trans (bsz (bb HB)) hk_.2.1), (Kd.fresh' (Kd.N_lt (by (with_reducible repeat (first | apply Kd.N_alloc | apply Kd.N_drewN | apply Kd.N_drew)); exact HO_204002.out)) k_ hk_.2.1), (Kd.fresh' (Kd.R_lt (by (with_reducible repeat (first | apply Kd.R_alloc | apply Kd.R_drewN | apply Kd.R_drew)); exact HO208.out)) k_ hk_.2.1), (Kd.fresh' (Kd.R_lt (by (with_reducible repeat (first | apply Kd.R_alloc | apply Kd.R_drewN | apply Kd.R_drew)); exact HO211.out)) k_ hk_.2.1), (Kd.freshB (g := gb201) (o := .cells #[.int .i64 0, .slice none 0 0, .slice none 0 0] 25 (0, 0)) (by (with_reducible repeat (first | refine kdN ?_ _ | refine kdr ?_ | refine kal ?_ _)); exact BK201.out) k_ hk_.2.1), (Kd.freshB (g := gb203) (o := .cells #[.int .i64 ((rd_T25 l0 0).f0), .slice Ao23 y209.length co23, u204002] 25 (0, 0)) (by (with_reducible repeat (first | refine kdN ?_ _ | refine kdr ?_ | refine kal ?_ _)); exact BK203.out) k_ hk_.2.1), (Kd.freshB (g := gb205) (o := .cells #[.int .i64 ((rd_T25 l0 x13_1).f0), .slice A204_1 ((rd_T25 l0 x13_1).f1).length c204_1, .slice A204_2 ((rd_T25 l0 x13_1).f2).length c204_2] 25 (0, 0)) (by (with_reducible repeat (first | refine kdN ?_ _ | refine kdr ?_ | refine kal ?_ _)); exact BK205.out) k_ hk_.2.1)⟩)) (bsz (bb HB)))
   replace HO_204002 := Aside0.mk (Kd.N_elder' (by (with_reducible repeat (first | apply Kd.N_alloc | apply Kd.N_drewN | apply Kd.N_drew)); exact HO_204002.out) (by first | exact Kd.N_base ho0 | exact Kd.R_base ho0) hb)
   replace HO208 := Aside0.mk (Kd.R_below (by (with_reducible repeat (first | apply Kd.R_alloc | apply Kd.R_drewN | apply Kd.R_drew)); exact HO208.out) hb)
   replace HO211 := Aside0.mk (Kd.R_below (by (with_reducible repeat (first | apply Kd.R_alloc | apply Kd.R_drewN | apply Kd.R_drew)); exact HO211.out) hb)
   replace BK201 := kb BK201 hb
   replace BK203 := kb BK203 hb
   replace BK205 := kb BK205 hb
   replace HB := sb HB hb
   (try clear hb)
   (try clear hb2)
   (try clear hk)
   (try clear hi)
   (try clear ho0)
   obtain ⟨Ao29, co29, eo29⟩ := Kd.N_slice HO214.out
   (first | subst eo29 | (injection eo29 with f1_ f2_ f3_; have f4_ := f1_.symm; have f5_ := f3_.symm; clear f1_ f2_ f3_; subst f4_; subst f5_))
   refine hK.out _ _ ⟨(blk_cell BK203.out 0).trans rfl, (blk_cell BK203.out 1).trans rfl, (blk_cell BK203.out 2).trans rfl, (blk_cell BK205.out 0).trans rfl, (blk_cell BK205.out 1).trans rfl, (blk_cell BK205.out 2).trans rfl⟩ (fun hHeld => ?_)
   clear hK K
   refine nm 36 ?_
   refine one_ (i := 11) (N := some 37) #[true, true, true, true, true, true, true, true, true, true, true, true, false, false] rfl rfl (one_of HT_.out (by kernel_rfl)) (by decide) (fun K hK => ?_)
   refine Kd.N_append_rows_step k64 (w0 := w) w.heap.size (by rfl) (.tmp 27) (.tmp 36) 23 64 (.agg #[(.int .i64 0), (.int .i64 0), (.slice none 0 0), (.slice none 0 0), (.slice none 0 0)]) 88 rfl Try.underlying23 info64 rfl (by decide) (by omega) u204002 x204002_1 t212 _ _ _ (fun k_ => (w.heap.size ≤ k_) ∧ some k_ ≠ (.slice Ao22 t206.length co22 : Value).ownBlock ∧ some k_ ≠ (.slice Ao23 y209.length co23 : Value).ownBlock ∧ k_ ≠ gb201 ∧ k_ ≠ gb203 ∧ k_ ≠ gb205) (fun k_ => ((fun k_ => (w.heap.size ≤ k_) ∧ some k_ ≠ (.slice Ao22 t206.length co22 : Value).ownBlock ∧ some k_ ≠ (.slice Ao23 y209.length co23 : Value).ownBlock ∧ k_ ≠ gb201 ∧ k_ ≠ gb203 ∧ k_ ≠ gb205)) k_ ∧ some k_ ≠ (u204002 : Value).ownBlock) rfl rfl ?aO ?aR (fun _ hk => hk) ?aF ?aB ?aS ?aL ?_
   (case aR => exact (by skip; exact Kd.N_F (Kd.N_mono (ok' := (fun k_ => ((fun k_ => (w.heap.size ≤ k_) ∧ some k_ ≠ (.slice Ao22 t206.length co22 : Value).ownBlock ∧ some k_ ≠ (.slice Ao23 y209.length co23 : Value).ownBlock ∧ k_ ≠ gb201 ∧ k_ ≠ gb203 ∧ k_ ≠ gb205)) k_ ∧ some k_ ≠ (u204002 : Value).ownBlock)) (HO214.out) (fun k_ hk => ⟨⟨hk.1, ⟨hk.2.2.1, ⟨hk.2.2.2.1, ⟨hk.2.2.2.2.1, ⟨hk.2.2.2.2.2.1, hk.2.2.2.2.2.2⟩⟩⟩⟩⟩, hk.2.1⟩))))
   (case aB => exact (bb HB))
   (case aF => exact (fun k_ hk => ⟨(Nat.le_trans (bsz (bb HB)) hk), Kd.fresh' (Kd.R_lt (by (with_reducible repeat (first | apply Kd.R_alloc | apply Kd.R_drewN | apply Kd.R_drew)); exact HO208.out)) k_ hk, Kd.fresh' (Kd.R_lt (by (with_reducible repeat (first | apply Kd.R_alloc | apply Kd.R_drewN | apply Kd.R_drew)); exact HO211.out)) k_ hk, Kd.freshB (g := gb201) (o := .cells #[.int .i64 0, .slice none 0 0, .slice none 0 0] 25 (0, 0)) (by (with_reducible repeat (first | refine kdN ?_ _ | refine kdr ?_ | refine kal ?_ _)); exact BK201.out) k_ hk, Kd.freshB (g := gb203) (o := .cells #[.int .i64 ((rd_T25 l0 0).f0), .slice Ao23 y209.length co23, u204002] 25 (0, 0)) (by (with_reducible repeat (first | refine kdN ?_ _ | refine kdr ?_ | refine kal ?_ _)); exact BK203.out) k_ hk, Kd.freshB (g := gb205) (o := .cells #[.int .i64 ((rd_T25 l0 x13_1).f0), .slice A204_1 ((rd_T25 l0 x13_1).f1).length c204_1, .slice A204_2 ((rd_T25 l0 x13_1).f2).length c204_2] 25 (0, 0)) (by (with_reducible repeat (first | refine kdN ?_ _ | refine kdr ?_ | refine kal ?_ _)); exact BK205.out) k_ hk⟩))
   (case aO => exact (by (with_reducible repeat (first | apply Kd.N_alloc | apply Kd.N_drewN | apply Kd.N_drew)); exact Kd.N_mono HO_204002.out (fun _ hk => ⟨hk.1.1, ⟨hk.1.2.1, ⟨hk.1.2.2.1, ⟨hk.1.2.2.2.1, ⟨hk.1.2.2.2.2.1, hk.1.2.2.2.2.2⟩⟩⟩⟩⟩)))
   (case aS => exact (bsz (bb HB)))
   (case aL => have := LMc13.out; omega)
   intro v216 w28 ho hb hg hat
   rw [← Ny215.out] at ho
   have HO217 := Aside0.mk (ho)
   replace BK201 := Aside0.mk (blk_grown (g := gb201) (o := .cells #[.int .i64 0, .slice none 0 0, .slice none 0 0] 25 (0, 0)) (by (with_reducible repeat (first | refine kdN ?_ _ | refine kdr ?_ | refine kal ?_ _)); exact BK201.out) hg (Kd.N_ne HO_204002.out BK201.out (by decide)))
   replace BK203 := Aside0.mk (blk_grown (g := gb203) (o := .cells #[.int .i64 ((rd_T25 l0 0).f0), .slice Ao23 y209.length co23, u204002] 25 (0, 0)) (by (with_reducible repeat (first | refine kdN ?_ _ | refine kdr ?_ | refine kal ?_ _)); exact BK203.out) hg (Kd.N_ne HO_204002.out BK203.out (by decide)))
   replace BK205 := Aside0.mk (blk_grown (g := gb205) (o := .cells #[.int .i64 ((rd_T25 l0 x13_1).f0), .slice A204_1 ((rd_T25 l0 x13_1).f1).length c204_1, .slice A204_2 ((rd_T25 l0 x13_1).f2).length c204_2] 25 (0, 0)) (by (with_reducible repeat (first | refine kdN ?_ _ | refine kdr ?_ | refine kal ?_ _)); exact BK205.out) hg (Kd.N_ne HO_204002.out BK205.out (by decide)))
   replace HO208 := Aside0.mk (Kd.R_over' (by (with_reducible repeat (first | apply Kd.R_alloc | apply Kd.R_drewN | apply Kd.R_drew)); exact HO208.out) (Kd.N_typed (by (with_reducible repeat (first | apply Kd.N_alloc | apply Kd.N_drewN | apply Kd.N_drew)); exact HO_204002.out)) (by decide) hg)
   replace HO211 := Aside0.mk (Kd.R_over' (by (with_reducible repeat (first | apply Kd.R_alloc | apply Kd.R_drewN | apply Kd.R_drew)); exact HO211.out) (Kd.N_typed (by (with_reducible repeat (first | apply Kd.N_alloc | apply Kd.N_drewN | apply Kd.N_drew)); exact HO_204002.out)) (by decide) hg)
   replace HO214 := Aside0.mk (Kd.N_afterv (ok := (fun k_ => (w.heap.size ≤ k_) ∧ some k_ ≠ (.slice Ao22 t206.length co22 : Value).ownBlock ∧ some k_ ≠ (.slice Ao23 y209.length co23 : Value).ownBlock ∧ k_ ≠ gb201 ∧ k_ ≠ gb203 ∧ k_ ≠ gb205)) (by (with_reducible repeat (first | apply Kd.N_alloc | apply Kd.N_drewN | apply Kd.N_drew)); exact Kd.N_mono HO214.out (fun _ hk => ⟨⟨hk.1, ⟨hk.2.2.1, ⟨hk.2.2.2.1, ⟨hk.2.2.2.2.1, ⟨hk.2.2.2.2.2.1, hk.2.2.2.2.2.2⟩⟩⟩⟩⟩, hk.2.1⟩)) hg hat)
   replace HB := Aside0.mk (hb)
   clear HO_204002
   clear ho hb hg hat
   obtain ⟨Ao30, co30, eo30⟩ := Kd.N_slice HO217.out
   (first | subst eo30 | (injection eo30 with f1_ f2_ f3_; have f4_ := f1_.symm; have f5_ := f3_.symm; clear f1_ f2_ f3_; subst f4_; subst f5_))
   refine hK.out _ _ ⟨(blk_cell BK203.out 0).trans rfl, (blk_cell BK203.out 1).trans rfl, (blk_cell BK203.out 2).trans rfl, (blk_cell BK205.out 0).trans rfl, (blk_cell BK205.out 1).trans rfl, (blk_cell BK205.out 2).trans rfl⟩ (fun hHeld => ?_)
   clear hK K
   refine nm 37 ?_
   refine pu (i := 12) (N := some 38) #[true, true, true, true, true, true, true, true, true, true, true, true, true, false] rfl rfl (any_of HT_.out (by kernel_rfl)) ?_
   refine last_ (i := 13) (N := none) #[true, true, true, true, true, true, true, true, true, true, true, true, true, true] rfl rfl (one_of HT_.out (by kernel_rfl)) (by decide) (fun K hK => ?_)
   have hs31 : w28.cell? ⟨gb203, 2, none⟩ = some (u204002) := (blk_cell BK203.out 2).trans rfl
   have hfs31 := blk_frozen BK203.out 2
   have hns31_0 := NB201_203.out
   have hns31_2 := NB205_203.out
   have hms31_0 := NB203_201.out
   have hms31_2 := NB203_205.out
   refine skip_ (w1 := ?_) (by rfl) rfl ?_ ?_
   rotate_left
   ·go_simp
    rfl
   refine hK.out _ _ ?_
   clear hK K
   refine done_ (done_of HT_.out (by kernel_rfl)) ?_
   try go_wp2
   go_roundg k1
   case measure => have := HK1.out; omega
   case rel => exact ⟨(wrap64 (x13_1 + 1)), (y209), (y215), (.slice Ao23 y209.length co23), (.slice Ao30 y215.length co30), rs, H', ⟨by have := HK1.out; omega⟩, ⟨by (with_reducible repeat (first | apply Kd.R_alloc | apply Kd.R_drewN | apply Kd.R_drew)); exact Kd.R_mono (Kd.R_far (p := ⟨gb203, 2, none⟩) (Kd.R_types HO211.out BK203.out (by decide)) (fun _ hk => hk.2) (.slice Ao30 y215.length co30)) (fun _ hk => hk.1.1)⟩, ⟨by (with_reducible repeat (first | apply Kd.N_alloc | apply Kd.N_drewN | apply Kd.N_drew)); exact Kd.N_mono (Kd.N_far (p := ⟨gb203, 2, none⟩) (Kd.N_mono HO217.out (fun k_ hk => (⟨hk, hk.2.2.2.2.1⟩ : _ ∧ k_ ≠ gb203))) (fun _ hk => hk.2) (.slice Ao30 y215.length co30)) (fun _ hk => ⟨hk.1.1, ⟨hk.1.2.2.1, ⟨hk.1.2.2.2.1, hk.1.2.2.2.2.1⟩⟩⟩)⟩, ⟨by (with_reducible repeat (first | refine kdN ?_ _ | refine kdr ?_ | refine kal ?_ _)); refine blk_far ?_ NB201_203.out _; (with_reducible repeat (first | refine kdN ?_ _ | refine kdr ?_ | refine kal ?_ _)); exact BK201.out⟩, ⟨by (with_reducible repeat (first | refine kdN ?_ _ | refine kdr ?_ | refine kal ?_ _)); refine blk_put (cs := #[.int .i64 ((rd_T25 l0 0).f0), .slice Ao23 y209.length co23, u204002]) ?_ 2 _ rfl; (with_reducible repeat (first | refine kdN ?_ _ | refine kdr ?_ | refine kal ?_ _)); exact BK203.out⟩, ⟨bb HB⟩⟩
def prod_made.f (k : Nat) (a0_0 : Int) (l0_1 : List (S66)) (l0_2 : List (S64)) : Option (Int × (List (S66)) × (List (S64)) × Int) := (prog_Check.f k a0_0 l0_1 l0_2).bind fun t182 => (if t182 = 0 then (some (a0_0, l0_1, l0_2, 0)) else (some (0, ([] : List (S66)), ([] : List (S64)), 2)))
set_option maxHeartbeats 8000000 in
set_option maxRecDepth 100000 in
theorem prod_made.calls (k : Nat) (a0_0 : Int) (P0_1_ : Nat → Prop) (u9000_ : Value) (l0_1 : List (S66)) (P0_2_ : Nat → Prop) (A0_2 : Option Addr) (c0_2 : Nat) (l0_2 : List (S64)) (r1 : Int) (r2 : List (S66)) (r3 : List (S64)) (r4 : Int) (w0 w : World) (hB : Below w0.heap.size w0 w) (ho0_1 : Kd.R k66 66 w w0.heap.size P0_1_ u9000_ l0_1) (hs0_2 : Kd.V k64 64 w w0.heap.size (fun k_ => P0_2_ k_ ∧ some k_ ≠ (u9000_ : Value).ownBlock) (.slice A0_2 l0_2.length c0_2) l0_2) (h : prod_made.f k a0_0 l0_1 l0_2 = some (r1, r2, r3, r4)) :
  Calls Try.prog 63 #[.agg #[.int .i64 a0_0, u9000_, .slice A0_2 l0_2.length c0_2]] w fun e w' => ∃ v1_ v2_ : Value, e = .returned (.tuple #[.agg #[.int .i64 r1, v1_, v2_], .int .i64 r4]) ∧ Kd.R k66 66 w' w0.heap.size (fun k_ => (P0_1_ k_ ∨ w.heap.size ≤ k_)) v1_ r2 ∧ Kd.V k64 64 w' w0.heap.size (fun k_ => ((P0_1_ k_ ∨ P0_2_ k_) ∨ w.heap.size ≤ k_) ∧ some k_ ≠ (v1_ : Value).ownBlock) v2_ r3 ∧ Below w0.heap.size w0 w' ∧ Kept w w' (fun k_ => P0_1_ k_) := by
 have hu25 := Try.underlying25
 have HO0_1 := Aside0.mk (show Kd.R k66 66 w w0.heap.size (fun k_ => (P0_1_ k_ ∨ w.heap.size ≤ k_)) u9000_ l0_1 from Kd.R_mono ho0_1 (fun k_ hk => (.inl hk)))
 have HO0_2 := Aside0.mk (show Kd.V k64 64 w w0.heap.size (fun k_ => ((P0_1_ k_ ∨ P0_2_ k_) ∨ w.heap.size ≤ k_) ∧ some k_ ≠ (u9000_ : Value).ownBlock) (.slice A0_2 l0_2.length c0_2) l0_2 from Kd.V_mono hs0_2 (fun k_ hk => ⟨.inl (.inr hk.1), hk.2⟩))
 have HK := Aside0.mk (Kept.refl w (fun k_ => P0_1_ k_))
 have HW0 := Aside0.mk hB.size
 have HB := Aside0.mk hB
 clear hB
 have H : ((prog_Check.f k a0_0 l0_1 l0_2).bind fun t182 => (if t182 = 0 then (some (a0_0, l0_1, l0_2, 0)) else (some (0, ([] : List (S66)), ([] : List (S64)), 2)))) = some (r1, r2, r3, r4) := h
 clear h
 obtain ⟨t182, A2, H⟩ := be H
 replace H : (if t182 = 0 then (some (a0_0, l0_1, l0_2, 0)) else (some (0, ([] : List (S66)), ([] : List (S64)), 2))) = some (r1, r2, r3, r4) := H
 by_cases c3 : t182 = 0
 rotate_left
 ·rw [if_neg c3] at H
  have c3b0 : (t182 == 0) = false := beq_eq_false_iff_ne.mpr c3
  have c3b1 : (t182 != 0) = true := bne_iff_ne.mpr c3
  simp only [Option.some.injEq, Prod.mk.injEq] at H
  obtain ⟨rfl, rfl, rfl, rfl⟩ := H
  obtain ⟨Ao12, co12, eo12⟩ := Kd.R_slice HO0_1.out
  subst eo12
  go_enter Try.func63, Try.ntmps63
  go_wp2_with (first | ((with_reducible refine gate_dst (N := 1) rfl ?_); refine bx 1 rfl rfl #[.int .i64 a0_0, .slice Ao12 l0_1.length co12, .slice A0_2 l0_2.length c0_2] 25 ?_; intro gb180 hg w13 hbox hb; have BK180 := Aside0.mk (hbox); have GW180 := Aside0.mk ((by rw [hg]; exact (by first | exact HK.out.1 | exact (show Kept w _ (fun k_ => P0_1_ k_) from by repeat (first | (with_reducible first | exact HK.out | apply Kept.alloc | apply Kept.drewN | apply Kept.drew) | exact HK.out)).1) : w.heap.size ≤ gb180)); have GE180 := Aside0.mk ((by rw [hg]; exact (bsz (bb HB)) : w0.heap.size ≤ gb180)); replace HO0_1 := Aside0.mk (Kd.R_below (by (with_reducible repeat (first | apply Kd.R_alloc | apply Kd.R_drewN | apply Kd.R_drew)); exact HO0_1.out) hb); replace HO0_2 := Aside0.mk (Kd.V_below (Kd.V_elderB (by (with_reducible repeat (first | apply Kd.V_alloc | apply Kd.V_drewN | apply Kd.V_drew)); exact HO0_2.out) gb180 (Nat.le_of_eq hg.symm)) hb); replace HK := Aside0.mk (Kept.below (S := (fun k_ => P0_1_ k_)) (by repeat (first | (with_reducible first | exact HK.out | apply Kept.alloc | apply Kept.drewN | apply Kept.drew) | exact HK.out)) hb); replace HB := sb HB hb; clear hb hbox hg) | ((with_reducible refine gate_dst (N := 2) rfl ?_); refine bx 2 rfl rfl #[.int .i64 0, .slice none 0 0, .slice none 0 0] 25 ?_; intro gb181 hg w14 hbox hb; have BK181 := Aside0.mk (hbox); have GW181 := Aside0.mk ((by rw [hg]; exact (by first | exact HK.out.1 | exact (show Kept w _ (fun k_ => P0_1_ k_) from by repeat (first | (with_reducible first | exact HK.out | apply Kept.alloc | apply Kept.drewN | apply Kept.drew | refine Kept.setCell ?_ (.inr GW180.out) _) | exact HK.out)).1) : w.heap.size ≤ gb181)); have GE181 := Aside0.mk ((by rw [hg]; exact (bsz (bb HB)) : w0.heap.size ≤ gb181)); have NB180_181 := nl BK180 hg; have NB181_180 := ng BK180 hg; replace HO0_1 := Aside0.mk (Kd.R_below (by (with_reducible repeat (first | apply Kd.R_alloc | apply Kd.R_drewN | apply Kd.R_drew)); exact HO0_1.out) hb); replace HO0_2 := Aside0.mk (Kd.V_below (Kd.V_elderB (by (with_reducible repeat (first | apply Kd.V_alloc | apply Kd.V_drewN | apply Kd.V_drew)); exact HO0_2.out) gb181 (Nat.le_of_eq hg.symm)) hb); replace BK180 := kb BK180 hb; replace HK := Aside0.mk (Kept.below (S := (fun k_ => P0_1_ k_)) (by repeat (first | (with_reducible first | exact HK.out | apply Kept.alloc | apply Kept.drewN | apply Kept.drew | refine Kept.setCell ?_ (.inr GW180.out) _) | exact HK.out)) hb); replace HB := sb HB hb; clear hb hbox hg; have hnb15 := NB180_181.out; have hnc15 := NB181_180.out; obtain ⟨hcz16_0, hcz16_1, hcz16_2, hfz16_0, hfz16_1, hfz16_2⟩ := cf3 BK180.out) | ((with_reducible refine gate_callee (f := 43) rfl ?_); refine gL (some 5) rfl rfl Try.func43 #[.agg #[.int .i64 a0_0, .slice Ao12 l0_1.length co12, .slice A0_2 l0_2.length c0_2]] rfl ?_; (with_reducible refine (prog_Check.calls k a0_0 _ _ l0_1 _ _ l0_2 t182 _ ?side1 ?side2 ?side3 ?side4 A2.out).mono ?_); (case side1 => repeat (first | exact (Kd.R_reads' HO0_1.out).2.2 | with_reducible first | apply Kd.C_alloc | apply Kd.C_drewN | apply Kd.C_drew)); (case side2 => exact (Kd.R_reads' HO0_1.out).2.1); (case side3 => repeat (first | exact (Kd.V_reads' HO0_2.out).2.2 | with_reducible first | apply Kd.C_alloc | apply Kd.C_drewN | apply Kd.C_drew)); (case side4 => exact (Kd.V_reads' HO0_2.out).2.1); rintro e w17 ⟨rfl, hb⟩; refine ⟨_, rfl, ?_⟩; replace HO0_1 := Aside0.mk (Kd.R_below (by (with_reducible repeat (first | apply Kd.R_alloc | apply Kd.R_drewN | apply Kd.R_drew)); exact HO0_1.out) hb); replace HO0_2 := Aside0.mk (Kd.V_below (by (with_reducible repeat (first | apply Kd.V_alloc | apply Kd.V_drewN | apply Kd.V_drew)); exact HO0_2.out) hb); replace BK180 := kb BK180 hb; replace BK181 := kb BK181 hb; replace HK := Aside0.mk (Kept.below (S := (fun k_ => P0_1_ k_)) (by repeat (first | (with_reducible first | exact HK.out | apply Kept.alloc | apply Kept.drewN | apply Kept.drew | refine Kept.setCell ?_ (.inr GW180.out) _ | refine Kept.setCell ?_ (.inr GW181.out) _) | exact HK.out)) hb); replace HB := sb HB hb; (try clear hb); (try clear hb2); (try clear hk); (try clear hi); obtain ⟨hcz18_0, hcz18_1, hcz18_2, hfz18_0, hfz18_1, hfz18_2⟩ := cf3 BK181.out))
  refine bodyPost_ret (results_ct rfl _ _ gb181 25 #[.int .i64 0, .slice none 0 0, .slice none 0 0] (0, 0) _ rfl (by (with_reducible repeat (first | refine kdN ?_ _ | refine kdr ?_ | refine kal ?_ _)); refine blk_put (cs := #[.int .i64 0, .slice none 0 0, .slice none 0 0]) ?_ 2 _ rfl; (with_reducible repeat (first | refine kdN ?_ _ | refine kdr ?_ | refine kal ?_ _)); refine blk_put (cs := #[.int .i64 0, .slice none 0 0, .slice none 0 0]) ?_ 1 _ rfl; (with_reducible repeat (first | refine kdN ?_ _ | refine kdr ?_ | refine kal ?_ _)); refine blk_put (cs := #[.int .i64 0, .slice none 0 0, .slice none 0 0]) ?_ 0 _ rfl; (with_reducible repeat (first | refine kdN ?_ _ | refine kdr ?_ | refine kal ?_ _)); exact BK181.out) Try.underlying25 rfl (by kernel_rfl)) rfl ?_
  exact ⟨_, _, rr, by first | exact Kd.R_nil _ _ _ _ _ | exact Kd.N_nil _ _ _ _ _ | exact Kd.V_nil _ _ _ _ _ | exact Kd.Q_nil _ _ _ _ _ | exact Kd.S_nil _ _ _ _ _, Kd.N_V (by first | exact Kd.R_nil _ _ _ _ _ | exact Kd.N_nil _ _ _ _ _ | exact Kd.V_nil _ _ _ _ _ | exact Kd.Q_nil _ _ _ _ _ | exact Kd.S_nil _ _ _ _ _ | exact Kd.N_nil _ _ _ 0 _ | exact Kd.R_nil _ _ _ 0 _), bb HB, by repeat (first | (with_reducible first | exact HK.out | apply Kept.alloc | apply Kept.drewN | apply Kept.drew | refine Kept.setCell ?_ (.inr GW180.out) _ | refine Kept.setCell ?_ (.inr GW181.out) _) | exact HK.out)⟩
 rw [if_pos c3] at H
 have c3b0 : (t182 == 0) = true := beq_iff_eq.mpr c3
 have c3b1 : (t182 != 0) = false := bne_eq_false_iff_eq.mpr c3
 clear c3
 simp only [Option.some.injEq, Prod.mk.injEq] at H
 obtain ⟨rfl, rfl, rfl, rfl⟩ := H
 obtain ⟨Ao4, co4, eo4⟩ := Kd.R_slice HO0_1.out
 subst eo4
 go_enter Try.func63, Try.ntmps63
 go_wp2_with (first | ((with_reducible refine gate_dst (N := 1) rfl ?_); refine bx 1 rfl rfl #[.int .i64 a0_0, .slice Ao4 l0_1.length co4, .slice A0_2 l0_2.length c0_2] 25 ?_; intro gb180 hg w5 hbox hb; have BK180 := Aside0.mk (hbox); have GW180 := Aside0.mk ((by rw [hg]; exact (by first | exact HK.out.1 | exact (show Kept w _ (fun k_ => P0_1_ k_) from by repeat (first | (with_reducible first | exact HK.out | apply Kept.alloc | apply Kept.drewN | apply Kept.drew) | exact HK.out)).1) : w.heap.size ≤ gb180)); have GE180 := Aside0.mk ((by rw [hg]; exact (bsz (bb HB)) : w0.heap.size ≤ gb180)); replace HO0_1 := Aside0.mk (Kd.R_below (by (with_reducible repeat (first | apply Kd.R_alloc | apply Kd.R_drewN | apply Kd.R_drew)); exact HO0_1.out) hb); replace HO0_2 := Aside0.mk (Kd.V_below (Kd.V_elderB (by (with_reducible repeat (first | apply Kd.V_alloc | apply Kd.V_drewN | apply Kd.V_drew)); exact HO0_2.out) gb180 (Nat.le_of_eq hg.symm)) hb); replace HK := Aside0.mk (Kept.below (S := (fun k_ => P0_1_ k_)) (by repeat (first | (with_reducible first | exact HK.out | apply Kept.alloc | apply Kept.drewN | apply Kept.drew) | exact HK.out)) hb); replace HB := sb HB hb; clear hb hbox hg) | ((with_reducible refine gate_dst (N := 2) rfl ?_); refine bx 2 rfl rfl #[.int .i64 0, .slice none 0 0, .slice none 0 0] 25 ?_; intro gb181 hg w6 hbox hb; have BK181 := Aside0.mk (hbox); have GW181 := Aside0.mk ((by rw [hg]; exact (by first | exact HK.out.1 | exact (show Kept w _ (fun k_ => P0_1_ k_) from by repeat (first | (with_reducible first | exact HK.out | apply Kept.alloc | apply Kept.drewN | apply Kept.drew | refine Kept.setCell ?_ (.inr GW180.out) _) | exact HK.out)).1) : w.heap.size ≤ gb181)); have GE181 := Aside0.mk ((by rw [hg]; exact (bsz (bb HB)) : w0.heap.size ≤ gb181)); have NB180_181 := nl BK180 hg; have NB181_180 := ng BK180 hg; replace HO0_1 := Aside0.mk (Kd.R_below (by (with_reducible repeat (first | apply Kd.R_alloc | apply Kd.R_drewN | apply Kd.R_drew)); exact HO0_1.out) hb); replace HO0_2 := Aside0.mk (Kd.V_below (Kd.V_elderB (by (with_reducible repeat (first | apply Kd.V_alloc | apply Kd.V_drewN | apply Kd.V_drew)); exact HO0_2.out) gb181 (Nat.le_of_eq hg.symm)) hb); replace BK180 := kb BK180 hb; replace HK := Aside0.mk (Kept.below (S := (fun k_ => P0_1_ k_)) (by repeat (first | (with_reducible first | exact HK.out | apply Kept.alloc | apply Kept.drewN | apply Kept.drew | refine Kept.setCell ?_ (.inr GW180.out) _) | exact HK.out)) hb); replace HB := sb HB hb; clear hb hbox hg; have hnb7 := NB180_181.out; have hnc7 := NB181_180.out; obtain ⟨hcz8_0, hcz8_1, hcz8_2, hfz8_0, hfz8_1, hfz8_2⟩ := cf3 BK180.out) | ((with_reducible refine gate_callee (f := 43) rfl ?_); refine gL (some 5) rfl rfl Try.func43 #[.agg #[.int .i64 a0_0, .slice Ao4 l0_1.length co4, .slice A0_2 l0_2.length c0_2]] rfl ?_; (with_reducible refine (prog_Check.calls k a0_0 _ _ l0_1 _ _ l0_2 t182 _ ?side1 ?side2 ?side3 ?side4 A2.out).mono ?_); (case side1 => repeat (first | exact (Kd.R_reads' HO0_1.out).2.2 | with_reducible first | apply Kd.C_alloc | apply Kd.C_drewN | apply Kd.C_drew)); (case side2 => exact (Kd.R_reads' HO0_1.out).2.1); (case side3 => repeat (first | exact (Kd.V_reads' HO0_2.out).2.2 | with_reducible first | apply Kd.C_alloc | apply Kd.C_drewN | apply Kd.C_drew)); (case side4 => exact (Kd.V_reads' HO0_2.out).2.1); rintro e w9 ⟨rfl, hb⟩; refine ⟨_, rfl, ?_⟩; replace HO0_1 := Aside0.mk (Kd.R_below (by (with_reducible repeat (first | apply Kd.R_alloc | apply Kd.R_drewN | apply Kd.R_drew)); exact HO0_1.out) hb); replace HO0_2 := Aside0.mk (Kd.V_below (by (with_reducible repeat (first | apply Kd.V_alloc | apply Kd.V_drewN | apply Kd.V_drew)); exact HO0_2.out) hb); replace BK180 := kb BK180 hb; replace BK181 := kb BK181 hb; replace HK := Aside0.mk (Kept.below (S := (fun k_ => P0_1_ k_)) (by repeat (first | (with_reducible first | exact HK.out | apply Kept.alloc | apply Kept.drewN | apply Kept.drew | refine Kept.setCell ?_ (.inr GW180.out) _ | refine Kept.setCell ?_ (.inr GW181.out) _) | exact HK.out)) hb); replace HB := sb HB hb; (try clear hb); (try clear hb2); (try clear hk); (try clear hi); obtain ⟨hcz10_0, hcz10_1, hcz10_2, hfz10_0, hfz10_1, hfz10_2⟩ := cf3 BK180.out; obtain ⟨hcz11_0, hcz11_1, hcz11_2, hfz11_0, hfz11_1, hfz11_2⟩ := cf3 BK181.out))
 refine bodyPost_ret (results_ct rfl _ _ gb181 25 #[.int .i64 a0_0, .slice Ao4 l0_1.length co4, .slice A0_2 l0_2.length c0_2] (0, 0) _ rfl (by (with_reducible repeat (first | refine kdN ?_ _ | refine kdr ?_ | refine kal ?_ _)); refine blk_put (cs := #[.int .i64 a0_0, .slice Ao4 l0_1.length co4, .slice none 0 0]) ?_ 2 _ rfl; (with_reducible repeat (first | refine kdN ?_ _ | refine kdr ?_ | refine kal ?_ _)); refine blk_put (cs := #[.int .i64 a0_0, .slice none 0 0, .slice none 0 0]) ?_ 1 _ rfl; (with_reducible repeat (first | refine kdN ?_ _ | refine kdr ?_ | refine kal ?_ _)); refine blk_put (cs := #[.int .i64 0, .slice none 0 0, .slice none 0 0]) ?_ 0 _ rfl; (with_reducible repeat (first | refine kdN ?_ _ | refine kdr ?_ | refine kal ?_ _)); exact BK181.out) Try.underlying25 rfl (by kernel_rfl)) rfl ?_
 exact ⟨_, _, rr, by (with_reducible repeat (first | apply Kd.R_alloc | apply Kd.R_drewN | apply Kd.R_drew)); exact Kd.R_mono (Kd.R_far (p := ⟨gb181, 2, none⟩) (Kd.R_far (p := ⟨gb181, 1, none⟩) (Kd.R_far (p := ⟨gb181, 0, none⟩) (Kd.R_types HO0_1.out BK181.out (by decide)) (fun _ hk => hk.2) (.int .i64 a0_0)) (fun _ hk => hk.2) (.slice Ao4 l0_1.length co4)) (fun _ hk => hk.2) (.slice A0_2 l0_2.length c0_2)) (fun _ hk => hk.1), by (with_reducible repeat (first | apply Kd.V_alloc | apply Kd.V_drewN | apply Kd.V_drew)); exact Kd.V_mono (Kd.V_far (p := ⟨gb181, 2, none⟩) (Kd.V_far (p := ⟨gb181, 1, none⟩) (Kd.V_far (p := ⟨gb181, 0, none⟩) (Kd.V_mono HO0_2.out (fun k_ hk => (⟨hk, hk.2⟩ : _ ∧ k_ ≠ gb181))) (fun _ hk => hk.2) (.int .i64 a0_0)) (fun _ hk => hk.2) (.slice Ao4 l0_1.length co4)) (fun _ hk => hk.2) (.slice A0_2 l0_2.length c0_2)) (fun _ hk => ⟨hk.1.1.1.1, hk.1.1.1.2⟩), bb HB, by repeat (first | (with_reducible first | exact HK.out | apply Kept.alloc | apply Kept.drewN | apply Kept.drew | refine Kept.setCell ?_ (.inr GW180.out) _ | refine Kept.setCell ?_ (.inr GW181.out) _) | exact HK.out)⟩
end Go.Proofs.Ytilebfkehmecaaa.Print
