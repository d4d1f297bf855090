/- For every program the law CompOwn returns true, and what came in reads as before. No condition. -/
import Derived.Test.YtnlekgadadifdaaO3
set_option maxRecDepth 100000
set_option maxHeartbeats 16000000
namespace Go.Proofs.Ytnlekgadadifdaa.Print
open Go.RowKit Go.Proofs.YtnlekgadadifdaaW.PrintWords Go.Proofs.YtnlekgadadifdaaW.PrintLast Go.Proofs.YtnlekgadadifdaaW.PrintMore
attribute [local go_sem] max2_int min2_int max_two min_two max_three min_three max_four min_four
set_option linter.unusedVariables false
set_option linter.unusedSimpArgs false
mutual
def r3_SameRows.l0 : Nat → List (S57) → List (S57) → Int → Option (Bool)
  | 0, _, _, _ => none
  | k + 1, x0, x1, x5 => if x5 < (x0.length : Int) then (if 0 ≤ x5 then (if x5 < (x1.length : Int) then ((r3_SameStmt.f k ((rd_T57 x0 x5).f0) ((rd_T57 x0 x5).f1) ((rd_T57 x0 x5).f2) ((rd_T57 x0 x5).f3) ((rd_T57 x0 x5).f4) ((rd_T57 x1 x5).f0) ((rd_T57 x1 x5).f1) ((rd_T57 x1 x5).f2) ((rd_T57 x1 x5).f3) ((rd_T57 x1 x5).f4)).bind fun t935 => (if t935 = true then (r3_SameRows.l0 k x0 x1 (wrap64 (x5 + 1))) else (some false))) else (none)) else (none)) else (some true)
def r3_SameRows.f : Nat → List (S57) → List (S57) → Option (Bool)
  | 0, _, _ => none
  | k + 1, l0, l1 => if (l0.length : Int) = (l1.length : Int) then (r3_SameRows.l0 k l0 l1 0) else (some false)
def r3_SameStmt.f : Nat → Int → Int → List (S52) → List (S57) → List (S57) → Int → Int → List (S52) → List (S57) → List (S57) → Option (Bool)
  | 0, _, _, _, _, _, _, _, _, _, _ => none
  | k + 1, a0_0, a0_1, l0_2, l0_3, l0_4, a1_0, a1_1, l1_2, l1_3, l1_4 => if a0_0 = a1_0 then (if a0_1 = a1_1 then ((r3_exprs.f k l0_2 l1_2).bind fun t935 => (if t935 = true then ((r3_SameRows.f k l0_3 l1_3).bind fun t936 => (if t936 = true then ((r3_SameRows.f k l0_4 l1_4).bind fun t937 => (some t937)) else (some false))) else (some false))) else (some false)) else (some false)
end
def r3_SameRows.T6 : Bool × List (List Nat × List Nat) := (true, [([], []), ([], []), ([0, 1], [0, 1]), ([2], [2]), ([], []), ([], []), ([4, 5], [4, 5]), ([6], [6]), ([3, 7], [3, 7]), ([8], [8])])
def r3_SameRows.B6 : List Nat := [0, 0, 3, 7, 0, 0, 48, 112, 255, 511]
theorem r3_SameRows.tab6 : rtab .any (opsOf Try.f25 6) = r3_SameRows.T6 := by kernel_rfl
theorem r3_SameRows.bits6 : waitsOk r3_SameRows.T6.2 r3_SameRows.B6 = true := by kernel_rfl
def r3_SameRows.At (k : Nat) : Prop := ∀ (A0 : Option Addr) (c0 : Nat) (l0 : List (S57)) (A1 : Option Addr) (c1 : Nat) (l1 : List (S57)) (r : Bool) (w : World) (hr0 : Kd.C k57 w A0 l0.length l0) (hc0 : l0.length ≤ c0) (hr1 : Kd.C k57 w A1 l1.length l1) (hc1 : l1.length ≤ c1) (h : r3_SameRows.f k l0 l1 = some r),
  Calls Try.prog 25 #[.slice A0 l0.length c0, .slice A1 l1.length c1] w fun e w' => e = .returned (.bool r) ∧ Below w.heap.size w w'
def r3_SameStmt.At (k : Nat) : Prop := ∀ (a0_0 : Int) (a0_1 : Int) (A0_2 : Option Addr) (c0_2 : Nat) (l0_2 : List (S52)) (A0_3 : Option Addr) (c0_3 : Nat) (l0_3 : List (S57)) (A0_4 : Option Addr) (c0_4 : Nat) (l0_4 : List (S57)) (a1_0 : Int) (a1_1 : Int) (A1_2 : Option Addr) (c1_2 : Nat) (l1_2 : List (S52)) (A1_3 : Option Addr) (c1_3 : Nat) (l1_3 : List (S57)) (A1_4 : Option Addr) (c1_4 : Nat) (l1_4 : List (S57)) (r : Bool) (w : World) (hr0_2 : Kd.C k52 w A0_2 l0_2.length l0_2) (hc0_2 : l0_2.length ≤ c0_2) (hr0_3 : Kd.C k57 w A0_3 l0_3.length l0_3) (hc0_3 : l0_3.length ≤ c0_3) (hr0_4 : Kd.C k57 w A0_4 l0_4.length l0_4) (hc0_4 : l0_4.length ≤ c0_4) (hr1_2 : Kd.C k52 w A1_2 l1_2.length l1_2) (hc1_2 : l1_2.length ≤ c1_2) (hr1_3 : Kd.C k57 w A1_3 l1_3.length l1_3) (hc1_3 : l1_3.length ≤ c1_3) (hr1_4 : Kd.C k57 w A1_4 l1_4.length l1_4) (hc1_4 : l1_4.length ≤ c1_4) (h : r3_SameStmt.f k a0_0 a0_1 l0_2 l0_3 l0_4 a1_0 a1_1 l1_2 l1_3 l1_4 = some r),
  Calls Try.prog 40 #[.agg #[.int .i64 a0_0, .int .i64 a0_1, .slice A0_2 l0_2.length c0_2, .slice A0_3 l0_3.length c0_3, .slice A0_4 l0_4.length c0_4], .agg #[.int .i64 a1_0, .int .i64 a1_1, .slice A1_2 l1_2.length c1_2, .slice A1_3 l1_3.length c1_3, .slice A1_4 l1_4.length c1_4]] w fun e w' => e = .returned (.bool r) ∧ Below w.heap.size w w'
theorem r3_SameRows.ap (k : Nat) (hAt : r3_SameRows.At k) (A0 : Option Addr) (c0 : Nat) (l0 : List (S57)) (A1 : Option Addr) (c1 : Nat) (l1 : List (S57)) (r : Bool) (w : World) (hr0 : Kd.C k57 w A0 l0.length l0) (hc0 : l0.length ≤ c0) (hr1 : Kd.C k57 w A1 l1.length l1) (hc1 : l1.length ≤ c1) (h : r3_SameRows.f k l0 l1 = some r) :
  Calls Try.prog 25 #[.slice A0 l0.length c0, .slice A1 l1.length c1] w fun e w' => e = .returned (.bool r) ∧ Below w.heap.size w w' := hAt A0 c0 l0 A1 c1 l1 r w hr0 hc0 hr1 hc1 h
theorem r3_SameStmt.ap (k : Nat) (hAt : r3_SameStmt.At k) (a0_0 : Int) (a0_1 : Int) (A0_2 : Option Addr) (c0_2 : Nat) (l0_2 : List (S52)) (A0_3 : Option Addr) (c0_3 : Nat) (l0_3 : List (S57)) (A0_4 : Option Addr) (c0_4 : Nat) (l0_4 : List (S57)) (a1_0 : Int) (a1_1 : Int) (A1_2 : Option Addr) (c1_2 : Nat) (l1_2 : List (S52)) (A1_3 : Option Addr) (c1_3 : Nat) (l1_3 : List (S57)) (A1_4 : Option Addr) (c1_4 : Nat) (l1_4 : List (S57)) (r : Bool) (w : World) (hr0_2 : Kd.C k52 w A0_2 l0_2.length l0_2) (hc0_2 : l0_2.length ≤ c0_2) (hr0_3 : Kd.C k57 w A0_3 l0_3.length l0_3) (hc0_3 : l0_3.length ≤ c0_3) (hr0_4 : Kd.C k57 w A0_4 l0_4.length l0_4) (hc0_4 : l0_4.length ≤ c0_4) (hr1_2 : Kd.C k52 w A1_2 l1_2.length l1_2) (hc1_2 : l1_2.length ≤ c1_2) (hr1_3 : Kd.C k57 w A1_3 l1_3.length l1_3) (hc1_3 : l1_3.length ≤ c1_3) (hr1_4 : Kd.C k57 w A1_4 l1_4.length l1_4) (hc1_4 : l1_4.length ≤ c1_4) (h : r3_SameStmt.f k a0_0 a0_1 l0_2 l0_3 l0_4 a1_0 a1_1 l1_2 l1_3 l1_4 = some r) :
  Calls Try.prog 40 #[.agg #[.int .i64 a0_0, .int .i64 a0_1, .slice A0_2 l0_2.length c0_2, .slice A0_3 l0_3.length c0_3, .slice A0_4 l0_4.length c0_4], .agg #[.int .i64 a1_0, .int .i64 a1_1, .slice A1_2 l1_2.length c1_2, .slice A1_3 l1_3.length c1_3, .slice A1_4 l1_4.length c1_4]] w fun e w' => e = .returned (.bool r) ∧ Below w.heap.size w w' := hAt a0_0 a0_1 A0_2 c0_2 l0_2 A0_3 c0_3 l0_3 A0_4 c0_4 l0_4 a1_0 a1_1 A1_2 c1_2 l1_2 A1_3 c1_3 l1_3 A1_4 c1_4 l1_4 r w hr0_2 hc0_2 hr0_3 hc0_3 hr0_4 hc0_4 hr1_2 hc1_2 hr1_3 hc1_3 hr1_4 hc1_4 h
theorem r3_SameRows.calls_of (k : Nat) (IH : ∀ m, m ≤ k → r3_SameStmt.At m) : r3_SameRows.At (k + 1) := by
  intro A0 c0 l0 A1 c1 l1 r w hr0 hc0 hr1 hc1 h
  have hu57 := Try.underlying57
  have HR0 := Aside0.mk hr0
  have HC0 := Aside0.mk hc0
  clear hr0 hc0
  have HR1 := Aside0.mk hr1
  have HC1 := Aside0.mk hc1
  clear hr1 hc1
  have HB := Aside0.mk (Below.refl w.heap.size w)
  have H : (if (l0.length : Int) = (l1.length : Int) then (r3_SameRows.l0 k l0 l1 0) else (some false)) = some r := h
  clear h
  by_cases c3 : (l0.length : Int) = (l1.length : Int)
  · rw [if_pos c3] at H
    have c3b0 : ((l0.length : Int) == (l1.length : Int)) = true := beq_iff_eq.mpr c3
    have c3b1 : ((l0.length : Int) != (l1.length : Int)) = false := bne_eq_false_iff_eq.mpr c3
    have c3b2 : (l0.length == l1.length) = true := by first | simpa using c3 | (simp at c3 ⊢; omega)
    clear c3
    have H' := Aside0.mk H
    clear H
    go_enter Try.func25, Try.ntmps25
    go_wp2
    go_loopg [5] k (fun kq v5 w' => ∃ (x5_1 : Int), v5 = .int .i64 x5_1 ∧ Aside0 (r3_SameRows.l0 kq l0 l1 x5_1 = some r) ∧ Aside0 (kq ≤ k) ∧ Aside0 (Below w.heap.size w w'))
    case atStart => exact ⟨(0), rs, H', ⟨Nat.le_refl _⟩, ⟨bb HB⟩⟩
    case round =>
      clear H'
      try clear c1
      try clear c2
      try clear p2
      try clear c3
      try clear c3b0
      try clear c3b1
      try clear c3b2
      obtain ⟨x5_1, rfl, HA, HK1, HB⟩ := hrel
      cases gk with
      | zero => exact absurd HA.out (by simp [r3_SameRows.l0])
      | succ k1 =>
        have H := HA.out
        clear HA
        simp only [r3_SameRows.l0] at H
        by_cases c4 : x5_1 < (l0.length : Int)
        · rw [if_pos c4] at H
          have c4b0 : decide (x5_1 < (l0.length : Int)) = true := decide_eq_true c4
          clear c4
          by_cases c5 : 0 ≤ x5_1
          · rw [if_pos c5] at H
            have c5b0 : decide (0 ≤ x5_1) = true := decide_eq_true c5
            clear c5
            by_cases c6 : x5_1 < (l1.length : Int)
            · rw [if_pos c6] at H
              have c6b0 : decide (x5_1 < (l1.length : Int)) = true := decide_eq_true c6
              clear c6
              obtain ⟨t935, A7, H⟩ := be H
              by_cases c8 : t935 = true
              · subst c8
                replace H := it H
                have H' := Aside0.mk H
                clear H
                try go_wp2
                replace HB := Aside0.mk (bd1 HB.out)
                have p933 : 0 ≤ (x5_1 : Int) := od
                have q933 : x5_1 < (l0.length : Int) := od
                obtain ⟨ad933, A933_2, c933_2, A933_3, c933_3, A933_4, c933_4, e933, hx933_0, hx933_1, hx933_2, hx933_3, hx933_4, hl933_2, hi933_2, hl933_3, hi933_3, hl933_4, hi933_4⟩ := at_T57 HR0.out x5_1 p933 q933
                have hw933_4 := hx933_4
                have hw933_3 := hx933_3
                have hw933_2 := hx933_2
                have hw933_1 := hx933_1
                have hw933_0 := hx933_0
                cases e933
                replace hx933_0 := bcell HB.out hx933_0
                replace hx933_1 := bcell HB.out hx933_1
                replace hx933_2 := bcell HB.out hx933_2
                replace hx933_3 := bcell HB.out hx933_3
                replace hx933_4 := bcell HB.out hx933_4
                have HR933_2 := Aside0.mk hi933_2
                have HC933_2 := Aside0.mk hl933_2
                clear hi933_2 hl933_2
                have HR933_3 := Aside0.mk hi933_3
                have HC933_3 := Aside0.mk hl933_3
                clear hi933_3 hl933_3
                have HR933_4 := Aside0.mk hi933_4
                have HC933_4 := Aside0.mk hl933_4
                clear hi933_4 hl933_4
                replace p933 := eq_true p933
                replace q933 := eq_true q933
                have p934 : 0 ≤ (x5_1 : Int) := od
                have q934 : x5_1 < (l1.length : Int) := od
                obtain ⟨ad934, A934_2, c934_2, A934_3, c934_3, A934_4, c934_4, e934, hx934_0, hx934_1, hx934_2, hx934_3, hx934_4, hl934_2, hi934_2, hl934_3, hi934_3, hl934_4, hi934_4⟩ := at_T57 HR1.out x5_1 p934 q934
                have hw934_4 := hx934_4
                have hw934_3 := hx934_3
                have hw934_2 := hx934_2
                have hw934_1 := hx934_1
                have hw934_0 := hx934_0
                cases e934
                replace hx934_0 := bcell HB.out hx934_0
                replace hx934_1 := bcell HB.out hx934_1
                replace hx934_2 := bcell HB.out hx934_2
                replace hx934_3 := bcell HB.out hx934_3
                replace hx934_4 := bcell HB.out hx934_4
                have HR934_2 := Aside0.mk hi934_2
                have HC934_2 := Aside0.mk hl934_2
                clear hi934_2 hl934_2
                have HR934_3 := Aside0.mk hi934_3
                have HC934_3 := Aside0.mk hl934_3
                clear hi934_3 hl934_3
                have HR934_4 := Aside0.mk hi934_4
                have HC934_4 := Aside0.mk hl934_4
                clear hi934_4 hl934_4
                replace p934 := eq_true p934
                replace q934 := eq_true q934
                refine start_ (n := 10) (S := fun w' => w'.cell? (ad933.add ((x5_1).toNat * 5)) = some (.int .i64 ((rd_T57 l0 x5_1).f0)) ∧ w'.cell? ⟨(ad933.add ((x5_1).toNat * 5)).block, (ad933.add ((x5_1).toNat * 5)).off + 1, none⟩ = some (.int .i64 ((rd_T57 l0 x5_1).f1)) ∧ w'.cell? ⟨(ad933.add ((x5_1).toNat * 5)).block, (ad933.add ((x5_1).toNat * 5)).off + 2, none⟩ = some (.slice A933_2 ((rd_T57 l0 x5_1).f2).length c933_2) ∧ w'.cell? ⟨(ad933.add ((x5_1).toNat * 5)).block, (ad933.add ((x5_1).toNat * 5)).off + 3, none⟩ = some (.slice A933_3 ((rd_T57 l0 x5_1).f3).length c933_3) ∧ w'.cell? ⟨(ad933.add ((x5_1).toNat * 5)).block, (ad933.add ((x5_1).toNat * 5)).off + 4, none⟩ = some (.slice A933_4 ((rd_T57 l0 x5_1).f4).length c933_4) ∧ w'.cell? (ad934.add ((x5_1).toNat * 5)) = some (.int .i64 ((rd_T57 l1 x5_1).f0)) ∧ w'.cell? ⟨(ad934.add ((x5_1).toNat * 5)).block, (ad934.add ((x5_1).toNat * 5)).off + 1, none⟩ = some (.int .i64 ((rd_T57 l1 x5_1).f1)) ∧ w'.cell? ⟨(ad934.add ((x5_1).toNat * 5)).block, (ad934.add ((x5_1).toNat * 5)).off + 2, none⟩ = some (.slice A934_2 ((rd_T57 l1 x5_1).f2).length c934_2) ∧ w'.cell? ⟨(ad934.add ((x5_1).toNat * 5)).block, (ad934.add ((x5_1).toNat * 5)).off + 3, none⟩ = some (.slice A934_3 ((rd_T57 l1 x5_1).f3).length c934_3) ∧ w'.cell? ⟨(ad934.add ((x5_1).toNat * 5)).block, (ad934.add ((x5_1).toNat * 5)).off + 4, none⟩ = some (.slice A934_4 ((rd_T57 l1 x5_1).f4).length c934_4)) (ds := []) #[false, false, false, false, false, false, false, false, false, false] (by kernel_rfl) rfl rfl ⟨(bcell HB.out hw933_0), (bcell HB.out hw933_1), (bcell HB.out hw933_2), (bcell HB.out hw933_3), (bcell HB.out hw933_4), (bcell HB.out hw934_0), (bcell HB.out hw934_1), (bcell HB.out hw934_2), (bcell HB.out hw934_3), (bcell HB.out hw934_4)⟩ (fun hHeld => ?_); refine with_tabW r3_SameRows.tab6 r3_SameRows.bits6 (fun HT_ HW_ => ?_)
                generalize wr.drew = w9 at HB HR933_2 HR933_3 HR933_4 HR934_2 HR934_3 HR934_4 hx933_0 hx933_1 hx933_2 hx933_3 hx933_4 hx934_0 hx934_1 hx934_2 hx934_3 hx934_4 hHeld ⊢
                refine pT 0 17 (bl 10 1) HT_ rfl rfl ?_
                refine pT 1 18 (bl 10 3) HT_ rfl rfl ?_
                refine pT 2 19 (bl 10 7) HT_ rfl rfl ?_
                refine pT 4 21 (bl 10 23) HT_ rfl rfl ?_
                refine pT 5 22 (bl 10 55) HT_ rfl rfl ?_
                refine pT 6 23 (bl 10 119) HT_ rfl rfl ?_
                refine tk (i := 3) (N := some 20) (bl 10 127) rfl rfl (take_ofW HT_.out HW_.out (by kernel_rfl)) hHeld ?_
                refine tk (i := 7) (N := some 24) (bl 10 255) rfl rfl (take_ofW HT_.out HW_.out (by kernel_rfl)) hHeld ?_
                refine one_ (i := 8) (N := some 25) (bl 10 511) rfl rfl (one_of HT_.out (by kernel_rfl)) (by decide) (fun K hK => ?_)
                refine gO Try.func40 #[.agg #[.int .i64 ((rd_T57 l0 x5_1).f0), .int .i64 ((rd_T57 l0 x5_1).f1), .slice A933_2 ((rd_T57 l0 x5_1).f2).length c933_2, .slice A933_3 ((rd_T57 l0 x5_1).f3).length c933_3, .slice A933_4 ((rd_T57 l0 x5_1).f4).length c933_4], .agg #[.int .i64 ((rd_T57 l1 x5_1).f0), .int .i64 ((rd_T57 l1 x5_1).f1), .slice A934_2 ((rd_T57 l1 x5_1).f2).length c934_2, .slice A934_3 ((rd_T57 l1 x5_1).f3).length c934_3, .slice A934_4 ((rd_T57 l1 x5_1).f4).length c934_4]] (by rfl) rfl rfl ?_
                with_reducible refine (r3_SameStmt.ap k1 (IH k1 (by first | omega | (have := HK1.out; omega))) ((rd_T57 l0 x5_1).f0) ((rd_T57 l0 x5_1).f1) _ _ ((rd_T57 l0 x5_1).f2) _ _ ((rd_T57 l0 x5_1).f3) _ _ ((rd_T57 l0 x5_1).f4) ((rd_T57 l1 x5_1).f0) ((rd_T57 l1 x5_1).f1) _ _ ((rd_T57 l1 x5_1).f2) _ _ ((rd_T57 l1 x5_1).f3) _ _ ((rd_T57 l1 x5_1).f4) true _ ?side1 ?side2 ?side3 ?side4 ?side5 ?side6 ?side7 ?side8 ?side9 ?side10 ?side11 ?side12 A7.out).mono ?_
                (case side1 => exact cb HR933_2 HB)
                (case side2 => exact HC933_2.out)
                (case side3 => exact cb HR933_3 HB)
                (case side4 => exact HC933_3.out)
                (case side5 => exact cb HR933_4 HB)
                (case side6 => exact HC933_4.out)
                (case side7 => exact cb HR934_2 HB)
                (case side8 => exact HC934_2.out)
                (case side9 => exact cb HR934_3 HB)
                (case side10 => exact HC934_3.out)
                (case side11 => exact cb HR934_4 HB)
                (case side12 => exact HC934_4.out)
                rintro e w10 ⟨rfl, hb⟩
                refine ⟨_, rfl, ?_⟩
                replace HB := sb HB hb
                (try clear hb)
                (try clear hb2)
                (try clear hk)
                (try clear hi)
                refine hK.out _ _ ⟨(bcell HB.out hw933_0), (bcell HB.out hw933_1), (bcell HB.out hw933_2), (bcell HB.out hw933_3), (bcell HB.out hw933_4), (bcell HB.out hw934_0), (bcell HB.out hw934_1), (bcell HB.out hw934_2), (bcell HB.out hw934_3), (bcell HB.out hw934_4)⟩ (fun hHeld => ?_)
                clear hK K
                refine nm 25 ?_
                refine pT 9 26 (bl 10 1023) HT_ rfl rfl ?_
                refine done_ (done_of HT_.out (by kernel_rfl)) ?_
                try go_wp2
                go_roundg k1
                case measure => have := HK1.out; omega
                case rel => exact ⟨(wrap64 (x5_1 + 1)), rs, H', ⟨by have := HK1.out; omega⟩, ⟨bb HB⟩⟩
              · replace c8 := Bool.eq_false_iff.mpr c8
                subst c8
                replace H := fi H
                obtain rfl := Option.some.inj H
                try go_wp2
                replace HB := Aside0.mk (bd1 HB.out)
                have p933 : 0 ≤ (x5_1 : Int) := od
                have q933 : x5_1 < (l0.length : Int) := od
                obtain ⟨ad933, A933_2, c933_2, A933_3, c933_3, A933_4, c933_4, e933, hx933_0, hx933_1, hx933_2, hx933_3, hx933_4, hl933_2, hi933_2, hl933_3, hi933_3, hl933_4, hi933_4⟩ := at_T57 HR0.out x5_1 p933 q933
                have hw933_4 := hx933_4
                have hw933_3 := hx933_3
                have hw933_2 := hx933_2
                have hw933_1 := hx933_1
                have hw933_0 := hx933_0
                cases e933
                replace hx933_0 := bcell HB.out hx933_0
                replace hx933_1 := bcell HB.out hx933_1
                replace hx933_2 := bcell HB.out hx933_2
                replace hx933_3 := bcell HB.out hx933_3
                replace hx933_4 := bcell HB.out hx933_4
                have HR933_2 := Aside0.mk hi933_2
                have HC933_2 := Aside0.mk hl933_2
                clear hi933_2 hl933_2
                have HR933_3 := Aside0.mk hi933_3
                have HC933_3 := Aside0.mk hl933_3
                clear hi933_3 hl933_3
                have HR933_4 := Aside0.mk hi933_4
                have HC933_4 := Aside0.mk hl933_4
                clear hi933_4 hl933_4
                replace p933 := eq_true p933
                replace q933 := eq_true q933
                have p934 : 0 ≤ (x5_1 : Int) := od
                have q934 : x5_1 < (l1.length : Int) := od
                obtain ⟨ad934, A934_2, c934_2, A934_3, c934_3, A934_4, c934_4, e934, hx934_0, hx934_1, hx934_2, hx934_3, hx934_4, hl934_2, hi934_2, hl934_3, hi934_3, hl934_4, hi934_4⟩ := at_T57 HR1.out x5_1 p934 q934
                have hw934_4 := hx934_4
                have hw934_3 := hx934_3
                have hw934_2 := hx934_2
                have hw934_1 := hx934_1
                have hw934_0 := hx934_0
                cases e934
                replace hx934_0 := bcell HB.out hx934_0
                replace hx934_1 := bcell HB.out hx934_1
                replace hx934_2 := bcell HB.out hx934_2
                replace hx934_3 := bcell HB.out hx934_3
                replace hx934_4 := bcell HB.out hx934_4
                have HR934_2 := Aside0.mk hi934_2
                have HC934_2 := Aside0.mk hl934_2
                clear hi934_2 hl934_2
                have HR934_3 := Aside0.mk hi934_3
                have HC934_3 := Aside0.mk hl934_3
                clear hi934_3 hl934_3
                have HR934_4 := Aside0.mk hi934_4
                have HC934_4 := Aside0.mk hl934_4
                clear hi934_4 hl934_4
                replace p934 := eq_true p934
                replace q934 := eq_true q934
                refine start_ (n := 10) (S := fun w' => w'.cell? (ad933.add ((x5_1).toNat * 5)) = some (.int .i64 ((rd_T57 l0 x5_1).f0)) ∧ w'.cell? ⟨(ad933.add ((x5_1).toNat * 5)).block, (ad933.add ((x5_1).toNat * 5)).off + 1, none⟩ = some (.int .i64 ((rd_T57 l0 x5_1).f1)) ∧ w'.cell? ⟨(ad933.add ((x5_1).toNat * 5)).block, (ad933.add ((x5_1).toNat * 5)).off + 2, none⟩ = some (.slice A933_2 ((rd_T57 l0 x5_1).f2).length c933_2) ∧ w'.cell? ⟨(ad933.add ((x5_1).toNat * 5)).block, (ad933.add ((x5_1).toNat * 5)).off + 3, none⟩ = some (.slice A933_3 ((rd_T57 l0 x5_1).f3).length c933_3) ∧ w'.cell? ⟨(ad933.add ((x5_1).toNat * 5)).block, (ad933.add ((x5_1).toNat * 5)).off + 4, none⟩ = some (.slice A933_4 ((rd_T57 l0 x5_1).f4).length c933_4) ∧ w'.cell? (ad934.add ((x5_1).toNat * 5)) = some (.int .i64 ((rd_T57 l1 x5_1).f0)) ∧ w'.cell? ⟨(ad934.add ((x5_1).toNat * 5)).block, (ad934.add ((x5_1).toNat * 5)).off + 1, none⟩ = some (.int .i64 ((rd_T57 l1 x5_1).f1)) ∧ w'.cell? ⟨(ad934.add ((x5_1).toNat * 5)).block, (ad934.add ((x5_1).toNat * 5)).off + 2, none⟩ = some (.slice A934_2 ((rd_T57 l1 x5_1).f2).length c934_2) ∧ w'.cell? ⟨(ad934.add ((x5_1).toNat * 5)).block, (ad934.add ((x5_1).toNat * 5)).off + 3, none⟩ = some (.slice A934_3 ((rd_T57 l1 x5_1).f3).length c934_3) ∧ w'.cell? ⟨(ad934.add ((x5_1).toNat * 5)).block, (ad934.add ((x5_1).toNat * 5)).off + 4, none⟩ = some (.slice A934_4 ((rd_T57 l1 x5_1).f4).length c934_4)) (ds := []) #[false, false, false, false, false, false, false, false, false, false] (by kernel_rfl) rfl rfl ⟨(bcell HB.out hw933_0), (bcell HB.out hw933_1), (bcell HB.out hw933_2), (bcell HB.out hw933_3), (bcell HB.out hw933_4), (bcell HB.out hw934_0), (bcell HB.out hw934_1), (bcell HB.out hw934_2), (bcell HB.out hw934_3), (bcell HB.out hw934_4)⟩ (fun hHeld => ?_); refine with_tabW r3_SameRows.tab6 r3_SameRows.bits6 (fun HT_ HW_ => ?_)
                generalize wr.drew = w11 at HB HR933_2 HR933_3 HR933_4 HR934_2 HR934_3 HR934_4 hx933_0 hx933_1 hx933_2 hx933_3 hx933_4 hx934_0 hx934_1 hx934_2 hx934_3 hx934_4 hHeld ⊢
                refine pT 0 17 (bl 10 1) HT_ rfl rfl ?_
                refine pT 1 18 (bl 10 3) HT_ rfl rfl ?_
                refine pT 2 19 (bl 10 7) HT_ rfl rfl ?_
                refine pT 4 21 (bl 10 23) HT_ rfl rfl ?_
                refine pT 5 22 (bl 10 55) HT_ rfl rfl ?_
                refine pT 6 23 (bl 10 119) HT_ rfl rfl ?_
                refine tk (i := 3) (N := some 20) (bl 10 127) rfl rfl (take_ofW HT_.out HW_.out (by kernel_rfl)) hHeld ?_
                refine tk (i := 7) (N := some 24) (bl 10 255) rfl rfl (take_ofW HT_.out HW_.out (by kernel_rfl)) hHeld ?_
                refine one_ (i := 8) (N := some 25) (bl 10 511) rfl rfl (one_of HT_.out (by kernel_rfl)) (by decide) (fun K hK => ?_)
                refine gO Try.func40 #[.agg #[.int .i64 ((rd_T57 l0 x5_1).f0), .int .i64 ((rd_T57 l0 x5_1).f1), .slice A933_2 ((rd_T57 l0 x5_1).f2).length c933_2, .slice A933_3 ((rd_T57 l0 x5_1).f3).length c933_3, .slice A933_4 ((rd_T57 l0 x5_1).f4).length c933_4], .agg #[.int .i64 ((rd_T57 l1 x5_1).f0), .int .i64 ((rd_T57 l1 x5_1).f1), .slice A934_2 ((rd_T57 l1 x5_1).f2).length c934_2, .slice A934_3 ((rd_T57 l1 x5_1).f3).length c934_3, .slice A934_4 ((rd_T57 l1 x5_1).f4).length c934_4]] (by rfl) rfl rfl ?_
                with_reducible refine (r3_SameStmt.ap k1 (IH k1 (by first | omega | (have := HK1.out; omega))) ((rd_T57 l0 x5_1).f0) ((rd_T57 l0 x5_1).f1) _ _ ((rd_T57 l0 x5_1).f2) _ _ ((rd_T57 l0 x5_1).f3) _ _ ((rd_T57 l0 x5_1).f4) ((rd_T57 l1 x5_1).f0) ((rd_T57 l1 x5_1).f1) _ _ ((rd_T57 l1 x5_1).f2) _ _ ((rd_T57 l1 x5_1).f3) _ _ ((rd_T57 l1 x5_1).f4) false _ ?side1 ?side2 ?side3 ?side4 ?side5 ?side6 ?side7 ?side8 ?side9 ?side10 ?side11 ?side12 A7.out).mono ?_
                (case side1 => exact cb HR933_2 HB)
                (case side2 => exact HC933_2.out)
                (case side3 => exact cb HR933_3 HB)
                (case side4 => exact HC933_3.out)
                (case side5 => exact cb HR933_4 HB)
                (case side6 => exact HC933_4.out)
                (case side7 => exact cb HR934_2 HB)
                (case side8 => exact HC934_2.out)
                (case side9 => exact cb HR934_3 HB)
                (case side10 => exact HC934_3.out)
                (case side11 => exact cb HR934_4 HB)
                (case side12 => exact HC934_4.out)
                rintro e w12 ⟨rfl, hb⟩
                refine ⟨_, rfl, ?_⟩
                replace HB := sb HB hb
                (try clear hb)
                (try clear hb2)
                (try clear hk)
                (try clear hi)
                refine hK.out _ _ ⟨(bcell HB.out hw933_0), (bcell HB.out hw933_1), (bcell HB.out hw933_2), (bcell HB.out hw933_3), (bcell HB.out hw933_4), (bcell HB.out hw934_0), (bcell HB.out hw934_1), (bcell HB.out hw934_2), (bcell HB.out hw934_3), (bcell HB.out hw934_4)⟩ (fun hHeld => ?_)
                clear hK K
                refine nm 25 ?_
                refine pT 9 26 (bl 10 1023) HT_ rfl rfl ?_
                refine done_ (done_of HT_.out (by kernel_rfl)) ?_
                try go_wp2
                go_ret
                exact ⟨rr, bb HB⟩
            · rw [if_neg c6] at H
              exact absurd H (by simp)
          · rw [if_neg c5] at H
            exact absurd H (by simp)
        · rw [if_neg c4] at H
          have c4b0 : decide (x5_1 < (l0.length : Int)) = false := decide_eq_false c4
          clear c4
          obtain rfl := Option.some.inj H
          go_wp2
          go_ret
          exact ⟨rr, bb HB⟩
  · rw [if_neg c3] at H
    have c3b0 : ((l0.length : Int) == (l1.length : Int)) = false := beq_eq_false_iff_ne.mpr c3
    have c3b1 : ((l0.length : Int) != (l1.length : Int)) = true := bne_iff_ne.mpr c3
    have c3b2 : (l0.length == l1.length) = false := by first | simpa using c3 | (simp at c3 ⊢; omega)
    obtain rfl := Option.some.inj H
    go_enter Try.func25, Try.ntmps25
    go_wp2
    go_ret
    exact ⟨rr, bb HB⟩
theorem r3_SameStmt.calls_of (k : Nat) (IH : ∀ m, m ≤ k → r3_SameRows.At m) : r3_SameStmt.At (k + 1) := by
  intro a0_0 a0_1 A0_2 c0_2 l0_2 A0_3 c0_3 l0_3 A0_4 c0_4 l0_4 a1_0 a1_1 A1_2 c1_2 l1_2 A1_3 c1_3 l1_3 A1_4 c1_4 l1_4 r w hr0_2 hc0_2 hr0_3 hc0_3 hr0_4 hc0_4 hr1_2 hc1_2 hr1_3 hc1_3 hr1_4 hc1_4 h
  have hu57 := Try.underlying57
  have HR0_2 := Aside0.mk hr0_2
  have HC0_2 := Aside0.mk hc0_2
  clear hr0_2 hc0_2
  have HR0_3 := Aside0.mk hr0_3
  have HC0_3 := Aside0.mk hc0_3
  clear hr0_3 hc0_3
  have HR0_4 := Aside0.mk hr0_4
  have HC0_4 := Aside0.mk hc0_4
  clear hr0_4 hc0_4
  have HR1_2 := Aside0.mk hr1_2
  have HC1_2 := Aside0.mk hc1_2
  clear hr1_2 hc1_2
  have HR1_3 := Aside0.mk hr1_3
  have HC1_3 := Aside0.mk hc1_3
  clear hr1_3 hc1_3
  have HR1_4 := Aside0.mk hr1_4
  have HC1_4 := Aside0.mk hc1_4
  clear hr1_4 hc1_4
  have HB := Aside0.mk (Below.refl w.heap.size w)
  have H : (if a0_0 = a1_0 then (if a0_1 = a1_1 then ((r3_exprs.f k l0_2 l1_2).bind fun t935 => (if t935 = true then ((r3_SameRows.f k l0_3 l1_3).bind fun t936 => (if t936 = true then ((r3_SameRows.f k l0_4 l1_4).bind fun t937 => (some t937)) else (some false))) else (some false))) else (some false)) else (some false)) = some r := h
  clear h
  by_cases c3 : a0_0 = a1_0
  · rw [if_pos c3] at H
    have c3b0 : (a0_0 == a1_0) = true := beq_iff_eq.mpr c3
    have c3b1 : (a0_0 != a1_0) = false := bne_eq_false_iff_eq.mpr c3
    clear c3
    by_cases c4 : a0_1 = a1_1
    · rw [if_pos c4] at H
      have c4b0 : (a0_1 == a1_1) = true := beq_iff_eq.mpr c4
      have c4b1 : (a0_1 != a1_1) = false := bne_eq_false_iff_eq.mpr c4
      clear c4
      obtain ⟨t935, A5, H⟩ := be H
      by_cases c6 : t935 = true
      · subst c6
        replace H := it H
        obtain ⟨t936, A7, H⟩ := be H
        by_cases c8 : t936 = true
        · subst c8
          replace H := it H
          obtain ⟨t937, A9, H⟩ := be H
          obtain rfl := Option.some.inj H
          go_enter Try.func40, Try.ntmps40
          go_wp2_with (first | ((with_reducible refine gate_dst (N := 2) rfl ?_); refine bx 2 rfl rfl #[.int .i64 a0_0, .int .i64 a0_1, .slice A0_2 l0_2.length c0_2, .slice A0_3 l0_3.length c0_3, .slice A0_4 l0_4.length c0_4] 57 ?_; intro gb933 hg w10 hbox hb; have BK933 := Aside0.mk (hbox); have GE933 := ge HB hg; replace HB := sb HB hb; clear hb hbox hg) | ((with_reducible refine gate_dst (N := 3) rfl ?_); refine bx 3 rfl rfl #[.int .i64 a1_0, .int .i64 a1_1, .slice A1_2 l1_2.length c1_2, .slice A1_3 l1_3.length c1_3, .slice A1_4 l1_4.length c1_4] 57 ?_; intro gb934 hg w11 hbox hb; have BK934 := Aside0.mk (hbox); have GE934 := ge HB hg; have NB933_934 := Aside0.mk ((by rw [hg]; exact Nat.ne_of_lt (blk_lt (kk BK933)) : gb933 ≠ gb934)); have NB934_933 := Aside0.mk ((by rw [hg]; exact Nat.ne_of_gt (blk_lt (kk BK933)) : gb934 ≠ gb933)); replace BK933 := kb BK933 hb; replace HB := sb HB hb; clear hb hbox hg; have hnb12 := NB933_934.out; have hnc12 := NB934_933.out; obtain ⟨hcz13_0, hcz13_1, hcz13_2, hcz13_3, hcz13_4, hfz13_0, hfz13_1, hfz13_2, hfz13_3, hfz13_4⟩ := cf5 BK933.out; obtain ⟨hcz14_0, hcz14_1, hcz14_2, hcz14_3, hcz14_4, hfz14_0, hfz14_1, hfz14_2, hfz14_3, hfz14_4⟩ := cf5 BK934.out) | (go_at_call 64; (with_reducible refine (r3_exprs.calls k _ _ l0_2 _ _ l1_2 true _ ?side1 ?side2 ?side3 ?side4 A5.out).mono ?_); (case side1 => exact cb HR0_2 HB); (case side2 => exact HC0_2.out); (case side3 => exact cb HR1_2 HB); (case side4 => exact HC1_2.out); rintro e w15 ⟨rfl, hb⟩; replace BK933 := kb BK933 hb; replace BK934 := kb BK934 hb; replace HB := sb HB hb; (try clear hb); obtain ⟨hcz16_0, hcz16_1, hcz16_2, hcz16_3, hcz16_4, hfz16_0, hfz16_1, hfz16_2, hfz16_3, hfz16_4⟩ := cf5 BK933.out; obtain ⟨hcz17_0, hcz17_1, hcz17_2, hcz17_3, hcz17_4, hfz17_0, hfz17_1, hfz17_2, hfz17_3, hfz17_4⟩ := cf5 BK934.out) | (go_at_call 25; (with_reducible refine (r3_SameRows.ap k (IH k (by first | omega | (have := HK1.out; omega))) _ _ l0_3 _ _ l1_3 true _ ?side1 ?side2 ?side3 ?side4 A7.out).mono ?_); (case side1 => exact cb HR0_3 HB); (case side2 => exact HC0_3.out); (case side3 => exact cb HR1_3 HB); (case side4 => exact HC1_3.out); rintro e w18 ⟨rfl, hb⟩; replace BK933 := kb BK933 hb; replace BK934 := kb BK934 hb; replace HB := sb HB hb; (try clear hb); obtain ⟨hcz19_0, hcz19_1, hcz19_2, hcz19_3, hcz19_4, hfz19_0, hfz19_1, hfz19_2, hfz19_3, hfz19_4⟩ := cf5 BK933.out; obtain ⟨hcz20_0, hcz20_1, hcz20_2, hcz20_3, hcz20_4, hfz20_0, hfz20_1, hfz20_2, hfz20_3, hfz20_4⟩ := cf5 BK934.out) | (go_at_call 25; (with_reducible refine (r3_SameRows.ap k (IH k (by first | omega | (have := HK1.out; omega))) _ _ l0_4 _ _ l1_4 t937 _ ?side1 ?side2 ?side3 ?side4 A9.out).mono ?_); (case side1 => exact cb HR0_4 HB); (case side2 => exact HC0_4.out); (case side3 => exact cb HR1_4 HB); (case side4 => exact HC1_4.out); rintro e w21 ⟨rfl, hb⟩; replace BK933 := kb BK933 hb; replace BK934 := kb BK934 hb; replace HB := sb HB hb; (try clear hb)))
          go_ret
          exact ⟨rr, bb HB⟩
        · replace c8 := Bool.eq_false_iff.mpr c8
          subst c8
          replace H := fi H
          obtain rfl := Option.some.inj H
          go_enter Try.func40, Try.ntmps40
          go_wp2_with (first | ((with_reducible refine gate_dst (N := 2) rfl ?_); refine bx 2 rfl rfl #[.int .i64 a0_0, .int .i64 a0_1, .slice A0_2 l0_2.length c0_2, .slice A0_3 l0_3.length c0_3, .slice A0_4 l0_4.length c0_4] 57 ?_; intro gb933 hg w22 hbox hb; have BK933 := Aside0.mk (hbox); have GE933 := ge HB hg; replace HB := sb HB hb; clear hb hbox hg) | ((with_reducible refine gate_dst (N := 3) rfl ?_); refine bx 3 rfl rfl #[.int .i64 a1_0, .int .i64 a1_1, .slice A1_2 l1_2.length c1_2, .slice A1_3 l1_3.length c1_3, .slice A1_4 l1_4.length c1_4] 57 ?_; intro gb934 hg w23 hbox hb; have BK934 := Aside0.mk (hbox); have GE934 := ge HB hg; have NB933_934 := Aside0.mk ((by rw [hg]; exact Nat.ne_of_lt (blk_lt (kk BK933)) : gb933 ≠ gb934)); have NB934_933 := Aside0.mk ((by rw [hg]; exact Nat.ne_of_gt (blk_lt (kk BK933)) : gb934 ≠ gb933)); replace BK933 := kb BK933 hb; replace HB := sb HB hb; clear hb hbox hg; have hnb24 := NB933_934.out; have hnc24 := NB934_933.out; obtain ⟨hcz25_0, hcz25_1, hcz25_2, hcz25_3, hcz25_4, hfz25_0, hfz25_1, hfz25_2, hfz25_3, hfz25_4⟩ := cf5 BK933.out; obtain ⟨hcz26_0, hcz26_1, hcz26_2, hcz26_3, hcz26_4, hfz26_0, hfz26_1, hfz26_2, hfz26_3, hfz26_4⟩ := cf5 BK934.out) | (go_at_call 64; (with_reducible refine (r3_exprs.calls k _ _ l0_2 _ _ l1_2 true _ ?side1 ?side2 ?side3 ?side4 A5.out).mono ?_); (case side1 => exact cb HR0_2 HB); (case side2 => exact HC0_2.out); (case side3 => exact cb HR1_2 HB); (case side4 => exact HC1_2.out); rintro e w27 ⟨rfl, hb⟩; replace BK933 := kb BK933 hb; replace BK934 := kb BK934 hb; replace HB := sb HB hb; (try clear hb); obtain ⟨hcz28_0, hcz28_1, hcz28_2, hcz28_3, hcz28_4, hfz28_0, hfz28_1, hfz28_2, hfz28_3, hfz28_4⟩ := cf5 BK933.out; obtain ⟨hcz29_0, hcz29_1, hcz29_2, hcz29_3, hcz29_4, hfz29_0, hfz29_1, hfz29_2, hfz29_3, hfz29_4⟩ := cf5 BK934.out) | (go_at_call 25; (with_reducible refine (r3_SameRows.ap k (IH k (by first | omega | (have := HK1.out; omega))) _ _ l0_3 _ _ l1_3 false _ ?side1 ?side2 ?side3 ?side4 A7.out).mono ?_); (case side1 => exact cb HR0_3 HB); (case side2 => exact HC0_3.out); (case side3 => exact cb HR1_3 HB); (case side4 => exact HC1_3.out); rintro e w30 ⟨rfl, hb⟩; replace BK933 := kb BK933 hb; replace BK934 := kb BK934 hb; replace HB := sb HB hb; (try clear hb)))
          go_ret
          exact ⟨rr, bb HB⟩
      · replace c6 := Bool.eq_false_iff.mpr c6
        subst c6
        replace H := fi H
        obtain rfl := Option.some.inj H
        go_enter Try.func40, Try.ntmps40
        go_wp2_with (first | ((with_reducible refine gate_dst (N := 2) rfl ?_); refine bx 2 rfl rfl #[.int .i64 a0_0, .int .i64 a0_1, .slice A0_2 l0_2.length c0_2, .slice A0_3 l0_3.length c0_3, .slice A0_4 l0_4.length c0_4] 57 ?_; intro gb933 hg w31 hbox hb; have BK933 := Aside0.mk (hbox); have GE933 := ge HB hg; replace HB := sb HB hb; clear hb hbox hg) | ((with_reducible refine gate_dst (N := 3) rfl ?_); refine bx 3 rfl rfl #[.int .i64 a1_0, .int .i64 a1_1, .slice A1_2 l1_2.length c1_2, .slice A1_3 l1_3.length c1_3, .slice A1_4 l1_4.length c1_4] 57 ?_; intro gb934 hg w32 hbox hb; have BK934 := Aside0.mk (hbox); have GE934 := ge HB hg; have NB933_934 := Aside0.mk ((by rw [hg]; exact Nat.ne_of_lt (blk_lt (kk BK933)) : gb933 ≠ gb934)); have NB934_933 := Aside0.mk ((by rw [hg]; exact Nat.ne_of_gt (blk_lt (kk BK933)) : gb934 ≠ gb933)); replace BK933 := kb BK933 hb; replace HB := sb HB hb; clear hb hbox hg; have hnb33 := NB933_934.out; have hnc33 := NB934_933.out; obtain ⟨hcz34_0, hcz34_1, hcz34_2, hcz34_3, hcz34_4, hfz34_0, hfz34_1, hfz34_2, hfz34_3, hfz34_4⟩ := cf5 BK933.out; obtain ⟨hcz35_0, hcz35_1, hcz35_2, hcz35_3, hcz35_4, hfz35_0, hfz35_1, hfz35_2, hfz35_3, hfz35_4⟩ := cf5 BK934.out) | (go_at_call 64; (with_reducible refine (r3_exprs.calls k _ _ l0_2 _ _ l1_2 false _ ?side1 ?side2 ?side3 ?side4 A5.out).mono ?_); (case side1 => exact cb HR0_2 HB); (case side2 => exact HC0_2.out); (case side3 => exact cb HR1_2 HB); (case side4 => exact HC1_2.out); rintro e w36 ⟨rfl, hb⟩; replace BK933 := kb BK933 hb; replace BK934 := kb BK934 hb; replace HB := sb HB hb; (try clear hb)))
        go_ret
        exact ⟨rr, bb HB⟩
    · rw [if_neg c4] at H
      have c4b0 : (a0_1 == a1_1) = false := beq_eq_false_iff_ne.mpr c4
      have c4b1 : (a0_1 != a1_1) = true := bne_iff_ne.mpr c4
      obtain rfl := Option.some.inj H
      go_enter Try.func40, Try.ntmps40
      go_wp2_with (first | ((with_reducible refine gate_dst (N := 2) rfl ?_); refine bx 2 rfl rfl #[.int .i64 a0_0, .int .i64 a0_1, .slice A0_2 l0_2.length c0_2, .slice A0_3 l0_3.length c0_3, .slice A0_4 l0_4.length c0_4] 57 ?_; intro gb933 hg w37 hbox hb; have BK933 := Aside0.mk (hbox); have GE933 := ge HB hg; replace HB := sb HB hb; clear hb hbox hg) | ((with_reducible refine gate_dst (N := 3) rfl ?_); refine bx 3 rfl rfl #[.int .i64 a1_0, .int .i64 a1_1, .slice A1_2 l1_2.length c1_2, .slice A1_3 l1_3.length c1_3, .slice A1_4 l1_4.length c1_4] 57 ?_; intro gb934 hg w38 hbox hb; have BK934 := Aside0.mk (hbox); have GE934 := ge HB hg; have NB933_934 := Aside0.mk ((by rw [hg]; exact Nat.ne_of_lt (blk_lt (kk BK933)) : gb933 ≠ gb934)); have NB934_933 := Aside0.mk ((by rw [hg]; exact Nat.ne_of_gt (blk_lt (kk BK933)) : gb934 ≠ gb933)); replace BK933 := kb BK933 hb; replace HB := sb HB hb; clear hb hbox hg; have hnb39 := NB933_934.out; have hnc39 := NB934_933.out; obtain ⟨hcz40_0, hcz40_1, hcz40_2, hcz40_3, hcz40_4, hfz40_0, hfz40_1, hfz40_2, hfz40_3, hfz40_4⟩ := cf5 BK933.out; obtain ⟨hcz41_0, hcz41_1, hcz41_2, hcz41_3, hcz41_4, hfz41_0, hfz41_1, hfz41_2, hfz41_3, hfz41_4⟩ := cf5 BK934.out))
      go_ret
      exact ⟨rr, bb HB⟩
  · rw [if_neg c3] at H
    have c3b0 : (a0_0 == a1_0) = false := beq_eq_false_iff_ne.mpr c3
    have c3b1 : (a0_0 != a1_0) = true := bne_iff_ne.mpr c3
    obtain rfl := Option.some.inj H
    go_enter Try.func40, Try.ntmps40
    go_wp2_with (first | ((with_reducible refine gate_dst (N := 2) rfl ?_); refine bx 2 rfl rfl #[.int .i64 a0_0, .int .i64 a0_1, .slice A0_2 l0_2.length c0_2, .slice A0_3 l0_3.length c0_3, .slice A0_4 l0_4.length c0_4] 57 ?_; intro gb933 hg w42 hbox hb; have BK933 := Aside0.mk (hbox); have GE933 := ge HB hg; replace HB := sb HB hb; clear hb hbox hg) | ((with_reducible refine gate_dst (N := 3) rfl ?_); refine bx 3 rfl rfl #[.int .i64 a1_0, .int .i64 a1_1, .slice A1_2 l1_2.length c1_2, .slice A1_3 l1_3.length c1_3, .slice A1_4 l1_4.length c1_4] 57 ?_; intro gb934 hg w43 hbox hb; have BK934 := Aside0.mk (hbox); have GE934 := ge HB hg; have NB933_934 := Aside0.mk ((by rw [hg]; exact Nat.ne_of_lt (blk_lt (kk BK933)) : gb933 ≠ gb934)); have NB934_933 := Aside0.mk ((by rw [hg]; exact Nat.ne_of_gt (blk_lt (kk BK933)) : gb934 ≠ gb933)); replace BK933 := kb BK933 hb; replace HB := sb HB hb; clear hb hbox hg; have hnb44 := NB933_934.out; have hnc44 := NB934_933.out; obtain ⟨hcz45_0, hcz45_1, hcz45_2, hcz45_3, hcz45_4, hfz45_0, hfz45_1, hfz45_2, hfz45_3, hfz45_4⟩ := cf5 BK933.out; obtain ⟨hcz46_0, hcz46_1, hcz46_2, hcz46_3, hcz46_4, hfz46_0, hfz46_1, hfz46_2, hfz46_3, hfz46_4⟩ := cf5 BK934.out))
    go_ret
    exact ⟨rr, bb HB⟩
theorem r3_SameStmt.calls_all : ∀ n k, k ≤ n → r3_SameRows.At k ∧ r3_SameStmt.At k
  | n, 0, _ => ⟨by
      intro A0 c0 l0 A1 c1 l1 r w hr0 hc0 hr1 hc1 h
      exact absurd h (by simp [r3_SameRows.f]), by
      intro a0_0 a0_1 A0_2 c0_2 l0_2 A0_3 c0_3 l0_3 A0_4 c0_4 l0_4 a1_0 a1_1 A1_2 c1_2 l1_2 A1_3 c1_3 l1_3 A1_4 c1_4 l1_4 r w hr0_2 hc0_2 hr0_3 hc0_3 hr0_4 hc0_4 hr1_2 hc1_2 hr1_3 hc1_3 hr1_4 hc1_4 h
      exact absurd h (by simp [r3_SameStmt.f])⟩
  | 0, k + 1, h => absurd h (by omega)
  | n + 1, k + 1, h => ⟨r3_SameRows.calls_of k (fun m hm => (r3_SameStmt.calls_all n m (by omega)).2), r3_SameStmt.calls_of k (fun m hm => (r3_SameStmt.calls_all n m (by omega)).1)⟩
theorem r3_SameRows.calls (k : Nat) (A0 : Option Addr) (c0 : Nat) (l0 : List (S57)) (A1 : Option Addr) (c1 : Nat) (l1 : List (S57)) (r : Bool) (w : World) (hr0 : Kd.C k57 w A0 l0.length l0) (hc0 : l0.length ≤ c0) (hr1 : Kd.C k57 w A1 l1.length l1) (hc1 : l1.length ≤ c1) (h : r3_SameRows.f k l0 l1 = some r) :
    Calls Try.prog 25 #[.slice A0 l0.length c0, .slice A1 l1.length c1] w fun e w' => e = .returned (.bool r) ∧ Below w.heap.size w w' := (r3_SameStmt.calls_all k k (Nat.le_refl k)).1 A0 c0 l0 A1 c1 l1 r w hr0 hc0 hr1 hc1 h
theorem eqA42 (d : Nat) (w : World) (x0 y0 : ByteArray) (x1 y1 : Int) (x2 y2 : Int) :
  (Op.equalIn (d + 2) 42 (.agg #[.string x0, .int .i64 x1, .int .i64 x2]) (.agg #[.string y0, .int .i64 y1, .int .i64 y2])).run Try.prog w = .ok (x0.toList == y0.toList && (x1 == y1 && (x2 == y2))) w := by
 refine eqA_of Try.underlying42 (by kernel_rfl) ?_
 refine eqf_cons (by rfl) (by go_simp; rfl) (by go_simp; rfl) (by go_simp) ?_
 refine eqf_cons (by rfl) (by go_simp; rfl) (by go_simp; rfl) (by go_simp) ?_
 exact eqf_last (by rfl) (by go_simp; rfl) (by go_simp; rfl) (by go_simp)
end Go.Proofs.Ytnlekgadadifdaa.Print
namespace Go.Proofs.Ytnlekgadadifdaa.Print
open Go.RowKit Go.Proofs.YtnlekgadadifdaaW.PrintWords Go.Proofs.YtnlekgadadifdaaW.PrintLast Go.Proofs.YtnlekgadadifdaaW.PrintMore
attribute [local go_sem] max2_int min2_int max_two min_two max_three min_three max_four min_four
set_option linter.unusedVariables false
set_option linter.unusedSimpArgs false
attribute [local go_sem high] eqA42
def r3_SameVars.l0 : Nat → List (S42) → List (S42) → Int → Option (Bool)
 | 0, _, _, _ => none
 | k + 1, x0, x1, x5 => if x5 < (x0.length : Int) then (if 0 ≤ x5 then (if x5 < (x1.length : Int) then (if (!((((rd_T42 x0 x5).f0).toList) == (((rd_T42 x1 x5).f0).toList)) || (!(((rd_T42 x0 x5).f1) == ((rd_T42 x1 x5).f1)) || (!(((rd_T42 x0 x5).f2) == ((rd_T42 x1 x5).f2))))) = true then (some false) else (r3_SameVars.l0 k x0 x1 (wrap64 (x5 + 1)))) else (none)) else (none)) else (some true)
def r3_SameVars.f (k : Nat) (l0 : List (S42)) (l1 : List (S42)) : Option (Bool) := if (l0.length : Int) = (l1.length : Int) then (r3_SameVars.l0 k l0 l1 0) else (some false)
theorem r3_SameVars.calls (k : Nat) (A0 : Option Addr) (c0 : Nat) (l0 : List (S42)) (A1 : Option Addr) (c1 : Nat) (l1 : List (S42)) (r : Bool) (w : World) (hr0 : Kd.C k42 w A0 l0.length l0) (hc0 : l0.length ≤ c0) (hr1 : Kd.C k42 w A1 l1.length l1) (hc1 : l1.length ≤ c1) (h : r3_SameVars.f k l0 l1 = some r) :
  Calls Try.prog 24 #[.slice A0 l0.length c0, .slice A1 l1.length c1] w fun e w' => e = .returned (.bool r) ∧ Drawn0 w w' := by
 have hu42 := Try.underlying42
 have HR0 := Aside0.mk hr0
 have HC0 := Aside0.mk hc0
 clear hr0 hc0
 have HR1 := Aside0.mk hr1
 have HC1 := Aside0.mk hc1
 clear hr1 hc1
 have H : (if (l0.length : Int) = (l1.length : Int) then (r3_SameVars.l0 k l0 l1 0) else (some false)) = some r := h
 clear h
 by_cases c3 : (l0.length : Int) = (l1.length : Int)
 rotate_left
 ·rw [if_neg c3] at H
  have c3b0 : ((l0.length : Int) == (l1.length : Int)) = false := beq_eq_false_iff_ne.mpr c3
  have c3b1 : ((l0.length : Int) != (l1.length : Int)) = true := bne_iff_ne.mpr c3
  have c3b2 : (l0.length == l1.length) = false := by first | simpa using c3 | (simp at c3 ⊢; omega)
  obtain rfl := Option.some.inj H
  go_enter Try.func24, Try.ntmps24
  go_wp2
  repeat (go_quiet (fail); try go_wp2)
  go_ret
  exact ⟨rs, dr⟩
 rw [if_pos c3] at H
 have c3b0 : ((l0.length : Int) == (l1.length : Int)) = true := beq_iff_eq.mpr c3
 have c3b1 : ((l0.length : Int) != (l1.length : Int)) = false := bne_eq_false_iff_eq.mpr c3
 have c3b2 : (l0.length == l1.length) = true := by first | simpa using c3 | (simp at c3 ⊢; omega)
 clear c3
 have H' := Aside0.mk H
 clear H
 go_enter Try.func24, Try.ntmps24
 go_wp2
 repeat (go_quiet (fail); try go_wp2)
 go_loopg [5] k (fun kq v5 w' => ∃ (x5_1 : Int), v5 = .int .i64 x5_1 ∧ Aside0 (r3_SameVars.l0 kq l0 l1 x5_1 = some r) ∧ Aside0 (kq ≤ k) ∧ Drawn0 w w')
 case atStart => exact ⟨(0), rs, H', ⟨Nat.le_refl _⟩, dr⟩
 case round =>
  clear H'
  try clear c1
  try clear c2
  try clear p2
  try clear c3
  try clear c3b0
  try clear c3b1
  try clear c3b2
  obtain ⟨x5_1, rfl, HA, HK1, ⟨m1, rfl⟩⟩ := hrel
  cases gk with
  | zero => exact absurd HA.out (by simp [r3_SameVars.l0])
  | succ k1 =>
   have H := HA.out
   clear HA
   simp only [r3_SameVars.l0] at H
   by_cases c4 : x5_1 < (l0.length : Int)
   rotate_left
   ·rw [if_neg c4] at H
    have c4b0 : decide (x5_1 < (l0.length : Int)) = false := decide_eq_false c4
    clear c4
    obtain rfl := Option.some.inj H
    go_wp2
    repeat (go_quiet (fail); try go_wp2)
    go_ret
    exact ⟨rs, dr⟩
   rw [if_pos c4] at H
   have c4b0 : decide (x5_1 < (l0.length : Int)) = true := decide_eq_true c4
   clear c4
   by_cases c5 : 0 ≤ x5_1
   rotate_left
   ·rw [if_neg c5] at H
    exact absurd H (by simp)
   rw [if_pos c5] at H
   have c5b0 : decide (0 ≤ x5_1) = true := decide_eq_true c5
   clear c5
   by_cases c6 : x5_1 < (l1.length : Int)
   rotate_left
   ·rw [if_neg c6] at H
    exact absurd H (by simp)
   rw [if_pos c6] at H
   have c6b0 : decide (x5_1 < (l1.length : Int)) = true := decide_eq_true c6
   clear c6
   by_cases c7 : (!((((rd_T42 l0 x5_1).f0).toList) == (((rd_T42 l1 x5_1).f0).toList)) || (!(((rd_T42 l0 x5_1).f1) == ((rd_T42 l1 x5_1).f1)) || (!(((rd_T42 l0 x5_1).f2) == ((rd_T42 l1 x5_1).f2))))) = true
   ·rw [if_pos c7] at H
    have c7b0 : (!((((rd_T42 l0 x5_1).f0).toList) == (((rd_T42 l1 x5_1).f0).toList)) || (!(((rd_T42 l0 x5_1).f1) == ((rd_T42 l1 x5_1).f1)) || (!(((rd_T42 l0 x5_1).f2) == ((rd_T42 l1 x5_1).f2))))) = true := c7
    clear c7
    obtain rfl := Option.some.inj H
    have p923 : 0 ≤ (x5_1 : Int) := od
    have q923 : x5_1 < (l0.length : Int) := od
    obtain ⟨ad923, e923, hx923_0, hx923_1, hx923_2⟩ := at_T42 HR0.out x5_1 p923 q923
    cases e923
    replace p923 := eq_true p923
    replace q923 := eq_true q923
    have p924 : 0 ≤ (x5_1 : Int) := od
    have q924 : x5_1 < (l1.length : Int) := od
    obtain ⟨ad924, e924, hx924_0, hx924_1, hx924_2⟩ := at_T42 HR1.out x5_1 p924 q924
    cases e924
    replace p924 := eq_true p924
    replace q924 := eq_true q924
    go_wp2
    repeat (go_quiet (fail); try go_wp2)
    go_ret
    exact ⟨rs, dr⟩
   rw [if_neg c7] at H
   have c7b0 : (!((((rd_T42 l0 x5_1).f0).toList) == (((rd_T42 l1 x5_1).f0).toList)) || (!(((rd_T42 l0 x5_1).f1) == ((rd_T42 l1 x5_1).f1)) || (!(((rd_T42 l0 x5_1).f2) == ((rd_T42 l1 x5_1).f2))))) = false := by simpa using c7
   clear c7
   have H' := Aside0.mk H
   clear H
   have p923 : 0 ≤ (x5_1 : Int) := od
   have q923 : x5_1 < (l0.length : Int) := od
   obtain ⟨ad923, e923, hx923_0, hx923_1, hx923_2⟩ := at_T42 HR0.out x5_1 p923 q923
   cases e923
   replace p923 := eq_true p923
   replace q923 := eq_true q923
   have p924 : 0 ≤ (x5_1 : Int) := od
   have q924 : x5_1 < (l1.length : Int) := od
   obtain ⟨ad924, e924, hx924_0, hx924_1, hx924_2⟩ := at_T42 HR1.out x5_1 p924 q924
   cases e924
   replace p924 := eq_true p924
   replace q924 := eq_true q924
   go_wp2
   repeat (go_quiet (fail); try go_wp2)
   go_roundg k1
   case measure => have := HK1.out; omega
   case rel => exact ⟨(wrap64 (x5_1 + 1)), rs, H', ⟨by have := HK1.out; omega⟩, dr⟩
end Go.Proofs.Ytnlekgadadifdaa.Print
namespace Go.Proofs.Ytnlekgadadifdaa.Print
open Go.RowKit Go.Proofs.YtnlekgadadifdaaW.PrintWords Go.Proofs.YtnlekgadadifdaaW.PrintLast Go.Proofs.YtnlekgadadifdaaW.PrintMore
attribute [local go_sem] max2_int min2_int max_two min_two max_three min_three max_four min_four
set_option linter.unusedVariables false
set_option linter.unusedSimpArgs false
def r3_Same.f (k : Nat) (a0_0 : Int) (l0_1 : List (S42)) (l0_2 : List (S57)) (a1_0 : Int) (l1_1 : List (S42)) (l1_2 : List (S57)) : Option (Bool) := if a0_0 = a1_0 then ((r3_SameVars.f k l0_1 l1_1).bind fun t935 => (if t935 = true then ((r3_SameRows.f k l0_2 l1_2).bind fun t936 => (some t936)) else (some false))) else (some false)
theorem r3_Same.calls (k : Nat) (a0_0 : Int) (A0_1 : Option Addr) (c0_1 : Nat) (l0_1 : List (S42)) (A0_2 : Option Addr) (c0_2 : Nat) (l0_2 : List (S57)) (a1_0 : Int) (A1_1 : Option Addr) (c1_1 : Nat) (l1_1 : List (S42)) (A1_2 : Option Addr) (c1_2 : Nat) (l1_2 : List (S57)) (r : Bool) (w : World) (hr0_1 : Kd.C k42 w A0_1 l0_1.length l0_1) (hc0_1 : l0_1.length ≤ c0_1) (hr0_2 : Kd.C k57 w A0_2 l0_2.length l0_2) (hc0_2 : l0_2.length ≤ c0_2) (hr1_1 : Kd.C k42 w A1_1 l1_1.length l1_1) (hc1_1 : l1_1.length ≤ c1_1) (hr1_2 : Kd.C k57 w A1_2 l1_2.length l1_2) (hc1_2 : l1_2.length ≤ c1_2) (h : r3_Same.f k a0_0 l0_1 l0_2 a1_0 l1_1 l1_2 = some r) :
  Calls Try.prog 10 #[.agg #[.int .i64 a0_0, .slice A0_1 l0_1.length c0_1, .slice A0_2 l0_2.length c0_2], .agg #[.int .i64 a1_0, .slice A1_1 l1_1.length c1_1, .slice A1_2 l1_2.length c1_2]] w fun e w' => e = .returned (.bool r) ∧ Below w.heap.size w w' := by
 have hu25 := Try.underlying25
 have HR0_1 := Aside0.mk hr0_1
 have HC0_1 := Aside0.mk hc0_1
 clear hr0_1 hc0_1
 have HR0_2 := Aside0.mk hr0_2
 have HC0_2 := Aside0.mk hc0_2
 clear hr0_2 hc0_2
 have HR1_1 := Aside0.mk hr1_1
 have HC1_1 := Aside0.mk hc1_1
 clear hr1_1 hc1_1
 have HR1_2 := Aside0.mk hr1_2
 have HC1_2 := Aside0.mk hc1_2
 clear hr1_2 hc1_2
 have HB := Aside0.mk (Below.refl w.heap.size w)
 have H : (if a0_0 = a1_0 then ((r3_SameVars.f k l0_1 l1_1).bind fun t935 => (if t935 = true then ((r3_SameRows.f k l0_2 l1_2).bind fun t936 => (some t936)) else (some false))) else (some false)) = some r := h
 clear h
 by_cases c3 : a0_0 = a1_0
 rotate_left
 ·rw [if_neg c3] at H
  have c3b0 : (a0_0 == a1_0) = false := beq_eq_false_iff_ne.mpr c3
  have c3b1 : (a0_0 != a1_0) = true := bne_iff_ne.mpr c3
  obtain rfl := Option.some.inj H
  go_enter Try.func10, Try.ntmps10
  go_wp2_with (first | ((with_reducible refine gate_dst (N := 2) rfl ?_); refine bx 2 rfl rfl #[.int .i64 a0_0, .slice A0_1 l0_1.length c0_1, .slice A0_2 l0_2.length c0_2] 25 ?_; intro gb933 hg w18 hbox hb; have BK933 := Aside0.mk (hbox); have GE933 := ge HB hg; replace HB := sb HB hb; clear hb hbox hg) | ((with_reducible refine gate_dst (N := 3) rfl ?_); refine bx 3 rfl rfl #[.int .i64 a1_0, .slice A1_1 l1_1.length c1_1, .slice A1_2 l1_2.length c1_2] 25 ?_; intro gb934 hg w19 hbox hb; have BK934 := Aside0.mk (hbox); have GE934 := ge HB hg; have NB933_934 := Aside0.mk ((by rw [hg]; exact Nat.ne_of_lt (blk_lt (kk BK933)) : gb933 ≠ gb934)); have NB934_933 := Aside0.mk ((by rw [hg]; exact Nat.ne_of_gt (blk_lt (kk BK933)) : gb934 ≠ gb933)); replace BK933 := kb BK933 hb; replace HB := sb HB hb; clear hb hbox hg; have hnb20 := NB933_934.out; have hnc20 := NB934_933.out; obtain ⟨hcz21_0, hcz21_1, hcz21_2, hfz21_0, hfz21_1, hfz21_2⟩ := cf3 BK933.out; obtain ⟨hcz22_0, hcz22_1, hcz22_2, hfz22_0, hfz22_1, hfz22_2⟩ := cf3 BK934.out))
  go_ret
  exact ⟨rr, bb HB⟩
 rw [if_pos c3] at H
 have c3b0 : (a0_0 == a1_0) = true := beq_iff_eq.mpr c3
 have c3b1 : (a0_0 != a1_0) = false := bne_eq_false_iff_eq.mpr c3
 clear c3
 obtain ⟨t935, A4, H⟩ := be H
 by_cases c5 : t935 = true
 rotate_left
 ·replace c5 := Bool.eq_false_iff.mpr c5
  subst c5
  replace H := fi H
  obtain rfl := Option.some.inj H
  go_enter Try.func10, Try.ntmps10
  go_wp2_with (first | ((with_reducible refine gate_dst (N := 2) rfl ?_); refine bx 2 rfl rfl #[.int .i64 a0_0, .slice A0_1 l0_1.length c0_1, .slice A0_2 l0_2.length c0_2] 25 ?_; intro gb933 hg w13 hbox hb; have BK933 := Aside0.mk (hbox); have GE933 := ge HB hg; replace HB := sb HB hb; clear hb hbox hg) | ((with_reducible refine gate_dst (N := 3) rfl ?_); refine bx 3 rfl rfl #[.int .i64 a1_0, .slice A1_1 l1_1.length c1_1, .slice A1_2 l1_2.length c1_2] 25 ?_; intro gb934 hg w14 hbox hb; have BK934 := Aside0.mk (hbox); have GE934 := ge HB hg; have NB933_934 := Aside0.mk ((by rw [hg]; exact Nat.ne_of_lt (blk_lt (kk BK933)) : gb933 ≠ gb934)); have NB934_933 := Aside0.mk ((by rw [hg]; exact Nat.ne_of_gt (blk_lt (kk BK933)) : gb934 ≠ gb933)); replace BK933 := kb BK933 hb; replace HB := sb HB hb; clear hb hbox hg; have hnb15 := NB933_934.out; have hnc15 := NB934_933.out; obtain ⟨hcz16_0, hcz16_1, hcz16_2, hfz16_0, hfz16_1, hfz16_2⟩ := cf3 BK933.out; obtain ⟨hcz17_0, hcz17_1, hcz17_2, hfz17_0, hfz17_1, hfz17_2⟩ := cf3 BK934.out) | (go_at_call 24; (with_reducible refine (r3_SameVars.calls k _ _ l0_1 _ _ l1_1 false _ ?side1 ?side2 ?side3 ?side4 A4.out).mono ?_); (case side1 => exact cb HR0_1 HB); (case side2 => exact HC0_1.out); (case side3 => exact cb HR1_1 HB); (case side4 => exact HC1_1.out); rintro e w' ⟨rfl, ⟨nd, rfl⟩⟩))
  go_ret
  exact ⟨rr, bb HB⟩
 subst c5
 replace H := it H
 obtain ⟨t936, A6, H⟩ := be H
 obtain rfl := Option.some.inj H
 go_enter Try.func10, Try.ntmps10
 go_wp2_with (first | ((with_reducible refine gate_dst (N := 2) rfl ?_); refine bx 2 rfl rfl #[.int .i64 a0_0, .slice A0_1 l0_1.length c0_1, .slice A0_2 l0_2.length c0_2] 25 ?_; intro gb933 hg w7 hbox hb; have BK933 := Aside0.mk (hbox); have GE933 := ge HB hg; replace HB := sb HB hb; clear hb hbox hg) | ((with_reducible refine gate_dst (N := 3) rfl ?_); refine bx 3 rfl rfl #[.int .i64 a1_0, .slice A1_1 l1_1.length c1_1, .slice A1_2 l1_2.length c1_2] 25 ?_; intro gb934 hg w8 hbox hb; have BK934 := Aside0.mk (hbox); have GE934 := ge HB hg; have NB933_934 := Aside0.mk ((by rw [hg]; exact Nat.ne_of_lt (blk_lt (kk BK933)) : gb933 ≠ gb934)); have NB934_933 := Aside0.mk ((by rw [hg]; exact Nat.ne_of_gt (blk_lt (kk BK933)) : gb934 ≠ gb933)); replace BK933 := kb BK933 hb; replace HB := sb HB hb; clear hb hbox hg; have hnb9 := NB933_934.out; have hnc9 := NB934_933.out; obtain ⟨hcz10_0, hcz10_1, hcz10_2, hfz10_0, hfz10_1, hfz10_2⟩ := cf3 BK933.out; obtain ⟨hcz11_0, hcz11_1, hcz11_2, hfz11_0, hfz11_1, hfz11_2⟩ := cf3 BK934.out) | (go_at_call 24; (with_reducible refine (r3_SameVars.calls k _ _ l0_1 _ _ l1_1 true _ ?side1 ?side2 ?side3 ?side4 A4.out).mono ?_); (case side1 => exact cb HR0_1 HB); (case side2 => exact HC0_1.out); (case side3 => exact cb HR1_1 HB); (case side4 => exact HC1_1.out); rintro e w' ⟨rfl, ⟨nd, rfl⟩⟩) | (go_at_call 25; (with_reducible refine (r3_SameRows.calls k _ _ l0_2 _ _ l1_2 t936 _ ?side1 ?side2 ?side3 ?side4 A6.out).mono ?_); (case side1 => repeat (first | exact (Kd.C_below HR0_2.out (bb HB)) | with_reducible first | apply Kd.C_alloc | apply Kd.C_drewN | apply Kd.C_drew)); (case side2 => exact HC0_2.out); (case side3 => repeat (first | exact (Kd.C_below HR1_2.out (bb HB)) | with_reducible first | apply Kd.C_alloc | apply Kd.C_drewN | apply Kd.C_drew)); (case side4 => exact HC1_2.out); rintro e w12 ⟨rfl, hb⟩; replace BK933 := kb BK933 hb; replace BK934 := kb BK934 hb; replace HB := sb HB hb; (try clear hb)))
 go_ret
 exact ⟨rr, bb HB⟩
theorem exprs_loop : ∀ (suf pre : List S52), goodEs suf → (pre ++ suf).length ≤ 9223372036854775807 → Tells (fun k => r3_exprs.l0 k (pre ++ suf) (pre ++ suf) (pre.length : Int)) true
  | [], pre, _, _ => by
    refine Tells.succ ?_
    simp only [r3_exprs.l0, pre_nlt, if_false]
    exact Tells.pure _
  | x :: r, pre, hg, hl => by
    refine Tells.succ ?_
    simp only [r3_exprs.l0, pre_lt, pre_pos, if_true, rdE_mid]
    refine Tells.bind (sameE.1 x hg.1) (Tells.ifT rfl ?_)
    rw [pre_next pre x r hl]
    have ih := exprs_loop r (pre ++ [x]) hg.2 (by rw [← pre_app]; exact hl)
    rw [← pre_app] at ih
    exact ih
theorem exprs_tells (l : List S52) (hg : goodEs l) (hl : l.length ≤ 9223372036854775807) : Tells (fun k => r3_exprs.f k l l) true := by
  unfold r3_exprs.f
  exact Tells.ifT rfl (exprs_loop l [] hg hl)
theorem sameS : (∀ x, goodS x → Tells (fun k => r3_SameStmt.f k x.f0 x.f1 x.f2 x.f3 x.f4 x.f0 x.f1 x.f2 x.f3 x.f4) true) ∧
    (∀ suf, goodSs suf → ∀ (pre : List S57), (pre ++ suf).length ≤ 9223372036854775807 → Tells (fun k => r3_SameRows.l0 k (pre ++ suf) (pre ++ suf) (pre.length : Int)) true) := by
  refine S_ind (fun a b l t e iht ihe => ?_) ?_ (fun x r ih1 ih2 => ?_)
  · intro hg
    rw [goodS_mk] at hg
    obtain ⟨⟨g1, g2⟩, ⟨g3, g4⟩, ⟨g5, g6⟩⟩ := hg
    refine Tells.succ ?_
    simp only [r3_SameStmt.f, if_true]
    have rt : ∀ q : List S57, Tells (fun k => r3_SameRows.l0 k q q 0) true → Tells (fun k => r3_SameRows.f k q q) true := by
      intro q h
      refine Tells.succ ?_
      simp only [r3_SameRows.f, if_true]
      exact h
    exact Tells.bind (exprs_tells l g2 g1) (Tells.ifT rfl (Tells.bind (rt t (iht g4 [] g3)) (Tells.ifT rfl (Tells.bind (rt e (ihe g6 [] g5)) (Tells.pure _)))))
  · intro _ pre _
    refine Tells.succ ?_
    simp only [r3_SameRows.l0, pre_nlt, if_false]
    exact Tells.pure _
  · intro hg pre hl
    refine Tells.succ ?_
    simp only [r3_SameRows.l0, pre_lt, pre_pos, if_true, rdS_mid]
    refine Tells.bind (ih1 hg.1) (Tells.ifT rfl ?_)
    rw [pre_next pre x r hl]
    have ih := ih2 hg.2 (pre ++ [x]) (by rw [← pre_app]; exact hl)
    rw [← pre_app] at ih
    exact ih
theorem sameRows (l : List S57) (hg : goodSs l) (hl : l.length ≤ 9223372036854775807) : Tells (fun k => r3_SameRows.f k l l) true := by
  refine Tells.succ ?_
  simp only [r3_SameRows.f, if_true]
  exact sameS.2 l hg [] hl
theorem sameVars_loop : ∀ (suf pre : List S42), (pre ++ suf).length ≤ 9223372036854775807 → Tells (fun k => r3_SameVars.l0 k (pre ++ suf) (pre ++ suf) (pre.length : Int)) true
  | [], pre, _ => by
    refine Tells.succ ?_
    simp only [r3_SameVars.l0, pre_nlt, if_false]
    exact Tells.pure _
  | v :: r, pre, hl => by
    refine Tells.succ ?_
    simp only [r3_SameVars.l0, pre_lt, pre_pos, if_true, rdV_mid, beq_self_eq_true, Bool.not_true, Bool.or_self, Bool.false_eq_true, if_false]
    rw [pre_next pre v r hl]
    have ih := sameVars_loop r (pre ++ [v]) (by rw [← pre_app]; exact hl)
    rw [← pre_app] at ih
    exact ih
theorem sameVars (l : List S42) (hl : l.length ≤ 9223372036854775807) : Tells (fun k => r3_SameVars.f k l l) true := by
  unfold r3_SameVars.f
  exact Tells.ifT rfl (sameVars_loop l [] hl)
theorem sameProg (w : Int) (vars : List S42) (body : List S57) (hv : vars.length ≤ 9223372036854775807) (hg : goodSs body) (hl : body.length ≤ 9223372036854775807) : Tells (fun k => r3_Same.f k w vars body w vars body) true := by
  unfold r3_Same.f
  exact Tells.ifT rfl (Tells.bind (sameVars vars hv) (Tells.ifT rfl (Tells.bind (sameRows body hg hl) (Tells.pure _))))
mutual
def r2_Copy.l0 : Nat → Int → Int → Int → Int → List (S52) → Int → Int → Int → List (S52) → Option (Int × Int × Int × (List (S52)))
 | 0, _, _, _, _, _, _, _, _, _ => none
 | k + 1, x4, x875000, x875001, x875002, x875003, x877000, x877001, x877002, x877003 => if x4 < (x875003.length : Int) then (if 0 ≤ x4 then ((r2_Copy.f k ((rd_T52 x875003 x4).f0) ((rd_T52 x875003 x4).f1) ((rd_T52 x875003 x4).f2) ((rd_T52 x875003 x4).f3)).bind fun bt878 => (if x877003.length < 2932031007402 then (r2_Copy.l0 k (wrap64 (x4 + 1)) x875000 x875001 x875002 x875003 x877000 x877001 x877002 (x877003 ++ [(⟨bt878.1, bt878.2.1, bt878.2.2.1, bt878.2.2.2⟩ : S52)])) else (none))) else (none)) else (some (x877000, x877001, x877002, x877003))
def r2_Copy.f : Nat → Int → Int → Int → List (S52) → Option (Int × Int × Int × (List (S52)))
 | 0, _, _, _, _ => none
 | k + 1, a0_0, a0_1, a0_2, l0_3 => r2_Copy.l0 k 0 a0_0 a0_1 a0_2 l0_3 a0_0 a0_1 a0_2 ([] : List (S52))
end
def r2_Copy.T5 : Bool × List (List Nat × List Nat) := (true, [([], []), ([0], [0]), ([], []), ([2], [2]), ([], []), ([3, 4], [3, 4]), ([5], [5]), ([6], [6]), ([7], [7]), ([1, 8, 7], [1, 8]), ([0, 1, 2, 3, 4, 5, 6, 7, 8, 9], []), ([10, 9, 9, 0, 1, 2, 3, 4, 5, 6, 7, 8, 9], [9, 10])])
def r2_Copy.B5 : List Nat := [0, 1, 0, 4, 0, 28, 60, 124, 252, 511, 1023, 2047]
theorem r2_Copy.tab5 : rtab .any (opsOf Try.f36 5) = r2_Copy.T5 := by kernel_rfl
theorem r2_Copy.bits5 : waitsOk r2_Copy.T5.2 r2_Copy.B5 = true := by kernel_rfl
theorem r2_Copy.calls (k : Nat) : ∀ (a0_0 : Int) (a0_1 : Int) (a0_2 : Int) (A0_3 : Option Addr) (c0_3 : Nat) (l0_3 : List (S52)) (r1 : Int) (r2 : Int) (r3 : Int) (r4 : List (S52)) (w : World) (hr0_3 : Kd.C k52 w A0_3 l0_3.length l0_3) (hc0_3 : l0_3.length ≤ c0_3) (h : r2_Copy.f k a0_0 a0_1 a0_2 l0_3 = some (r1, r2, r3, r4)),
  Calls Try.prog 36 #[.agg #[.int .i64 a0_0, .int .i64 a0_1, .int .i64 a0_2, .slice A0_3 l0_3.length c0_3]] w fun e w' => ∃ v3_ : Value, e = .returned (.agg #[.int .i64 r1, .int .i64 r2, .int .i64 r3, v3_]) ∧ Kd.R k52 52 w' w.heap.size (fun _ => True) v3_ r4 ∧ Below w.heap.size w w' := by
 induction k using Nat.strongRecOn with
 | _ k ih =>
 intro a0_0 a0_1 a0_2 A0_3 c0_3 l0_3 r1 r2 r3 r4 w hr0_3 hc0_3 h
 cases k with
 | zero => exact absurd h (by simp [r2_Copy.f])
 | succ k =>
 simp only [r2_Copy.f] at h
 have hu52 := Try.underlying52
 have HR0_3 := Aside0.mk hr0_3
 have HC0_3 := Aside0.mk hc0_3
 clear hr0_3 hc0_3
 have HB := Aside0.mk (Below.refl w.heap.size w)
 have H : (r2_Copy.l0 k 0 a0_0 a0_1 a0_2 l0_3 a0_0 a0_1 a0_2 ([] : List (S52))) = some (r1, r2, r3, r4) := h
 clear h
 have H' := Aside0.mk H
 clear H
 go_enter Try.func36, Try.ntmps36
 go_wp2_with (first | ((with_reducible refine gate_dst (N := 1) rfl ?_); refine bx 1 rfl rfl #[.int .i64 a0_0, .int .i64 a0_1, .int .i64 a0_2, .slice A0_3 l0_3.length c0_3] 52 ?_; intro gb874 hg w2 hbox hb; have BK874 := Aside0.mk (hbox); have GE874 := ge HB hg; replace HB := sb HB hb; clear hb hbox hg) | ((with_reducible refine gate_dst (N := 2) rfl ?_); refine bx 2 rfl rfl #[.int .i64 0, .int .i64 0, .int .i64 0, .slice none 0 0] 52 ?_; intro gb875 hg w3 hbox hb; have BK875 := Aside0.mk (hbox); have GE875 := ge HB hg; have NB874_875 := Aside0.mk ((by rw [hg]; exact Nat.ne_of_lt (blk_lt (kk BK874)) : gb874 ≠ gb875)); have NB875_874 := Aside0.mk ((by rw [hg]; exact Nat.ne_of_gt (blk_lt (kk BK874)) : gb875 ≠ gb874)); replace BK874 := kb BK874 hb; replace HB := sb HB hb; clear hb hbox hg; have hnb4 := NB874_875.out; have hnc4 := NB875_874.out; obtain ⟨hcz5_0, hcz5_1, hcz5_2, hcz5_3, hfz5_0, hfz5_1, hfz5_2, hfz5_3⟩ := cf4 BK874.out) | ((with_reducible refine gate_dst (N := 3) rfl ?_); refine bx 3 rfl rfl #[.int .i64 0, .int .i64 0, .int .i64 0, .slice none 0 0] 52 ?_; intro gb876 hg w6 hbox hb; have BK876 := Aside0.mk (hbox); have GE876 := ge HB hg; have NB874_876 := Aside0.mk ((by rw [hg]; exact Nat.ne_of_lt (blk_lt (kk BK874)) : gb874 ≠ gb876)); have NB876_874 := Aside0.mk ((by rw [hg]; exact Nat.ne_of_gt (blk_lt (kk BK874)) : gb876 ≠ gb874)); have NB875_876 := Aside0.mk ((by rw [hg]; exact Nat.ne_of_lt (blk_lt (kk BK875)) : gb875 ≠ gb876)); have NB876_875 := Aside0.mk ((by rw [hg]; exact Nat.ne_of_gt (blk_lt (kk BK875)) : gb876 ≠ gb875)); replace BK874 := kb BK874 hb; replace BK875 := kb BK875 hb; replace HB := sb HB hb; clear hb hbox hg; have hnb7 := NB876_874.out; have hnc7 := NB874_876.out; have hnb8 := NB876_875.out; have hnc8 := NB875_876.out; obtain ⟨hcz9_0, hcz9_1, hcz9_2, hcz9_3, hfz9_0, hfz9_1, hfz9_2, hfz9_3⟩ := cf4 BK876.out))
 go_loopg [4] k (fun kq v4 w' => ∃ (x4_1 : Int) (x877003_1 : List (S52)) (u877003 : Value), v4 = .int .i64 x4_1 ∧ Aside0 (r2_Copy.l0 kq x4_1 a0_0 a0_1 a0_2 l0_3 a0_0 a0_1 a0_2 x877003_1 = some (r1, r2, r3, r4)) ∧ Aside0 (kq ≤ k) ∧ Aside0 (Kd.R k52 52 w' w.heap.size (fun k_ => k_ ≠ gb874 ∧ k_ ≠ gb875 ∧ k_ ≠ gb876) u877003 x877003_1) ∧ Aside0 (w'.heap[gb874]? = some (.cells #[.int .i64 a0_0, .int .i64 a0_1, .int .i64 a0_2, (.slice A0_3 l0_3.length c0_3)] 52 (0, 0))) ∧ Aside0 (w'.heap[gb875]? = some (.cells #[.int .i64 0, .int .i64 0, .int .i64 0, (.slice none 0 0)] 52 (0, 0))) ∧ Aside0 (w'.heap[gb876]? = some (.cells #[.int .i64 a0_0, .int .i64 a0_1, .int .i64 a0_2, u877003] 52 (0, 0))) ∧ Aside0 (Below w.heap.size w w'))
 case atStart => exact ⟨(0), (([] : List (S52))), (.slice none 0 0), rs, H', ⟨Nat.le_refl _⟩, ⟨by first | exact Kd.R_nil _ _ _ _ _ | exact Kd.N_nil _ _ _ _ _ | exact Kd.V_nil _ _ _ _ _ | exact Kd.Q_nil _ _ _ _ _ | exact Kd.S_nil _ _ _ _ _⟩, ⟨kk BK874⟩, ⟨kk BK875⟩, ⟨by (with_reducible repeat (first | refine kdN ?_ _ | refine kdr ?_ | refine kal ?_ _)); refine blk_put (cs := #[.int .i64 a0_0, .int .i64 a0_1, .int .i64 a0_2, .slice none 0 0]) ?_ 3 _ rfl; (with_reducible repeat (first | refine kdN ?_ _ | refine kdr ?_ | refine kal ?_ _)); refine blk_put (cs := #[.int .i64 a0_0, .int .i64 a0_1, .int .i64 0, .slice none 0 0]) ?_ 2 _ rfl; (with_reducible repeat (first | refine kdN ?_ _ | refine kdr ?_ | refine kal ?_ _)); refine blk_put (cs := #[.int .i64 a0_0, .int .i64 0, .int .i64 0, .slice none 0 0]) ?_ 1 _ rfl; (with_reducible repeat (first | refine kdN ?_ _ | refine kdr ?_ | refine kal ?_ _)); refine blk_put (cs := #[.int .i64 0, .int .i64 0, .int .i64 0, .slice none 0 0]) ?_ 0 _ rfl; (with_reducible repeat (first | refine kdN ?_ _ | refine kdr ?_ | refine kal ?_ _)); exact BK876.out⟩, ⟨bb HB⟩⟩
 case round =>
  clear H'
  try clear p2
  try clear c3
  try clear c4
  try clear c7
  try clear c8
  try clear hcz5_0 hcz5_1 hcz5_2 hcz5_3
  try clear hcz9_0 hcz9_1 hcz9_2 hcz9_3
  try clear hfz5_0 hfz5_1 hfz5_2 hfz5_3
  try clear hfz9_0 hfz9_1 hfz9_2 hfz9_3
  obtain ⟨x4_1, x877003_1, u877003, rfl, HA, HK1, HO_877003, BK874, BK875, BK876, HB⟩ := hrel
  cases gk with
  | zero => exact absurd HA.out (by simp [r2_Copy.l0])
  | succ k1 =>
   have H := HA.out
   clear HA
   simp only [r2_Copy.l0] at H
   by_cases c10 : x4_1 < (l0_3.length : Int)
   rotate_left
   ·rw [if_neg c10] at H
    have c10b0 : decide (x4_1 < (l0_3.length : Int)) = false := decide_eq_false c10
    clear c10
    simp only [Option.some.injEq, Prod.mk.injEq] at H
    obtain ⟨rfl, rfl, rfl, rfl⟩ := H
    have hnb23 := NB874_875.out
    have hnc23 := NB875_874.out
    have hnb24 := NB874_876.out
    have hnc24 := NB876_874.out
    obtain ⟨hcz25_0, hcz25_1, hcz25_2, hcz25_3, hfz25_0, hfz25_1, hfz25_2, hfz25_3⟩ := cf4 BK874.out
    have hnb26 := NB876_875.out
    have hnc26 := NB875_876.out
    obtain ⟨hcz27_0, hcz27_1, hcz27_2, hcz27_3, hfz27_0, hfz27_1, hfz27_2, hfz27_3⟩ := cf4 BK876.out
    obtain ⟨hcz28_0, hcz28_1, hcz28_2, hcz28_3, hfz28_0, hfz28_1, hfz28_2, hfz28_3⟩ := cf4 BK875.out
    obtain ⟨Ao29, co29, eo29⟩ := Kd.R_slice HO_877003.out
    subst eo29
    go_wp2
    refine bodyPost_ret (results_cell_row rfl _ _ gb875 52 #[.int .i64 a0_0, .int .i64 a0_1, .int .i64 a0_2, .slice Ao29 x877003_1.length co29] (0, 0) _ rfl (by (with_reducible repeat (first | refine kdN ?_ _ | refine kdr ?_ | refine kal ?_ _)); refine blk_put (cs := #[.int .i64 a0_0, .int .i64 a0_1, .int .i64 a0_2, .slice none 0 0]) ?_ 3 _ rfl; (with_reducible repeat (first | refine kdN ?_ _ | refine kdr ?_ | refine kal ?_ _)); refine blk_put (cs := #[.int .i64 a0_0, .int .i64 a0_1, .int .i64 0, .slice none 0 0]) ?_ 2 _ rfl; (with_reducible repeat (first | refine kdN ?_ _ | refine kdr ?_ | refine kal ?_ _)); refine blk_put (cs := #[.int .i64 a0_0, .int .i64 0, .int .i64 0, .slice none 0 0]) ?_ 1 _ rfl; (with_reducible repeat (first | refine kdN ?_ _ | refine kdr ?_ | refine kal ?_ _)); refine blk_put (cs := #[.int .i64 0, .int .i64 0, .int .i64 0, .slice none 0 0]) ?_ 0 _ rfl; (with_reducible repeat (first | refine kdN ?_ _ | refine kdr ?_ | refine kal ?_ _)); exact BK875.out) Try.underlying52 rfl (by kernel_rfl)) rfl ?_
    exact ⟨_, rr, by (with_reducible repeat (first | apply Kd.R_alloc | apply Kd.R_drewN | apply Kd.R_drew)); exact Kd.R_mono (Kd.R_far (p := ⟨gb875, 3, none⟩) (Kd.R_far (p := ⟨gb875, 2, none⟩) (Kd.R_far (p := ⟨gb875, 1, none⟩) (Kd.R_far (p := ⟨gb875, 0, none⟩) (Kd.R_mono HO_877003.out (fun k_ hk => (⟨hk, hk.2.1⟩ : _ ∧ k_ ≠ gb875))) (fun _ hk => hk.2) (.int .i64 a0_0)) (fun _ hk => hk.2) (.int .i64 a0_1)) (fun _ hk => hk.2) (.int .i64 a0_2)) (fun _ hk => hk.2) (.slice Ao29 x877003_1.length co29)) (fun _ hk => trivial), bb HB⟩
   rw [if_pos c10] at H
   have c10b0 : decide (x4_1 < (l0_3.length : Int)) = true := decide_eq_true c10
   clear c10
   by_cases c11 : 0 ≤ x4_1
   rotate_left
   ·rw [if_neg c11] at H
    exact absurd H (by simp)
   rw [if_pos c11] at H
   have c11b0 : decide (0 ≤ x4_1) = true := decide_eq_true c11
   clear c11
   replace H := Option.bind_eq_some_iff.mp H
   obtain ⟨⟨t878, t879, t880, t881⟩, A120, H⟩ := H
   replace H : (if x877003_1.length < 2932031007402 then (r2_Copy.l0 k1 (wrap64 (x4_1 + 1)) a0_0 a0_1 a0_2 l0_3 a0_0 a0_1 a0_2 (x877003_1 ++ [(⟨t878, t879, t880, t881⟩ : S52)])) else (none)) = some (r1, r2, r3, r4) := H
   have A12 := Aside0.mk A120
   clear A120
   by_cases c13 : x877003_1.length < 2932031007402
   rotate_left
   ·rw [if_neg c13] at H
    exact absurd H (by simp)
   rw [if_pos c13] at H
   have LMc13 := Aside0.mk c13
   clear c13
   obtain ⟨y884, hy884⟩ : ∃ y_ : List (S52), y_ = (x877003_1 ++ [(⟨t878, t879, t880, t881⟩ : S52)]) := ⟨_, rfl⟩
   replace H : (r2_Copy.l0 k1 (wrap64 (x4_1 + 1)) a0_0 a0_1 a0_2 l0_3 a0_0 a0_1 a0_2 y884) = some (r1, r2, r3, r4) := by first | (rw [hy884]; with_reducible exact H) | (have H2_ := (Option.bind_some _ _).symm.trans H; rw [hy884]; with_reducible exact H2_) | (have H2_ := (Option.bind_some _ _).symm.trans H; with_reducible exact H2_) | with_reducible exact H | (rw [hy884]; exact H) | exact H
   have Ny884 := Aside0.mk hy884
   clear hy884
   have H' := Aside0.mk H
   clear H
   have hnb14 := NB874_875.out
   have hnc14 := NB875_874.out
   have hnb15 := NB874_876.out
   have hnc15 := NB876_874.out
   obtain ⟨hcz16_0, hcz16_1, hcz16_2, hcz16_3, hfz16_0, hfz16_1, hfz16_2, hfz16_3⟩ := cf4 BK874.out
   try go_wp2
   replace HO_877003 := Aside0.mk (Kd.R_drew HO_877003.out)
   replace BK874 := Aside0.mk (kdr BK874.out)
   replace BK875 := Aside0.mk (kdr BK875.out)
   replace BK876 := Aside0.mk (kdr BK876.out)
   replace HB := Aside0.mk (bd1 HB.out)
   have p877 : 0 ≤ (x4_1 : Int) := od
   have q877 : x4_1 < (l0_3.length : Int) := od
   obtain ⟨ad877, A877_3, c877_3, e877, hx877_0, hx877_1, hx877_2, hx877_3, hl877_3, hi877_3⟩ := at_T52 HR0_3.out x4_1 p877 q877
   have hw877_3 := hx877_3
   have hw877_2 := hx877_2
   have hw877_1 := hx877_1
   have hw877_0 := hx877_0
   cases e877
   replace hx877_0 := bcell HB.out hx877_0
   replace hx877_1 := bcell HB.out hx877_1
   replace hx877_2 := bcell HB.out hx877_2
   replace hx877_3 := bcell HB.out hx877_3
   have HR877_3 := Aside0.mk hi877_3
   have HC877_3 := Aside0.mk hl877_3
   clear hi877_3 hl877_3
   replace p877 := eq_true p877
   replace q877 := eq_true q877
   refine start_ (n := 12) (S := fun w' => w'.cell? ⟨gb876, 0, none⟩ = some (.int .i64 a0_0) ∧ w'.cell? ⟨gb876, 1, none⟩ = some (.int .i64 a0_1) ∧ w'.cell? ⟨gb876, 2, none⟩ = some (.int .i64 a0_2) ∧ w'.cell? ⟨gb876, 3, none⟩ = some (u877003) ∧ w'.cell? ⟨gb874, 0, none⟩ = some (.int .i64 a0_0) ∧ w'.cell? ⟨gb874, 1, none⟩ = some (.int .i64 a0_1) ∧ w'.cell? ⟨gb874, 2, none⟩ = some (.int .i64 a0_2) ∧ w'.cell? ⟨gb874, 3, none⟩ = some (.slice (some ad877) l0_3.length c0_3) ∧ w'.cell? (ad877.add ((x4_1).toNat * 4)) = some (.int .i64 ((rd_T52 l0_3 x4_1).f0)) ∧ w'.cell? ⟨(ad877.add ((x4_1).toNat * 4)).block, (ad877.add ((x4_1).toNat * 4)).off + 1, none⟩ = some (.int .i64 ((rd_T52 l0_3 x4_1).f1)) ∧ w'.cell? ⟨(ad877.add ((x4_1).toNat * 4)).block, (ad877.add ((x4_1).toNat * 4)).off + 2, none⟩ = some (.int .i64 ((rd_T52 l0_3 x4_1).f2)) ∧ w'.cell? ⟨(ad877.add ((x4_1).toNat * 4)).block, (ad877.add ((x4_1).toNat * 4)).off + 3, none⟩ = some (.slice A877_3 ((rd_T52 l0_3 x4_1).f3).length c877_3)) (ds := [11]) #[false, false, false, false, false, false, false, false, false, false, false, false] (by kernel_rfl) rfl rfl ⟨(blk_cell BK876.out 0).trans rfl, (blk_cell BK876.out 1).trans rfl, (blk_cell BK876.out 2).trans rfl, (blk_cell BK876.out 3).trans rfl, (blk_cell BK874.out 0).trans rfl, (blk_cell BK874.out 1).trans rfl, (blk_cell BK874.out 2).trans rfl, (blk_cell BK874.out 3).trans rfl, (bcell HB.out hw877_0), (bcell HB.out hw877_1), (bcell HB.out hw877_2), (bcell HB.out hw877_3)⟩ (fun hHeld => ?_); refine with_tabW r2_Copy.tab5 r2_Copy.bits5 (fun HT_ HW_ => ?_)
   generalize wr.drew = w17 at HO_877003 BK874 BK875 BK876 HB HR877_3 hx877_0 hx877_1 hx877_2 hx877_3 hHeld ⊢
   refine pT 0 19 (bl 12 1) HT_ rfl rfl ?_
   refine pT 2 21 (bl 12 5) HT_ rfl rfl ?_
   refine pT 4 23 (bl 12 21) HT_ rfl rfl ?_
   refine tk (i := 1) (N := some 20) (bl 12 23) rfl rfl (take_ofW HT_.out HW_.out (by kernel_rfl)) hHeld ?_
   refine tk (i := 3) (N := some 22) (bl 12 31) rfl rfl (take_ofW HT_.out HW_.out (by kernel_rfl)) hHeld ?_
   refine pT 5 24 (bl 12 63) HT_ rfl rfl ?_
   refine tk (i := 6) (N := some 25) (bl 12 127) rfl rfl (take_ofW HT_.out HW_.out (by kernel_rfl)) hHeld ?_
   refine one_ (i := 7) (N := some 26) (bl 12 255) rfl rfl (one_of HT_.out (by kernel_rfl)) (by decide) (fun K hK => ?_)
   refine gO Try.func36 #[.agg #[.int .i64 ((rd_T52 l0_3 x4_1).f0), .int .i64 ((rd_T52 l0_3 x4_1).f1), .int .i64 ((rd_T52 l0_3 x4_1).f2), .slice A877_3 ((rd_T52 l0_3 x4_1).f3).length c877_3]] (by rfl) rfl rfl ?_
   with_reducible refine (ih k1 (by have := HK1.out; omega) ((rd_T52 l0_3 x4_1).f0) ((rd_T52 l0_3 x4_1).f1) ((rd_T52 l0_3 x4_1).f2) _ _ ((rd_T52 l0_3 x4_1).f3) t878 t879 t880 t881 _ ?side1 ?side2 A12.out).mono ?_
   (case side1 => exact cb HR877_3 HB)
   (case side2 => exact HC877_3.out)
   rintro e w18 ⟨v882, rfl, ho0, hb⟩
   refine ⟨_, rfl, ?_⟩
   have HO883 := Aside0.mk (Kd.R_lower (Kd.R_newB (Kd.R_newB (Kd.R_newB (Kd.R_new' ho0 (Kd.R_lt (iR HO_877003))) (kk BK874)) (kk BK875)) (kk BK876)) (bsz (bb HB)))
   replace HO_877003 := Aside0.mk (Kd.R_elder' (iR HO_877003) (Kd.R_base ho0) hb)
   replace BK874 := kb BK874 hb
   replace BK875 := kb BK875 hb
   replace BK876 := kb BK876 hb
   replace HB := sb HB hb
   (try clear hb)
   (try clear hb2)
   (try clear hk)
   (try clear hi)
   (try clear ho0)
   obtain ⟨Ao20, co20, eo20⟩ := Kd.R_slice HO883.out
   (first | subst eo20 | (injection eo20 with f1_ f2_ f3_; have f4_ := f1_.symm; have f5_ := f3_.symm; clear f1_ f2_ f3_; subst f4_; subst f5_))
   refine hK.out _ _ ⟨(blk_cell BK876.out 0).trans rfl, (blk_cell BK876.out 1).trans rfl, (blk_cell BK876.out 2).trans rfl, (blk_cell BK876.out 3).trans rfl, (blk_cell BK874.out 0).trans rfl, (blk_cell BK874.out 1).trans rfl, (blk_cell BK874.out 2).trans rfl, (blk_cell BK874.out 3).trans rfl, (bcell HB.out hw877_0), (bcell HB.out hw877_1), (bcell HB.out hw877_2), (bcell HB.out hw877_3)⟩ (fun hHeld => ?_)
   clear hK K
   refine nm 26 ?_
   refine one_ (i := 8) (N := some 27) (bl 12 511) rfl rfl (one_of HT_.out (by kernel_rfl)) (by decide) (fun K hK => ?_)
   refine value_ (w1 := ?_) (v := ?_) (by rfl) rfl ?_ ?_
   rotate_left 2
   ·go_simp
    constructor
    ·rfl
    ·rfl
   refine hK.out _ _ ⟨(blk_cell (kal BK876.out _) 0).trans rfl, (blk_cell (kal BK876.out _) 1).trans rfl, (blk_cell (kal BK876.out _) 2).trans rfl, (blk_cell (kal BK876.out _) 3).trans rfl, (blk_cell (kal BK874.out _) 0).trans rfl, (blk_cell (kal BK874.out _) 1).trans rfl, (blk_cell (kal BK874.out _) 2).trans rfl, (blk_cell (kal BK874.out _) 3).trans rfl, (World.cell?_alloc_lt _ _ _ (World.block_lt_of_cell? _ _ ((bcell HB.out hw877_0)))).trans ((bcell HB.out hw877_0)), (World.cell?_alloc_lt _ _ _ (World.block_lt_of_cell? _ _ ((bcell HB.out hw877_1)))).trans ((bcell HB.out hw877_1)), (World.cell?_alloc_lt _ _ _ (World.block_lt_of_cell? _ _ ((bcell HB.out hw877_2)))).trans ((bcell HB.out hw877_2)), (World.cell?_alloc_lt _ _ _ (World.block_lt_of_cell? _ _ ((bcell HB.out hw877_3)))).trans ((bcell HB.out hw877_3))⟩ (fun hHeld => ?_)
   clear hK K
   refine nm 27 ?_
   refine one_ (i := 9) (N := some 28) (bl 12 1023) rfl rfl (one_of HT_.out (by kernel_rfl)) (by decide) (fun K hK => ?_)
   refine Kd.R_append_step k52 (w0 := w) w.heap.size (by rfl) (.tmp 20) (.tmp 27) 50 52 (.agg #[(.int .i64 0), (.int .i64 0), (.int .i64 0), (.slice none 0 0)]) 48 rfl Try.underlying50 info52 rfl (by decide) (by omega) u877003 x877003_1 (⟨t878, t879, t880, t881⟩ : S52) [.int .i64 t878, .int .i64 t879, .int .i64 t880, .slice Ao20 t881.length co20] (fun k_ => k_ ≠ gb874 ∧ k_ ≠ gb875 ∧ k_ ≠ gb876) (fun k_ => ((fun k_ => k_ ≠ gb874 ∧ k_ ≠ gb875 ∧ k_ ≠ gb876)) k_ ∧ some k_ ≠ (u877003 : Value).ownBlock) rfl rfl ?aP (fun _ hk => hk) ?aF ?aO ?aB ?aS ?aL ?_
   (case aP => exact k52_mkM _ _ _ (⟨t878, t879, t880, t881⟩ : S52) (Kd.R_mono (HO883.out) (fun k_ hk => ⟨⟨hk.1.1.2, ⟨hk.1.2, hk.2⟩⟩, hk.1.1.1.2⟩)))
   (case aB => exact (bb HB))
   (case aF => exact (fun k_ hk => ⟨Kd.freshB (kk BK874) k_ hk, Kd.freshB (kk BK875) k_ hk, Kd.freshB (kk BK876) k_ hk⟩))
   (case aO => exact (by (with_reducible repeat (first | apply Kd.R_alloc | apply Kd.R_drewN | apply Kd.R_drew)); exact Kd.R_mono HO_877003.out (fun _ hk => ⟨hk.1.1, ⟨hk.1.2.1, hk.1.2.2⟩⟩)))
   (case aS => exact (bsz (bb HB)))
   (case aL => have := LMc13.out; omega)
   intro v885 w19 ho hb hg hat
   rw [← Ny884.out] at ho
   have HO886 := Aside0.mk (ho)
   replace BK874 := Aside0.mk (blk_grown (kk BK874) hg (Kd.R_away HO_877003.out (fun _ hk => hk.1.1)))
   replace BK875 := Aside0.mk (blk_grown (kk BK875) hg (Kd.R_away HO_877003.out (fun _ hk => hk.1.2.1)))
   replace BK876 := Aside0.mk (blk_grown (kk BK876) hg (Kd.R_away HO_877003.out (fun _ hk => hk.1.2.2)))
   replace HB := Aside0.mk (hb)
   clear HO_877003 HO883
   clear ho hb hg hat
   obtain ⟨Ao21, co21, eo21⟩ := Kd.R_slice HO886.out
   (first | subst eo21 | (injection eo21 with f1_ f2_ f3_; have f4_ := f1_.symm; have f5_ := f3_.symm; clear f1_ f2_ f3_; subst f4_; subst f5_))
   refine hK.out _ _ ⟨(blk_cell BK876.out 0).trans rfl, (blk_cell BK876.out 1).trans rfl, (blk_cell BK876.out 2).trans rfl, (blk_cell BK876.out 3).trans rfl, (blk_cell BK874.out 0).trans rfl, (blk_cell BK874.out 1).trans rfl, (blk_cell BK874.out 2).trans rfl, (blk_cell BK874.out 3).trans rfl, (bcell HB.out hw877_0), (bcell HB.out hw877_1), (bcell HB.out hw877_2), (bcell HB.out hw877_3)⟩ (fun hHeld => ?_)
   clear hK K
   refine nm 28 ?_
   refine pT 10 29 (bl 12 2047) HT_ rfl rfl ?_
   refine last_ (i := 11) (N := none) (bl 12 4095) rfl rfl (one_of HT_.out (by kernel_rfl)) (by decide) (fun K hK => ?_)
   have hs22 : w19.cell? ⟨gb876, 3, none⟩ = some (u877003) := (blk_cell BK876.out 3).trans rfl
   have hfs22 := blk_frozen BK876.out 3
   have hns22_0 := NB874_876.out
   have hns22_1 := NB875_876.out
   have hms22_0 := NB876_874.out
   have hms22_1 := NB876_875.out
   refine skip_ (w1 := ?_) (by rfl) rfl ?_ ?_
   rotate_left
   ·go_simp
    rfl
   refine hK.out _ _ ?_
   clear hK K
   refine done_ (done_of HT_.out (by kernel_rfl)) ?_
   try go_wp2
   go_roundg k1
   case measure => have := HK1.out; omega
   case rel => exact ⟨(wrap64 (x4_1 + 1)), (y884), (.slice Ao21 y884.length co21), rs, H', ⟨by have := HK1.out; omega⟩, ⟨by (with_reducible repeat (first | apply Kd.R_alloc | apply Kd.R_drewN | apply Kd.R_drew)); exact Kd.R_mono (Kd.R_far (p := ⟨gb876, 3, none⟩) (Kd.R_mono HO886.out (fun k_ hk => (⟨hk, hk.2.2⟩ : _ ∧ k_ ≠ gb876))) (fun _ hk => hk.2) (.slice Ao21 y884.length co21)) (fun _ hk => ⟨hk.1.1, ⟨hk.1.2.1, hk.1.2.2⟩⟩)⟩, ⟨kk BK874⟩, ⟨kk BK875⟩, ⟨by (with_reducible repeat (first | refine kdN ?_ _ | refine kdr ?_ | refine kal ?_ _)); refine blk_put (cs := #[.int .i64 a0_0, .int .i64 a0_1, .int .i64 a0_2, u877003]) ?_ 3 _ rfl; (with_reducible repeat (first | refine kdN ?_ _ | refine kdr ?_ | refine kal ?_ _)); exact BK876.out⟩, ⟨bb HB⟩⟩
mutual
def r3_CopyRows.l0 : Nat → List (S57) → List (S57) → Int → Option ((List (S57)))
 | 0, _, _, _ => none
 | k + 1, x0, x3, x4 => if x4 < (x0.length : Int) then (if 0 ≤ x4 then ((r3_CopyRows.f k ((rd_T57 x0 x4).f3)).bind fun t890 => ((r3_CopyRows.f k ((rd_T57 x0 x4).f4)).bind fun t894 => (r3_CopyRows.l1 k x0 x3 x4 0 ((rd_T57 x0 x4).f0) ((rd_T57 x0 x4).f1) ([] : List (S52)) t890 t894))) else (none)) else (some x3)
def r3_CopyRows.l1 : Nat → List (S57) → List (S57) → Int → Int → Int → Int → List (S52) → List (S57) → List (S57) → Option ((List (S57)))
 | 0, _, _, _, _, _, _, _, _, _ => none
 | k + 1, x0, x3, x4, x6, x898000, x898001, x898002, x898003, x898004 => if 0 ≤ x4 then (if x4 < (x0.length : Int) then (if x6 < (((rd_T57 x0 x4).f2).length : Int) then (if 0 ≤ x6 then ((r2_Copy.f k ((rd_T52 ((rd_T57 x0 x4).f2) x6).f0) ((rd_T52 ((rd_T57 x0 x4).f2) x6).f1) ((rd_T52 ((rd_T57 x0 x4).f2) x6).f2) ((rd_T52 ((rd_T57 x0 x4).f2) x6).f3)).bind fun bt901 => (if x898002.length < 2932031007402 then (r3_CopyRows.l1 k x0 x3 x4 (wrap64 (x6 + 1)) x898000 x898001 (x898002 ++ [(⟨bt901.1, bt901.2.1, bt901.2.2.1, bt901.2.2.2⟩ : S52)]) x898003 x898004) else (none))) else (none)) else (if x3.length < 1599289640401 then (r3_CopyRows.l0 k x0 (x3 ++ [(⟨x898000, x898001, x898002, x898003, x898004⟩ : S57)]) (wrap64 (x4 + 1))) else (none))) else (none)) else (none)
def r3_CopyRows.f : Nat → List (S57) → Option ((List (S57)))
 | 0, _ => none
 | k + 1, l0 => r3_CopyRows.l0 k l0 ([] : List (S57)) 0
end
def r3_CopyRows.T5 : Bool × List (List Nat × List Nat) := (true, [([], []), ([], []), ([0, 1], [0, 1]), ([2], [2]), ([3], [3]), ([], []), ([], []), ([5, 6], [5, 6]), ([7], [7]), ([8], [8]), ([], []), ([], []), ([10, 11], [10, 11]), ([12], [12]), ([13], [13]), ([14], [14]), ([], []), ([], []), ([16, 17], [16, 17]), ([18], [18]), ([19], [19]), ([20, 15], [20]), ([4, 9, 15, 21], [4, 9, 15, 21]), ([], []), ([23, 22, 21, 0, 1, 2, 3, 4, 5, 6, 7, 8, 9, 10, 11, 12, 13, 14, 15, 16, 17, 18, 19, 20, 21, 22, 23], [22, 23])])
def r3_CopyRows.B5 : List Nat := [0, 0, 3, 7, 15, 0, 0, 96, 224, 480, 0, 0, 3072, 7168, 15360, 31744, 0, 0, 196608, 458752, 983040, 2096128, 4194303, 0, 16777215]
theorem r3_CopyRows.tab5 : rtab .any (opsOf Try.f22 5) = r3_CopyRows.T5 := by kernel_rfl
theorem r3_CopyRows.bits5 : waitsOk r3_CopyRows.T5.2 r3_CopyRows.B5 = true := by kernel_rfl
def r3_CopyRows.T9 : Bool × List (List Nat × List Nat) := (true, [([], []), ([0], [0]), ([], []), ([], []), ([2, 3], [2, 3]), ([4], [4]), ([5], [5]), ([], []), ([6, 7], [6, 7]), ([8], [8]), ([9], [9]), ([10], [10]), ([1, 11, 10], [1, 11]), ([0, 1, 2, 3, 4, 5, 6, 7, 8, 9, 10, 11, 12], []), ([13, 12, 12, 0, 1, 2, 3, 4, 5, 6, 7, 8, 9, 10, 11, 12], [12, 13])])
def r3_CopyRows.B9 : List Nat := [0, 1, 0, 0, 12, 28, 60, 0, 252, 508, 1020, 2044, 4095, 8191, 16383]
theorem r3_CopyRows.tab9 : rtab .any (opsOf Try.f22 9) = r3_CopyRows.T9 := by kernel_rfl
theorem r3_CopyRows.bits9 : waitsOk r3_CopyRows.T9.2 r3_CopyRows.B9 = true := by kernel_rfl
theorem r3_CopyRows.calls (k : Nat) : ∀ (A0 : Option Addr) (c0 : Nat) (l0 : List (S57)) (r : List (S57)) (w : World) (hr0 : Kd.C k57 w A0 l0.length l0) (hc0 : l0.length ≤ c0) (h : r3_CopyRows.f k l0 = some r),
  Calls Try.prog 22 #[.slice A0 l0.length c0] w fun e w' => ∃ v0_ : Value, e = .returned (v0_) ∧ Kd.R k57 57 w' w.heap.size (fun _ => True) v0_ r ∧ Below w.heap.size w w' := by
 induction k using Nat.strongRecOn with
 | _ k ih =>
 intro A0 c0 l0 r w hr0 hc0 h
 cases k with
 | zero => exact absurd h (by simp [r3_CopyRows.f])
 | succ k =>
 simp only [r3_CopyRows.f] at h
 have hu57 := Try.underlying57
 have hu52 := Try.underlying52
 have HR0 := Aside0.mk hr0
 have HC0 := Aside0.mk hc0
 clear hr0 hc0
 have HB := Aside0.mk (Below.refl w.heap.size w)
 have H : (r3_CopyRows.l0 k l0 ([] : List (S57)) 0) = some r := h
 clear h
 have H' := Aside0.mk H
 clear H
 go_enter Try.func22, Try.ntmps22
 go_wp2
 go_loopg [3, 4] k (fun kq v3 v4 w' => ∃ (x3_1 : List (S57)) (x4_1 : Int), v4 = .int .i64 x4_1 ∧ Aside0 (r3_CopyRows.l0 kq l0 x3_1 x4_1 = some r) ∧ Aside0 (kq ≤ k) ∧ Aside0 (Kd.R k57 57 w' w.heap.size (fun _ => True) v3 x3_1) ∧ Aside0 (Below w.heap.size w w'))
 case atStart => exact ⟨(([] : List (S57))), (0), rs, H', ⟨Nat.le_refl _⟩, ⟨by first | exact Kd.R_nil _ _ _ _ _ | exact Kd.N_nil _ _ _ _ _ | exact Kd.V_nil _ _ _ _ _ | exact Kd.Q_nil _ _ _ _ _ | exact Kd.S_nil _ _ _ _ _⟩, ⟨bb HB⟩⟩
 case round =>
  clear H'
  obtain ⟨x3_1, x4_1, rfl, HA, HK1, HO_3, HB⟩ := hrel
  cases gk with
  | zero => exact absurd HA.out (by simp [r3_CopyRows.l0])
  | succ k1 =>
   have H := HA.out
   clear HA
   simp only [r3_CopyRows.l0] at H
   by_cases c2 : x4_1 < (l0.length : Int)
   rotate_left
   ·rw [if_neg c2] at H
    have c2b0 : decide (x4_1 < (l0.length : Int)) = false := decide_eq_false c2
    clear c2
    obtain rfl := Option.some.inj H
    go_wp2
    go_ret
    exact ⟨_, rr, iR HO_3, bb HB⟩
   rw [if_pos c2] at H
   have c2b0 : decide (x4_1 < (l0.length : Int)) = true := decide_eq_true c2
   clear c2
   by_cases c3 : 0 ≤ x4_1
   rotate_left
   ·rw [if_neg c3] at H
    exact absurd H (by simp)
   rw [if_pos c3] at H
   have c3b0 : decide (0 ≤ x4_1) = true := decide_eq_true c3
   clear c3
   obtain ⟨t890, A4, H⟩ := be H
   obtain ⟨t894, A5, H⟩ := be H
   have H' := Aside0.mk H
   clear H
   try go_wp2
   replace HO_3 := Aside0.mk (Kd.R_drew HO_3.out)
   replace HB := Aside0.mk (bd1 HB.out)
   have p887 : 0 ≤ (x4_1 : Int) := od
   have q887 : x4_1 < (l0.length : Int) := od
   obtain ⟨ad887, A887_2, c887_2, A887_3, c887_3, A887_4, c887_4, e887, hx887_0, hx887_1, hx887_2, hx887_3, hx887_4, hl887_2, hi887_2, hl887_3, hi887_3, hl887_4, hi887_4⟩ := at_T57 HR0.out x4_1 p887 q887
   have hw887_4 := hx887_4
   have hw887_3 := hx887_3
   have hw887_2 := hx887_2
   have hw887_1 := hx887_1
   have hw887_0 := hx887_0
   cases e887
   replace hx887_0 := bcell HB.out hx887_0
   replace hx887_1 := bcell HB.out hx887_1
   replace hx887_2 := bcell HB.out hx887_2
   replace hx887_3 := bcell HB.out hx887_3
   replace hx887_4 := bcell HB.out hx887_4
   have HR887_2 := Aside0.mk hi887_2
   have HC887_2 := Aside0.mk hl887_2
   clear hi887_2 hl887_2
   have HR887_3 := Aside0.mk hi887_3
   have HC887_3 := Aside0.mk hl887_3
   clear hi887_3 hl887_3
   have HR887_4 := Aside0.mk hi887_4
   have HC887_4 := Aside0.mk hl887_4
   clear hi887_4 hl887_4
   replace p887 := eq_true p887
   replace q887 := eq_true q887
   refine start_ (n := 25) (S := fun w' => w'.cell? (ad887.add ((x4_1).toNat * 5)) = some (.int .i64 ((rd_T57 l0 x4_1).f0)) ∧ w'.cell? ⟨(ad887.add ((x4_1).toNat * 5)).block, (ad887.add ((x4_1).toNat * 5)).off + 1, none⟩ = some (.int .i64 ((rd_T57 l0 x4_1).f1)) ∧ w'.cell? ⟨(ad887.add ((x4_1).toNat * 5)).block, (ad887.add ((x4_1).toNat * 5)).off + 2, none⟩ = some (.slice A887_2 ((rd_T57 l0 x4_1).f2).length c887_2) ∧ w'.cell? ⟨(ad887.add ((x4_1).toNat * 5)).block, (ad887.add ((x4_1).toNat * 5)).off + 3, none⟩ = some (.slice A887_3 ((rd_T57 l0 x4_1).f3).length c887_3) ∧ w'.cell? ⟨(ad887.add ((x4_1).toNat * 5)).block, (ad887.add ((x4_1).toNat * 5)).off + 4, none⟩ = some (.slice A887_4 ((rd_T57 l0 x4_1).f4).length c887_4)) (ds := []) #[false, false, false, false, false, false, false, false, false, false, false, false, false, false, false, false, false, false, false, false, false, false, false, false, false] (by kernel_rfl) rfl rfl ⟨(bcell HB.out hw887_0), (bcell HB.out hw887_1), (bcell HB.out hw887_2), (bcell HB.out hw887_3), (bcell HB.out hw887_4)⟩ (fun hHeld => ?_); refine with_tabW r3_CopyRows.tab5 r3_CopyRows.bits5 (fun HT_ HW_ => ?_)
   generalize wr.drew = w6 at HO_3 HB HR887_2 HR887_3 HR887_4 hx887_0 hx887_1 hx887_2 hx887_3 hx887_4 hHeld ⊢
   refine pT 0 13 (bl 25 1) HT_ rfl rfl ?_
   refine pT 1 14 (bl 25 3) HT_ rfl rfl ?_
   refine pT 2 15 (bl 25 7) HT_ rfl rfl ?_
   refine pT 3 16 (bl 25 15) HT_ rfl rfl ?_
   refine pT 5 18 (bl 25 47) HT_ rfl rfl ?_
   refine pT 6 19 (bl 25 111) HT_ rfl rfl ?_
   refine pT 7 20 (bl 25 239) HT_ rfl rfl ?_
   refine pT 8 21 (bl 25 495) HT_ rfl rfl ?_
   refine pT 10 23 (bl 25 1519) HT_ rfl rfl ?_
   refine pT 11 24 (bl 25 3567) HT_ rfl rfl ?_
   refine pT 12 25 (bl 25 7663) HT_ rfl rfl ?_
   refine pT 13 26 (bl 25 15855) HT_ rfl rfl ?_
   refine pT 16 29 (bl 25 81391) HT_ rfl rfl ?_
   refine pT 17 30 (bl 25 212463) HT_ rfl rfl ?_
   refine pT 18 31 (bl 25 474607) HT_ rfl rfl ?_
   refine pT 19 32 (bl 25 998895) HT_ rfl rfl ?_
   refine tk (i := 4) (N := some 17) (bl 25 998911) rfl rfl (take_ofW HT_.out HW_.out (by kernel_rfl)) hHeld ?_
   refine tk (i := 9) (N := some 22) (bl 25 999423) rfl rfl (take_ofW HT_.out HW_.out (by kernel_rfl)) hHeld ?_
   refine tk (i := 14) (N := some 27) (bl 25 1015807) rfl rfl (take_ofW HT_.out HW_.out (by kernel_rfl)) hHeld ?_
   refine tk (i := 20) (N := some 33) (bl 25 2064383) rfl rfl (take_ofW HT_.out HW_.out (by kernel_rfl)) hHeld ?_
   refine join_ (σ := Value × Value × Nat) 1 #[true, true, true, true, true, true, true, true, true, true, true, true, true, true, true, true, true, true, true, true, true, true, true, true, false] (fun s_ => [(28, s_.1), (34, s_.2.1), (5, .pointer (some ⟨s_.2.2, 0, none⟩)), (35, .agg #[.int .i64 ((rd_T57 l0 x4_1).f0), .int .i64 ((rd_T57 l0 x4_1).f1), .slice none 0 0, s_.1, s_.2.1])]) (fun s_ w' => (w'.cell? (ad887.add ((x4_1).toNat * 5)) = some (.int .i64 ((rd_T57 l0 x4_1).f0)) ∧ w'.cell? ⟨(ad887.add ((x4_1).toNat * 5)).block, (ad887.add ((x4_1).toNat * 5)).off + 1, none⟩ = some (.int .i64 ((rd_T57 l0 x4_1).f1)) ∧ w'.cell? ⟨(ad887.add ((x4_1).toNat * 5)).block, (ad887.add ((x4_1).toNat * 5)).off + 2, none⟩ = some (.slice A887_2 ((rd_T57 l0 x4_1).f2).length c887_2) ∧ w'.cell? ⟨(ad887.add ((x4_1).toNat * 5)).block, (ad887.add ((x4_1).toNat * 5)).off + 3, none⟩ = some (.slice A887_3 ((rd_T57 l0 x4_1).f3).length c887_3) ∧ w'.cell? ⟨(ad887.add ((x4_1).toNat * 5)).block, (ad887.add ((x4_1).toNat * 5)).off + 4, none⟩ = some (.slice A887_4 ((rd_T57 l0 x4_1).f4).length c887_4)) ∧ (Kd.R k57 57 w' w.heap.size (fun k_ => some k_ ≠ (s_.2.1 : Value).ownBlock ∧ some k_ ≠ (u3 : Value).ownBlock ∧ k_ ≠ s_.2.2) s_.1 t890) ∧ (Kd.R k57 57 w' w.heap.size (fun k_ => some k_ ≠ (s_.1 : Value).ownBlock ∧ some k_ ≠ (u3 : Value).ownBlock ∧ k_ ≠ s_.2.2) s_.2.1 t894) ∧ (Kd.R k57 57 w' w.heap.size (fun k_ => some k_ ≠ (s_.1 : Value).ownBlock ∧ some k_ ≠ (s_.2.1 : Value).ownBlock ∧ k_ ≠ s_.2.2) u3 x3_1) ∧ (w'.heap[s_.2.2]? = some (.cells #[.int .i64 0, .int .i64 0, .slice none 0 0, .slice none 0 0, .slice none 0 0] 57 (0, 0))) ∧ (w.heap.size ≤ s_.2.2) ∧ (w.heap.size ≤ s_.2.2) ∧ (Below w.heap.size w w')) ?_ ?_
   rotate_left
   ·intro hCont
    refine two_ (i := 15) (j := 23) (Ni := some 28) (Nj := some 5) #[true, true, true, true, true, true, true, true, true, true, true, true, true, true, true, true, true, true, true, true, true, false, false, false, false] #[true, true, true, true, true, true, true, true, true, true, true, true, true, true, true, false, true, true, true, true, true, false, false, true, false] rfl rfl rfl rfl (two_of HT_.out (by kernel_rfl)) (by decide) (by decide) (fun K hK => ?_) (fun K hK => ?_)
    ·skip
     refine gO Try.func22 #[.slice A887_3 ((rd_T57 l0 x4_1).f3).length c887_3] (by rfl) rfl rfl ?_
     with_reducible refine (ih k1 (by have := HK1.out; omega) _ _ ((rd_T57 l0 x4_1).f3) t890 _ ?side1 ?side2 A4.out).mono ?_
     (case side1 => exact cb HR887_3 HB)
     (case side2 => exact HC887_3.out)
     rintro e w7 ⟨v891, rfl, ho0, hb⟩
     refine ⟨_, rfl, ?_⟩
     have HO892 := Aside0.mk (Kd.R_lower (Kd.R_new' ho0 (Kd.R_lt (iR HO_3))) (bsz (bb HB)))
     replace HO_3 := Aside0.mk (Kd.R_elder' (iR HO_3) (Kd.R_base ho0) hb)
     replace HB := sb HB hb
     (try clear hb)
     (try clear hb2)
     (try clear hk)
     (try clear hi)
     (try clear ho0)
     refine hK.out _ _ ⟨(bcell HB.out hw887_0), (bcell HB.out hw887_1), (bcell HB.out hw887_2), (bcell HB.out hw887_3), (bcell HB.out hw887_4)⟩ (fun hHeld => ?_)
     clear hK K
     refine nm 28 ?_
     refine two_ (i := 21) (j := 23) (Ni := some 34) (Nj := some 5) #[true, true, true, true, true, true, true, true, true, true, true, true, true, true, true, true, true, true, true, true, true, true, false, false, false] #[true, true, true, true, true, true, true, true, true, true, true, true, true, true, true, true, true, true, true, true, true, false, false, true, false] rfl rfl rfl rfl (two_of HT_.out (by kernel_rfl)) (by decide) (by decide) (fun K hK => ?_) (fun K hK => ?_)
     ·skip
      refine gO Try.func22 #[.slice A887_4 ((rd_T57 l0 x4_1).f4).length c887_4] (by rfl) rfl rfl ?_
      with_reducible refine (ih k1 (by have := HK1.out; omega) _ _ ((rd_T57 l0 x4_1).f4) t894 _ ?side1 ?side2 A5.out).mono ?_
      (case side1 => exact cb HR887_4 HB)
      (case side2 => exact HC887_4.out)
      rintro e w8 ⟨v895, rfl, ho0, hb⟩
      refine ⟨_, rfl, ?_⟩
      have HO896 := Aside0.mk (Kd.R_lower (Kd.R_new' (Kd.R_new' ho0 (Kd.R_lt (iR HO_3))) (Kd.R_lt (iR HO892))) (bsz (bb HB)))
      replace HO_3 := Aside0.mk (Kd.R_elder' (iR HO_3) (Kd.R_base ho0) hb)
      replace HO892 := Aside0.mk (Kd.R_elder' (iR HO892) (Kd.R_base ho0) hb)
      replace HB := sb HB hb
      (try clear hb)
      (try clear hb2)
      (try clear hk)
      (try clear hi)
      (try clear ho0)
      obtain ⟨Ao9, co9, eo9⟩ := Kd.R_slice HO896.out
      (first | subst eo9 | (injection eo9 with f1_ f2_ f3_; have f4_ := f1_.symm; have f5_ := f3_.symm; clear f1_ f2_ f3_; subst f4_; subst f5_))
      obtain ⟨Ao10, co10, eo10⟩ := Kd.R_slice HO892.out
      (first | subst eo10 | (injection eo10 with f1_ f2_ f3_; have f4_ := f1_.symm; have f5_ := f3_.symm; clear f1_ f2_ f3_; subst f4_; subst f5_))
      refine hK.out _ _ ⟨(bcell HB.out hw887_0), (bcell HB.out hw887_1), (bcell HB.out hw887_2), (bcell HB.out hw887_3), (bcell HB.out hw887_4)⟩ (fun hHeld => ?_)
      clear hK K
      refine nm 34 ?_
      refine pT 22 35 (bl 25 8388607) HT_ rfl rfl ?_
      refine one_ (i := 23) (N := some 5) (bl 25 16777215) rfl rfl (one_of HT_.out (by kernel_rfl)) (by decide) (fun K hK => ?_)
      refine box_step ?hg (N := 5) ?hd (cs := #[.int .i64 0, .int .i64 0, .slice none 0 0, .slice none 0 0, .slice none 0 0]) (t := 57) ?hr ?_; (case hd => rfl); (case hg => rfl); (case hr => first | (go_simp; done) | (go_simp; rfl))
      intro gb897 hg w11 hbox hb
      have BK897 := Aside0.mk (hbox)
      have GW897 := ge HB hg
      have GE897 := ge HB hg
      replace HO_3 := Aside0.mk (Kd.R_below (Kd.R_elderB (iR HO_3) gb897 (Nat.le_of_eq hg.symm)) hb)
      replace HO892 := Aside0.mk (Kd.R_below (Kd.R_elderB (iR HO892) gb897 (Nat.le_of_eq hg.symm)) hb)
      replace HO896 := Aside0.mk (Kd.R_below (Kd.R_elderB (iR HO896) gb897 (Nat.le_of_eq hg.symm)) hb)
      replace HB := sb HB hb
      clear hb hbox hg
      refine hK.out _ _ ⟨(bcell HB.out hw887_0), (bcell HB.out hw887_1), (bcell HB.out hw887_2), (bcell HB.out hw887_3), (bcell HB.out hw887_4)⟩ (fun hHeld => ?_)
      clear hK K
      refine nm 5 ?_
      exact norm_ (by simp only [putAll, Act.put, List.setIfInBounds_toArray, List.set_cons_zero, List.set_cons_succ]) (hCont (.slice Ao10 t890.length co10, .slice Ao9 t894.length co9, gb897) _ ⟨hHeld, (by (with_reducible repeat (first | apply Kd.R_alloc | apply Kd.R_drewN | apply Kd.R_drew)); exact Kd.R_mono HO892.out (fun _ hk => ⟨hk.1.2, ⟨hk.1.1.2, hk.2⟩⟩)), (by (with_reducible repeat (first | apply Kd.R_alloc | apply Kd.R_drewN | apply Kd.R_drew)); exact Kd.R_mono HO896.out (fun _ hk => ⟨hk.1.2, ⟨hk.1.1.2, hk.2⟩⟩)), (by (with_reducible repeat (first | apply Kd.R_alloc | apply Kd.R_drewN | apply Kd.R_drew)); exact Kd.R_mono HO_3.out (fun _ hk => ⟨hk.1.1.2, ⟨hk.1.2, hk.2⟩⟩)), (kk BK897), GW897.out, GE897.out, (bb HB)⟩)
     ·skip
      refine box_step ?hg (N := 5) ?hd (cs := #[.int .i64 0, .int .i64 0, .slice none 0 0, .slice none 0 0, .slice none 0 0]) (t := 57) ?hr ?_; (case hd => rfl); (case hg => rfl); (case hr => first | (go_simp; done) | (go_simp; rfl))
      intro gb897 hg w8 hbox hb
      have BK897 := Aside0.mk (hbox)
      have GW897 := ge HB hg
      have GE897 := ge HB hg
      replace HO_3 := Aside0.mk (Kd.R_below (Kd.R_elderB (iR HO_3) gb897 (Nat.le_of_eq hg.symm)) hb)
      replace HO892 := Aside0.mk (Kd.R_below (Kd.R_elderB (iR HO892) gb897 (Nat.le_of_eq hg.symm)) hb)
      replace HB := sb HB hb
      clear hb hbox hg
      refine hK.out _ _ ⟨(bcell HB.out hw887_0), (bcell HB.out hw887_1), (bcell HB.out hw887_2), (bcell HB.out hw887_3), (bcell HB.out hw887_4)⟩ (fun hHeld => ?_)
      clear hK K
      refine nm 5 ?_
      refine one_ (i := 21) (N := some 34) (bl 25 12582911) rfl rfl (one_of HT_.out (by kernel_rfl)) (by decide) (fun K hK => ?_)
      refine gO Try.func22 #[.slice A887_4 ((rd_T57 l0 x4_1).f4).length c887_4] (by rfl) rfl rfl ?_
      with_reducible refine (ih k1 (by have := HK1.out; omega) _ _ ((rd_T57 l0 x4_1).f4) t894 _ ?side1 ?side2 A5.out).mono ?_
      (case side1 => exact cb HR887_4 HB)
      (case side2 => exact HC887_4.out)
      rintro e w9 ⟨v895, rfl, ho0, hb⟩
      refine ⟨_, rfl, ?_⟩
      have HO896 := Aside0.mk (Kd.R_lower (Kd.R_newB (Kd.R_new' (Kd.R_new' ho0 (Kd.R_lt (iR HO_3))) (Kd.R_lt (iR HO892))) (kk BK897)) (bsz (bb HB)))
      replace HO_3 := Aside0.mk (Kd.R_elder' (iR HO_3) (Kd.R_base ho0) hb)
      replace HO892 := Aside0.mk (Kd.R_elder' (iR HO892) (Kd.R_base ho0) hb)
      replace BK897 := kb BK897 hb
      replace HB := sb HB hb
      (try clear hb)
      (try clear hb2)
      (try clear hk)
      (try clear hi)
      (try clear ho0)
      obtain ⟨Ao10, co10, eo10⟩ := Kd.R_slice HO896.out
      (first | subst eo10 | (injection eo10 with f1_ f2_ f3_; have f4_ := f1_.symm; have f5_ := f3_.symm; clear f1_ f2_ f3_; subst f4_; subst f5_))
      obtain ⟨Ao11, co11, eo11⟩ := Kd.R_slice HO892.out
      (first | subst eo11 | (injection eo11 with f1_ f2_ f3_; have f4_ := f1_.symm; have f5_ := f3_.symm; clear f1_ f2_ f3_; subst f4_; subst f5_))
      refine hK.out _ _ ⟨(bcell HB.out hw887_0), (bcell HB.out hw887_1), (bcell HB.out hw887_2), (bcell HB.out hw887_3), (bcell HB.out hw887_4)⟩ (fun hHeld => ?_)
      clear hK K
      refine nm 34 ?_
      refine pT 22 35 (bl 25 16777215) HT_ rfl rfl ?_
      exact norm_ (by simp only [putAll, Act.put, List.setIfInBounds_toArray, List.set_cons_zero, List.set_cons_succ]) (hCont (.slice Ao11 t890.length co11, .slice Ao10 t894.length co10, gb897) _ ⟨hHeld, (by (with_reducible repeat (first | apply Kd.R_alloc | apply Kd.R_drewN | apply Kd.R_drew)); exact Kd.R_mono HO892.out (fun _ hk => ⟨hk.2, ⟨hk.1.1.2, hk.1.2⟩⟩)), (by (with_reducible repeat (first | apply Kd.R_alloc | apply Kd.R_drewN | apply Kd.R_drew)); exact Kd.R_mono HO896.out (fun _ hk => ⟨hk.1.2, ⟨hk.1.1.2, hk.2⟩⟩)), (by (with_reducible repeat (first | apply Kd.R_alloc | apply Kd.R_drewN | apply Kd.R_drew)); exact Kd.R_mono HO_3.out (fun _ hk => ⟨hk.1.1.2, ⟨hk.2, hk.1.2⟩⟩)), (kk BK897), GW897.out, GE897.out, (bb HB)⟩)
    ·skip
     refine box_step ?hg (N := 5) ?hd (cs := #[.int .i64 0, .int .i64 0, .slice none 0 0, .slice none 0 0, .slice none 0 0]) (t := 57) ?hr ?_; (case hd => rfl); (case hg => rfl); (case hr => first | (go_simp; done) | (go_simp; rfl))
     intro gb897 hg w7 hbox hb
     have BK897 := Aside0.mk (hbox)
     have GW897 := ge HB hg
     have GE897 := ge HB hg
     replace HO_3 := Aside0.mk (Kd.R_below (Kd.R_elderB (iR HO_3) gb897 (Nat.le_of_eq hg.symm)) hb)
     replace HB := sb HB hb
     clear hb hbox hg
     refine hK.out _ _ ⟨(bcell HB.out hw887_0), (bcell HB.out hw887_1), (bcell HB.out hw887_2), (bcell HB.out hw887_3), (bcell HB.out hw887_4)⟩ (fun hHeld => ?_)
     clear hK K
     refine nm 5 ?_
     refine one_ (i := 15) (N := some 28) (bl 25 10485759) rfl rfl (one_of HT_.out (by kernel_rfl)) (by decide) (fun K hK => ?_)
     refine gO Try.func22 #[.slice A887_3 ((rd_T57 l0 x4_1).f3).length c887_3] (by rfl) rfl rfl ?_
     with_reducible refine (ih k1 (by have := HK1.out; omega) _ _ ((rd_T57 l0 x4_1).f3) t890 _ ?side1 ?side2 A4.out).mono ?_
     (case side1 => exact cb HR887_3 HB)
     (case side2 => exact HC887_3.out)
     rintro e w8 ⟨v891, rfl, ho0, hb⟩
     refine ⟨_, rfl, ?_⟩
     have HO892 := Aside0.mk (Kd.R_lower (Kd.R_newB (Kd.R_new' ho0 (Kd.R_lt (iR HO_3))) (kk BK897)) (bsz (bb HB)))
     replace HO_3 := Aside0.mk (Kd.R_elder' (iR HO_3) (Kd.R_base ho0) hb)
     replace BK897 := kb BK897 hb
     replace HB := sb HB hb
     (try clear hb)
     (try clear hb2)
     (try clear hk)
     (try clear hi)
     (try clear ho0)
     refine hK.out _ _ ⟨(bcell HB.out hw887_0), (bcell HB.out hw887_1), (bcell HB.out hw887_2), (bcell HB.out hw887_3), (bcell HB.out hw887_4)⟩ (fun hHeld => ?_)
     clear hK K
     refine nm 28 ?_
     refine one_ (i := 21) (N := some 34) (bl 25 12582911) rfl rfl (one_of HT_.out (by kernel_rfl)) (by decide) (fun K hK => ?_)
     refine gO Try.func22 #[.slice A887_4 ((rd_T57 l0 x4_1).f4).length c887_4] (by rfl) rfl rfl ?_
     with_reducible refine (ih k1 (by have := HK1.out; omega) _ _ ((rd_T57 l0 x4_1).f4) t894 _ ?side1 ?side2 A5.out).mono ?_
     (case side1 => exact cb HR887_4 HB)
     (case side2 => exact HC887_4.out)
     rintro e w9 ⟨v895, rfl, ho0, hb⟩
     refine ⟨_, rfl, ?_⟩
     have HO896 := Aside0.mk (Kd.R_lower (Kd.R_newB (Kd.R_new' (Kd.R_new' ho0 (Kd.R_lt (iR HO_3))) (Kd.R_lt (iR HO892))) (kk BK897)) (bsz (bb HB)))
     replace HO_3 := Aside0.mk (Kd.R_elder' (iR HO_3) (Kd.R_base ho0) hb)
     replace HO892 := Aside0.mk (Kd.R_elder' (iR HO892) (Kd.R_base ho0) hb)
     replace BK897 := kb BK897 hb
     replace HB := sb HB hb
     (try clear hb)
     (try clear hb2)
     (try clear hk)
     (try clear hi)
     (try clear ho0)
     obtain ⟨Ao10, co10, eo10⟩ := Kd.R_slice HO896.out
     (first | subst eo10 | (injection eo10 with f1_ f2_ f3_; have f4_ := f1_.symm; have f5_ := f3_.symm; clear f1_ f2_ f3_; subst f4_; subst f5_))
     obtain ⟨Ao11, co11, eo11⟩ := Kd.R_slice HO892.out
     (first | subst eo11 | (injection eo11 with f1_ f2_ f3_; have f4_ := f1_.symm; have f5_ := f3_.symm; clear f1_ f2_ f3_; subst f4_; subst f5_))
     refine hK.out _ _ ⟨(bcell HB.out hw887_0), (bcell HB.out hw887_1), (bcell HB.out hw887_2), (bcell HB.out hw887_3), (bcell HB.out hw887_4)⟩ (fun hHeld => ?_)
     clear hK K
     refine nm 34 ?_
     refine pT 22 35 (bl 25 16777215) HT_ rfl rfl ?_
     exact norm_ (by simp only [putAll, Act.put, List.setIfInBounds_toArray, List.set_cons_zero, List.set_cons_succ]) (hCont (.slice Ao11 t890.length co11, .slice Ao10 t894.length co10, gb897) _ ⟨hHeld, (by (with_reducible repeat (first | apply Kd.R_alloc | apply Kd.R_drewN | apply Kd.R_drew)); exact Kd.R_mono HO892.out (fun _ hk => ⟨hk.2, ⟨hk.1.1.2, hk.1.2⟩⟩)), (by (with_reducible repeat (first | apply Kd.R_alloc | apply Kd.R_drewN | apply Kd.R_drew)); exact Kd.R_mono HO896.out (fun _ hk => ⟨hk.1.2, ⟨hk.1.1.2, hk.2⟩⟩)), (by (with_reducible repeat (first | apply Kd.R_alloc | apply Kd.R_drewN | apply Kd.R_drew)); exact Kd.R_mono HO_3.out (fun _ hk => ⟨hk.1.2, ⟨hk.2, hk.1.1.2⟩⟩)), (kk BK897), GW897.out, GE897.out, (bb HB)⟩)
   rintro ⟨v891, v895, gb897⟩ w12 ⟨hS_, h0_, h1_, h2_, h3_, h4_, h5_, h6_⟩
   have n0_ : Aside0 (Kd.R k57 57 w12 w.heap.size (fun k_ => some k_ ≠ (v895 : Value).ownBlock ∧ some k_ ≠ (u3 : Value).ownBlock ∧ k_ ≠ gb897) v891 t890) := ⟨h0_⟩
   have n1_ : Aside0 (Kd.R k57 57 w12 w.heap.size (fun k_ => some k_ ≠ (v891 : Value).ownBlock ∧ some k_ ≠ (u3 : Value).ownBlock ∧ k_ ≠ gb897) v895 t894) := ⟨h1_⟩
   have n2_ : Aside0 (Kd.R k57 57 w12 w.heap.size (fun k_ => some k_ ≠ (v891 : Value).ownBlock ∧ some k_ ≠ (v895 : Value).ownBlock ∧ k_ ≠ gb897) u3 x3_1) := ⟨h2_⟩
   have n3_ : Aside0 (w12.heap[gb897]? = some (.cells #[.int .i64 0, .int .i64 0, .slice none 0 0, .slice none 0 0, .slice none 0 0] 57 (0, 0))) := ⟨h3_⟩
   have n4_ : Aside0 (w.heap.size ≤ gb897) := ⟨h4_⟩
   have n5_ : Aside0 (w.heap.size ≤ gb897) := ⟨h5_⟩
   have n6_ : Aside0 (Below w.heap.size w w12) := ⟨h6_⟩
   clear HO_3
   clear HB
   clear h0_ h1_ h2_ h3_ h4_ h5_ h6_
   have HO892 := n0_
   have HO896 := n1_
   have HO_3 := n2_
   have BK897 := n3_
   have GW897 := n4_
   have GE897 := n5_
   have HB := n6_
   clear n0_ n1_ n2_ n3_ n4_ n5_ n6_
   have hHeld : w12.cell? (ad887.add ((x4_1).toNat * 5)) = some (.int .i64 ((rd_T57 l0 x4_1).f0)) ∧ w12.cell? ⟨(ad887.add ((x4_1).toNat * 5)).block, (ad887.add ((x4_1).toNat * 5)).off + 1, none⟩ = some (.int .i64 ((rd_T57 l0 x4_1).f1)) ∧ w12.cell? ⟨(ad887.add ((x4_1).toNat * 5)).block, (ad887.add ((x4_1).toNat * 5)).off + 2, none⟩ = some (.slice A887_2 ((rd_T57 l0 x4_1).f2).length c887_2) ∧ w12.cell? ⟨(ad887.add ((x4_1).toNat * 5)).block, (ad887.add ((x4_1).toNat * 5)).off + 3, none⟩ = some (.slice A887_3 ((rd_T57 l0 x4_1).f3).length c887_3) ∧ w12.cell? ⟨(ad887.add ((x4_1).toNat * 5)).block, (ad887.add ((x4_1).toNat * 5)).off + 4, none⟩ = some (.slice A887_4 ((rd_T57 l0 x4_1).f4).length c887_4) := hS_
   obtain ⟨Ao13, co13, eo13⟩ := Kd.R_slice HO896.out
   (first | subst eo13 | (injection eo13 with f1_ f2_ f3_; have f4_ := f1_.symm; have f5_ := f3_.symm; clear f1_ f2_ f3_; subst f4_; subst f5_))
   obtain ⟨Ao14, co14, eo14⟩ := Kd.R_slice HO892.out
   (first | subst eo14 | (injection eo14 with f1_ f2_ f3_; have f4_ := f1_.symm; have f5_ := f3_.symm; clear f1_ f2_ f3_; subst f4_; subst f5_))
   refine norm_ (a' := ?_) ?_ ?_
   rotate_left
   ·simp only [putAll, Act.put, List.setIfInBounds_toArray, List.set_cons_zero, List.set_cons_succ]
    rfl
   refine one_ (i := 24) (N := none) (bl 25 33554431) rfl rfl (one_of HT_.out (by kernel_rfl)) (by decide) (fun K hK => ?_)
   have hs15 : w12.cell? ⟨gb897, 0, none⟩ = some (.int .i64 0) := (blk_cell BK897.out 0).trans rfl
   have hfs15 := blk_frozen BK897.out 0
   have hs16 : w12.cell? ⟨gb897, 1, none⟩ = some (.int .i64 0) := (blk_cell BK897.out 1).trans rfl
   have hfs16 := blk_frozen BK897.out 1
   have hs17 : w12.cell? ⟨gb897, 2, none⟩ = some (.slice none 0 0) := (blk_cell BK897.out 2).trans rfl
   have hfs17 := blk_frozen BK897.out 2
   have hs18 : w12.cell? ⟨gb897, 3, none⟩ = some (.slice none 0 0) := (blk_cell BK897.out 3).trans rfl
   have hfs18 := blk_frozen BK897.out 3
   have hs19 : w12.cell? ⟨gb897, 4, none⟩ = some (.slice none 0 0) := (blk_cell BK897.out 4).trans rfl
   have hfs19 := blk_frozen BK897.out 4
   refine skip_ (w1 := ?_) (by rfl) rfl ?_ ?_
   rotate_left
   ·go_simp
    rfl
   refine hK.out _ _ ⟨(cw hw887_0 GW897.out ((cw hw887_0 GW897.out ((cw hw887_0 GW897.out ((cw hw887_0 GW897.out ((cw hw887_0 GW897.out (hHeld.1)))))))))), (cw hw887_1 GW897.out ((cw hw887_1 GW897.out ((cw hw887_1 GW897.out ((cw hw887_1 GW897.out ((cw hw887_1 GW897.out (hHeld.2.1)))))))))), (cw hw887_2 GW897.out ((cw hw887_2 GW897.out ((cw hw887_2 GW897.out ((cw hw887_2 GW897.out ((cw hw887_2 GW897.out (hHeld.2.2.1)))))))))), (cw hw887_3 GW897.out ((cw hw887_3 GW897.out ((cw hw887_3 GW897.out ((cw hw887_3 GW897.out ((cw hw887_3 GW897.out (hHeld.2.2.2.1)))))))))), (cw hw887_4 GW897.out ((cw hw887_4 GW897.out ((cw hw887_4 GW897.out ((cw hw887_4 GW897.out ((cw hw887_4 GW897.out (hHeld.2.2.2.2))))))))))⟩ (fun hHeld => ?_)
   clear hK K
   refine done_ (done_of HT_.out (by kernel_rfl)) ?_
   try go_wp2
   go_loopg [6] k1 (fun kq v6 w' => ∃ (x6_2 : Int) (x898002_2 : List (S52)) (u898002 : Value), v6 = .int .i64 x6_2 ∧ Aside0 (r3_CopyRows.l1 kq l0 x3_1 x4_1 x6_2 ((rd_T57 l0 x4_1).f0) ((rd_T57 l0 x4_1).f1) x898002_2 t890 t894 = some r) ∧ Aside0 (kq ≤ k1) ∧ Aside0 (Kd.R k57 57 w' w.heap.size (fun k_ => some k_ ≠ (u898002 : Value).ownBlock ∧ some k_ ≠ ((.slice Ao14 t890.length co14) : Value).ownBlock ∧ some k_ ≠ ((.slice Ao13 t894.length co13) : Value).ownBlock ∧ k_ ≠ gb897) u3 x3_1) ∧ Aside0 (Kd.R k52 52 w' w.heap.size (fun _ => True) u898002 x898002_2) ∧ Aside0 (Kd.R k57 57 w' w.heap.size (fun k_ => some k_ ≠ (u3 : Value).ownBlock ∧ some k_ ≠ (u898002 : Value).ownBlock ∧ some k_ ≠ ((.slice Ao13 t894.length co13) : Value).ownBlock ∧ k_ ≠ gb897) (.slice Ao14 t890.length co14) t890) ∧ Aside0 (Kd.R k57 57 w' w.heap.size (fun k_ => some k_ ≠ (u3 : Value).ownBlock ∧ some k_ ≠ (u898002 : Value).ownBlock ∧ some k_ ≠ ((.slice Ao14 t890.length co14) : Value).ownBlock ∧ k_ ≠ gb897) (.slice Ao13 t894.length co13) t894) ∧ Aside0 (w'.heap[gb897]? = some (.cells #[.int .i64 ((rd_T57 l0 x4_1).f0), .int .i64 ((rd_T57 l0 x4_1).f1), u898002, (.slice Ao14 t890.length co14), (.slice Ao13 t894.length co13)] 57 (0, 0))) ∧ Aside0 (Below w.heap.size w w'))
   case atStart => exact ⟨(0), (([] : List (S52))), (.slice none 0 0), rs, H', ⟨Nat.le_refl _⟩, ⟨by (with_reducible repeat (first | apply Kd.R_alloc | apply Kd.R_drewN | apply Kd.R_drew)); exact Kd.R_mono (Kd.R_far (p := ⟨gb897, 4, none⟩) (Kd.R_far (p := ⟨gb897, 3, none⟩) (Kd.R_far (p := ⟨gb897, 2, none⟩) (Kd.R_far (p := ⟨gb897, 1, none⟩) (Kd.R_far (p := ⟨gb897, 0, none⟩) (Kd.R_mono HO_3.out (fun k_ hk => (⟨hk, hk.2.2⟩ : _ ∧ k_ ≠ gb897))) (fun _ hk => hk.2) (.int .i64 ((rd_T57 l0 x4_1).f0))) (fun _ hk => hk.2) (.int .i64 ((rd_T57 l0 x4_1).f1))) (fun _ hk => hk.2) (.slice none 0 0)) (fun _ hk => hk.2) (.slice Ao14 t890.length co14)) (fun _ hk => hk.2) (.slice Ao13 t894.length co13)) (fun _ hk => ⟨(by simp [Value.ownBlock]), ⟨hk.1.1, ⟨hk.1.2.1, hk.1.2.2⟩⟩⟩)⟩, ⟨by first | exact Kd.R_nil _ _ _ _ _ | exact Kd.N_nil _ _ _ _ _ | exact Kd.V_nil _ _ _ _ _ | exact Kd.Q_nil _ _ _ _ _ | exact Kd.S_nil _ _ _ _ _⟩, ⟨by (with_reducible repeat (first | apply Kd.R_alloc | apply Kd.R_drewN | apply Kd.R_drew)); exact Kd.R_mono (Kd.R_far (p := ⟨gb897, 4, none⟩) (Kd.R_far (p := ⟨gb897, 3, none⟩) (Kd.R_far (p := ⟨gb897, 2, none⟩) (Kd.R_far (p := ⟨gb897, 1, none⟩) (Kd.R_far (p := ⟨gb897, 0, none⟩) (Kd.R_mono HO892.out (fun k_ hk => (⟨hk, hk.2.2⟩ : _ ∧ k_ ≠ gb897))) (fun _ hk => hk.2) (.int .i64 ((rd_T57 l0 x4_1).f0))) (fun _ hk => hk.2) (.int .i64 ((rd_T57 l0 x4_1).f1))) (fun _ hk => hk.2) (.slice none 0 0)) (fun _ hk => hk.2) (.slice Ao14 t890.length co14)) (fun _ hk => hk.2) (.slice Ao13 t894.length co13)) (fun _ hk => ⟨hk.1.2.1, ⟨(by simp [Value.ownBlock]), ⟨hk.1.1, hk.1.2.2⟩⟩⟩)⟩, ⟨by (with_reducible repeat (first | apply Kd.R_alloc | apply Kd.R_drewN | apply Kd.R_drew)); exact Kd.R_mono (Kd.R_far (p := ⟨gb897, 4, none⟩) (Kd.R_far (p := ⟨gb897, 3, none⟩) (Kd.R_far (p := ⟨gb897, 2, none⟩) (Kd.R_far (p := ⟨gb897, 1, none⟩) (Kd.R_far (p := ⟨gb897, 0, none⟩) (Kd.R_mono HO896.out (fun k_ hk => (⟨hk, hk.2.2⟩ : _ ∧ k_ ≠ gb897))) (fun _ hk => hk.2) (.int .i64 ((rd_T57 l0 x4_1).f0))) (fun _ hk => hk.2) (.int .i64 ((rd_T57 l0 x4_1).f1))) (fun _ hk => hk.2) (.slice none 0 0)) (fun _ hk => hk.2) (.slice Ao14 t890.length co14)) (fun _ hk => hk.2) (.slice Ao13 t894.length co13)) (fun _ hk => ⟨hk.1.2.1, ⟨(by simp [Value.ownBlock]), ⟨hk.1.1, hk.1.2.2⟩⟩⟩)⟩, ⟨by (with_reducible repeat (first | refine kdN ?_ _ | refine kdr ?_ | refine kal ?_ _)); refine blk_put (cs := #[.int .i64 ((rd_T57 l0 x4_1).f0), .int .i64 ((rd_T57 l0 x4_1).f1), .slice none 0 0, .slice Ao14 t890.length co14, .slice none 0 0]) ?_ 4 _ rfl; (with_reducible repeat (first | refine kdN ?_ _ | refine kdr ?_ | refine kal ?_ _)); refine blk_put (cs := #[.int .i64 ((rd_T57 l0 x4_1).f0), .int .i64 ((rd_T57 l0 x4_1).f1), .slice none 0 0, .slice none 0 0, .slice none 0 0]) ?_ 3 _ rfl; (with_reducible repeat (first | refine kdN ?_ _ | refine kdr ?_ | refine kal ?_ _)); refine blk_put (cs := #[.int .i64 ((rd_T57 l0 x4_1).f0), .int .i64 ((rd_T57 l0 x4_1).f1), .slice none 0 0, .slice none 0 0, .slice none 0 0]) ?_ 2 _ rfl; (with_reducible repeat (first | refine kdN ?_ _ | refine kdr ?_ | refine kal ?_ _)); refine blk_put (cs := #[.int .i64 ((rd_T57 l0 x4_1).f0), .int .i64 0, .slice none 0 0, .slice none 0 0, .slice none 0 0]) ?_ 1 _ rfl; (with_reducible repeat (first | refine kdN ?_ _ | refine kdr ?_ | refine kal ?_ _)); refine blk_put (cs := #[.int .i64 0, .int .i64 0, .slice none 0 0, .slice none 0 0, .slice none 0 0]) ?_ 0 _ rfl; (with_reducible repeat (first | refine kdN ?_ _ | refine kdr ?_ | refine kal ?_ _)); exact BK897.out⟩, ⟨bb HB⟩⟩
   case round =>
    clear H'
    try clear c2
    try clear p2
    try clear c8
    try clear p8
    try clear q8
    try clear hx8
    try clear hx887_0
    try clear hx887_1
    try clear hx887_2
    try clear hx887_3
    try clear hx887_4
    try clear hx887_0
    try clear hx887_1
    try clear hx887_2
    try clear hx887_3
    try clear hx887_4
    try clear hx887_0
    try clear hx887_1
    try clear hx887_2
    try clear hx887_3
    try clear hx887_4
    try clear hx887_0
    try clear hx887_1
    try clear hx887_2
    try clear hx887_3
    try clear hx887_4
    try clear p887
    try clear p887
    try clear p887
    try clear q887
    try clear q887
    try clear q887
    obtain ⟨x6_2, x898002_2, u898002, rfl, HA, HK2, HO_3, HO_898002, HO_898003, HO_898004, BK897, HB⟩ := hrel
    cases gk with
    | zero => exact absurd HA.out (by simp [r3_CopyRows.l1])
    | succ k2 =>
     have H := HA.out
     clear HA
     simp only [r3_CopyRows.l1] at H
     by_cases c20 : 0 ≤ x4_1
     rotate_left
     ·rw [if_neg c20] at H
      exact absurd H (by simp)
     rw [if_pos c20] at H
     have c20b0 : decide (0 ≤ x4_1) = true := decide_eq_true c20
     clear c20
     by_cases c21 : x4_1 < (l0.length : Int)
     rotate_left
     ·rw [if_neg c21] at H
      exact absurd H (by simp)
     rw [if_pos c21] at H
     have c21b0 : decide (x4_1 < (l0.length : Int)) = true := decide_eq_true c21
     clear c21
     by_cases c22 : x6_2 < (((rd_T57 l0 x4_1).f2).length : Int)
     rotate_left
     ·rw [if_neg c22] at H
      have c22b0 : decide (x6_2 < (((rd_T57 l0 x4_1).f2).length : Int)) = false := decide_eq_false c22
      clear c22
      by_cases c32 : x3_1.length < 1599289640401
      rotate_left
      ·rw [if_neg c32] at H
       exact absurd H (by simp)
      rw [if_pos c32] at H
      have LMc32 := Aside0.mk c32
      clear c32
      obtain ⟨y910, hy910⟩ : ∃ y_ : List (S57), y_ = (x3_1 ++ [(⟨((rd_T57 l0 x4_1).f0), ((rd_T57 l0 x4_1).f1), x898002_2, t890, t894⟩ : S57)]) := ⟨_, rfl⟩
      replace H : (r3_CopyRows.l0 k2 l0 y910 (wrap64 (x4_1 + 1))) = some r := by first | (rw [hy910]; with_reducible exact H) | (have H2_ := (Option.bind_some _ _).symm.trans H; rw [hy910]; with_reducible exact H2_) | (have H2_ := (Option.bind_some _ _).symm.trans H; with_reducible exact H2_) | with_reducible exact H | (rw [hy910]; exact H) | exact H
      have Ny910 := Aside0.mk hy910
      clear hy910
      have H' := Aside0.mk H
      clear H
      have p898 : 0 ≤ (x4_1 : Int) := od
      have q898 : x4_1 < (l0.length : Int) := od
      obtain ⟨ad898, A898_2, c898_2, A898_3, c898_3, A898_4, c898_4, e898, hx898_0, hx898_1, hx898_2, hx898_3, hx898_4, hl898_2, hi898_2, hl898_3, hi898_3, hl898_4, hi898_4⟩ := at_T57 HR0.out x4_1 p898 q898
      obtain rfl : ad887 = ad898 := (by injection e898)
      replace hx898_0 := bcell HB.out hx898_0
      replace hx898_1 := bcell HB.out hx898_1
      replace hx898_2 := bcell HB.out hx898_2
      replace hx898_3 := bcell HB.out hx898_3
      replace hx898_4 := bcell HB.out hx898_4
      have HR898_2 := Aside0.mk hi898_2
      have HC898_2 := Aside0.mk hl898_2
      clear hi898_2 hl898_2
      have HR898_3 := Aside0.mk hi898_3
      have HC898_3 := Aside0.mk hl898_3
      clear hi898_3 hl898_3
      have HR898_4 := Aside0.mk hi898_4
      have HC898_4 := Aside0.mk hl898_4
      clear hi898_4 hl898_4
      replace p898 := eq_true p898
      replace q898 := eq_true q898
      obtain ⟨hcz33_0, hcz33_1, hcz33_2, hcz33_3, hcz33_4, hfz33_0, hfz33_1, hfz33_2, hfz33_3, hfz33_4⟩ := cf5 BK897.out
      obtain ⟨Ao35, co35, eo35⟩ := Kd.R_slice HO_898002.out
      subst eo35
      go_wp2_with (first | ((with_reducible refine gate_builtin (b := .append) (xs := #[.tmp 60, .tmp 62]) rfl ?_); at_builtin; refine Kd.R_append k57 (w0 := w) w.heap.size rfl (.tmp 60) (.tmp 62) 23 57 (.agg #[(.int .i64 0), (.int .i64 0), (.slice none 0 0), (.slice none 0 0), (.slice none 0 0)]) 88 rfl Try.underlying23 info57 rfl (by decide) (by omega) u3 x3_1 (⟨((rd_T57 l0 x4_1).f0), ((rd_T57 l0 x4_1).f1), x898002_2, t890, t894⟩ : S57) [.int .i64 ((rd_T57 l0 x4_1).f0), .int .i64 ((rd_T57 l0 x4_1).f1), .slice Ao35 x898002_2.length co35, .slice Ao14 t890.length co14, .slice Ao13 t894.length co13] (fun k_ => k_ ≠ gb897) (fun k_ => ((fun k_ => k_ ≠ gb897)) k_ ∧ some k_ ≠ (u3 : Value).ownBlock) rfl rfl ?aP (fun _ hk => hk) ?aF ?aO ?aB ?aS ?aL ?_; (case aP => exact k57_mkM _ _ _ (⟨((rd_T57 l0 x4_1).f0), ((rd_T57 l0 x4_1).f1), x898002_2, t890, t894⟩ : S57) (Kd.R_mono (Kd.R_types (Kd.R_apart' (HO_898002.out) (Kd.R_typed HO_3.out) (by decide)) BK897.out (by decide)) (fun k_ hk => ⟨hk.2, hk.1.2⟩)) (Kd.R_mono (HO_898003.out) (fun k_ hk => ⟨hk.2.2.2, hk.1⟩)) (Kd.R_mono (HO_898004.out) (fun k_ hk => ⟨hk.2.2.2, hk.1⟩))); (case aB => exact (bb HB)); (case aF => exact (fun k_ hk => Kd.freshB (kk BK897) k_ hk)); (case aO => exact (by (with_reducible repeat (first | apply Kd.R_alloc | apply Kd.R_drewN | apply Kd.R_drew)); exact Kd.R_mono HO_3.out (fun _ hk => hk.2.2.2))); (case aS => exact (bsz (bb HB))); (case aL => have := LMc32.out; omega); intro v911 w34 ho hb hg hat; rw [← Ny910.out] at ho; have HO912 := Aside0.mk (ho); replace BK897 := Aside0.mk (blk_grown (kk BK897) hg (Kd.R_away HO_3.out (fun _ hk => hk.2.2.2))); replace HB := Aside0.mk (hb); clear HO_3 HO_898002 HO_898003 HO_898004; clear ho hb hg hat))
      go_roundg k2
      case measure => have := HK1.out; have := HK2.out; omega
      case rel => exact ⟨(y910), (wrap64 (x4_1 + 1)), rs, H', ⟨by have := HK1.out; have := HK2.out; omega⟩, ⟨by (with_reducible repeat (first | apply Kd.R_alloc | apply Kd.R_drewN | apply Kd.R_drew)); exact Kd.R_mono HO912.out (fun _ hk => trivial)⟩, ⟨bb HB⟩⟩
     rw [if_pos c22] at H
     have c22b0 : decide (x6_2 < (((rd_T57 l0 x4_1).f2).length : Int)) = true := decide_eq_true c22
     clear c22
     by_cases c23 : 0 ≤ x6_2
     rotate_left
     ·rw [if_neg c23] at H
      exact absurd H (by simp)
     rw [if_pos c23] at H
     have c23b0 : decide (0 ≤ x6_2) = true := decide_eq_true c23
     clear c23
     replace H := Option.bind_eq_some_iff.mp H
     obtain ⟨⟨t901, t902, t903, t904⟩, A240, H⟩ := H
     replace H : (if x898002_2.length < 2932031007402 then (r3_CopyRows.l1 k2 l0 x3_1 x4_1 (wrap64 (x6_2 + 1)) ((rd_T57 l0 x4_1).f0) ((rd_T57 l0 x4_1).f1) (x898002_2 ++ [(⟨t901, t902, t903, t904⟩ : S52)]) t890 t894) else (none)) = some r := H
     have A24 := Aside0.mk A240
     clear A240
     by_cases c25 : x898002_2.length < 2932031007402
     rotate_left
     ·rw [if_neg c25] at H
      exact absurd H (by simp)
     rw [if_pos c25] at H
     have LMc25 := Aside0.mk c25
     clear c25
     obtain ⟨y907, hy907⟩ : ∃ y_ : List (S52), y_ = (x898002_2 ++ [(⟨t901, t902, t903, t904⟩ : S52)]) := ⟨_, rfl⟩
     replace H : (r3_CopyRows.l1 k2 l0 x3_1 x4_1 (wrap64 (x6_2 + 1)) ((rd_T57 l0 x4_1).f0) ((rd_T57 l0 x4_1).f1) y907 t890 t894) = some r := by first | (rw [hy907]; with_reducible exact H) | (have H2_ := (Option.bind_some _ _).symm.trans H; rw [hy907]; with_reducible exact H2_) | (have H2_ := (Option.bind_some _ _).symm.trans H; with_reducible exact H2_) | with_reducible exact H | (rw [hy907]; exact H) | exact H
     have Ny907 := Aside0.mk hy907
     clear hy907
     have H' := Aside0.mk H
     clear H
     have p898 : 0 ≤ (x4_1 : Int) := od
     have q898 : x4_1 < (l0.length : Int) := od
     obtain ⟨ad898, A898_2, c898_2, A898_3, c898_3, A898_4, c898_4, e898, hx898_0, hx898_1, hx898_2, hx898_3, hx898_4, hl898_2, hi898_2, hl898_3, hi898_3, hl898_4, hi898_4⟩ := at_T57 HR0.out x4_1 p898 q898
     obtain rfl : ad887 = ad898 := (by injection e898)
     replace hx898_0 := bcell HB.out hx898_0
     replace hx898_1 := bcell HB.out hx898_1
     replace hx898_2 := bcell HB.out hx898_2
     replace hx898_3 := bcell HB.out hx898_3
     replace hx898_4 := bcell HB.out hx898_4
     have HR898_2 := Aside0.mk hi898_2
     have HC898_2 := Aside0.mk hl898_2
     clear hi898_2 hl898_2
     have HR898_3 := Aside0.mk hi898_3
     have HC898_3 := Aside0.mk hl898_3
     clear hi898_3 hl898_3
     have HR898_4 := Aside0.mk hi898_4
     have HC898_4 := Aside0.mk hl898_4
     clear hi898_4 hl898_4
     replace p898 := eq_true p898
     replace q898 := eq_true q898
     try go_wp2
     replace HO_3 := Aside0.mk (Kd.R_drew HO_3.out)
     replace HO_898002 := Aside0.mk (Kd.R_drew HO_898002.out)
     replace HO_898003 := Aside0.mk (Kd.R_drew HO_898003.out)
     replace HO_898004 := Aside0.mk (Kd.R_drew HO_898004.out)
     replace BK897 := Aside0.mk (kdr BK897.out)
     replace HB := Aside0.mk (bd1 HB.out)
     have p899 : 0 ≤ (x4_1 : Int) := od
     have q899 : x4_1 < (l0.length : Int) := od
     obtain ⟨ad899, A899_2, c899_2, A899_3, c899_3, A899_4, c899_4, e899, hx899_0, hx899_1, hx899_2, hx899_3, hx899_4, hl899_2, hi899_2, hl899_3, hi899_3, hl899_4, hi899_4⟩ := at_T57 HR0.out x4_1 p899 q899
     have hw899_4 := hx899_4
     have hw899_3 := hx899_3
     have hw899_2 := hx899_2
     have hw899_1 := hx899_1
     have hw899_0 := hx899_0
     obtain rfl : ad887 = ad899 := (by injection e899)
     replace hx899_0 := bcell HB.out hx899_0
     replace hx899_1 := bcell HB.out hx899_1
     replace hx899_2 := bcell HB.out hx899_2
     replace hx899_3 := bcell HB.out hx899_3
     replace hx899_4 := bcell HB.out hx899_4
     have HR899_2 := Aside0.mk hi899_2
     have HC899_2 := Aside0.mk hl899_2
     clear hi899_2 hl899_2
     have HR899_3 := Aside0.mk hi899_3
     have HC899_3 := Aside0.mk hl899_3
     clear hi899_3 hl899_3
     have HR899_4 := Aside0.mk hi899_4
     have HC899_4 := Aside0.mk hl899_4
     clear hi899_4 hl899_4
     replace p899 := eq_true p899
     replace q899 := eq_true q899
     have p900 : 0 ≤ (x6_2 : Int) := od
     have q900 : x6_2 < (((rd_T57 l0 x4_1).f2).length : Int) := od
     obtain ⟨ad900, A900_3, c900_3, e900, hx900_0, hx900_1, hx900_2, hx900_3, hl900_3, hi900_3⟩ := at_T52 HR899_2.out x6_2 p900 q900
     have hw900_3 := hx900_3
     have hw900_2 := hx900_2
     have hw900_1 := hx900_1
     have hw900_0 := hx900_0
     cases e900
     replace hx900_0 := bcell HB.out hx900_0
     replace hx900_1 := bcell HB.out hx900_1
     replace hx900_2 := bcell HB.out hx900_2
     replace hx900_3 := bcell HB.out hx900_3
     have HR900_3 := Aside0.mk hi900_3
     have HC900_3 := Aside0.mk hl900_3
     clear hi900_3 hl900_3
     replace p900 := eq_true p900
     replace q900 := eq_true q900
     refine start_ (n := 15) (S := fun w' => w'.cell? ⟨gb897, 0, none⟩ = some (.int .i64 ((rd_T57 l0 x4_1).f0)) ∧ w'.cell? ⟨gb897, 1, none⟩ = some (.int .i64 ((rd_T57 l0 x4_1).f1)) ∧ w'.cell? ⟨gb897, 2, none⟩ = some (u898002) ∧ w'.cell? ⟨gb897, 3, none⟩ = some (.slice Ao14 t890.length co14) ∧ w'.cell? ⟨gb897, 4, none⟩ = some (.slice Ao13 t894.length co13) ∧ w'.cell? (ad887.add ((x4_1).toNat * 5)) = some (.int .i64 ((rd_T57 l0 x4_1).f0)) ∧ w'.cell? ⟨(ad887.add ((x4_1).toNat * 5)).block, (ad887.add ((x4_1).toNat * 5)).off + 1, none⟩ = some (.int .i64 ((rd_T57 l0 x4_1).f1)) ∧ w'.cell? ⟨(ad887.add ((x4_1).toNat * 5)).block, (ad887.add ((x4_1).toNat * 5)).off + 2, none⟩ = some (.slice (some ad900) ((rd_T57 l0 x4_1).f2).length c899_2) ∧ w'.cell? ⟨(ad887.add ((x4_1).toNat * 5)).block, (ad887.add ((x4_1).toNat * 5)).off + 3, none⟩ = some (.slice A899_3 ((rd_T57 l0 x4_1).f3).length c899_3) ∧ w'.cell? ⟨(ad887.add ((x4_1).toNat * 5)).block, (ad887.add ((x4_1).toNat * 5)).off + 4, none⟩ = some (.slice A899_4 ((rd_T57 l0 x4_1).f4).length c899_4) ∧ w'.cell? (ad900.add ((x6_2).toNat * 4)) = some (.int .i64 ((rd_T52 ((rd_T57 l0 x4_1).f2) x6_2).f0)) ∧ w'.cell? ⟨(ad900.add ((x6_2).toNat * 4)).block, (ad900.add ((x6_2).toNat * 4)).off + 1, none⟩ = some (.int .i64 ((rd_T52 ((rd_T57 l0 x4_1).f2) x6_2).f1)) ∧ w'.cell? ⟨(ad900.add ((x6_2).toNat * 4)).block, (ad900.add ((x6_2).toNat * 4)).off + 2, none⟩ = some (.int .i64 ((rd_T52 ((rd_T57 l0 x4_1).f2) x6_2).f2)) ∧ w'.cell? ⟨(ad900.add ((x6_2).toNat * 4)).block, (ad900.add ((x6_2).toNat * 4)).off + 3, none⟩ = some (.slice A900_3 ((rd_T52 ((rd_T57 l0 x4_1).f2) x6_2).f3).length c900_3)) (ds := [14]) #[false, false, false, false, false, false, false, false, false, false, false, false, false, false, false] (by kernel_rfl) rfl rfl ⟨(blk_cell BK897.out 0).trans rfl, (blk_cell BK897.out 1).trans rfl, (blk_cell BK897.out 2).trans rfl, (blk_cell BK897.out 3).trans rfl, (blk_cell BK897.out 4).trans rfl, (bcell HB.out hw899_0), (bcell HB.out hw899_1), (bcell HB.out hw899_2), (bcell HB.out hw899_3), (bcell HB.out hw899_4), (bcell HB.out hw900_0), (bcell HB.out hw900_1), (bcell HB.out hw900_2), (bcell HB.out hw900_3)⟩ (fun hHeld => ?_); refine with_tabW r3_CopyRows.tab9 r3_CopyRows.bits9 (fun HT_ HW_ => ?_)
     generalize wr.drew = w26 at HO_3 HO_898002 HO_898003 HO_898004 BK897 HB HR899_2 HR899_3 HR899_4 HR900_3 hx899_0 hx899_1 hx899_2 hx899_3 hx899_4 hx900_0 hx900_1 hx900_2 hx900_3 hHeld ⊢
     refine pT 0 46 (bl 15 1) HT_ rfl rfl ?_
     refine pT 2 48 (bl 15 5) HT_ rfl rfl ?_
     refine pT 3 49 (bl 15 13) HT_ rfl rfl ?_
     refine pT 4 50 (bl 15 29) HT_ rfl rfl ?_
     refine pT 5 51 (bl 15 61) HT_ rfl rfl ?_
     refine pT 7 53 (bl 15 189) HT_ rfl rfl ?_
     refine tk (i := 1) (N := some 47) (bl 15 191) rfl rfl (take_ofW HT_.out HW_.out (by kernel_rfl)) hHeld ?_
     refine tk (i := 6) (N := some 52) (bl 15 255) rfl rfl (take_ofW HT_.out HW_.out (by kernel_rfl)) hHeld ?_
     refine pT 8 54 (bl 15 511) HT_ rfl rfl ?_
     refine tk (i := 9) (N := some 55) (bl 15 1023) rfl rfl (take_ofW HT_.out HW_.out (by kernel_rfl)) hHeld ?_
     refine one_ (i := 10) (N := some 56) (bl 15 2047) rfl rfl (one_of HT_.out (by kernel_rfl)) (by decide) (fun K hK => ?_)
     refine gO Try.func36 #[.agg #[.int .i64 ((rd_T52 ((rd_T57 l0 x4_1).f2) x6_2).f0), .int .i64 ((rd_T52 ((rd_T57 l0 x4_1).f2) x6_2).f1), .int .i64 ((rd_T52 ((rd_T57 l0 x4_1).f2) x6_2).f2), .slice A900_3 ((rd_T52 ((rd_T57 l0 x4_1).f2) x6_2).f3).length c900_3]] (by rfl) rfl rfl ?_
     with_reducible refine (r2_Copy.calls k2 ((rd_T52 ((rd_T57 l0 x4_1).f2) x6_2).f0) ((rd_T52 ((rd_T57 l0 x4_1).f2) x6_2).f1) ((rd_T52 ((rd_T57 l0 x4_1).f2) x6_2).f2) _ _ ((rd_T52 ((rd_T57 l0 x4_1).f2) x6_2).f3) t901 t902 t903 t904 _ ?side1 ?side2 A24.out).mono ?_
     (case side1 => exact cb HR900_3 HB)
     (case side2 => exact HC900_3.out)
     rintro e w27 ⟨v905, rfl, ho0, hb⟩
     refine ⟨_, rfl, ?_⟩
     have HO906 := Aside0.mk (Kd.R_lower (Kd.R_new' ho0 (Kd.R_lt (iR HO_898002))) (bsz (bb HB)))
     replace HO_3 := Aside0.mk (Kd.R_elder' (iR HO_3) (Kd.R_base ho0) hb)
     replace HO_898002 := Aside0.mk (Kd.R_elder' (iR HO_898002) (Kd.R_base ho0) hb)
     replace HO_898003 := Aside0.mk (Kd.R_elder' (iR HO_898003) (Kd.R_base ho0) hb)
     replace HO_898004 := Aside0.mk (Kd.R_elder' (iR HO_898004) (Kd.R_base ho0) hb)
     replace BK897 := kb BK897 hb
     replace HB := sb HB hb
     (try clear hb)
     (try clear hb2)
     (try clear hk)
     (try clear hi)
     (try clear ho0)
     obtain ⟨Ao29, co29, eo29⟩ := Kd.R_slice HO906.out
     (first | subst eo29 | (injection eo29 with f1_ f2_ f3_; have f4_ := f1_.symm; have f5_ := f3_.symm; clear f1_ f2_ f3_; subst f4_; subst f5_))
     refine hK.out _ _ ⟨(blk_cell BK897.out 0).trans rfl, (blk_cell BK897.out 1).trans rfl, (blk_cell BK897.out 2).trans rfl, (blk_cell BK897.out 3).trans rfl, (blk_cell BK897.out 4).trans rfl, (bcell HB.out hw899_0), (bcell HB.out hw899_1), (bcell HB.out hw899_2), (bcell HB.out hw899_3), (bcell HB.out hw899_4), (bcell HB.out hw900_0), (bcell HB.out hw900_1), (bcell HB.out hw900_2), (bcell HB.out hw900_3)⟩ (fun hHeld => ?_)
     clear hK K
     refine nm 56 ?_
     refine one_ (i := 11) (N := some 57) (bl 15 4095) rfl rfl (one_of HT_.out (by kernel_rfl)) (by decide) (fun K hK => ?_)
     refine value_ (w1 := ?_) (v := ?_) (by rfl) rfl ?_ ?_
     rotate_left 2
     ·go_simp
      constructor
      ·rfl
      ·rfl
     refine hK.out _ _ ⟨(blk_cell (kal BK897.out _) 0).trans rfl, (blk_cell (kal BK897.out _) 1).trans rfl, (blk_cell (kal BK897.out _) 2).trans rfl, (blk_cell (kal BK897.out _) 3).trans rfl, (blk_cell (kal BK897.out _) 4).trans rfl, (World.cell?_alloc_lt _ _ _ (World.block_lt_of_cell? _ _ ((bcell HB.out hw899_0)))).trans ((bcell HB.out hw899_0)), (World.cell?_alloc_lt _ _ _ (World.block_lt_of_cell? _ _ ((bcell HB.out hw899_1)))).trans ((bcell HB.out hw899_1)), (World.cell?_alloc_lt _ _ _ (World.block_lt_of_cell? _ _ ((bcell HB.out hw899_2)))).trans ((bcell HB.out hw899_2)), (World.cell?_alloc_lt _ _ _ (World.block_lt_of_cell? _ _ ((bcell HB.out hw899_3)))).trans ((bcell HB.out hw899_3)), (World.cell?_alloc_lt _ _ _ (World.block_lt_of_cell? _ _ ((bcell HB.out hw899_4)))).trans ((bcell HB.out hw899_4)), (World.cell?_alloc_lt _ _ _ (World.block_lt_of_cell? _ _ ((bcell HB.out hw900_0)))).trans ((bcell HB.out hw900_0)), (World.cell?_alloc_lt _ _ _ (World.block_lt_of_cell? _ _ ((bcell HB.out hw900_1)))).trans ((bcell HB.out hw900_1)), (World.cell?_alloc_lt _ _ _ (World.block_lt_of_cell? _ _ ((bcell HB.out hw900_2)))).trans ((bcell HB.out hw900_2)), (World.cell?_alloc_lt _ _ _ (World.block_lt_of_cell? _ _ ((bcell HB.out hw900_3)))).trans ((bcell HB.out hw900_3))⟩ (fun hHeld => ?_)
     clear hK K
     refine nm 57 ?_
     refine one_ (i := 12) (N := some 58) (bl 15 8191) rfl rfl (one_of HT_.out (by kernel_rfl)) (by decide) (fun K hK => ?_)
     refine Kd.R_append_step k52 (w0 := w) w.heap.size (by rfl) (.tmp 47) (.tmp 57) 50 52 (.agg #[(.int .i64 0), (.int .i64 0), (.int .i64 0), (.slice none 0 0)]) 48 rfl Try.underlying50 info52 rfl (by decide) (by omega) u898002 x898002_2 (⟨t901, t902, t903, t904⟩ : S52) [.int .i64 t901, .int .i64 t902, .int .i64 t903, .slice Ao29 t904.length co29] (fun _ => True) (fun k_ => ((fun _ => True)) k_ ∧ some k_ ≠ (u898002 : Value).ownBlock) rfl rfl ?aP (fun _ hk => hk) ?aF ?aO ?aB ?aS ?aL ?_
     (case aP => exact k52_mkM _ _ _ (⟨t901, t902, t903, t904⟩ : S52) (Kd.R_mono (HO906.out) (fun k_ hk => ⟨trivial, hk.2⟩)))
     (case aB => exact (bb HB))
     (case aF => exact (fun _ _ => trivial))
     (case aO => exact (by (with_reducible repeat (first | apply Kd.R_alloc | apply Kd.R_drewN | apply Kd.R_drew)); exact Kd.R_mono HO_898002.out (fun _ hk => trivial)))
     (case aS => exact (bsz (bb HB)))
     (case aL => have := LMc25.out; omega)
     intro v908 w28 ho hb hg hat
     rw [← Ny907.out] at ho
     have HO909 := Aside0.mk (ho)
     replace HO_3 := Aside0.mk (Kd.R_after (ok := (fun k_ => some k_ ≠ (.slice Ao14 t890.length co14 : Value).ownBlock ∧ some k_ ≠ (.slice Ao13 t894.length co13 : Value).ownBlock ∧ some k_ ≠ (.slice Ao29 t904.length co29 : Value).ownBlock ∧ k_ ≠ gb897)) (by (with_reducible repeat (first | apply Kd.R_alloc | apply Kd.R_drewN | apply Kd.R_drew)); exact Kd.R_mono HO_3.out (fun _ hk => ⟨⟨hk.1.2.1, ⟨hk.1.2.2.1, ⟨hk.2, hk.1.2.2.2⟩⟩⟩, hk.1.1⟩)) hg hat)
     replace HO_898003 := Aside0.mk (Kd.R_after (ok := (fun k_ => some k_ ≠ (u3 : Value).ownBlock ∧ some k_ ≠ (.slice Ao13 t894.length co13 : Value).ownBlock ∧ some k_ ≠ (.slice Ao29 t904.length co29 : Value).ownBlock ∧ k_ ≠ gb897)) (by (with_reducible repeat (first | apply Kd.R_alloc | apply Kd.R_drewN | apply Kd.R_drew)); exact Kd.R_mono HO_898003.out (fun _ hk => ⟨⟨hk.1.1, ⟨hk.1.2.2.1, ⟨hk.2, hk.1.2.2.2⟩⟩⟩, hk.1.2.1⟩)) hg hat)
     replace HO_898004 := Aside0.mk (Kd.R_after (ok := (fun k_ => some k_ ≠ (u3 : Value).ownBlock ∧ some k_ ≠ (.slice Ao14 t890.length co14 : Value).ownBlock ∧ some k_ ≠ (.slice Ao29 t904.length co29 : Value).ownBlock ∧ k_ ≠ gb897)) (by (with_reducible repeat (first | apply Kd.R_alloc | apply Kd.R_drewN | apply Kd.R_drew)); exact Kd.R_mono HO_898004.out (fun _ hk => ⟨⟨hk.1.1, ⟨hk.1.2.2.1, ⟨hk.2, hk.1.2.2.2⟩⟩⟩, hk.1.2.1⟩)) hg hat)
     replace BK897 := Aside0.mk (blk_grown (kk BK897) hg (Kd.R_ne HO_898002.out BK897.out (by decide)))
     replace HB := Aside0.mk (hb)
     clear HO_898002 HO906
     clear ho hb hg hat
     obtain ⟨Ao30, co30, eo30⟩ := Kd.R_slice HO909.out
     (first | subst eo30 | (injection eo30 with f1_ f2_ f3_; have f4_ := f1_.symm; have f5_ := f3_.symm; clear f1_ f2_ f3_; subst f4_; subst f5_))
     refine hK.out _ _ ⟨(blk_cell BK897.out 0).trans rfl, (blk_cell BK897.out 1).trans rfl, (blk_cell BK897.out 2).trans rfl, (blk_cell BK897.out 3).trans rfl, (blk_cell BK897.out 4).trans rfl, (bcell HB.out hw899_0), (bcell HB.out hw899_1), (bcell HB.out hw899_2), (bcell HB.out hw899_3), (bcell HB.out hw899_4), (bcell HB.out hw900_0), (bcell HB.out hw900_1), (bcell HB.out hw900_2), (bcell HB.out hw900_3)⟩ (fun hHeld => ?_)
     clear hK K
     refine nm 58 ?_
     refine pT 13 59 (bl 15 16383) HT_ rfl rfl ?_
     refine last_ (i := 14) (N := none) (bl 15 32767) rfl rfl (one_of HT_.out (by kernel_rfl)) (by decide) (fun K hK => ?_)
     have hs31 : w28.cell? ⟨gb897, 2, none⟩ = some (u898002) := (blk_cell BK897.out 2).trans rfl
     have hfs31 := blk_frozen BK897.out 2
     refine skip_ (w1 := ?_) (by rfl) rfl ?_ ?_
     rotate_left
     ·go_simp
      rfl
     refine hK.out _ _ ?_
     clear hK K
     refine done_ (done_of HT_.out (by kernel_rfl)) ?_
     try go_wp2
     go_roundg k2
     case measure => have := HK1.out; have := HK2.out; omega
     case rel => exact ⟨(wrap64 (x6_2 + 1)), (y907), (.slice Ao30 y907.length co30), rs, H', ⟨by have := HK1.out; have := HK2.out; omega⟩, ⟨by (with_reducible repeat (first | apply Kd.R_alloc | apply Kd.R_drewN | apply Kd.R_drew)); exact Kd.R_mono (Kd.R_far (p := ⟨gb897, 2, none⟩) (Kd.R_mono HO_3.out (fun k_ hk => (⟨hk, hk.1.2.2.2⟩ : _ ∧ k_ ≠ gb897))) (fun _ hk => hk.2) (.slice Ao30 y907.length co30)) (fun _ hk => ⟨hk.1.2, ⟨hk.1.1.1, ⟨hk.1.1.2.1, hk.1.1.2.2.2⟩⟩⟩)⟩, ⟨by (with_reducible repeat (first | apply Kd.R_alloc | apply Kd.R_drewN | apply Kd.R_drew)); exact Kd.R_mono (Kd.R_far (p := ⟨gb897, 2, none⟩) (Kd.R_types HO909.out BK897.out (by decide)) (fun _ hk => hk.2) (.slice Ao30 y907.length co30)) (fun _ hk => trivial)⟩, ⟨by (with_reducible repeat (first | apply Kd.R_alloc | apply Kd.R_drewN | apply Kd.R_drew)); exact Kd.R_mono (Kd.R_far (p := ⟨gb897, 2, none⟩) (Kd.R_mono HO_898003.out (fun k_ hk => (⟨hk, hk.1.2.2.2⟩ : _ ∧ k_ ≠ gb897))) (fun _ hk => hk.2) (.slice Ao30 y907.length co30)) (fun _ hk => ⟨hk.1.1.1, ⟨hk.1.2, ⟨hk.1.1.2.1, hk.1.1.2.2.2⟩⟩⟩)⟩, ⟨by (with_reducible repeat (first | apply Kd.R_alloc | apply Kd.R_drewN | apply Kd.R_drew)); exact Kd.R_mono (Kd.R_far (p := ⟨gb897, 2, none⟩) (Kd.R_mono HO_898004.out (fun k_ hk => (⟨hk, hk.1.2.2.2⟩ : _ ∧ k_ ≠ gb897))) (fun _ hk => hk.2) (.slice Ao30 y907.length co30)) (fun _ hk => ⟨hk.1.1.1, ⟨hk.1.2, ⟨hk.1.1.2.1, hk.1.1.2.2.2⟩⟩⟩)⟩, ⟨by (with_reducible repeat (first | refine kdN ?_ _ | refine kdr ?_ | refine kal ?_ _)); refine blk_put (cs := #[.int .i64 ((rd_T57 l0 x4_1).f0), .int .i64 ((rd_T57 l0 x4_1).f1), u898002, .slice Ao14 t890.length co14, .slice Ao13 t894.length co13]) ?_ 2 _ rfl; (with_reducible repeat (first | refine kdN ?_ _ | refine kdr ?_ | refine kal ?_ _)); exact BK897.out⟩, ⟨bb HB⟩⟩
def r3_Copy.l0 : Nat → Int → Int → List (S42) → List (S57) → Int → List (S42) → List (S57) → Option (Int × (List (S42)) × (List (S57)))
 | 0, _, _, _, _, _, _, _ => none
 | k + 1, x4, x914000, x914001, x914002, x919000, x919001, x919002 => if x4 < (x914001.length : Int) then (if 0 ≤ x4 then (if x919001.length < 4398046511104 then (r3_Copy.l0 k (wrap64 (x4 + 1)) x914000 x914001 x914002 x919000 (x919001 ++ [(⟨(rd_T42 x914001 x4).f0, (rd_T42 x914001 x4).f1, (rd_T42 x914001 x4).f2⟩ : S42)]) x919002) else (none)) else (none)) else (some (x919000, x919001, x919002))
def r3_Copy.f (k : Nat) (a0_0 : Int) (l0_1 : List (S42)) (l0_2 : List (S57)) : Option (Int × (List (S42)) × (List (S57))) := (r3_CopyRows.f k l0_2).bind fun t915 => (r3_Copy.l0 k 0 a0_0 l0_1 l0_2 a0_0 ([] : List (S42)) t915)
def r3_Copy.T1 : Bool × List (List Nat × List Nat) := (true, [([], []), ([0], [0]), ([], []), ([2], [2]), ([3], [3]), ([1, 4], [1, 4]), ([], []), ([6, 5, 4, 0, 1, 2, 3, 4, 5, 6], [5, 6])])
def r3_Copy.B1 : List Nat := [0, 1, 0, 4, 12, 31, 0, 127]
theorem r3_Copy.tab1 : rtab .any (opsOf Try.f6 1) = r3_Copy.T1 := by kernel_rfl
theorem r3_Copy.bits1 : waitsOk r3_Copy.T1.2 r3_Copy.B1 = true := by kernel_rfl
def r3_Copy.T5 : Bool × List (List Nat × List Nat) := (true, [([], []), ([0], [0]), ([], []), ([2], [2]), ([], []), ([3, 4], [3, 4]), ([5], [5]), ([6], [6]), ([1, 7], [1, 7]), ([0, 1, 2, 3, 4, 5, 6, 7, 8], []), ([9, 8, 8, 0, 1, 2, 3, 4, 5, 6, 7, 8], [8, 9])])
def r3_Copy.B5 : List Nat := [0, 1, 0, 4, 0, 28, 60, 124, 255, 511, 1023]
theorem r3_Copy.tab5 : rtab .any (opsOf Try.f6 5) = r3_Copy.T5 := by kernel_rfl
theorem r3_Copy.bits5 : waitsOk r3_Copy.T5.2 r3_Copy.B5 = true := by kernel_rfl
theorem r3_Copy.calls (k : Nat) (a0_0 : Int) (A0_1 : Option Addr) (c0_1 : Nat) (l0_1 : List (S42)) (A0_2 : Option Addr) (c0_2 : Nat) (l0_2 : List (S57)) (r1 : Int) (r2 : List (S42)) (r3 : List (S57)) (w : World) (hr0_1 : Kd.C k42 w A0_1 l0_1.length l0_1) (hc0_1 : l0_1.length ≤ c0_1) (hr0_2 : Kd.C k57 w A0_2 l0_2.length l0_2) (hc0_2 : l0_2.length ≤ c0_2) (h : r3_Copy.f k a0_0 l0_1 l0_2 = some (r1, r2, r3)) :
  Calls Try.prog 6 #[.agg #[.int .i64 a0_0, .slice A0_1 l0_1.length c0_1, .slice A0_2 l0_2.length c0_2]] w fun e w' => ∃ v1_ v2_ : Value, e = .returned (.agg #[.int .i64 r1, v1_, v2_]) ∧ Kd.R k42 42 w' w.heap.size (fun _ => True) v1_ r2 ∧ Kd.R k57 57 w' w.heap.size (fun _ => True) v2_ r3 ∧ Below w.heap.size w w' := by
 have hu25 := Try.underlying25
 have hu42 := Try.underlying42
 have HR0_1 := Aside0.mk hr0_1
 have HC0_1 := Aside0.mk hc0_1
 clear hr0_1 hc0_1
 have HR0_2 := Aside0.mk hr0_2
 have HC0_2 := Aside0.mk hc0_2
 clear hr0_2 hc0_2
 have HB := Aside0.mk (Below.refl w.heap.size w)
 have H : ((r3_CopyRows.f k l0_2).bind fun t915 => (r3_Copy.l0 k 0 a0_0 l0_1 l0_2 a0_0 ([] : List (S42)) t915)) = some (r1, r2, r3) := h
 clear h
 obtain ⟨t915, A2, H⟩ := be H
 have H' := Aside0.mk H
 clear H
 go_enter Try.func6, Try.ntmps6
 try go_wp2_with (first | ((with_reducible refine gate_dst (N := 1) rfl ?_); refine bx 1 rfl rfl #[.int .i64 a0_0, .slice A0_1 l0_1.length c0_1, .slice A0_2 l0_2.length c0_2] 25 ?_; intro gb913 hg w3 hbox hb; have BK913 := Aside0.mk (hbox); have GE913 := ge HB hg; replace HB := sb HB hb; clear hb hbox hg) | ((with_reducible refine gate_dst (N := 2) rfl ?_); refine bx 2 rfl rfl #[.int .i64 0, .slice none 0 0, .slice none 0 0] 25 ?_; intro gb914 hg w4 hbox hb; have BK914 := Aside0.mk (hbox); have GE914 := ge HB hg; have NB913_914 := Aside0.mk ((by rw [hg]; exact Nat.ne_of_lt (blk_lt (kk BK913)) : gb913 ≠ gb914)); have NB914_913 := Aside0.mk ((by rw [hg]; exact Nat.ne_of_gt (blk_lt (kk BK913)) : gb914 ≠ gb913)); replace BK913 := kb BK913 hb; replace HB := sb HB hb; clear hb hbox hg))
 replace BK913 := Aside0.mk (kdr BK913.out)
 replace BK914 := Aside0.mk (kdr BK914.out)
 replace HB := Aside0.mk (bd1 HB.out)
 refine start_ (n := 8) (S := fun w' => w'.cell? ⟨gb913, 0, none⟩ = some (.int .i64 a0_0) ∧ w'.cell? ⟨gb913, 1, none⟩ = some (.slice A0_1 l0_1.length c0_1) ∧ w'.cell? ⟨gb913, 2, none⟩ = some (.slice A0_2 l0_2.length c0_2)) (ds := []) #[false, false, false, false, false, false, false, false] (by kernel_rfl) rfl rfl ⟨(blk_cell BK913.out 0).trans rfl, (blk_cell BK913.out 1).trans rfl, (blk_cell BK913.out 2).trans rfl⟩ (fun hHeld => ?_); refine with_tabW r3_Copy.tab1 r3_Copy.bits1 (fun HT_ HW_ => ?_)
 generalize w4.drew = w5 at BK913 BK914 HB hHeld ⊢
 refine pT 0 5 (bl 8 1) HT_ rfl rfl ?_
 refine pT 2 7 (bl 8 5) HT_ rfl rfl ?_
 refine tk (i := 1) (N := some 6) (bl 8 7) rfl rfl (take_ofW HT_.out HW_.out (by kernel_rfl)) hHeld ?_
 refine tk (i := 3) (N := some 8) (bl 8 15) rfl rfl (take_ofW HT_.out HW_.out (by kernel_rfl)) hHeld ?_
 refine join_ (σ := Value × Nat) 1 #[true, true, true, true, true, true, true, false] (fun s_ => [(9, s_.1), (3, .pointer (some ⟨s_.2, 0, none⟩)), (10, .agg #[.int .i64 a0_0, .slice none 0 0, s_.1])]) (fun s_ w' => (w'.cell? ⟨gb913, 0, none⟩ = some (.int .i64 a0_0) ∧ w'.cell? ⟨gb913, 1, none⟩ = some (.slice A0_1 l0_1.length c0_1) ∧ w'.cell? ⟨gb913, 2, none⟩ = some (.slice A0_2 l0_2.length c0_2)) ∧ (Kd.R k57 57 w' w.heap.size (fun _ => True) s_.1 t915) ∧ (w'.heap[gb913]? = some (.cells #[.int .i64 a0_0, .slice A0_1 l0_1.length c0_1, .slice A0_2 l0_2.length c0_2] 25 (0, 0))) ∧ (w'.heap[gb914]? = some (.cells #[.int .i64 0, .slice none 0 0, .slice none 0 0] 25 (0, 0))) ∧ (w'.heap[s_.2]? = some (.cells #[.int .i64 0, .slice none 0 0, .slice none 0 0] 25 (0, 0))) ∧ (w.heap.size ≤ s_.2) ∧ (w.heap.size ≤ s_.2) ∧ (gb913 ≠ s_.2) ∧ (s_.2 ≠ gb913) ∧ (gb914 ≠ s_.2) ∧ (s_.2 ≠ gb914) ∧ (Below w.heap.size w w')) ?_ ?_
 rotate_left
 ·intro hCont
  refine two_ (i := 4) (j := 6) (Ni := some 9) (Nj := some 3) #[true, true, true, true, true, false, false, false] #[true, true, true, true, false, false, true, false] rfl rfl rfl rfl (two_of HT_.out (by kernel_rfl)) (by decide) (by decide) (fun K hK => ?_) (fun K hK => ?_)
  ·skip
   refine gO Try.func22 #[.slice A0_2 l0_2.length c0_2] (by rfl) rfl rfl ?_
   with_reducible refine (r3_CopyRows.calls k _ _ l0_2 t915 _ ?side1 ?side2 A2.out).mono ?_
   (case side1 => exact cb HR0_2 HB)
   (case side2 => exact HC0_2.out)
   rintro e w6 ⟨v916, rfl, ho0, hb⟩
   refine ⟨_, rfl, ?_⟩
   have HO917 := Aside0.mk (Kd.R_lower ho0 (bsz (bb HB)))
   replace BK913 := kb BK913 hb
   replace BK914 := kb BK914 hb
   replace HB := sb HB hb
   (try clear hb)
   (try clear hb2)
   (try clear hk)
   (try clear hi)
   (try clear ho0)
   obtain ⟨Ao7, co7, eo7⟩ := Kd.R_slice HO917.out
   (first | subst eo7 | (injection eo7 with f1_ f2_ f3_; have f4_ := f1_.symm; have f5_ := f3_.symm; clear f1_ f2_ f3_; subst f4_; subst f5_))
   refine hK.out _ _ ⟨(blk_cell BK913.out 0).trans rfl, (blk_cell BK913.out 1).trans rfl, (blk_cell BK913.out 2).trans rfl⟩ (fun hHeld => ?_)
   clear hK K
   refine nm 9 ?_
   refine pT 5 10 (bl 8 63) HT_ rfl rfl ?_
   refine one_ (i := 6) (N := some 3) (bl 8 127) rfl rfl (one_of HT_.out (by kernel_rfl)) (by decide) (fun K hK => ?_)
   refine box_step ?hg (N := 3) ?hd (cs := #[.int .i64 0, .slice none 0 0, .slice none 0 0]) (t := 25) ?hr ?_; (case hd => rfl); (case hg => rfl); (case hr => first | (go_simp; done) | (go_simp; rfl))
   intro gb918 hg w8 hbox hb
   have BK918 := Aside0.mk (hbox)
   have GW918 := ge HB hg
   have GE918 := ge HB hg
   have NB913_918 := Aside0.mk ((by rw [hg]; exact Nat.ne_of_lt (blk_lt (kk BK913)) : gb913 ≠ gb918))
   have NB918_913 := Aside0.mk ((by rw [hg]; exact Nat.ne_of_gt (blk_lt (kk BK913)) : gb918 ≠ gb913))
   have NB914_918 := Aside0.mk ((by rw [hg]; exact Nat.ne_of_lt (blk_lt (kk BK914)) : gb914 ≠ gb918))
   have NB918_914 := Aside0.mk ((by rw [hg]; exact Nat.ne_of_gt (blk_lt (kk BK914)) : gb918 ≠ gb914))
   replace HO917 := Aside0.mk (Kd.R_below (iR HO917) hb)
   replace BK913 := kb BK913 hb
   replace BK914 := kb BK914 hb
   replace HB := sb HB hb
   clear hb hbox hg
   refine hK.out _ _ ⟨(blk_cell BK913.out 0).trans rfl, (blk_cell BK913.out 1).trans rfl, (blk_cell BK913.out 2).trans rfl⟩ (fun hHeld => ?_)
   clear hK K
   refine nm 3 ?_
   exact norm_ (by simp only [putAll, Act.put, List.setIfInBounds_toArray, List.set_cons_zero, List.set_cons_succ]) (hCont (.slice Ao7 t915.length co7, gb918) _ ⟨hHeld, (iR HO917), (kk BK913), (kk BK914), (kk BK918), GW918.out, GE918.out, NB913_918.out, NB918_913.out, NB914_918.out, NB918_914.out, (bb HB)⟩)
  ·skip
   refine box_step ?hg (N := 3) ?hd (cs := #[.int .i64 0, .slice none 0 0, .slice none 0 0]) (t := 25) ?hr ?_; (case hd => rfl); (case hg => rfl); (case hr => first | (go_simp; done) | (go_simp; rfl))
   intro gb918 hg w6 hbox hb
   have BK918 := Aside0.mk (hbox)
   have GW918 := ge HB hg
   have GE918 := ge HB hg
   have NB913_918 := Aside0.mk ((by rw [hg]; exact Nat.ne_of_lt (blk_lt (kk BK913)) : gb913 ≠ gb918))
   have NB918_913 := Aside0.mk ((by rw [hg]; exact Nat.ne_of_gt (blk_lt (kk BK913)) : gb918 ≠ gb913))
   have NB914_918 := Aside0.mk ((by rw [hg]; exact Nat.ne_of_lt (blk_lt (kk BK914)) : gb914 ≠ gb918))
   have NB918_914 := Aside0.mk ((by rw [hg]; exact Nat.ne_of_gt (blk_lt (kk BK914)) : gb918 ≠ gb914))
   replace BK913 := kb BK913 hb
   replace BK914 := kb BK914 hb
   replace HB := sb HB hb
   clear hb hbox hg
   refine hK.out _ _ ⟨(blk_cell BK913.out 0).trans rfl, (blk_cell BK913.out 1).trans rfl, (blk_cell BK913.out 2).trans rfl⟩ (fun hHeld => ?_)
   clear hK K
   refine nm 3 ?_
   refine one_ (i := 4) (N := some 9) (bl 8 95) rfl rfl (one_of HT_.out (by kernel_rfl)) (by decide) (fun K hK => ?_)
   refine gO Try.func22 #[.slice A0_2 l0_2.length c0_2] (by rfl) rfl rfl ?_
   with_reducible refine (r3_CopyRows.calls k _ _ l0_2 t915 _ ?side1 ?side2 A2.out).mono ?_
   (case side1 => exact cb HR0_2 HB)
   (case side2 => exact HC0_2.out)
   rintro e w7 ⟨v916, rfl, ho0, hb⟩
   refine ⟨_, rfl, ?_⟩
   have HO917 := Aside0.mk (Kd.R_lower ho0 (bsz (bb HB)))
   replace BK913 := kb BK913 hb
   replace BK914 := kb BK914 hb
   replace BK918 := kb BK918 hb
   replace HB := sb HB hb
   (try clear hb)
   (try clear hb2)
   (try clear hk)
   (try clear hi)
   (try clear ho0)
   obtain ⟨Ao8, co8, eo8⟩ := Kd.R_slice HO917.out
   (first | subst eo8 | (injection eo8 with f1_ f2_ f3_; have f4_ := f1_.symm; have f5_ := f3_.symm; clear f1_ f2_ f3_; subst f4_; subst f5_))
   refine hK.out _ _ ⟨(blk_cell BK913.out 0).trans rfl, (blk_cell BK913.out 1).trans rfl, (blk_cell BK913.out 2).trans rfl⟩ (fun hHeld => ?_)
   clear hK K
   refine nm 9 ?_
   refine pT 5 10 (bl 8 127) HT_ rfl rfl ?_
   exact norm_ (by simp only [putAll, Act.put, List.setIfInBounds_toArray, List.set_cons_zero, List.set_cons_succ]) (hCont (.slice Ao8 t915.length co8, gb918) _ ⟨hHeld, (iR HO917), (kk BK913), (kk BK914), (kk BK918), GW918.out, GE918.out, NB913_918.out, NB918_913.out, NB914_918.out, NB918_914.out, (bb HB)⟩)
 rintro ⟨v916, gb918⟩ w9 ⟨hS_, h0_, h1_, h2_, h3_, h4_, h5_, h6_, h7_, h8_, h9_, h10_⟩
 have n0_ : Aside0 (Kd.R k57 57 w9 w.heap.size (fun _ => True) v916 t915) := ⟨h0_⟩
 have n1_ : Aside0 (w9.heap[gb913]? = some (.cells #[.int .i64 a0_0, .slice A0_1 l0_1.length c0_1, .slice A0_2 l0_2.length c0_2] 25 (0, 0))) := ⟨h1_⟩
 have n2_ : Aside0 (w9.heap[gb914]? = some (.cells #[.int .i64 0, .slice none 0 0, .slice none 0 0] 25 (0, 0))) := ⟨h2_⟩
 have n3_ : Aside0 (w9.heap[gb918]? = some (.cells #[.int .i64 0, .slice none 0 0, .slice none 0 0] 25 (0, 0))) := ⟨h3_⟩
 have n4_ : Aside0 (w.heap.size ≤ gb918) := ⟨h4_⟩
 have n5_ : Aside0 (w.heap.size ≤ gb918) := ⟨h5_⟩
 have n6_ : Aside0 (gb913 ≠ gb918) := ⟨h6_⟩
 have n7_ : Aside0 (gb918 ≠ gb913) := ⟨h7_⟩
 have n8_ : Aside0 (gb914 ≠ gb918) := ⟨h8_⟩
 have n9_ : Aside0 (gb918 ≠ gb914) := ⟨h9_⟩
 have n10_ : Aside0 (Below w.heap.size w w9) := ⟨h10_⟩
 clear BK913
 clear BK914
 clear HB
 clear h0_ h1_ h2_ h3_ h4_ h5_ h6_ h7_ h8_ h9_ h10_
 have HO917 := n0_
 have BK913 := n1_
 have BK914 := n2_
 have BK918 := n3_
 have GW918 := n4_
 have GE918 := n5_
 have NB913_918 := n6_
 have NB918_913 := n7_
 have NB914_918 := n8_
 have NB918_914 := n9_
 have HB := n10_
 clear n0_ n1_ n2_ n3_ n4_ n5_ n6_ n7_ n8_ n9_ n10_
 have hHeld : w9.cell? ⟨gb913, 0, none⟩ = some (.int .i64 a0_0) ∧ w9.cell? ⟨gb913, 1, none⟩ = some (.slice A0_1 l0_1.length c0_1) ∧ w9.cell? ⟨gb913, 2, none⟩ = some (.slice A0_2 l0_2.length c0_2) := hS_
 obtain ⟨Ao10, co10, eo10⟩ := Kd.R_slice HO917.out
 (first | subst eo10 | (injection eo10 with f1_ f2_ f3_; have f4_ := f1_.symm; have f5_ := f3_.symm; clear f1_ f2_ f3_; subst f4_; subst f5_))
 refine norm_ (a' := ?_) ?_ ?_
 rotate_left
 ·simp only [putAll, Act.put, List.setIfInBounds_toArray, List.set_cons_zero, List.set_cons_succ]
  rfl
 refine one_ (i := 7) (N := none) (bl 8 255) rfl rfl (one_of HT_.out (by kernel_rfl)) (by decide) (fun K hK => ?_)
 have hs11 : w9.cell? ⟨gb918, 0, none⟩ = some (.int .i64 0) := (blk_cell BK918.out 0).trans rfl
 have hfs11 := blk_frozen BK918.out 0
 have hns11_0 := NB913_918.out
 have hns11_1 := NB914_918.out
 have hms11_0 := NB918_913.out
 have hms11_1 := NB918_914.out
 have hs12 : w9.cell? ⟨gb918, 1, none⟩ = some (.slice none 0 0) := (blk_cell BK918.out 1).trans rfl
 have hfs12 := blk_frozen BK918.out 1
 have hns12_0 := NB913_918.out
 have hns12_1 := NB914_918.out
 have hms12_0 := NB918_913.out
 have hms12_1 := NB918_914.out
 have hs13 : w9.cell? ⟨gb918, 2, none⟩ = some (.slice none 0 0) := (blk_cell BK918.out 2).trans rfl
 have hfs13 := blk_frozen BK918.out 2
 have hns13_0 := NB913_918.out
 have hns13_1 := NB914_918.out
 have hms13_0 := NB918_913.out
 have hms13_1 := NB918_914.out
 refine skip_ (w1 := ?_) (by rfl) rfl ?_ ?_
 rotate_left
 ·go_simp
  rfl
 refine hK.out _ _ ⟨((cell_far (p := ⟨gb918, _, none⟩) NB913_918.out _).trans (((cell_far (p := ⟨gb918, _, none⟩) NB913_918.out _).trans (((cell_far (p := ⟨gb918, _, none⟩) NB913_918.out _).trans (hHeld.1)))))), ((cell_far (p := ⟨gb918, _, none⟩) NB913_918.out _).trans (((cell_far (p := ⟨gb918, _, none⟩) NB913_918.out _).trans (((cell_far (p := ⟨gb918, _, none⟩) NB913_918.out _).trans (hHeld.2.1)))))), ((cell_far (p := ⟨gb918, _, none⟩) NB913_918.out _).trans (((cell_far (p := ⟨gb918, _, none⟩) NB913_918.out _).trans (((cell_far (p := ⟨gb918, _, none⟩) NB913_918.out _).trans (hHeld.2.2))))))⟩ (fun hHeld => ?_)
 clear hK K
 refine done_ (done_of HT_.out (by kernel_rfl)) ?_
 try go_wp2
 go_loopg [4] k (fun kq v4 w' => ∃ (x4_1 : Int) (x919001_1 : List (S42)) (u919001 : Value), v4 = .int .i64 x4_1 ∧ Aside0 (r3_Copy.l0 kq x4_1 a0_0 l0_1 l0_2 a0_0 x919001_1 t915 = some (r1, r2, r3)) ∧ Aside0 (kq ≤ k) ∧ Aside0 (Kd.R k42 42 w' w.heap.size (fun _ => True) u919001 x919001_1) ∧ Aside0 (Kd.R k57 57 w' w.heap.size (fun _ => True) (.slice Ao10 t915.length co10) t915) ∧ Aside0 (w'.heap[gb913]? = some (.cells #[.int .i64 a0_0, (.slice A0_1 l0_1.length c0_1), (.slice A0_2 l0_2.length c0_2)] 25 (0, 0))) ∧ Aside0 (w'.heap[gb914]? = some (.cells #[.int .i64 0, (.slice none 0 0), (.slice none 0 0)] 25 (0, 0))) ∧ Aside0 (w'.heap[gb918]? = some (.cells #[.int .i64 a0_0, u919001, (.slice Ao10 t915.length co10)] 25 (0, 0))) ∧ Aside0 (Below w.heap.size w w'))
 case atStart => exact ⟨(0), (([] : List (S42))), (.slice none 0 0), rs, H', ⟨Nat.le_refl _⟩, ⟨by first | exact Kd.R_nil _ _ _ _ _ | exact Kd.N_nil _ _ _ _ _ | exact Kd.V_nil _ _ _ _ _ | exact Kd.Q_nil _ _ _ _ _ | exact Kd.S_nil _ _ _ _ _⟩, ⟨by (with_reducible repeat (first | apply Kd.R_alloc | apply Kd.R_drewN | apply Kd.R_drew)); exact Kd.R_mono (Kd.R_far (p := ⟨gb918, 2, none⟩) (Kd.R_far (p := ⟨gb918, 1, none⟩) (Kd.R_far (p := ⟨gb918, 0, none⟩) (Kd.R_types HO917.out BK918.out (by decide)) (fun _ hk => hk.2) (.int .i64 a0_0)) (fun _ hk => hk.2) (.slice none 0 0)) (fun _ hk => hk.2) (.slice Ao10 t915.length co10)) (fun _ hk => trivial)⟩, ⟨kk BK913⟩, ⟨kk BK914⟩, ⟨by (with_reducible repeat (first | refine kdN ?_ _ | refine kdr ?_ | refine kal ?_ _)); refine blk_put (cs := #[.int .i64 a0_0, .slice none 0 0, .slice none 0 0]) ?_ 2 _ rfl; (with_reducible repeat (first | refine kdN ?_ _ | refine kdr ?_ | refine kal ?_ _)); refine blk_put (cs := #[.int .i64 a0_0, .slice none 0 0, .slice none 0 0]) ?_ 1 _ rfl; (with_reducible repeat (first | refine kdN ?_ _ | refine kdr ?_ | refine kal ?_ _)); refine blk_put (cs := #[.int .i64 0, .slice none 0 0, .slice none 0 0]) ?_ 0 _ rfl; (with_reducible repeat (first | refine kdN ?_ _ | refine kdr ?_ | refine kal ?_ _)); exact BK918.out⟩, ⟨bb HB⟩⟩
 case round =>
  clear H'
  try clear c2
  try clear p2
  try clear c6
  obtain ⟨x4_1, x919001_1, u919001, rfl, HA, HK1, HO_919001, HO_919002, BK913, BK914, BK918, HB⟩ := hrel
  cases gk with
  | zero => exact absurd HA.out (by simp [r3_Copy.l0])
  | succ k1 =>
   have H := HA.out
   clear HA
   simp only [r3_Copy.l0] at H
   by_cases c14 : x4_1 < (l0_1.length : Int)
   rotate_left
   ·rw [if_neg c14] at H
    have c14b0 : decide (x4_1 < (l0_1.length : Int)) = false := decide_eq_false c14
    clear c14
    simp only [Option.some.injEq, Prod.mk.injEq] at H
    obtain ⟨rfl, rfl, rfl⟩ := H
    have hnb24 := NB913_914.out
    have hnc24 := NB914_913.out
    have hnb25 := NB913_918.out
    have hnc25 := NB918_913.out
    obtain ⟨hcz26_0, hcz26_1, hcz26_2, hfz26_0, hfz26_1, hfz26_2⟩ := cf3 BK913.out
    have hnb27 := NB918_914.out
    have hnc27 := NB914_918.out
    obtain ⟨hcz28_0, hcz28_1, hcz28_2, hfz28_0, hfz28_1, hfz28_2⟩ := cf3 BK918.out
    obtain ⟨hcz29_0, hcz29_1, hcz29_2, hfz29_0, hfz29_1, hfz29_2⟩ := cf3 BK914.out
    obtain ⟨Ao30, co30, eo30⟩ := Kd.R_slice HO_919001.out
    subst eo30
    go_wp2
    refine bodyPost_ret (results_cell_row rfl _ _ gb914 25 #[.int .i64 a0_0, .slice Ao30 x919001_1.length co30, .slice Ao10 t915.length co10] (0, 0) _ rfl (by (with_reducible repeat (first | refine kdN ?_ _ | refine kdr ?_ | refine kal ?_ _)); refine blk_put (cs := #[.int .i64 a0_0, .slice Ao30 x919001_1.length co30, .slice none 0 0]) ?_ 2 _ rfl; (with_reducible repeat (first | refine kdN ?_ _ | refine kdr ?_ | refine kal ?_ _)); refine blk_put (cs := #[.int .i64 a0_0, .slice none 0 0, .slice none 0 0]) ?_ 1 _ rfl; (with_reducible repeat (first | refine kdN ?_ _ | refine kdr ?_ | refine kal ?_ _)); refine blk_put (cs := #[.int .i64 0, .slice none 0 0, .slice none 0 0]) ?_ 0 _ rfl; (with_reducible repeat (first | refine kdN ?_ _ | refine kdr ?_ | refine kal ?_ _)); exact BK914.out) Try.underlying25 rfl (by kernel_rfl)) rfl ?_
    exact ⟨_, _, rr, by (with_reducible repeat (first | apply Kd.R_alloc | apply Kd.R_drewN | apply Kd.R_drew)); exact Kd.R_mono (Kd.R_far (p := ⟨gb914, 2, none⟩) (Kd.R_far (p := ⟨gb914, 1, none⟩) (Kd.R_far (p := ⟨gb914, 0, none⟩) (Kd.R_types HO_919001.out BK914.out (by decide)) (fun _ hk => hk.2) (.int .i64 a0_0)) (fun _ hk => hk.2) (.slice Ao30 x919001_1.length co30)) (fun _ hk => hk.2) (.slice Ao10 t915.length co10)) (fun _ hk => trivial), by (with_reducible repeat (first | apply Kd.R_alloc | apply Kd.R_drewN | apply Kd.R_drew)); exact Kd.R_mono (Kd.R_far (p := ⟨gb914, 2, none⟩) (Kd.R_far (p := ⟨gb914, 1, none⟩) (Kd.R_far (p := ⟨gb914, 0, none⟩) (Kd.R_types HO_919002.out BK914.out (by decide)) (fun _ hk => hk.2) (.int .i64 a0_0)) (fun _ hk => hk.2) (.slice Ao30 x919001_1.length co30)) (fun _ hk => hk.2) (.slice Ao10 t915.length co10)) (fun _ hk => trivial), bb HB⟩
   rw [if_pos c14] at H
   have c14b0 : decide (x4_1 < (l0_1.length : Int)) = true := decide_eq_true c14
   clear c14
   by_cases c15 : 0 ≤ x4_1
   rotate_left
   ·rw [if_neg c15] at H
    exact absurd H (by simp)
   rw [if_pos c15] at H
   have c15b0 : decide (0 ≤ x4_1) = true := decide_eq_true c15
   clear c15
   by_cases c16 : x919001_1.length < 4398046511104
   rotate_left
   ·rw [if_neg c16] at H
    exact absurd H (by simp)
   rw [if_pos c16] at H
   have LMc16 := Aside0.mk c16
   clear c16
   obtain ⟨y920, hy920⟩ : ∃ y_ : List (S42), y_ = (x919001_1 ++ [(⟨(rd_T42 l0_1 x4_1).f0, (rd_T42 l0_1 x4_1).f1, (rd_T42 l0_1 x4_1).f2⟩ : S42)]) := ⟨_, rfl⟩
   replace H : (r3_Copy.l0 k1 (wrap64 (x4_1 + 1)) a0_0 l0_1 l0_2 a0_0 y920 t915) = some (r1, r2, r3) := by first | (rw [hy920]; with_reducible exact H) | (have H2_ := (Option.bind_some _ _).symm.trans H; rw [hy920]; with_reducible exact H2_) | (have H2_ := (Option.bind_some _ _).symm.trans H; with_reducible exact H2_) | with_reducible exact H | (rw [hy920]; exact H) | exact H
   have Ny920 := Aside0.mk hy920
   clear hy920
   have H' := Aside0.mk H
   clear H
   have hnb17 := NB913_914.out
   have hnc17 := NB914_913.out
   have hnb18 := NB913_918.out
   have hnc18 := NB918_913.out
   obtain ⟨hcz19_0, hcz19_1, hcz19_2, hfz19_0, hfz19_1, hfz19_2⟩ := cf3 BK913.out
   try go_wp2
   replace HO_919001 := Aside0.mk (Kd.R_drew HO_919001.out)
   replace HO_919002 := Aside0.mk (Kd.R_drew HO_919002.out)
   replace BK913 := Aside0.mk (kdr BK913.out)
   replace BK914 := Aside0.mk (kdr BK914.out)
   replace BK918 := Aside0.mk (kdr BK918.out)
   replace HB := Aside0.mk (bd1 HB.out)
   have p919 : 0 ≤ (x4_1 : Int) := od
   have q919 : x4_1 < (l0_1.length : Int) := od
   obtain ⟨ad919, e919, hx919_0, hx919_1, hx919_2⟩ := at_T42 HR0_1.out x4_1 p919 q919
   have hw919_2 := hx919_2
   have hw919_1 := hx919_1
   have hw919_0 := hx919_0
   cases e919
   replace hx919_0 := bcell HB.out hx919_0
   replace hx919_1 := bcell HB.out hx919_1
   replace hx919_2 := bcell HB.out hx919_2
   replace p919 := eq_true p919
   replace q919 := eq_true q919
   refine start_ (n := 11) (S := fun w' => w'.cell? ⟨gb918, 0, none⟩ = some (.int .i64 a0_0) ∧ w'.cell? ⟨gb918, 1, none⟩ = some (u919001) ∧ w'.cell? ⟨gb918, 2, none⟩ = some (.slice Ao10 t915.length co10) ∧ w'.cell? ⟨gb913, 0, none⟩ = some (.int .i64 a0_0) ∧ w'.cell? ⟨gb913, 1, none⟩ = some (.slice (some ad919) l0_1.length c0_1) ∧ w'.cell? ⟨gb913, 2, none⟩ = some (.slice A0_2 l0_2.length c0_2) ∧ w'.cell? (ad919.add ((x4_1).toNat * 3)) = some (.string ((rd_T42 l0_1 x4_1).f0)) ∧ w'.cell? ⟨(ad919.add ((x4_1).toNat * 3)).block, (ad919.add ((x4_1).toNat * 3)).off + 1, none⟩ = some (.int .i64 ((rd_T42 l0_1 x4_1).f1)) ∧ w'.cell? ⟨(ad919.add ((x4_1).toNat * 3)).block, (ad919.add ((x4_1).toNat * 3)).off + 2, none⟩ = some (.int .i64 ((rd_T42 l0_1 x4_1).f2))) (ds := [10]) #[false, false, false, false, false, false, false, false, false, false, false] (by kernel_rfl) rfl rfl ⟨(blk_cell BK918.out 0).trans rfl, (blk_cell BK918.out 1).trans rfl, (blk_cell BK918.out 2).trans rfl, (blk_cell BK913.out 0).trans rfl, (blk_cell BK913.out 1).trans rfl, (blk_cell BK913.out 2).trans rfl, (bcell HB.out hw919_0), (bcell HB.out hw919_1), (bcell HB.out hw919_2)⟩ (fun hHeld => ?_); refine with_tabW r3_Copy.tab5 r3_Copy.bits5 (fun HT_ HW_ => ?_)
   generalize wr.drew = w20 at HO_919001 HO_919002 BK913 BK914 BK918 HB hx919_0 hx919_1 hx919_2 hHeld ⊢
   refine pT 0 18 (bl 11 1) HT_ rfl rfl ?_
   refine pT 2 20 (bl 11 5) HT_ rfl rfl ?_
   refine pT 4 22 (bl 11 21) HT_ rfl rfl ?_
   refine tk (i := 1) (N := some 19) (bl 11 23) rfl rfl (take_ofW HT_.out HW_.out (by kernel_rfl)) hHeld ?_
   refine tk (i := 3) (N := some 21) (bl 11 31) rfl rfl (take_ofW HT_.out HW_.out (by kernel_rfl)) hHeld ?_
   refine pT 5 23 (bl 11 63) HT_ rfl rfl ?_
   refine tk (i := 6) (N := some 24) (bl 11 127) rfl rfl (take_ofW HT_.out HW_.out (by kernel_rfl)) hHeld ?_
   refine one_ (i := 7) (N := some 25) (bl 11 255) rfl rfl (one_of HT_.out (by kernel_rfl)) (by decide) (fun K hK => ?_)
   refine value_ (w1 := ?_) (v := ?_) (by rfl) rfl ?_ ?_
   rotate_left 2
   ·go_simp
    constructor
    ·rfl
    ·rfl
   refine hK.out _ _ ⟨(blk_cell (kal BK918.out _) 0).trans rfl, (blk_cell (kal BK918.out _) 1).trans rfl, (blk_cell (kal BK918.out _) 2).trans rfl, (blk_cell (kal BK913.out _) 0).trans rfl, (blk_cell (kal BK913.out _) 1).trans rfl, (blk_cell (kal BK913.out _) 2).trans rfl, (World.cell?_alloc_lt _ _ _ (World.block_lt_of_cell? _ _ ((bcell HB.out hw919_0)))).trans ((bcell HB.out hw919_0)), (World.cell?_alloc_lt _ _ _ (World.block_lt_of_cell? _ _ ((bcell HB.out hw919_1)))).trans ((bcell HB.out hw919_1)), (World.cell?_alloc_lt _ _ _ (World.block_lt_of_cell? _ _ ((bcell HB.out hw919_2)))).trans ((bcell HB.out hw919_2))⟩ (fun hHeld => ?_)
   clear hK K
   refine nm 25 ?_
   refine one_ (i := 8) (N := some 26) (bl 11 511) rfl rfl (one_of HT_.out (by kernel_rfl)) (by decide) (fun K hK => ?_)
   refine Kd.R_append_step k42 (w0 := w) w.heap.size (by rfl) (.tmp 19) (.tmp 25) 22 42 (.agg #[(.string ⟨#[]⟩), (.int .i64 0), (.int .i64 0)]) 32 rfl Try.underlying22 info42 rfl (by decide) (by omega) u919001 x919001_1 (⟨(rd_T42 l0_1 x4_1).f0, (rd_T42 l0_1 x4_1).f1, (rd_T42 l0_1 x4_1).f2⟩ : S42) [.string ((rd_T42 l0_1 x4_1).f0), .int .i64 ((rd_T42 l0_1 x4_1).f1), .int .i64 ((rd_T42 l0_1 x4_1).f2)] (fun _ => True) (fun _ => False) rfl rfl ?aP (fun _ hk => hk.elim) ?aF ?aO ?aB ?aS ?aL ?_
   (case aP => exact k42_mkM _ _ _ (⟨(rd_T42 l0_1 x4_1).f0, (rd_T42 l0_1 x4_1).f1, (rd_T42 l0_1 x4_1).f2⟩ : S42))
   (case aB => exact (bb HB))
   (case aF => exact (fun _ _ => trivial))
   (case aO => exact (iR HO_919001))
   (case aS => exact (bsz (bb HB)))
   (case aL => have := LMc16.out; omega)
   intro v921 w21 ho hb hg hat
   rw [← Ny920.out] at ho
   have HO922 := Aside0.mk (ho)
   replace HO_919002 := Aside0.mk (Kd.R_over' (iR HO_919002) (Kd.R_typed (iR HO_919001)) (by decide) hg)
   replace BK913 := Aside0.mk (blk_grown (kk BK913) hg (Kd.R_ne HO_919001.out BK913.out (by decide)))
   replace BK914 := Aside0.mk (blk_grown (kk BK914) hg (Kd.R_ne HO_919001.out BK914.out (by decide)))
   replace BK918 := Aside0.mk (blk_grown (kk BK918) hg (Kd.R_ne HO_919001.out BK918.out (by decide)))
   replace HB := Aside0.mk (hb)
   clear HO_919001
   clear ho hb hg hat
   obtain ⟨Ao22, co22, eo22⟩ := Kd.R_slice HO922.out
   (first | subst eo22 | (injection eo22 with f1_ f2_ f3_; have f4_ := f1_.symm; have f5_ := f3_.symm; clear f1_ f2_ f3_; subst f4_; subst f5_))
   refine hK.out _ _ ⟨(blk_cell BK918.out 0).trans rfl, (blk_cell BK918.out 1).trans rfl, (blk_cell BK918.out 2).trans rfl, (blk_cell BK913.out 0).trans rfl, (blk_cell BK913.out 1).trans rfl, (blk_cell BK913.out 2).trans rfl, (bcell HB.out hw919_0), (bcell HB.out hw919_1), (bcell HB.out hw919_2)⟩ (fun hHeld => ?_)
   clear hK K
   refine nm 26 ?_
   refine pT 9 27 (bl 11 1023) HT_ rfl rfl ?_
   refine last_ (i := 10) (N := none) (bl 11 2047) rfl rfl (one_of HT_.out (by kernel_rfl)) (by decide) (fun K hK => ?_)
   have hs23 : w21.cell? ⟨gb918, 1, none⟩ = some (u919001) := (blk_cell BK918.out 1).trans rfl
   have hfs23 := blk_frozen BK918.out 1
   have hns23_0 := NB913_918.out
   have hns23_1 := NB914_918.out
   have hms23_0 := NB918_913.out
   have hms23_1 := NB918_914.out
   refine skip_ (w1 := ?_) (by rfl) rfl ?_ ?_
   rotate_left
   ·go_simp
    rfl
   refine hK.out _ _ ?_
   clear hK K
   refine done_ (done_of HT_.out (by kernel_rfl)) ?_
   try go_wp2
   go_roundg k1
   case measure => have := HK1.out; omega
   case rel => exact ⟨(wrap64 (x4_1 + 1)), (y920), (.slice Ao22 y920.length co22), rs, H', ⟨by have := HK1.out; omega⟩, ⟨by (with_reducible repeat (first | apply Kd.R_alloc | apply Kd.R_drewN | apply Kd.R_drew)); exact Kd.R_mono (Kd.R_far (p := ⟨gb918, 1, none⟩) (Kd.R_types HO922.out BK918.out (by decide)) (fun _ hk => hk.2) (.slice Ao22 y920.length co22)) (fun _ hk => trivial)⟩, ⟨by (with_reducible repeat (first | apply Kd.R_alloc | apply Kd.R_drewN | apply Kd.R_drew)); exact Kd.R_mono (Kd.R_far (p := ⟨gb918, 1, none⟩) (Kd.R_types HO_919002.out BK918.out (by decide)) (fun _ hk => hk.2) (.slice Ao22 y920.length co22)) (fun _ hk => trivial)⟩, ⟨kk BK913⟩, ⟨kk BK914⟩, ⟨by (with_reducible repeat (first | refine kdN ?_ _ | refine kdr ?_ | refine kal ?_ _)); refine blk_put (cs := #[.int .i64 a0_0, u919001, .slice Ao10 t915.length co10]) ?_ 1 _ rfl; (with_reducible repeat (first | refine kdN ?_ _ | refine kdr ?_ | refine kal ?_ _)); exact BK918.out⟩, ⟨bb HB⟩⟩
theorem rcopyE : (∀ x, goodE x → eN x ≤ 1000 → Tells (fun k => r2_Copy.f k x.f0 x.f1 x.f2 x.f3) (x.f0, x.f1, x.f2, x.f3)) ∧
    (∀ suf, ∀ (pre acc : List S52) (a b c a' b' c' : Int), goodEs suf → (pre ++ suf).length ≤ 9223372036854775807 → eNs suf ≤ 1000 → acc.length + suf.length ≤ 1000 →
      Tells (fun k => r2_Copy.l0 k (pre.length : Int) a b c (pre ++ suf) a' b' c' acc) (a', b', c', acc ++ suf)) := by
  refine E_ind (fun a b c l ih => ?_) ?_ (fun x r ih1 ih2 => ?_)
  · intro hg hn
    simp only [eN] at hn
    have hle := eNs_len l
    refine Tells.succ ?_
    simp only [r2_Copy.f]
    exact ih [] [] a b c a b c hg.2 hg.1 (by omega) (by simp only [List.length_nil]; omega)
  · intro pre acc a b c a' b' c' _ _ _ _
    refine Tells.succ ?_
    simp only [r2_Copy.l0, pre_nlt, if_false]
    rw [List.append_nil]
    exact Tells.pure _
  · intro pre acc a b c a' b' c' hg hl hn ha
    simp only [eNs] at hn
    simp only [List.length_cons] at ha
    refine Tells.succ ?_
    simp only [r2_Copy.l0, pre_lt, pre_pos, if_true, rdE_mid]
    refine Tells.bind (ih1 hg.1 (by omega)) (Tells.ifT (by omega) ?_)
    rw [pre_next pre x r hl]
    have := ih2 (pre ++ [x]) (acc ++ [x]) a b c a' b' c' hg.2 (by rw [← pre_app]; exact hl) (by omega) (by simp only [List.length_append, List.length_cons, List.length_nil]; omega)
    rw [← pre_app, List.append_assoc, List.singleton_append] at this
    rw [E_eta]
    exact this
theorem rcopy_l1 (pre : List S57) (x : S57) (r acc : List S57) (op n : Int) (t e : List S57) (v : List S57) (ha : acc.length ≤ 1000) (hxl : x.f2.length ≤ 9223372036854775807) (hx1 : x.f2.length ≤ 1000) : ∀ (suf ap : List S52), x.f2 = ap ++ suf → goodEs suf → eNs suf ≤ 1000 →
    Tells (fun k => r3_CopyRows.l0 k (pre ++ x :: r) (acc ++ [⟨op, n, x.f2, t, e⟩]) (wrap64 ((pre.length : Int) + 1))) v →
    Tells (fun k => r3_CopyRows.l1 k (pre ++ x :: r) acc (pre.length : Int) (ap.length : Int) op n ap t e) v
  | [], ap, h, _, _, hv => by
    refine Tells.succ ?_
    have e1 : ¬ (ap.length : Int) < (x.f2.length : Int) := by rw [h, List.append_nil]; omega
    simp only [r3_CopyRows.l1, pre_lt, pre_pos, if_true, rdS_mid, e1, if_false]
    rw [h, List.append_nil] at hv
    exact Tells.ifT (by omega) hv
  | y :: q, ap, h, hg, hn, hv => by
    simp only [eNs] at hn
    refine Tells.succ ?_
    have e1 : (ap.length : Int) < (x.f2.length : Int) := by rw [h]; exact pre_lt ap y q
    have e2 : rd_T52 x.f2 (ap.length : Int) = y := by rw [h]; exact rdE_mid ap y q
    have hal : ap.length ≤ 1000 := by have := congrArg List.length h; rw [List.length_append] at this; omega
    simp only [r3_CopyRows.l1, pre_lt, pre_pos, if_true, rdS_mid, e1, e2]
    refine Tells.bind (rcopyE.1 y hg.1 (by omega)) (Tells.ifT (by omega) ?_)
    have e3 : wrap64 ((ap.length : Int) + 1) = ((ap ++ [y]).length : Int) := by
      rw [List.length_append, List.length_singleton, w64 (by omega) (by omega)]; omega
    rw [e3, E_eta]
    exact rcopy_l1 pre x r acc op n t e v ha hxl hx1 q (ap ++ [y]) (by rw [h]; simp) hg.2 (by omega) hv
theorem rcopyS : (∀ x, goodS x → sN x ≤ 1000 → Tells (fun k => r3_CopyRows.f k x.f3) x.f3 ∧ Tells (fun k => r3_CopyRows.f k x.f4) x.f4) ∧
    (∀ suf, goodSs suf → sNs suf ≤ 1000 → ∀ (pre acc : List S57), (pre ++ suf).length ≤ 9223372036854775807 → acc.length + suf.length ≤ 1000 → Tells (fun k => r3_CopyRows.l0 k (pre ++ suf) acc (pre.length : Int)) (acc ++ suf)) := by
  refine S_ind (fun a b l t e iht ihe => ?_) ?_ (fun x r ih1 ih2 => ?_)
  · intro hg hn
    rw [goodS_mk] at hg
    obtain ⟨⟨g1, g2⟩, ⟨g3, g4⟩, ⟨g5, g6⟩⟩ := hg
    rw [sN_eq] at hn
    have ht := sNs_len t
    have he := sNs_len e
    simp only at hn
    constructor
    · refine Tells.succ ?_
      simp only [r3_CopyRows.f]
      exact iht g4 (by omega) [] [] g3 (by simp only [List.length_nil]; omega)
    · refine Tells.succ ?_
      simp only [r3_CopyRows.f]
      exact ihe g6 (by omega) [] [] g5 (by simp only [List.length_nil]; omega)
  · intro _ _ pre acc _ _
    refine Tells.succ ?_
    simp only [r3_CopyRows.l0, pre_nlt, if_false]
    rw [List.append_nil]
    exact Tells.pure _
  · intro hg hn pre acc hl ha
    rw [sNs_cons] at hn
    rw [List.length_cons] at ha
    have gx : goodS x := hg.1
    rw [goodS_eq] at gx
    have hx := sN_eq x
    have hle := eNs_len x.f2
    refine Tells.succ ?_
    simp only [r3_CopyRows.l0, pre_lt, pre_pos, if_true, rdS_mid]
    obtain ⟨t3, t4⟩ := ih1 hg.1 (by omega)
    refine Tells.bind t3 (Tells.bind t4 ?_)
    refine rcopy_l1 pre x r acc x.f0 x.f1 x.f3 x.f4 _ (by omega) gx.1.1 (by omega) x.f2 [] rfl gx.1.2 (by omega) ?_
    rw [pre_next pre x r hl, S_eta]
    have := ih2 hg.2 (by omega) (pre ++ [x]) (acc ++ [x]) (by rw [← pre_app]; exact hl) (by simp only [List.length_append, List.length_cons, List.length_nil]; omega)
    rw [← pre_app, List.append_assoc, List.singleton_append] at this
    exact this
theorem rcopyV (w w' : Int) (body b' : List S57) : ∀ (suf pre acc : List S42), (pre ++ suf).length ≤ 1000 → acc.length + suf.length ≤ 1000 → Tells (fun k => r3_Copy.l0 k (pre.length : Int) w (pre ++ suf) body w' acc b') (w', acc ++ suf, b')
  | [], pre, acc, _, _ => by
    refine Tells.succ ?_
    simp only [r3_Copy.l0, pre_nlt, if_false]
    rw [List.append_nil]
    exact Tells.pure _
  | v :: r, pre, acc, hl, ha => by
    rw [List.length_cons] at ha
    refine Tells.succ ?_
    simp only [r3_Copy.l0, pre_lt, pre_pos, if_true, rdV_mid]
    refine Tells.ifT (by omega) ?_
    rw [pre_next pre v r (by omega)]
    have := rcopyV w w' body b' r (pre ++ [v]) (acc ++ [v]) (by rw [← pre_app]; exact hl) (by simp only [List.length_append, List.length_cons, List.length_nil]; omega)
    rw [← pre_app, List.append_assoc, List.singleton_append] at this
    exact this
theorem rcopyP (w : Int) (vars : List S42) (body : List S57) (hl : body.length ≤ 9223372036854775807) (hg : goodSs body) (hn : sNs body ≤ 1000) (hv : vars.length ≤ 1000) : Tells (fun k => r3_Copy.f k w vars body) (w, vars, body) := by
  unfold r3_Copy.f
  have hb := sNs_len body
  have t : Tells (fun k => r3_CopyRows.f k body) body := by
    refine Tells.succ ?_
    simp only [r3_CopyRows.f]
    exact rcopyS.2 body hg hn [] [] hl (by simp only [List.length_nil]; omega)
  exact Tells.bind t (rcopyV w w body body vars [] [] hv (by simp only [List.length_nil]; omega))
end Go.Proofs.Ytnlekgadadifdaa.Print
namespace Go.Proofs.Ytnlekgadadifdaa.Print
open Go.RowKit Go.Proofs.YtnlekgadadifdaaW.PrintWords Go.Proofs.YtnlekgadadifdaaW.PrintLast Go.Proofs.YtnlekgadadifdaaW.PrintMore
attribute [local go_sem] max2_int min2_int max_two min_two max_three min_three max_four min_four
set_option linter.unusedVariables false
set_option linter.unusedSimpArgs false
open Go.RowKit
theorem fill_block {w : World} {g : Nat} {t : TypeId} {cs : Array Value} {vs : List Value} (h : w.heap[g]? = some (.cells cs t (0, 0))) (hl : vs.length = cs.size) : (w.setCells g 0 vs).heap[g]? = some (.cells vs.toArray t (0, 0)) := by
  obtain ⟨cur, h1, _, h3⟩ := setCells_row vs 0 w cs h (by omega)
  rw [h1]
  have : cur = vs.toArray := by
    apply Array.ext'
    rw [h3, List.take_zero, List.nil_append, Nat.zero_add, List.drop_of_length_le (by rw [hl]; simp), List.append_nil]
  rw [this]
theorem fill_far {w : World} {g k : Nat} {vs : List Value} (h : k ≠ g) : (w.setCells g 0 vs).heap[k]? = w.heap[k]? := setCells_far vs 0 k h
theorem fill_size {w : World} {g : Nat} {vs : List Value} : (w.setCells g 0 vs).heap.size = w.heap.size := (setCells_same g vs 0 w).2.2.2
theorem fill_below {w0 w : World} {B g : Nat} {vs : List Value} (h : Below B w0 w) (hg : B ≤ g) : Below B w0 (w.setCells g 0 vs) := by
  obtain ⟨h1, h2, h3, h4⟩ := setCells_same g vs 0 w
  exact ⟨h1.trans h.os, h2.trans h.tape, h3.trans h.output, by rw [h4]; exact h.size, fun k hk => (fill_far (by omega)).trans (h.block k hk)⟩
theorem fill_kept {w W : World} {g : Nat} {vs : List Value} {S : Nat → Prop} (h : Kept w W S) (hg : S g ∨ w.heap.size ≤ g) : Kept w (W.setCells g 0 vs) S :=
  ⟨by rw [fill_size]; exact h.1, fun k hk hn => (fill_far (by rintro rfl; rcases hg with hg | hg; exact hn hg; omega)).trans (h.2 k hk hn)⟩
theorem row3 {w : World} {g : Nat} {a0 a1 a2 : Value} {t : TypeId} (h : w.heap[g]? = some (.cells #[a0, a1, a2] t (0, 0))) : w.cell? ⟨g, 0, none⟩ = some a0 ∧ w.cell? ⟨g, 1, none⟩ = some a1 ∧ w.cell? ⟨g, 2, none⟩ = some a2 :=
  ⟨(blk_cell h 0).trans rfl, (blk_cell h 1).trans rfl, (blk_cell h 2).trans rfl⟩
theorem row5 {w : World} {g : Nat} {a0 a1 a2 a3 a4 : Value} {t : TypeId} (h : w.heap[g]? = some (.cells #[a0, a1, a2, a3, a4] t (0, 0))) : w.cell? ⟨g, 0, none⟩ = some a0 ∧ w.cell? ⟨g, 1, none⟩ = some a1 ∧ w.cell? ⟨g, 2, none⟩ = some a2 ∧ w.cell? ⟨g, 3, none⟩ = some a3 ∧ w.cell? ⟨g, 4, none⟩ = some a4 :=
  ⟨(blk_cell h 0).trans rfl, (blk_cell h 1).trans rfl, (blk_cell h 2).trans rfl, (blk_cell h 3).trans rfl, (blk_cell h 4).trans rfl⟩
theorem row12 {w : World} {g : Nat} {a0 a1 a2 a3 a4 a5 a6 a7 a8 a9 a10 a11 : Value} {t : TypeId} (h : w.heap[g]? = some (.cells #[a0, a1, a2, a3, a4, a5, a6, a7, a8, a9, a10, a11] t (0, 0))) : w.cell? ⟨g, 0, none⟩ = some a0 ∧ w.cell? ⟨g, 1, none⟩ = some a1 ∧ w.cell? ⟨g, 2, none⟩ = some a2 ∧ w.cell? ⟨g, 3, none⟩ = some a3 ∧ w.cell? ⟨g, 4, none⟩ = some a4 ∧ w.cell? ⟨g, 5, none⟩ = some a5 ∧ w.cell? ⟨g, 6, none⟩ = some a6 ∧ w.cell? ⟨g, 7, none⟩ = some a7 ∧ w.cell? ⟨g, 8, none⟩ = some a8 ∧ w.cell? ⟨g, 9, none⟩ = some a9 ∧ w.cell? ⟨g, 10, none⟩ = some a10 ∧ w.cell? ⟨g, 11, none⟩ = some a11 :=
  ⟨(blk_cell h 0).trans rfl, (blk_cell h 1).trans rfl, (blk_cell h 2).trans rfl, (blk_cell h 3).trans rfl, (blk_cell h 4).trans rfl, (blk_cell h 5).trans rfl, (blk_cell h 6).trans rfl, (blk_cell h 7).trans rfl, (blk_cell h 8).trans rfl, (blk_cell h 9).trans rfl, (blk_cell h 10).trans rfl, (blk_cell h 11).trans rfl⟩
theorem froz12 {w : World} {g : Nat} {t : TypeId} {cs : Array Value} (h : w.heap[g]? = some (.cells cs t (0, 0))) : w.frozen? ⟨g, 0, none⟩ = false ∧ w.frozen? ⟨g, 1, none⟩ = false ∧ w.frozen? ⟨g, 2, none⟩ = false ∧ w.frozen? ⟨g, 3, none⟩ = false ∧ w.frozen? ⟨g, 4, none⟩ = false ∧ w.frozen? ⟨g, 5, none⟩ = false ∧ w.frozen? ⟨g, 6, none⟩ = false ∧ w.frozen? ⟨g, 7, none⟩ = false ∧ w.frozen? ⟨g, 8, none⟩ = false ∧ w.frozen? ⟨g, 9, none⟩ = false ∧ w.frozen? ⟨g, 10, none⟩ = false ∧ w.frozen? ⟨g, 11, none⟩ = false :=
  ⟨blk_frozen h 0, blk_frozen h 1, blk_frozen h 2, blk_frozen h 3, blk_frozen h 4, blk_frozen h 5, blk_frozen h 6, blk_frozen h 7, blk_frozen h 8, blk_frozen h 9, blk_frozen h 10, blk_frozen h 11⟩
theorem box2 (w : World) (o0 o1 : Obj) : Below w.heap.size w ((w.alloc o0).alloc o1) ∧ ((w.alloc o0).alloc o1).heap.size = w.heap.size + 2 ∧ ((w.alloc o0).alloc o1).heap[w.heap.size]? = some o0 ∧ ((w.alloc o0).alloc o1).heap[w.heap.size + 1]? = some o1 :=
  ⟨bal (bal (Below.refl w.heap.size w) o0) o1, by simp, (kal (blk_new w o0) o1), by have := blk_new (w.alloc o0) o1; rwa [show (w.alloc o0).heap.size = w.heap.size + 1 by simp] at this⟩
theorem box3 (w : World) (o0 o1 o2 : Obj) : Below w.heap.size w (((w.alloc o0).alloc o1).alloc o2) ∧ (((w.alloc o0).alloc o1).alloc o2).heap.size = w.heap.size + 3 ∧ (((w.alloc o0).alloc o1).alloc o2).heap[w.heap.size]? = some o0 ∧ (((w.alloc o0).alloc o1).alloc o2).heap[w.heap.size + 1]? = some o1 ∧ (((w.alloc o0).alloc o1).alloc o2).heap[w.heap.size + 2]? = some o2 :=
  ⟨bal (bal (bal (Below.refl w.heap.size w) o0) o1) o2, by simp, (kal (kal (blk_new w o0) o1) o2), (kal (by have := blk_new (w.alloc o0) o1; rwa [show (w.alloc o0).heap.size = w.heap.size + 1 by simp] at this) o2), by have := blk_new ((w.alloc o0).alloc o1) o2; rwa [show ((w.alloc o0).alloc o1).heap.size = w.heap.size + 2 by simp] at this⟩
theorem box4 (w : World) (o0 o1 o2 o3 : Obj) : Below w.heap.size w ((((w.alloc o0).alloc o1).alloc o2).alloc o3) ∧ ((((w.alloc o0).alloc o1).alloc o2).alloc o3).heap.size = w.heap.size + 4 ∧ ((((w.alloc o0).alloc o1).alloc o2).alloc o3).heap[w.heap.size]? = some o0 ∧ ((((w.alloc o0).alloc o1).alloc o2).alloc o3).heap[w.heap.size + 1]? = some o1 ∧ ((((w.alloc o0).alloc o1).alloc o2).alloc o3).heap[w.heap.size + 2]? = some o2 ∧ ((((w.alloc o0).alloc o1).alloc o2).alloc o3).heap[w.heap.size + 3]? = some o3 :=
  ⟨bal (bal (bal (bal (Below.refl w.heap.size w) o0) o1) o2) o3, by simp, (kal (kal (kal (blk_new w o0) o1) o2) o3), (kal (kal (by have := blk_new (w.alloc o0) o1; rwa [show (w.alloc o0).heap.size = w.heap.size + 1 by simp] at this) o2) o3), (kal (by have := blk_new ((w.alloc o0).alloc o1) o2; rwa [show ((w.alloc o0).alloc o1).heap.size = w.heap.size + 2 by simp] at this) o3), by have := blk_new (((w.alloc o0).alloc o1).alloc o2) o3; rwa [show (((w.alloc o0).alloc o1).alloc o2).heap.size = w.heap.size + 3 by simp] at this⟩
def Ap (a b : Value) : Prop := ∀ k, a.ownBlock = some k → b.ownBlock ≠ some k
theorem Ap.symm {a b : Value} (h : Ap a b) : Ap b a := fun k hk e => h k e hk
structure VC where
  ed : Int
  st : List Int
  ou : List S108
  tr : List S123
  co : Int
  us : Int
  wh : Int
  re : List Int
  tl : List Int
  pc : Int
  fu : Int
  ov : Bool
def VR (W : World) (B : Nat) (Q : Nat → Prop) (cs : Array Value) (c : VC) : Prop :=
  ∃ A1 n1 A2 n2 A3 n3 A7 n7 A8 n8, cs = #[.int .i64 c.ed, .slice A1 c.st.length n1, .slice A2 c.ou.length n2, .slice A3 c.tr.length n3, .int .i64 c.co, .int .i64 c.us, .int .i64 c.wh, .slice A7 c.re.length n7, .slice A8 c.tl.length n8, .int .i64 c.pc, .int .i64 c.fu, .bool c.ov] ∧
    Kd.R (Kd.int .i64) 3 W B Q (.slice A1 c.st.length n1) c.st ∧ Kd.R k108 108 W B Q (.slice A2 c.ou.length n2) c.ou ∧ Kd.R k123 123 W B Q (.slice A3 c.tr.length n3) c.tr ∧ Kd.R (Kd.int .i64) 3 W B Q (.slice A7 c.re.length n7) c.re ∧ Kd.R (Kd.int .i64) 3 W B Q (.slice A8 c.tl.length n8) c.tl ∧
    Ap (.slice A1 c.st.length n1) (.slice A7 c.re.length n7) ∧ Ap (.slice A1 c.st.length n1) (.slice A8 c.tl.length n8) ∧ Ap (.slice A7 c.re.length n7) (.slice A8 c.tl.length n8)
section
variable {W W' : World} {B : Nat} {Q Q' : Nat → Prop} {cs : Array Value} {c : VC}
theorem VR.step (h : VR W B Q cs c) (hm : ∀ k, Q k → k < W.heap.size → W'.heap[k]? = W.heap[k]?) : VR W' B Q cs c := by
  obtain ⟨A1, n1, A2, n2, A3, n3, A7, n7, A8, n8, e, h1, h2, h3, h7, h8, a⟩ := h
  exact ⟨A1, n1, A2, n2, A3, n3, A7, n7, A8, n8, e, Kd.R_step h1 hm, Kd.R_step h2 hm, Kd.R_step h3 hm, Kd.R_step h7 hm, Kd.R_step h8 hm, a⟩
theorem VR.below (h : VR W B Q cs c) (hb : Below W.heap.size W W') : VR W' B Q cs c := h.step (fun k _ hk => hb.block k hk)
theorem VR.mono (h : VR W B Q cs c) (hq : ∀ k, Q k → k < W.heap.size → Q' k) : VR W B Q' cs c := by
  obtain ⟨A1, n1, A2, n2, A3, n3, A7, n7, A8, n8, e, h1, h2, h3, h7, h8, a⟩ := h
  exact ⟨A1, n1, A2, n2, A3, n3, A7, n7, A8, n8, e, Kd.R_mono (Kd.R_bound h1) (fun k hk => hq k hk.1 hk.2.2.1), Kd.R_mono (Kd.R_bound h2) (fun k hk => hq k hk.1 hk.2.2.1), Kd.R_mono (Kd.R_bound h3) (fun k hk => hq k hk.1 hk.2.2.1), Kd.R_mono (Kd.R_bound h7) (fun k hk => hq k hk.1 hk.2.2.1), Kd.R_mono (Kd.R_bound h8) (fun k hk => hq k hk.1 hk.2.2.1), a⟩
theorem VR.bound (h : VR W B Q cs c) : VR W B (fun k => Q k ∧ k < W.heap.size) cs c := h.mono (fun _ h1 h2 => ⟨h1, h2⟩)
theorem VR.set (h : VR W B Q cs c) {p : Addr} (hp : ¬ Q p.block) (u : Value) : VR (W.setCell p u) B Q cs c := h.step (fun k hk _ => Below.heap_setCell _ _ _ _ (fun e => hp (e ▸ hk)))
theorem VR.fill (h : VR W B Q cs c) {g : Nat} (hp : ¬ Q g) (vs : List Value) : VR (W.setCells g 0 vs) B Q cs c := h.step (fun k hk _ => fill_far (fun e => hp (e ▸ hk)))
theorem int_put {α : Type} {xs ys : List Int} {A : Option Addr} {n : Nat} {v : Value} (h : Kd.R (Kd.int .i64) 3 W B Q (.slice A xs.length n) xs) (i : Nat) (hi : i < xs.length) :
    ∃ g, A = some ⟨g, 0, none⟩ ∧ W.cell? ⟨g, i, none⟩ = some (.int .i64 (xs.getD i 0)) ∧ (∀ j, W.frozen? ⟨g, j, none⟩ = false) ∧ Q g ∧ B ≤ g ∧ g < W.heap.size ∧ (∃ cur, W.heap[g]? = some (.cells cur 3 (0, 0))) ∧
      ∀ x : Int, Kd.R (Kd.int .i64) 3 (W.setCell ⟨g, i, none⟩ (.int .i64 x)) B Q (.slice A (xs.set i x).length n) (xs.set i x) := by
  obtain ⟨g, rfl⟩ : ∃ g, A = some ⟨g, 0, none⟩ := by
    obtain ⟨_, inner, ⟨_, ho⟩, _⟩ := h
    rcases ho with ⟨hv, h0⟩ | ⟨g, cap, cur, hv, _⟩
    · omega
    · injection hv with e1 e2 e3
      exact ⟨g, e1⟩
  obtain ⟨cl, hcl, hM, hcc, hfz⟩ := Kd.R_elem h (0 : Int) (i : Int) (by omega) (by omega)
  obtain ⟨cur, ht⟩ := Kd.R_typed h g rfl
  have hM' : cl = [.int .i64 (xs.getD (i : Int).toNat 0)] := hM
  subst hM'
  refine ⟨g, rfl, ?_, fun j => blk_frozen ht j, h.1 g rfl, Kd.R_base h g rfl, blk_lt ht, ⟨cur, ht⟩, fun x => ?_⟩
  · have := hcc 0 _ rfl
    rw [Int.toNat_natCast] at this
    have hz : (Kd.int .i64).sz = 1 := rfl
    rw [hz, Nat.mul_one, Nat.add_zero] at this
    exact this
  · have := Kd.R_putn h (i : Int) x
    rw [Int.toNat_natCast] at this
    rw [List.length_set]
    exact this
theorem row_far {α : Type} {d : Kd α} {e : Nat} {v : Value} {xs : List α} (h : d.R e W B Q v xs) (hE : d.E = []) {g i : Nat} (hne : v.ownBlock ≠ some g) (u : Value) : d.R e (W.setCell ⟨g, i, none⟩ u) B Q v xs :=
  Kd.R_mono (Kd.R_far (p := ⟨g, i, none⟩) (Kd.R_far1 h hE (g := g) (fun e => hne e.symm)) (fun k hk => hk.2) u) (fun k hk => hk.1)
theorem row_type {α : Type} {d : Kd α} {e t : Nat} {v : Value} {xs : List α} (h : d.R e W B Q v xs) {g : Nat} {cur : Array Value} (hg : W.heap[g]? = some (.cells cur t (0, 0))) (hne : e ≠ t) : v.ownBlock ≠ some g := fun e' => by
  obtain ⟨cells, hc⟩ := Kd.R_typed h g e'
  rw [hg] at hc
  injection hc with hc
  injection hc with _ hc
  exact hne hc.symm
theorem VR.reg (h : VR W B Q cs c) (i : Nat) (hi : i < c.re.length) : ∃ g n7, cs[7]? = some (.slice (some ⟨g, 0, none⟩) c.re.length n7) ∧ W.cell? ⟨g, i, none⟩ = some (.int .i64 (c.re.getD i 0)) ∧ (∀ j, W.frozen? ⟨g, j, none⟩ = false) ∧ Q g ∧ B ≤ g ∧ g < W.heap.size ∧
    ∀ x : Int, VR (W.setCell ⟨g, i, none⟩ (.int .i64 x)) B Q cs { c with re := c.re.set i x } := by
  obtain ⟨A1, n1, A2, n2, A3, n3, A7, n7, A8, n8, e, h1, h2, h3, h7, h8, a1, a2, a3⟩ := h
  obtain ⟨g, rfl, q1, q2, q3, q4, q5, ⟨cur, q6⟩, q7⟩ := int_put (α := Int) (ys := []) (v := undef) h7 i hi
  subst e
  refine ⟨g, n7, rfl, q1, q2, q3, q4, q5, fun x => ⟨A1, n1, A2, n2, A3, n3, some ⟨g, 0, none⟩, n7, A8, n8, ?_, row_far h1 rfl (fun e => a1 g e rfl) _, row_far h2 rfl (row_type h2 q6 (by decide)) _, row_far h3 rfl (row_type h3 q6 (by decide)) _, q7 x, row_far h8 rfl (fun e => a3 g rfl e) _, ?_, a2, ?_⟩⟩
  · simp only [List.length_set]
  · simpa only [List.length_set] using a1
  · simpa only [List.length_set] using a3
theorem VR.cell (h : VR W B Q cs c) (i : Nat) (hi : i < c.st.length) : ∃ g n1, cs[1]? = some (.slice (some ⟨g, 0, none⟩) c.st.length n1) ∧ W.cell? ⟨g, i, none⟩ = some (.int .i64 (c.st.getD i 0)) ∧ (∀ j, W.frozen? ⟨g, j, none⟩ = false) ∧ Q g ∧ B ≤ g ∧ g < W.heap.size ∧
    ∀ x : Int, VR (W.setCell ⟨g, i, none⟩ (.int .i64 x)) B Q cs { c with st := c.st.set i x } := by
  obtain ⟨A1, n1, A2, n2, A3, n3, A7, n7, A8, n8, e, h1, h2, h3, h7, h8, a1, a2, a3⟩ := h
  obtain ⟨g, rfl, q1, q2, q3, q4, q5, ⟨cur, q6⟩, q7⟩ := int_put (α := Int) (ys := []) (v := undef) h1 i hi
  subst e
  refine ⟨g, n1, rfl, q1, q2, q3, q4, q5, fun x => ⟨some ⟨g, 0, none⟩, n1, A2, n2, A3, n3, A7, n7, A8, n8, ?_, q7 x, row_far h2 rfl (row_type h2 q6 (by decide)) _, row_far h3 rfl (row_type h3 q6 (by decide)) _, row_far h7 rfl (fun e => a1 g rfl e) _, row_far h8 rfl (fun e => a2 g rfl e) _, ?_, ?_, a3⟩⟩
  · simp only [List.length_set]
  · simpa only [List.length_set] using a1
  · simpa only [List.length_set] using a2
theorem VR.ed' (h : VR W B Q cs c) (x : Int) : VR W B Q (cs.setIfInBounds 0 (.int .i64 x)) { c with ed := x } := by
  obtain ⟨A1, n1, A2, n2, A3, n3, A7, n7, A8, n8, rfl, h⟩ := h
  exact ⟨A1, n1, A2, n2, A3, n3, A7, n7, A8, n8, rfl, h⟩
theorem VR.co' (h : VR W B Q cs c) (x : Int) : VR W B Q (cs.setIfInBounds 4 (.int .i64 x)) { c with co := x } := by
  obtain ⟨A1, n1, A2, n2, A3, n3, A7, n7, A8, n8, rfl, h⟩ := h
  exact ⟨A1, n1, A2, n2, A3, n3, A7, n7, A8, n8, rfl, h⟩
theorem VR.us' (h : VR W B Q cs c) (x : Int) : VR W B Q (cs.setIfInBounds 5 (.int .i64 x)) { c with us := x } := by
  obtain ⟨A1, n1, A2, n2, A3, n3, A7, n7, A8, n8, rfl, h⟩ := h
  exact ⟨A1, n1, A2, n2, A3, n3, A7, n7, A8, n8, rfl, h⟩
theorem VR.wh' (h : VR W B Q cs c) (x : Int) : VR W B Q (cs.setIfInBounds 6 (.int .i64 x)) { c with wh := x } := by
  obtain ⟨A1, n1, A2, n2, A3, n3, A7, n7, A8, n8, rfl, h⟩ := h
  exact ⟨A1, n1, A2, n2, A3, n3, A7, n7, A8, n8, rfl, h⟩
theorem VR.pc' (h : VR W B Q cs c) (x : Int) : VR W B Q (cs.setIfInBounds 9 (.int .i64 x)) { c with pc := x } := by
  obtain ⟨A1, n1, A2, n2, A3, n3, A7, n7, A8, n8, rfl, h⟩ := h
  exact ⟨A1, n1, A2, n2, A3, n3, A7, n7, A8, n8, rfl, h⟩
theorem VR.fu' (h : VR W B Q cs c) (x : Int) : VR W B Q (cs.setIfInBounds 10 (.int .i64 x)) { c with fu := x } := by
  obtain ⟨A1, n1, A2, n2, A3, n3, A7, n7, A8, n8, rfl, h⟩ := h
  exact ⟨A1, n1, A2, n2, A3, n3, A7, n7, A8, n8, rfl, h⟩
theorem VR.ov' (h : VR W B Q cs c) (x : Bool) : VR W B Q (cs.setIfInBounds 11 (.bool x)) { c with ov := x } := by
  obtain ⟨A1, n1, A2, n2, A3, n3, A7, n7, A8, n8, rfl, h⟩ := h
  exact ⟨A1, n1, A2, n2, A3, n3, A7, n7, A8, n8, rfl, h⟩
theorem VR.grow_tr (h : VR W B Q cs c) : ∃ A3 n3, cs[3]? = some (.slice A3 c.tr.length n3) ∧ Kd.R k123 123 W B Q (.slice A3 c.tr.length n3) c.tr ∧
    ∀ (W1 : World) (v1 : Value) (ys : List S123) (Q' : Nat → Prop), (∀ k, Q k → Q' k) → Kd.R k123 123 W1 B Q' v1 ys → W.grownBy W1 (Value.slice A3 c.tr.length n3).ownBlock → VR W1 B Q' (cs.setIfInBounds 3 v1) { c with tr := ys } := by
  obtain ⟨A1, n1, A2, n2, A3, n3, A7, n7, A8, n8, rfl, h1, h2, h3, h7, h8, a⟩ := h
  refine ⟨A3, n3, rfl, h3, fun W1 v1 ys Q' hq ho hg => ?_⟩
  obtain ⟨A, n, rfl⟩ := Kd.R_slice ho
  exact ⟨A1, n1, A2, n2, A, n, A7, n7, A8, n8, rfl, Kd.R_mono (Kd.R_over' h1 (Kd.R_typed h3) (by decide) hg) hq, Kd.R_mono (Kd.R_over' h2 (Kd.R_typed h3) (by decide) hg) hq, ho, Kd.R_mono (Kd.R_over' h7 (Kd.R_typed h3) (by decide) hg) hq, Kd.R_mono (Kd.R_over' h8 (Kd.R_typed h3) (by decide) hg) hq, a⟩
theorem VR.grow_ou (h : VR W B Q cs c) : ∃ A2 n2, cs[2]? = some (.slice A2 c.ou.length n2) ∧ Kd.R k108 108 W B Q (.slice A2 c.ou.length n2) c.ou ∧
    ∀ (W1 : World) (v1 : Value) (ys : List S108) (Q' : Nat → Prop), (∀ k, Q k → Q' k) → Kd.R k108 108 W1 B Q' v1 ys → W.grownBy W1 (Value.slice A2 c.ou.length n2).ownBlock → VR W1 B Q' (cs.setIfInBounds 2 v1) { c with ou := ys } := by
  obtain ⟨A1, n1, A2, n2, A3, n3, A7, n7, A8, n8, rfl, h1, h2, h3, h7, h8, a⟩ := h
  refine ⟨A2, n2, rfl, h2, fun W1 v1 ys Q' hq ho hg => ?_⟩
  obtain ⟨A, n, rfl⟩ := Kd.R_slice ho
  exact ⟨A1, n1, A, n, A3, n3, A7, n7, A8, n8, rfl, Kd.R_mono (Kd.R_over' h1 (Kd.R_typed h2) (by decide) hg) hq, ho, Kd.R_mono (Kd.R_over' h3 (Kd.R_typed h2) (by decide) hg) hq, Kd.R_mono (Kd.R_over' h7 (Kd.R_typed h2) (by decide) hg) hq, Kd.R_mono (Kd.R_over' h8 (Kd.R_typed h2) (by decide) hg) hq, a⟩
theorem VR.grow_tl (h : VR W B Q cs c) : ∃ A8 n8, cs[8]? = some (.slice A8 c.tl.length n8) ∧ Kd.R (Kd.int .i64) 3 W B Q (.slice A8 c.tl.length n8) c.tl ∧
    ∀ (W1 : World) (v1 : Value) (ys : List Int) (Q' : Nat → Prop), (∀ k, Q k → Q' k) → Kd.R (Kd.int .i64) 3 W1 B Q' v1 ys → W.grownBy W1 (Value.slice A8 c.tl.length n8).ownBlock → (v1.ownBlock = (Value.slice A8 c.tl.length n8).ownBlock ∨ ∃ b, v1.ownBlock = some b ∧ W.heap.size ≤ b) → VR W1 B Q' (cs.setIfInBounds 8 v1) { c with tl := ys } := by
  obtain ⟨A1, n1, A2, n2, A3, n3, A7, n7, A8, n8, rfl, h1, h2, h3, h7, h8, a1, a2, a3⟩ := h
  refine ⟨A8, n8, rfl, h8, fun W1 v1 ys Q' hq ho hg hat => ?_⟩
  obtain ⟨A, n, rfl⟩ := Kd.R_slice ho
  have ap : ∀ {v : Value} {xs : List Int}, Kd.R (Kd.int .i64) 3 W B Q v xs → Ap v (.slice A8 c.tl.length n8) → Ap v (.slice A ys.length n) := fun {v xs} hv ha k hk => by
    rcases hat with h | ⟨b, h, hb⟩
    · rw [h]; exact ha k hk
    · rw [h]
      intro e
      have := Kd.R_lt hv k hk
      injection e with e
      omega
  have mv : ∀ {v : Value} {xs : List Int}, Kd.R (Kd.int .i64) 3 W B Q v xs → Ap v (.slice A8 c.tl.length n8) → Kd.R (Kd.int .i64) 3 W1 B Q' v xs := fun {v xs} hv ha => by
    refine Kd.R_mono (Kd.R_grown (Kd.R_tight2 rfl hv) hg (fun k hk e => ha k hk.1.symm e.symm)) (fun k hk => hq k hk.2)
  exact ⟨A1, n1, A2, n2, A3, n3, A7, n7, A, n, rfl, mv h1 a2, Kd.R_mono (Kd.R_over' h2 (Kd.R_typed h8) (by decide) hg) hq, Kd.R_mono (Kd.R_over' h3 (Kd.R_typed h8) (by decide) hg) hq, mv h7 a3, ho, a1, ap h1 a2, ap h7 a3⟩
theorem v_end {fn : Func} {a : Act} {p : Tmp} {w0 w W W2 : World} {g : Nat} {Q Q2 : Nat → Prop} {zs cs2 : Array Value} {c2 c' : VC} (HV : VR W2 w0.heap.size Q2 cs2 c2) (hc : c2 = c') (X : W2.heap[g]? = some (.cells zs 64 (0, 0))) (hz : cs2.size = zs.size) (hB : Below w0.heap.size w0 W2) (hK : Kept w W2 Q) (hg : w.heap.size ≤ g) (hb : w0.heap.size ≤ g)
    (hn : ¬ Q2 g) (hQ : ∀ k, Q2 k → Q k ∨ w.heap.size ≤ k) (hr : fn.results = #[.cell p 64]) (hp : a.tmps.getD p undef = .pointer (some ⟨g, 0, none⟩)) (hd : a.defers = []) (hW : W = W2.setCells g 0 cs2.toList) :
    bodyPost Try.prog fn (fun e w' => ∃ cs', e = .returned (.agg cs') ∧ VR w' w0.heap.size (fun k => Q k ∨ w.heap.size ≤ k) cs' c' ∧ Below w0.heap.size w0 w' ∧ Kept w w' Q) .ret a W := by
  subst hW
  subst hc
  have hf := fill_block (vs := cs2.toList) X (by simpa using hz)
  have hi : (Try.prog.info? 64).map (·.size) = some cs2.size := by
    obtain ⟨A1, n1, A2, n2, A3, n3, A7, n7, A8, n8, rfl, _⟩ := HV
    kernel_rfl
  refine bodyPost_ret (results_cell_row hr _ _ g 64 cs2 (0, 0) _ hp (by simpa using hf) Try.underlying64 rfl hi) hd ?_
  exact ⟨_, rfl, (HV.fill hn _).mono (fun k hk _ => hQ k hk), fill_below hB hb, fill_kept hK (.inr hg)⟩
end
end Go.Proofs.Ytnlekgadadifdaa.Print
namespace Go.Proofs.Ytnlekgadadifdaa.Print
open Go.RowKit Go.Proofs.YtnlekgadadifdaaW.PrintWords Go.Proofs.YtnlekgadadifdaaW.PrintLast Go.Proofs.YtnlekgadadifdaaW.PrintMore
attribute [local go_sem] max2_int min2_int max_two min_two max_three min_three max_four min_four
set_option linter.unusedVariables false
set_option linter.unusedSimpArgs false
open Go.RowKit
theorem infoEv : (Try.prog.info? 123).map (fun i => (i.zero, i.size, i.bytes)) = some (some (.agg #[(.int .i64 0), (.int .i64 0), (.int .i64 0)]), 3, 24) := by kernel_rfl
theorem vm_with.calls (w0 w : World) (Q : Nat → Prop) (cs : Array Value) (c : VC) (r : Nat) (a : Int) (hB : Below w0.heap.size w0 w) (hV : VR w w0.heap.size Q cs c) (hQ : ∀ k, Q k → k < w.heap.size) (hr : r < c.re.length) (hp0 : 0 ≤ c.pc) (hp1 : c.pc < 1000000000) :
    Calls Try.prog 54 #[.agg cs, .int .i64 (r : Int), .int .i64 a] w fun e w' => ∃ cs', e = .returned (.agg cs') ∧ VR w' w0.heap.size (fun k => Q k ∨ w.heap.size ≤ k) cs' { c with re := c.re.set r a, pc := c.pc + 1 } ∧ Below w0.heap.size w0 w' ∧ Kept w w' Q := by
  have HV := Aside0.mk hV
  obtain ⟨A1, n1, A2, n2, A3, n3, A7, n7, A8, n8, rfl, hh⟩ := hV
  clear hh
  have hu := Try.underlying64
  have huR := Try.underlying62
  obtain ⟨b2, _, x1, x2⟩ := box2 w (.cells #[.int .i64 c.ed, .slice A1 c.st.length n1, .slice A2 c.ou.length n2, .slice A3 c.tr.length n3, .int .i64 c.co, .int .i64 c.us, .int .i64 c.wh, .slice A7 c.re.length n7, .slice A8 c.tl.length n8, .int .i64 c.pc, .int .i64 c.fu, .bool c.ov] 64) (.cells #[.int .i64 0, .slice none 0 0, .slice none 0 0, .slice none 0 0, .int .i64 0, .int .i64 0, .int .i64 0, .slice none 0 0, .slice none 0 0, .int .i64 0, .int .i64 0, .bool false] 64)
  have HV0 := Aside0.mk (HV.out.below b2)
  have HB0 := Aside0.mk (hB.trans (b2.mono hB.size))
  have HK0 := Aside0.mk (show Kept w _ Q from Kept.of_below b2 _)
  have X1 := Aside0.mk x1
  have X2 := Aside0.mk x2
  have HQ := Aside0.mk hQ
  have hBs := hB.size
  clear x1 b2 x2 hB hQ
  go_enter Try.func54, Try.ntmps54
  go_upto_region 1 with (fail)
  generalize ((w.alloc (.cells #[.int .i64 c.ed, .slice A1 c.st.length n1, .slice A2 c.ou.length n2, .slice A3 c.tr.length n3, .int .i64 c.co, .int .i64 c.us, .int .i64 c.wh, .slice A7 c.re.length n7, .slice A8 c.tl.length n8, .int .i64 c.pc, .int .i64 c.fu, .bool c.ov] 64)).alloc (.cells #[.int .i64 0, .slice none 0 0, .slice none 0 0, .slice none 0 0, .int .i64 0, .int .i64 0, .int .i64 0, .slice none 0 0, .slice none 0 0, .int .i64 0, .int .i64 0, .bool false] 64)) = W0 at HV0 HB0 HK0 X1 X2 ⊢
  obtain ⟨g, m7, e7, q0, qf, hQg, hBg, hgl, hput⟩ := HV0.out.reg r hr
  obtain ⟨rfl, rfl⟩ : A7 = some ⟨g, 0, none⟩ ∧ n7 = m7 := by
    have := Option.some.inj e7
    injection this with h1 h2 h3
    exact ⟨h1, h3⟩
  clear e7
  have hgw := HQ.out g hQg
  obtain ⟨c0, c1, c2, c3, c4, c5, c6, c7, c8, c9, c10, c11⟩ := row12 X1.out
  have f9 := blk_frozen X1.out 9
  obtain ⟨z0, z1, z2, z3, z4, z5, z6, z7, z8, z9, z10, z11⟩ := row12 X2.out
  obtain ⟨g0, g1, g2, g3, g4, g5, g6, g7, g8, g9, g10, g11⟩ := froz12 X2.out
  have qfr := qf r
  have hw1 : IntKind.i64.wrap (c.pc + 1) = c.pc + 1 := by rw [i64_w]; unfold wrap64; omega
  have hne1 : g ≠ w.heap.size := by omega
  have hne2 : g ≠ w.heap.size + 1 := by omega
  have hlt : (r : Int) < (c.re.length : Int) := by omega
  have HP := Aside0.mk hput
  have QF := Aside0.mk qf
  clear hput qf
  go_wp2
  obtain ⟨hv, hb, hk, cur, hcs, hx⟩ : VR ((W0.setCell ⟨g, r, none⟩ (.int .i64 a)).setCell ⟨w.heap.size, 9, none⟩ (.int .i64 (c.pc + 1))) w0.heap.size Q #[.int .i64 c.ed, .slice A1 c.st.length n1, .slice A2 c.ou.length n2, .slice A3 c.tr.length n3, .int .i64 c.co, .int .i64 c.us, .int .i64 c.wh, .slice (some ⟨g, 0, none⟩) c.re.length n7, .slice A8 c.tl.length n8, .int .i64 (c.pc + 1), .int .i64 c.fu, .bool c.ov] { c with re := c.re.set r a, pc := c.pc + 1 } ∧ Below w0.heap.size w0 ((W0.setCell ⟨g, r, none⟩ (.int .i64 a)).setCell ⟨w.heap.size, 9, none⟩ (.int .i64 (c.pc + 1))) ∧ Kept w ((W0.setCell ⟨g, r, none⟩ (.int .i64 a)).setCell ⟨w.heap.size, 9, none⟩ (.int .i64 (c.pc + 1))) Q ∧ ∃ cur : Array Value, cur.size = 12 ∧ ((W0.setCell ⟨g, r, none⟩ (.int .i64 a)).setCell ⟨w.heap.size, 9, none⟩ (.int .i64 (c.pc + 1))).heap[w.heap.size + 1]? = some (.cells cur 64 (0, 0)) := ⟨((HP.out a).set (p := ⟨w.heap.size, 9, none⟩) (fun h => by have := HQ.out _ h; exact absurd this (Nat.lt_irrefl _)) _).pc' _, (HB0.out.setCell (p := ⟨g, r, none⟩) hBg _).setCell (p := ⟨w.heap.size, 9, none⟩) hBs _, (HK0.out.setCell (p := ⟨g, r, none⟩) (.inl hQg) _).setCell (p := ⟨w.heap.size, 9, none⟩) (.inr (Nat.le_refl _)) _, _, rfl, (Below.heap_setCell _ _ _ _ (by show w.heap.size + 1 ≠ w.heap.size; omega)).trans ((Below.heap_setCell _ _ _ _ (by show w.heap.size + 1 ≠ g; omega)).trans X2.out)⟩
  exact v_end (g := w.heap.size + 1) hv rfl hx hcs.symm hb hk (by omega) (by omega) (fun h => by have := HQ.out _ h; omega) (fun k hk => .inl hk) rfl rfl rfl rfl
theorem vm_goes.calls (w0 w : World) (Q : Nat → Prop) (cs : Array Value) (c : VC) (jumps : Bool) (j : Int) (hB : Below w0.heap.size w0 w) (hV : VR w w0.heap.size Q cs c) (hQ : ∀ k, Q k → k < w.heap.size) (hp0 : 0 ≤ c.pc) (hp1 : c.pc < 1000000000) :
    Calls Try.prog 58 #[.agg cs, .bool jumps, .int .i64 j] w fun e w' => ∃ cs', e = .returned (.agg cs') ∧ VR w' w0.heap.size (fun k => Q k ∨ w.heap.size ≤ k) cs' { c with pc := if jumps = true then j else c.pc + 1 } ∧ Below w0.heap.size w0 w' ∧ Kept w w' Q := by
  have HV := Aside0.mk hV
  obtain ⟨A1, n1, A2, n2, A3, n3, A7, n7, A8, n8, rfl, hh⟩ := hV
  clear hh
  have hu := Try.underlying64
  have huR := Try.underlying62
  obtain ⟨b2, _, x1, x2⟩ := box2 w (.cells #[.int .i64 c.ed, .slice A1 c.st.length n1, .slice A2 c.ou.length n2, .slice A3 c.tr.length n3, .int .i64 c.co, .int .i64 c.us, .int .i64 c.wh, .slice A7 c.re.length n7, .slice A8 c.tl.length n8, .int .i64 c.pc, .int .i64 c.fu, .bool c.ov] 64) (.cells #[.int .i64 0, .slice none 0 0, .slice none 0 0, .slice none 0 0, .int .i64 0, .int .i64 0, .int .i64 0, .slice none 0 0, .slice none 0 0, .int .i64 0, .int .i64 0, .bool false] 64)
  have HV0 := Aside0.mk (HV.out.below b2)
  have HB0 := Aside0.mk (hB.trans (b2.mono hB.size))
  have HK0 := Aside0.mk (show Kept w _ Q from Kept.of_below b2 _)
  have X1 := Aside0.mk x1
  have X2 := Aside0.mk x2
  have HQ := Aside0.mk hQ
  have hBs := hB.size
  clear x1 b2 x2 hB hQ
  go_enter Try.func58, Try.ntmps58
  go_upto_region 1 with (fail)
  generalize ((w.alloc (.cells #[.int .i64 c.ed, .slice A1 c.st.length n1, .slice A2 c.ou.length n2, .slice A3 c.tr.length n3, .int .i64 c.co, .int .i64 c.us, .int .i64 c.wh, .slice A7 c.re.length n7, .slice A8 c.tl.length n8, .int .i64 c.pc, .int .i64 c.fu, .bool c.ov] 64)).alloc (.cells #[.int .i64 0, .slice none 0 0, .slice none 0 0, .slice none 0 0, .int .i64 0, .int .i64 0, .int .i64 0, .slice none 0 0, .slice none 0 0, .int .i64 0, .int .i64 0, .bool false] 64)) = W0 at HV0 HB0 HK0 X1 X2 ⊢
  obtain ⟨c0, c1, c2, c3, c4, c5, c6, c7, c8, c9, c10, c11⟩ := row12 X1.out
  have f0 := blk_frozen X1.out 0
  have f3 := blk_frozen X1.out 3
  have f6 := blk_frozen X1.out 6
  have f9 := blk_frozen X1.out 9
  have f11 := blk_frozen X1.out 11
  obtain ⟨z0, z1, z2, z3, z4, z5, z6, z7, z8, z9, z10, z11⟩ := row12 X2.out
  obtain ⟨g0, g1, g2, g3, g4, g5, g6, g7, g8, g9, g10, g11⟩ := froz12 X2.out
  have hw1 : IntKind.i64.wrap (c.pc + 1) = c.pc + 1 := by rw [i64_w]; unfold wrap64; omega
  cases jumps with
  | false =>
    go_wp2
    obtain ⟨hv, hb, hk, cur, hcs, hx⟩ : VR ((W0).setCell ⟨w.heap.size, 9, none⟩ (.int .i64 (c.pc + 1))) w0.heap.size Q #[.int .i64 c.ed, .slice A1 c.st.length n1, .slice A2 c.ou.length n2, .slice A3 c.tr.length n3, .int .i64 c.co, .int .i64 c.us, .int .i64 c.wh, .slice A7 c.re.length n7, .slice A8 c.tl.length n8, .int .i64 (c.pc + 1), .int .i64 c.fu, .bool c.ov] { c with pc := c.pc + 1 } ∧ Below w0.heap.size w0 ((W0).setCell ⟨w.heap.size, 9, none⟩ (.int .i64 (c.pc + 1))) ∧ Kept w ((W0).setCell ⟨w.heap.size, 9, none⟩ (.int .i64 (c.pc + 1))) Q ∧ ∃ cur : Array Value, cur.size = 12 ∧ ((W0).setCell ⟨w.heap.size, 9, none⟩ (.int .i64 (c.pc + 1))).heap[w.heap.size + 1]? = some (.cells cur 64 (0, 0)) := ⟨((HV0.out.set (p := ⟨w.heap.size, _, none⟩) (fun h => by have := HQ.out _ h; exact absurd this (Nat.lt_irrefl _)) _).pc' _), (HB0.out.setCell (p := ⟨w.heap.size, _, none⟩) hBs _), (HK0.out.setCell (p := ⟨w.heap.size, _, none⟩) (.inr (Nat.le_refl _)) _), _, rfl, ((Below.heap_setCell _ _ _ _ (by show w.heap.size + 1 ≠ w.heap.size; omega)).trans (X2.out))⟩
    exact v_end (g := w.heap.size + 1) hv rfl hx hcs.symm hb hk (by omega) (by omega) (fun h => by have := HQ.out _ h; omega) (fun k hk => .inl hk) rfl rfl rfl rfl
  | true =>
    go_wp2
    obtain ⟨hv, hb, hk, cur, hcs, hx⟩ : VR ((((W0).setCell ⟨w.heap.size, 9, none⟩ (.int .i64 (c.pc + 1)))).setCell ⟨w.heap.size, 9, none⟩ (.int .i64 j)) w0.heap.size Q #[.int .i64 c.ed, .slice A1 c.st.length n1, .slice A2 c.ou.length n2, .slice A3 c.tr.length n3, .int .i64 c.co, .int .i64 c.us, .int .i64 c.wh, .slice A7 c.re.length n7, .slice A8 c.tl.length n8, .int .i64 j, .int .i64 c.fu, .bool c.ov] { c with pc := j } ∧ Below w0.heap.size w0 ((((W0).setCell ⟨w.heap.size, 9, none⟩ (.int .i64 (c.pc + 1)))).setCell ⟨w.heap.size, 9, none⟩ (.int .i64 j)) ∧ Kept w ((((W0).setCell ⟨w.heap.size, 9, none⟩ (.int .i64 (c.pc + 1)))).setCell ⟨w.heap.size, 9, none⟩ (.int .i64 j)) Q ∧ ∃ cur : Array Value, cur.size = 12 ∧ ((((W0).setCell ⟨w.heap.size, 9, none⟩ (.int .i64 (c.pc + 1)))).setCell ⟨w.heap.size, 9, none⟩ (.int .i64 j)).heap[w.heap.size + 1]? = some (.cells cur 64 (0, 0)) := ⟨((((HV0.out.set (p := ⟨w.heap.size, _, none⟩) (fun h => by have := HQ.out _ h; exact absurd this (Nat.lt_irrefl _)) _).pc' _).set (p := ⟨w.heap.size, _, none⟩) (fun h => by have := HQ.out _ h; exact absurd this (Nat.lt_irrefl _)) _).pc' _), ((HB0.out.setCell (p := ⟨w.heap.size, _, none⟩) hBs _).setCell (p := ⟨w.heap.size, _, none⟩) hBs _), ((HK0.out.setCell (p := ⟨w.heap.size, _, none⟩) (.inr (Nat.le_refl _)) _).setCell (p := ⟨w.heap.size, _, none⟩) (.inr (Nat.le_refl _)) _), _, rfl, ((Below.heap_setCell _ _ _ _ (by show w.heap.size + 1 ≠ w.heap.size; omega)).trans (((Below.heap_setCell _ _ _ _ (by show w.heap.size + 1 ≠ w.heap.size; omega)).trans (X2.out))))⟩
    exact v_end (g := w.heap.size + 1) hv rfl hx hcs.symm hb hk (by omega) (by omega) (fun h => by have := HQ.out _ h; omega) (fun k hk => .inl hk) rfl rfl rfl rfl
theorem vm_stop.calls (w0 w : World) (Q : Nat → Prop) (cs : Array Value) (c : VC) (x : Int) (hB : Below w0.heap.size w0 w) (hV : VR w w0.heap.size Q cs c) (hQ : ∀ k, Q k → k < w.heap.size) :
    Calls Try.prog 34 #[.agg cs, .int .i64 x] w fun e w' => ∃ cs', e = .returned (.agg cs') ∧ VR w' w0.heap.size (fun k => Q k ∨ w.heap.size ≤ k) cs' { c with ed := x, ov := true, wh := if x = 0 then c.wh else c.pc } ∧ Below w0.heap.size w0 w' ∧ Kept w w' Q := by
  have HV := Aside0.mk hV
  obtain ⟨A1, n1, A2, n2, A3, n3, A7, n7, A8, n8, rfl, hh⟩ := hV
  clear hh
  have hu := Try.underlying64
  have huR := Try.underlying62
  obtain ⟨b2, _, x1, x2⟩ := box2 w (.cells #[.int .i64 c.ed, .slice A1 c.st.length n1, .slice A2 c.ou.length n2, .slice A3 c.tr.length n3, .int .i64 c.co, .int .i64 c.us, .int .i64 c.wh, .slice A7 c.re.length n7, .slice A8 c.tl.length n8, .int .i64 c.pc, .int .i64 c.fu, .bool c.ov] 64) (.cells #[.int .i64 0, .slice none 0 0, .slice none 0 0, .slice none 0 0, .int .i64 0, .int .i64 0, .int .i64 0, .slice none 0 0, .slice none 0 0, .int .i64 0, .int .i64 0, .bool false] 64)
  have HV0 := Aside0.mk (HV.out.below b2)
  have HB0 := Aside0.mk (hB.trans (b2.mono hB.size))
  have HK0 := Aside0.mk (show Kept w _ Q from Kept.of_below b2 _)
  have X1 := Aside0.mk x1
  have X2 := Aside0.mk x2
  have HQ := Aside0.mk hQ
  have hBs := hB.size
  clear x1 b2 x2 hB hQ
  go_enter Try.func34, Try.ntmps34
  go_upto_region 1 with (fail)
  generalize ((w.alloc (.cells #[.int .i64 c.ed, .slice A1 c.st.length n1, .slice A2 c.ou.length n2, .slice A3 c.tr.length n3, .int .i64 c.co, .int .i64 c.us, .int .i64 c.wh, .slice A7 c.re.length n7, .slice A8 c.tl.length n8, .int .i64 c.pc, .int .i64 c.fu, .bool c.ov] 64)).alloc (.cells #[.int .i64 0, .slice none 0 0, .slice none 0 0, .slice none 0 0, .int .i64 0, .int .i64 0, .int .i64 0, .slice none 0 0, .slice none 0 0, .int .i64 0, .int .i64 0, .bool false] 64)) = W0 at HV0 HB0 HK0 X1 X2 ⊢
  obtain ⟨c0, c1, c2, c3, c4, c5, c6, c7, c8, c9, c10, c11⟩ := row12 X1.out
  have f0 := blk_frozen X1.out 0
  have f3 := blk_frozen X1.out 3
  have f6 := blk_frozen X1.out 6
  have f9 := blk_frozen X1.out 9
  have f11 := blk_frozen X1.out 11
  obtain ⟨z0, z1, z2, z3, z4, z5, z6, z7, z8, z9, z10, z11⟩ := row12 X2.out
  obtain ⟨g0, g1, g2, g3, g4, g5, g6, g7, g8, g9, g10, g11⟩ := froz12 X2.out
  by_cases hx0 : x = 0
  · subst hx0
    go_wp2
    obtain ⟨hv, hb, hk, cur, hcs, hx⟩ : VR ((((W0).setCell ⟨w.heap.size, 0, none⟩ (.int .i64 0))).setCell ⟨w.heap.size, 11, none⟩ (.bool true)) w0.heap.size Q #[.int .i64 0, .slice A1 c.st.length n1, .slice A2 c.ou.length n2, .slice A3 c.tr.length n3, .int .i64 c.co, .int .i64 c.us, .int .i64 c.wh, .slice A7 c.re.length n7, .slice A8 c.tl.length n8, .int .i64 c.pc, .int .i64 c.fu, .bool true] { c with ed := 0, ov := true, wh := c.wh } ∧ Below w0.heap.size w0 ((((W0).setCell ⟨w.heap.size, 0, none⟩ (.int .i64 0))).setCell ⟨w.heap.size, 11, none⟩ (.bool true)) ∧ Kept w ((((W0).setCell ⟨w.heap.size, 0, none⟩ (.int .i64 0))).setCell ⟨w.heap.size, 11, none⟩ (.bool true)) Q ∧ ∃ cur : Array Value, cur.size = 12 ∧ ((((W0).setCell ⟨w.heap.size, 0, none⟩ (.int .i64 0))).setCell ⟨w.heap.size, 11, none⟩ (.bool true)).heap[w.heap.size + 1]? = some (.cells cur 64 (0, 0)) := ⟨((((HV0.out.set (p := ⟨w.heap.size, _, none⟩) (fun h => by have := HQ.out _ h; exact absurd this (Nat.lt_irrefl _)) _).ed' _).set (p := ⟨w.heap.size, _, none⟩) (fun h => by have := HQ.out _ h; exact absurd this (Nat.lt_irrefl _)) _).ov' _), ((HB0.out.setCell (p := ⟨w.heap.size, _, none⟩) hBs _).setCell (p := ⟨w.heap.size, _, none⟩) hBs _), ((HK0.out.setCell (p := ⟨w.heap.size, _, none⟩) (.inr (Nat.le_refl _)) _).setCell (p := ⟨w.heap.size, _, none⟩) (.inr (Nat.le_refl _)) _), _, rfl, ((Below.heap_setCell _ _ _ _ (by show w.heap.size + 1 ≠ w.heap.size; omega)).trans (((Below.heap_setCell _ _ _ _ (by show w.heap.size + 1 ≠ w.heap.size; omega)).trans (X2.out))))⟩
    exact v_end (g := w.heap.size + 1) hv rfl hx hcs.symm hb hk (by omega) (by omega) (fun h => by have := HQ.out _ h; omega) (fun k hk => .inl hk) rfl rfl rfl rfl
  · have n0 := bne_iff_ne.mpr hx0
    go_wp2
    obtain ⟨hv, hb, hk, cur, hcs, hx⟩ : VR ((((((W0).setCell ⟨w.heap.size, 0, none⟩ (.int .i64 x))).setCell ⟨w.heap.size, 11, none⟩ (.bool true))).setCell ⟨w.heap.size, 6, none⟩ (.int .i64 c.pc)) w0.heap.size Q #[.int .i64 x, .slice A1 c.st.length n1, .slice A2 c.ou.length n2, .slice A3 c.tr.length n3, .int .i64 c.co, .int .i64 c.us, .int .i64 c.pc, .slice A7 c.re.length n7, .slice A8 c.tl.length n8, .int .i64 c.pc, .int .i64 c.fu, .bool true] { c with ed := x, ov := true, wh := c.pc } ∧ Below w0.heap.size w0 ((((((W0).setCell ⟨w.heap.size, 0, none⟩ (.int .i64 x))).setCell ⟨w.heap.size, 11, none⟩ (.bool true))).setCell ⟨w.heap.size, 6, none⟩ (.int .i64 c.pc)) ∧ Kept w ((((((W0).setCell ⟨w.heap.size, 0, none⟩ (.int .i64 x))).setCell ⟨w.heap.size, 11, none⟩ (.bool true))).setCell ⟨w.heap.size, 6, none⟩ (.int .i64 c.pc)) Q ∧ ∃ cur : Array Value, cur.size = 12 ∧ ((((((W0).setCell ⟨w.heap.size, 0, none⟩ (.int .i64 x))).setCell ⟨w.heap.size, 11, none⟩ (.bool true))).setCell ⟨w.heap.size, 6, none⟩ (.int .i64 c.pc)).heap[w.heap.size + 1]? = some (.cells cur 64 (0, 0)) := ⟨((((((HV0.out.set (p := ⟨w.heap.size, _, none⟩) (fun h => by have := HQ.out _ h; exact absurd this (Nat.lt_irrefl _)) _).ed' _).set (p := ⟨w.heap.size, _, none⟩) (fun h => by have := HQ.out _ h; exact absurd this (Nat.lt_irrefl _)) _).ov' _).set (p := ⟨w.heap.size, _, none⟩) (fun h => by have := HQ.out _ h; exact absurd this (Nat.lt_irrefl _)) _).wh' _), (((HB0.out.setCell (p := ⟨w.heap.size, _, none⟩) hBs _).setCell (p := ⟨w.heap.size, _, none⟩) hBs _).setCell (p := ⟨w.heap.size, _, none⟩) hBs _), (((HK0.out.setCell (p := ⟨w.heap.size, _, none⟩) (.inr (Nat.le_refl _)) _).setCell (p := ⟨w.heap.size, _, none⟩) (.inr (Nat.le_refl _)) _).setCell (p := ⟨w.heap.size, _, none⟩) (.inr (Nat.le_refl _)) _), _, rfl, ((Below.heap_setCell _ _ _ _ (by show w.heap.size + 1 ≠ w.heap.size; omega)).trans (((Below.heap_setCell _ _ _ _ (by show w.heap.size + 1 ≠ w.heap.size; omega)).trans (((Below.heap_setCell _ _ _ _ (by show w.heap.size + 1 ≠ w.heap.size; omega)).trans (X2.out))))))⟩
    exact v_end (g := w.heap.size + 1) hv rfl hx hcs.symm hb hk (by omega) (by omega) (fun h => by have := HQ.out _ h; omega) (fun k hk => .inl hk) rfl rfl rfl rfl
theorem vm_event.calls (w0 w : World) (Q : Nat → Prop) (cs : Array Value) (c : VC) (k0 k1 k2 : Int) (hB : Below w0.heap.size w0 w) (hV : VR w w0.heap.size Q cs c) (hQ : ∀ k, Q k → k < w.heap.size) (hl : c.tr.length < 1000000000) :
    Calls Try.prog 59 #[.agg cs, .int .i64 k0, .int .i64 k1, .int .i64 k2] w fun e w' => ∃ cs', e = .returned (.agg cs') ∧ VR w' w0.heap.size (fun k => Q k ∨ w.heap.size ≤ k) cs' { c with tr := c.tr ++ [⟨k0, k1, k2⟩] } ∧ Below w0.heap.size w0 w' ∧ Kept w w' Q := by
  have HV := Aside0.mk hV
  obtain ⟨A1, n1, A2, n2, A3, n3, A7, n7, A8, n8, rfl, hh⟩ := hV
  clear hh
  have hu := Try.underlying64
  have huR := Try.underlying62
  obtain ⟨b2, _, x1, x2⟩ := box2 w (.cells #[.int .i64 c.ed, .slice A1 c.st.length n1, .slice A2 c.ou.length n2, .slice A3 c.tr.length n3, .int .i64 c.co, .int .i64 c.us, .int .i64 c.wh, .slice A7 c.re.length n7, .slice A8 c.tl.length n8, .int .i64 c.pc, .int .i64 c.fu, .bool c.ov] 64) (.cells #[.int .i64 0, .slice none 0 0, .slice none 0 0, .slice none 0 0, .int .i64 0, .int .i64 0, .int .i64 0, .slice none 0 0, .slice none 0 0, .int .i64 0, .int .i64 0, .bool false] 64)
  have HV0 := Aside0.mk (HV.out.below b2)
  have HB0 := Aside0.mk (hB.trans (b2.mono hB.size))
  have HK0 := Aside0.mk (show Kept w _ Q from Kept.of_below b2 _)
  have X1 := Aside0.mk x1
  have X2 := Aside0.mk x2
  have HQ := Aside0.mk hQ
  have hBs := hB.size
  clear x1 b2 x2 hB hQ
  go_enter Try.func59, Try.ntmps59
  go_upto_region 1 with (fail)
  generalize ((w.alloc (.cells #[.int .i64 c.ed, .slice A1 c.st.length n1, .slice A2 c.ou.length n2, .slice A3 c.tr.length n3, .int .i64 c.co, .int .i64 c.us, .int .i64 c.wh, .slice A7 c.re.length n7, .slice A8 c.tl.length n8, .int .i64 c.pc, .int .i64 c.fu, .bool c.ov] 64)).alloc (.cells #[.int .i64 0, .slice none 0 0, .slice none 0 0, .slice none 0 0, .int .i64 0, .int .i64 0, .int .i64 0, .slice none 0 0, .slice none 0 0, .int .i64 0, .int .i64 0, .bool false] 64)) = W0 at HV0 HB0 HK0 X1 X2 ⊢
  have huE := Try.underlying60
  obtain ⟨A, n, e3, h3, hg3⟩ := HV0.out.grow_tr
  obtain ⟨rfl, rfl⟩ : A3 = A ∧ n3 = n := by
    have := Option.some.inj e3
    injection this with h1 h2 h3
    exact ⟨h1, h3⟩
  clear e3
  have H3 := Aside0.mk h3
  have HG := Aside0.mk hg3
  have HL := Aside0.mk hl
  clear h3 hg3 hl
  obtain ⟨c0, c1, c2, c3, c4, c5, c6, c7, c8, c9, c10, c11⟩ := row12 X1.out
  have f0 := blk_frozen X1.out 0
  have f3 := blk_frozen X1.out 3
  have f6 := blk_frozen X1.out 6
  have f9 := blk_frozen X1.out 9
  have f11 := blk_frozen X1.out 11
  obtain ⟨z0, z1, z2, z3, z4, z5, z6, z7, z8, z9, z10, z11⟩ := row12 X2.out
  obtain ⟨g0, g1, g2, g3, g4, g5, g6, g7, g8, g9, g10, g11⟩ := froz12 X2.out
  go_upto_region 2 with (first | ((with_reducible refine gate_builtin (b := .append) (xs := #[.tmp 11, .tmp 16]) rfl ?_); at_builtin; refine Kd.R_append k123 (w0 := w0) w0.heap.size rfl (.tmp 11) (.tmp 16) 60 123 (.agg #[(.int .i64 0), (.int .i64 0), (.int .i64 0)]) 24 rfl huE infoEv rfl (by decide) (by omega) (.slice A3 c.tr.length n3) c.tr (⟨k0, k1, k2⟩ : S123) [.int .i64 k0, .int .i64 k1, .int .i64 k2] (fun k => Q k ∨ w.heap.size + 2 ≤ k) (fun _ => False) rfl rfl ?aP (fun _ hk => hk.elim) ?aF ?aO ?aB ?aS ?aL ?_; (case aP => exact k123_mkM _ _ _ (⟨k0, k1, k2⟩ : S123)); (case aF => exact fun k hk => .inr (by have := blk_lt X2.out; omega)); (case aO => exact Kd.R_mono H3.out (fun k hk => .inl hk)); (case aB => exact HB0.out); (case aS => exact HB0.out.size); (case aL => have := HL.out; omega); intro v1 W1 ho hb hg hat; have V1 := HG.out W1 v1 _ (fun k => Q k ∨ w.heap.size + 2 ≤ k) (fun k hk => .inl hk) ho hg; obtain ⟨A', n', ev⟩ := Kd.R_slice ho; have el : (c.tr ++ [(⟨k0, k1, k2⟩ : S123)]).length = c.tr.length + 1 := (by simp); rw [el] at ev; subst ev; have HV1 := Aside0.mk V1; have HB1 := Aside0.mk hb; have HK1 := Aside0.mk (Kept.of_grown hg HK0.out (fun k e => .inl (H3.out.1 k e))); have Y1 := Aside0.mk (blk_grown X1.out hg (Kd.R_ne H3.out X1.out (by decide))); have Y2 := Aside0.mk (blk_grown X2.out hg (Kd.R_ne H3.out X2.out (by decide))); clear V1 ho hb hg hat; clear c0 c1 c2 c3 c4 c5 c6 c7 c8 c9 c10 c11 z0 z1 z2 z3 z4 z5 z6 z7 z8 z9 z10 z11 f0 f3 f6 f9 f11 g0 g1 g2 g3 g4 g5 g6 g7 g8 g9 g10 g11; have c3 : W1.cell? ⟨w.heap.size, 3, none⟩ = some (.slice A3 c.tr.length n3) := (blk_cell Y1.out 3).trans rfl; have f3 := blk_frozen Y1.out 3))
  have Z1 := Aside0.mk (blk_put Y1.out 3 (.slice A' (c.tr.length + 1) n') (cs' := #[.int .i64 c.ed, .slice A1 c.st.length n1, .slice A2 c.ou.length n2, .slice A' (c.tr.length + 1) n', .int .i64 c.co, .int .i64 c.us, .int .i64 c.wh, .slice A7 c.re.length n7, .slice A8 c.tl.length n8, .int .i64 c.pc, .int .i64 c.fu, .bool c.ov]) rfl)
  have Z2 := Aside0.mk ((Below.heap_setCell W1 ⟨w.heap.size, 3, none⟩ (.slice A' (c.tr.length + 1) n') (w.heap.size + 1) (by show w.heap.size + 1 ≠ w.heap.size; omega)).trans Y2.out)
  have ZV := Aside0.mk (HV1.out.set (p := ⟨w.heap.size, 3, none⟩) (fun h => by rcases h with h | h; exact absurd (HQ.out _ h) (Nat.lt_irrefl _); exact absurd h (by show ¬ w.heap.size + 2 ≤ w.heap.size; omega)) (.slice A' (c.tr.length + 1) n'))
  have ZB := Aside0.mk (HB1.out.setCell (p := ⟨w.heap.size, 3, none⟩) hBs (.slice A' (c.tr.length + 1) n'))
  have ZK := Aside0.mk (HK1.out.setCell (p := ⟨w.heap.size, 3, none⟩) (.inr (Nat.le_refl _)) (.slice A' (c.tr.length + 1) n'))
  clear c3 f3 Y1 Y2 HV1 HB1 HK1
  generalize W1.setCell ⟨w.heap.size, 3, none⟩ (.slice A' (c.tr.length + 1) n') = W2 at Z1 Z2 ZV ZB ZK ⊢
  obtain ⟨c0, c1, c2, c3, c4, c5, c6, c7, c8, c9, c10, c11⟩ := row12 Z1.out
  obtain ⟨z0, z1, z2, z3, z4, z5, z6, z7, z8, z9, z10, z11⟩ := row12 Z2.out
  obtain ⟨g0, g1, g2, g3, g4, g5, g6, g7, g8, g9, g10, g11⟩ := froz12 Z2.out
  go_wp2
  obtain ⟨hv, hb, hk, cur, hcs, hx⟩ : VR (W2) w0.heap.size (fun k => Q k ∨ w.heap.size + 2 ≤ k) #[.int .i64 c.ed, .slice A1 c.st.length n1, .slice A2 c.ou.length n2, .slice A' (c.tr.length + 1) n', .int .i64 c.co, .int .i64 c.us, .int .i64 c.wh, .slice A7 c.re.length n7, .slice A8 c.tl.length n8, .int .i64 c.pc, .int .i64 c.fu, .bool c.ov] { c with tr := c.tr ++ [⟨k0, k1, k2⟩] } ∧ Below w0.heap.size w0 (W2) ∧ Kept w (W2) Q ∧ ∃ cur : Array Value, cur.size = 12 ∧ (W2).heap[w.heap.size + 1]? = some (.cells cur 64 (0, 0)) := ⟨ZV.out, ZB.out, ZK.out, _, rfl, Z2.out⟩
  exact v_end (g := w.heap.size + 1) hv rfl hx hcs.symm hb hk (by omega) (by omega) (fun h => by rcases h with h | h; (have := HQ.out _ h; omega); omega) (fun k hk => by rcases hk with hk | hk; exact .inl hk; exact .inr (by omega)) rfl rfl rfl rfl
end Go.Proofs.Ytnlekgadadifdaa.Print
namespace Go.Proofs.Ytnlekgadadifdaa.Print
open Go.RowKit Go.Proofs.YtnlekgadadifdaaW.PrintWords Go.Proofs.YtnlekgadadifdaaW.PrintLast Go.Proofs.YtnlekgadadifdaaW.PrintMore
attribute [local go_sem] max2_int min2_int max_two min_two max_three min_three max_four min_four
set_option linter.unusedVariables false
set_option linter.unusedSimpArgs false
def r1_Top.f (k : Nat) (a0 : Int) : Option (Int) := (r1_Pow.f k a0).bind fun t258 => (some (wrap64 (t258 - 1)))
theorem r1_Top.calls (k : Nat) (a0 : Int) (r : Int) (w : World) (h : r1_Top.f k a0 = some r) :
  Calls Try.prog 80 #[.int .i64 a0] w fun e w' => e = .returned (.int .i64 r) ∧ Drawn0 w w' := by
 have H : ((r1_Pow.f k a0).bind fun t258 => (some (wrap64 (t258 - 1)))) = some r := h
 clear h
 obtain ⟨t258, A2, H⟩ := be H
 obtain rfl := Option.some.inj H
 go_enter Try.func80, Try.ntmps80
 go_wp2_with (first | ((with_reducible refine gate_callee (f := 66) rfl ?_); refine gL (some 4) rfl rfl Try.func66 #[.int .i64 a0] rfl ?_; (with_reducible refine (r1_Pow.calls k a0 t258 _ A2.out).mono ?_); rintro e w' ⟨rfl, ⟨nd, rfl⟩⟩; refine ⟨_, rfl, ?_⟩))
 go_ret
 exact ⟨rs, dr⟩
def r1_Not.f (k : Nat) (a0 : Int) (a1 : Int) : Option (Int) := (r1_Top.f k a0).bind fun t259 => (some (wrap64 (t259 - a1)))
theorem r1_Not.calls (k : Nat) (a0 : Int) (a1 : Int) (r : Int) (w : World) (h : r1_Not.f k a0 a1 = some r) :
  Calls Try.prog 67 #[.int .i64 a0, .int .i64 a1] w fun e w' => e = .returned (.int .i64 r) ∧ Drawn0 w w' := by
 have H : ((r1_Top.f k a0).bind fun t259 => (some (wrap64 (t259 - a1)))) = some r := h
 clear h
 obtain ⟨t259, A3, H⟩ := be H
 obtain rfl := Option.some.inj H
 go_enter Try.func67, Try.ntmps67
 go_wp2_with (first | ((with_reducible refine gate_callee (f := 80) rfl ?_); refine gL (some 6) rfl rfl Try.func80 #[.int .i64 a0] rfl ?_; (with_reducible refine (r1_Top.calls k a0 t259 _ A3.out).mono ?_); rintro e w' ⟨rfl, ⟨nd, rfl⟩⟩; refine ⟨_, rfl, ?_⟩))
 go_ret
 exact ⟨rs, dr⟩
def r1_Bit.f (k : Nat) (a0 : Int) (a1 : Int) : Option (Int) := (r1_Pow.f k a1).bind fun t260 => (if t260 = 0 then (none) else (some (Int.tmod (wrap64 (Int.tdiv a0 t260)) 2)))
theorem r1_Bit.calls (k : Nat) (a0 : Int) (a1 : Int) (r : Int) (w : World) (h : r1_Bit.f k a0 a1 = some r) :
  Calls Try.prog 88 #[.int .i64 a0, .int .i64 a1] w fun e w' => e = .returned (.int .i64 r) ∧ Drawn0 w w' := by
 have H : ((r1_Pow.f k a1).bind fun t260 => (if t260 = 0 then (none) else (some (Int.tmod (wrap64 (Int.tdiv a0 t260)) 2)))) = some r := h
 clear h
 obtain ⟨t260, A3, H⟩ := be H
 by_cases c4 : t260 = 0
 ·rw [if_pos c4] at H
  exact absurd H (by simp)
 rw [if_neg c4] at H
 have c4b0 : (t260 == 0) = false := beq_eq_false_iff_ne.mpr c4
 have c4b1 : (t260 != 0) = true := bne_iff_ne.mpr c4
 obtain rfl := Option.some.inj H
 go_enter Try.func88, Try.ntmps88
 go_wp2_with (first | ((with_reducible refine gate_callee (f := 66) rfl ?_); refine gL (some 7) rfl rfl Try.func66 #[.int .i64 a1] rfl ?_; (with_reducible refine (r1_Pow.calls k a1 t260 _ A3.out).mono ?_); rintro e w' ⟨rfl, ⟨nd, rfl⟩⟩; refine ⟨_, rfl, ?_⟩))
 go_ret
 exact ⟨rs, dr⟩
def r1_gate.f (a0 : Int) (a1 : Int) (a2 : Int) : Option (Int) := if a0 = 7 then (some (wrap64 (a1 * a2))) else (if a0 = 8 then (some (wrap64 ((wrap64 (a1 + a2)) - (wrap64 (a1 * a2))))) else (some (Int.tmod (wrap64 (a1 + a2)) 2)))
theorem r1_gate.calls (a0 : Int) (a1 : Int) (a2 : Int) (r : Int) (w : World) (h : r1_gate.f a0 a1 a2 = some r) :
  Calls Try.prog 87 #[.int .i64 a0, .int .i64 a1, .int .i64 a2] w fun e w' => e = .returned (.int .i64 r) ∧ Drawn0 w w' := by
 have H : (if a0 = 7 then (some (wrap64 (a1 * a2))) else (if a0 = 8 then (some (wrap64 ((wrap64 (a1 + a2)) - (wrap64 (a1 * a2))))) else (some (Int.tmod (wrap64 (a1 + a2)) 2)))) = some r := h
 clear h
 by_cases c4 : a0 = 7
 ·rw [if_pos c4] at H
  have c4b0 : (a0 == 7) = true := beq_iff_eq.mpr c4
  have c4b1 : (a0 != 7) = false := bne_eq_false_iff_eq.mpr c4
  clear c4
  obtain rfl := Option.some.inj H
  go_enter Try.func87, Try.ntmps87
  go_wp2
  go_ret
  exact ⟨rs, dr⟩
 rw [if_neg c4] at H
 have c4b0 : (a0 == 7) = false := beq_eq_false_iff_ne.mpr c4
 have c4b1 : (a0 != 7) = true := bne_iff_ne.mpr c4
 by_cases c5 : a0 = 8
 rotate_left
 ·rw [if_neg c5] at H
  have c5b0 : (a0 == 8) = false := beq_eq_false_iff_ne.mpr c5
  have c5b1 : (a0 != 8) = true := bne_iff_ne.mpr c5
  obtain rfl := Option.some.inj H
  go_enter Try.func87, Try.ntmps87
  go_wp2
  go_ret
  exact ⟨rs, dr⟩
 rw [if_pos c5] at H
 have c5b0 : (a0 == 8) = true := beq_iff_eq.mpr c5
 have c5b1 : (a0 != 8) = false := bne_eq_false_iff_eq.mpr c5
 clear c5
 obtain rfl := Option.some.inj H
 go_enter Try.func87, Try.ntmps87
 go_wp2
 go_ret
 exact ⟨rs, dr⟩
def r1_Of.l0 : Nat → List Int → Int → Int → Option (Int)
 | 0, _, _, _ => none
 | k + 1, x0, x3, x4 => if x4 < (x0.length : Int) then (if 0 ≤ x4 then ((r1_Pow.f k x4).bind fun t262 => (r1_Of.l0 k x0 (wrap64 (x3 + (wrap64 ((rd x0 x4) * t262)))) (wrap64 (x4 + 1)))) else (none)) else (some x3)
def r1_Of.f (k : Nat) (l0 : List Int) : Option (Int) := r1_Of.l0 k l0 0 0
theorem r1_Of.calls (k : Nat) (A0 : Option Addr) (c0 : Nat) (l0 : List Int) (r : Int) (w : World) (hr0 : Kd.C (Kd.int .i64) w A0 l0.length l0) (hc0 : l0.length ≤ c0) (h : r1_Of.f k l0 = some r) :
  Calls Try.prog 89 #[.slice A0 l0.length c0] w fun e w' => e = .returned (.int .i64 r) ∧ Drawn0 w w' := by
 have HR0 := Aside0.mk hr0
 have HC0 := Aside0.mk hc0
 clear hr0 hc0
 have H : (r1_Of.l0 k l0 0 0) = some r := h
 clear h
 have H' := Aside0.mk H
 clear H
 go_enter Try.func89, Try.ntmps89
 go_wp2
 repeat (go_quiet (fail); try go_wp2)
 go_loopg [3, 4] k (fun kq v3 v4 w' => ∃ (x3_1 : Int) (x4_1 : Int), v3 = .int .i64 x3_1 ∧ v4 = .int .i64 x4_1 ∧ Aside0 (r1_Of.l0 kq l0 x3_1 x4_1 = some r) ∧ Aside0 (kq ≤ k) ∧ Drawn0 w w')
 case atStart => exact ⟨(0), (0), rs, rs, H', ⟨Nat.le_refl _⟩, dr⟩
 case round =>
  clear H'
  obtain ⟨x3_1, x4_1, rfl, rfl, HA, HK1, ⟨m1, rfl⟩⟩ := hrel
  cases gk with
  | zero => exact absurd HA.out (by simp [r1_Of.l0])
  | succ k1 =>
   have H := HA.out
   clear HA
   simp only [r1_Of.l0] at H
   by_cases c2 : x4_1 < (l0.length : Int)
   rotate_left
   ·rw [if_neg c2] at H
    have c2b0 : decide (x4_1 < (l0.length : Int)) = false := decide_eq_false c2
    clear c2
    obtain rfl := Option.some.inj H
    go_wp2
    repeat (go_quiet (fail); try go_wp2)
    go_ret
    exact ⟨rs, dr⟩
   rw [if_pos c2] at H
   have c2b0 : decide (x4_1 < (l0.length : Int)) = true := decide_eq_true c2
   clear c2
   by_cases c3 : 0 ≤ x4_1
   rotate_left
   ·rw [if_neg c3] at H
    exact absurd H (by simp)
   rw [if_pos c3] at H
   have c3b0 : decide (0 ≤ x4_1) = true := decide_eq_true c3
   clear c3
   obtain ⟨t262, A4, H⟩ := be H
   have H' := Aside0.mk H
   clear H
   have p261 : 0 ≤ (x4_1 : Int) := od
   have q261 : x4_1 < (l0.length : Int) := od
   obtain ⟨ad261, e261, hx261_0⟩ := Kd.at_int HR0.out x4_1 p261 q261
   cases e261
   replace p261 := eq_true p261
   replace q261 := eq_true q261
   go_wp2_with (first | (go_at_call 66; (with_reducible refine (r1_Pow.calls k1 x4_1 t262 _ A4.out).mono ?_); rintro e w' ⟨rfl, ⟨nd, rfl⟩⟩; (try first | exact ⟨rfl, _, World.drewN_drewN _ _ _⟩ | exact ⟨rfl, _, Eq.trans (World.drewN_drewN _ _ _) (congrArg (World.drewN _) (Nat.add_assoc _ _ _))⟩)))
   repeat (go_quiet (first | (go_at_call 66; (with_reducible refine (r1_Pow.calls k1 x4_1 t262 _ A4.out).mono ?_); rintro e w' ⟨rfl, ⟨nd, rfl⟩⟩; (try first | exact ⟨rfl, _, World.drewN_drewN _ _ _⟩ | exact ⟨rfl, _, Eq.trans (World.drewN_drewN _ _ _) (congrArg (World.drewN _) (Nat.add_assoc _ _ _))⟩))); try go_wp2_with (first | (go_at_call 66; (with_reducible refine (r1_Pow.calls k1 x4_1 t262 _ A4.out).mono ?_); rintro e w' ⟨rfl, ⟨nd, rfl⟩⟩; (try first | exact ⟨rfl, _, World.drewN_drewN _ _ _⟩ | exact ⟨rfl, _, Eq.trans (World.drewN_drewN _ _ _) (congrArg (World.drewN _) (Nat.add_assoc _ _ _))⟩))))
   go_roundg k1
   case measure => have := HK1.out; omega
   case rel => exact ⟨(wrap64 (x3_1 + (wrap64 ((rd l0 x4_1) * t262)))), (wrap64 (x4_1 + 1)), rs, rs, H', ⟨by have := HK1.out; omega⟩, dr⟩
def r1_each.l0 : Nat → Int → Int → Int → Int → List Int → Int → Option (Int)
 | 0, _, _, _, _, _, _ => none
 | k + 1, x0, x1, x2, x3, x9, x10 => if x10 < x1 then ((r1_Bit.f k x2 x10).bind fun t263 => ((r1_Bit.f k x3 x10).bind fun t264 => ((r1_gate.f x0 t263 t264).bind fun t265 => (if x9.length < 17592186044416 then (r1_each.l0 k x0 x1 x2 x3 (x9 ++ [t265]) (wrap64 (x10 + 1))) else (none))))) else ((r1_Of.f k x9).bind fun t269 => (some t269))
def r1_each.f (k : Nat) (a0 : Int) (a1 : Int) (a2 : Int) (a3 : Int) : Option (Int) := r1_each.l0 k a0 a1 a2 a3 ([] : List Int) 0
theorem r1_each.calls (k : Nat) (a0 : Int) (a1 : Int) (a2 : Int) (a3 : Int) (r : Int) (w : World) (h : r1_each.f k a0 a1 a2 a3 = some r) :
  Calls Try.prog 81 #[.int .i64 a0, .int .i64 a1, .int .i64 a2, .int .i64 a3] w fun e w' => e = .returned (.int .i64 r) ∧ Below w.heap.size w w' := by
 have HB := Aside0.mk (Below.refl w.heap.size w)
 have H : (r1_each.l0 k a0 a1 a2 a3 ([] : List Int) 0) = some r := h
 clear h
 have H' := Aside0.mk H
 clear H
 go_enter Try.func81, Try.ntmps81
 go_wp2
 go_loopg [9, 10] k (fun kq v9 v10 w' => ∃ (x9_1 : List Int) (x10_1 : Int), v10 = .int .i64 x10_1 ∧ Aside0 (r1_each.l0 kq a0 a1 a2 a3 x9_1 x10_1 = some r) ∧ Aside0 (kq ≤ k) ∧ Aside0 (Kd.R (Kd.int .i64) 3 w' w.heap.size (fun _ => True) v9 x9_1) ∧ Aside0 (Below w.heap.size w w'))
 case atStart => exact ⟨(([] : List Int)), (0), rs, H', ⟨Nat.le_refl _⟩, ⟨by first | exact Kd.R_nil _ _ _ _ _ | exact Kd.N_nil _ _ _ _ _ | exact Kd.V_nil _ _ _ _ _ | exact Kd.Q_nil _ _ _ _ _ | exact Kd.S_nil _ _ _ _ _⟩, ⟨bb HB⟩⟩
 case round =>
  clear H'
  try clear p2
  obtain ⟨x9_1, x10_1, rfl, HA, HK1, HO_9, HB⟩ := hrel
  cases gk with
  | zero => exact absurd HA.out (by simp [r1_each.l0])
  | succ k1 =>
   have H := HA.out
   clear HA
   simp only [r1_each.l0] at H
   by_cases c5 : x10_1 < a1
   rotate_left
   ·rw [if_neg c5] at H
    have c5b0 : decide (x10_1 < a1) = false := decide_eq_false c5
    clear c5
    obtain ⟨t269, A11, H⟩ := be H
    obtain rfl := Option.some.inj H
    obtain ⟨Ao12, co12, eo12⟩ := Kd.R_slice HO_9.out
    subst eo12
    go_wp2_with (first | ((with_reducible refine gate_callee (f := 89) rfl ?_); refine gL (some 28) rfl rfl Try.func89 #[.slice Ao12 x9_1.length co12] rfl ?_; (with_reducible refine (r1_Of.calls k1 _ _ x9_1 t269 _ ?side1 ?side2 A11.out).mono ?_); (case side1 => repeat (first | exact (Kd.R_reads' HO_9.out).2.2 | with_reducible first | apply Kd.C_alloc | apply Kd.C_drewN | apply Kd.C_drew)); (case side2 => exact (Kd.R_reads' HO_9.out).2.1); rintro e w' ⟨rfl, ⟨nd, rfl⟩⟩; refine ⟨_, rfl, ?_⟩))
    go_ret
    exact ⟨rr, bb HB⟩
   rw [if_pos c5] at H
   have c5b0 : decide (x10_1 < a1) = true := decide_eq_true c5
   clear c5
   obtain ⟨t263, A6, H⟩ := be H
   obtain ⟨t264, A7, H⟩ := be H
   obtain ⟨t265, A8, H⟩ := be H
   by_cases c9 : x9_1.length < 17592186044416
   rotate_left
   ·rw [if_neg c9] at H
    exact absurd H (by simp)
   rw [if_pos c9] at H
   have LMc9 := Aside0.mk c9
   clear c9
   obtain ⟨y266, hy266⟩ : ∃ y_ : List Int, y_ = (x9_1 ++ [t265]) := ⟨_, rfl⟩
   replace H : (r1_each.l0 k1 a0 a1 a2 a3 y266 (wrap64 (x10_1 + 1))) = some r := by first | (rw [hy266]; with_reducible exact H) | (have H2_ := (Option.bind_some _ _).symm.trans H; rw [hy266]; with_reducible exact H2_) | (have H2_ := (Option.bind_some _ _).symm.trans H; with_reducible exact H2_) | with_reducible exact H | (rw [hy266]; exact H) | exact H
   have Ny266 := Aside0.mk hy266
   clear hy266
   have H' := Aside0.mk H
   clear H
   go_wp2_with (first | ((with_reducible refine gate_callee (f := 88) rfl ?_); refine gL (some 20) rfl rfl Try.func88 #[.int .i64 a2, .int .i64 x10_1] rfl ?_; (with_reducible refine (r1_Bit.calls k1 a2 x10_1 t263 _ A6.out).mono ?_); rintro e w' ⟨rfl, ⟨nd, rfl⟩⟩; refine ⟨_, rfl, ?_⟩) | ((with_reducible refine gate_callee (f := 88) rfl ?_); refine gL (some 23) rfl rfl Try.func88 #[.int .i64 a3, .int .i64 x10_1] rfl ?_; (with_reducible refine (r1_Bit.calls k1 a3 x10_1 t264 _ A7.out).mono ?_); rintro e w' ⟨rfl, ⟨nd, rfl⟩⟩; refine ⟨_, rfl, ?_⟩) | ((with_reducible refine gate_callee (f := 87) rfl ?_); refine gL (some 24) rfl rfl Try.func87 #[.int .i64 a0, .int .i64 t263, .int .i64 t264] rfl ?_; (with_reducible refine (r1_gate.calls a0 t263 t264 t265 _ A8.out).mono ?_); rintro e w' ⟨rfl, ⟨nd, rfl⟩⟩; refine ⟨_, rfl, ?_⟩) | ((with_reducible refine gate_builtin (b := .append) (xs := #[.tmp 16, .tmp 25]) rfl ?_); at_builtin; refine Kd.R_append (Kd.int .i64) (w0 := w) w.heap.size rfl (.tmp 16) (.tmp 25) 35 3 (.int .i64 0) 8 rfl Try.underlying35 info3 rfl (by decide) (by omega) u9 x9_1 t265 [.int .i64 t265] (fun _ => True) (fun _ => False) rfl rfl ?aP (fun _ hk => hk.elim) ?aF ?aO ?aB ?aS ?aL ?_; (case aP => exact rfl); (case aB => exact (bb HB)); (case aF => exact (fun _ _ => trivial)); (case aO => exact (iR HO_9)); (case aS => exact (bsz (bb HB))); (case aL => have := LMc9.out; omega); intro v267 w10 ho hb hg hat; rw [← Ny266.out] at ho; have HO268 := Aside0.mk (ho); replace HB := Aside0.mk (hb); clear HO_9; clear ho hb hg hat))
   go_roundg k1
   case measure => have := HK1.out; omega
   case rel => exact ⟨(y266), (wrap64 (x10_1 + 1)), rs, H', ⟨by have := HK1.out; omega⟩, ⟨iR HO268⟩, ⟨bb HB⟩⟩
def r1_Do.j0 : Nat → Int → Int → Int → Int → Int → Bool → Option (Int)
 | 0, _, _, _, _, _, _ => none
 | k + 1, x0, x1, x2, x3, x9, x54 => if x54 = true then ((r1_each.f k x0 x1 x2 x3).bind fun t275 => (some t275)) else (if x9 = 10 then (if x3 ≥ x1 then (some 0) else ((r1_Pow.f k x3).bind fun t276 => ((r1_Pow.f k x1).bind fun t277 => (if t277 = 0 then (none) else (some (Int.tmod (wrap64 (x2 * t276)) t277)))))) else (if x9 = 11 then (if x3 ≥ x1 then (some 0) else ((r1_Pow.f k x3).bind fun t278 => (if t278 = 0 then (none) else (some (wrap64 (Int.tdiv x2 t278)))))) else (if x9 = 13 then ((r1_One.f (x2 == x3)).bind fun t279 => (some t279)) else ((r1_One.f (decide (x2 < x3))).bind fun t280 => (some t280)))))
def r1_Do.f (k : Nat) (a0 : Int) (a1 : Int) (a2 : Int) (a3 : Int) : Option (Int) := if a0 = 2 then ((r1_Pow.f k a1).bind fun t270 => (if t270 = 0 then (none) else (some (Int.tmod (wrap64 (a2 + a3)) t270)))) else (if a0 = 3 then ((r1_Pow.f k a1).bind fun t271 => ((r1_Pow.f k a1).bind fun t272 => (if t272 = 0 then (none) else (some (Int.tmod (wrap64 ((wrap64 (a2 + t271)) - a3)) t272))))) else (if a0 = 4 then ((r1_Pow.f k a1).bind fun t273 => (if t273 = 0 then (none) else (some (Int.tmod (wrap64 (a2 * a3)) t273)))) else (if a0 = 5 then (if a3 = 0 then ((r1_Top.f k a1).bind fun t274 => (some t274)) else (some (wrap64 (Int.tdiv a2 a3)))) else (if a0 = 6 then (if a3 = 0 then (some a2) else (some (Int.tmod a2 a3))) else (if a0 = 7 then (r1_Do.j0 k a0 a1 a2 a3 a0 (a0 == 7)) else (if a0 = 8 then (r1_Do.j0 k a0 a1 a2 a3 a0 (a0 == 8)) else (r1_Do.j0 k a0 a1 a2 a3 a0 (a0 == 9))))))))
theorem r1_Do.calls (k : Nat) (a0 : Int) (a1 : Int) (a2 : Int) (a3 : Int) (r : Int) (w : World) (h : r1_Do.f k a0 a1 a2 a3 = some r) :
  Calls Try.prog 68 #[.int .i64 a0, .int .i64 a1, .int .i64 a2, .int .i64 a3] w fun e w' => e = .returned (.int .i64 r) ∧ Below w.heap.size w w' := by
 have HB := Aside0.mk (Below.refl w.heap.size w)
 have H : (if a0 = 2 then ((r1_Pow.f k a1).bind fun t270 => (if t270 = 0 then (none) else (some (Int.tmod (wrap64 (a2 + a3)) t270)))) else (if a0 = 3 then ((r1_Pow.f k a1).bind fun t271 => ((r1_Pow.f k a1).bind fun t272 => (if t272 = 0 then (none) else (some (Int.tmod (wrap64 ((wrap64 (a2 + t271)) - a3)) t272))))) else (if a0 = 4 then ((r1_Pow.f k a1).bind fun t273 => (if t273 = 0 then (none) else (some (Int.tmod (wrap64 (a2 * a3)) t273)))) else (if a0 = 5 then (if a3 = 0 then ((r1_Top.f k a1).bind fun t274 => (some t274)) else (some (wrap64 (Int.tdiv a2 a3)))) else (if a0 = 6 then (if a3 = 0 then (some a2) else (some (Int.tmod a2 a3))) else (if a0 = 7 then (r1_Do.j0 k a0 a1 a2 a3 a0 (a0 == 7)) else (if a0 = 8 then (r1_Do.j0 k a0 a1 a2 a3 a0 (a0 == 8)) else (r1_Do.j0 k a0 a1 a2 a3 a0 (a0 == 9))))))))) = some r := h
 clear h
 by_cases c5 : a0 = 2
 ·rw [if_pos c5] at H
  have c5b0 : (a0 == 2) = true := beq_iff_eq.mpr c5
  have c5b1 : (a0 != 2) = false := bne_eq_false_iff_eq.mpr c5
  clear c5
  obtain ⟨t270, A6, H⟩ := be H
  by_cases c7 : t270 = 0
  ·rw [if_pos c7] at H
   exact absurd H (by simp)
  rw [if_neg c7] at H
  have c7b0 : (t270 == 0) = false := beq_eq_false_iff_ne.mpr c7
  have c7b1 : (t270 != 0) = true := bne_iff_ne.mpr c7
  obtain rfl := Option.some.inj H
  go_enter Try.func68, Try.ntmps68
  go_wp2_with (first | ((with_reducible refine gate_callee (f := 66) rfl ?_); refine gL (some 16) rfl rfl Try.func66 #[.int .i64 a1] rfl ?_; (with_reducible refine (r1_Pow.calls k a1 t270 _ A6.out).mono ?_); rintro e w' ⟨rfl, ⟨nd, rfl⟩⟩; refine ⟨_, rfl, ?_⟩))
  go_ret
  exact ⟨rr, bb HB⟩
 rw [if_neg c5] at H
 have c5b0 : (a0 == 2) = false := beq_eq_false_iff_ne.mpr c5
 have c5b1 : (a0 != 2) = true := bne_iff_ne.mpr c5
 by_cases c8 : a0 = 3
 ·rw [if_pos c8] at H
  have c8b0 : (a0 == 3) = true := beq_iff_eq.mpr c8
  have c8b1 : (a0 != 3) = false := bne_eq_false_iff_eq.mpr c8
  clear c8
  obtain ⟨t271, A9, H⟩ := be H
  obtain ⟨t272, A10, H⟩ := be H
  by_cases c11 : t272 = 0
  ·rw [if_pos c11] at H
   exact absurd H (by simp)
  rw [if_neg c11] at H
  have c11b0 : (t272 == 0) = false := beq_eq_false_iff_ne.mpr c11
  have c11b1 : (t272 != 0) = true := bne_iff_ne.mpr c11
  obtain rfl := Option.some.inj H
  go_enter Try.func68, Try.ntmps68
  go_wp2_with (first | ((with_reducible refine gate_callee (f := 66) rfl ?_); refine gL (some 22) rfl rfl Try.func66 #[.int .i64 a1] rfl ?_; (with_reducible refine (r1_Pow.calls k a1 t271 _ A9.out).mono ?_); rintro e w' ⟨rfl, ⟨nd, rfl⟩⟩; refine ⟨_, rfl, ?_⟩) | ((with_reducible refine gate_callee (f := 66) rfl ?_); refine gL (some 27) rfl rfl Try.func66 #[.int .i64 a1] rfl ?_; (with_reducible refine (r1_Pow.calls k a1 t272 _ A10.out).mono ?_); rintro e w' ⟨rfl, ⟨nd, rfl⟩⟩; refine ⟨_, rfl, ?_⟩))
  go_ret
  exact ⟨rr, bb HB⟩
 rw [if_neg c8] at H
 have c8b0 : (a0 == 3) = false := beq_eq_false_iff_ne.mpr c8
 have c8b1 : (a0 != 3) = true := bne_iff_ne.mpr c8
 by_cases c12 : a0 = 4
 ·rw [if_pos c12] at H
  have c12b0 : (a0 == 4) = true := beq_iff_eq.mpr c12
  have c12b1 : (a0 != 4) = false := bne_eq_false_iff_eq.mpr c12
  clear c12
  obtain ⟨t273, A13, H⟩ := be H
  by_cases c14 : t273 = 0
  ·rw [if_pos c14] at H
   exact absurd H (by simp)
  rw [if_neg c14] at H
  have c14b0 : (t273 == 0) = false := beq_eq_false_iff_ne.mpr c14
  have c14b1 : (t273 != 0) = true := bne_iff_ne.mpr c14
  obtain rfl := Option.some.inj H
  go_enter Try.func68, Try.ntmps68
  go_wp2_with (first | ((with_reducible refine gate_callee (f := 66) rfl ?_); refine gL (some 35) rfl rfl Try.func66 #[.int .i64 a1] rfl ?_; (with_reducible refine (r1_Pow.calls k a1 t273 _ A13.out).mono ?_); rintro e w' ⟨rfl, ⟨nd, rfl⟩⟩; refine ⟨_, rfl, ?_⟩))
  go_ret
  exact ⟨rr, bb HB⟩
 rw [if_neg c12] at H
 have c12b0 : (a0 == 4) = false := beq_eq_false_iff_ne.mpr c12
 have c12b1 : (a0 != 4) = true := bne_iff_ne.mpr c12
 by_cases c15 : a0 = 5
 ·rw [if_pos c15] at H
  have c15b0 : (a0 == 5) = true := beq_iff_eq.mpr c15
  have c15b1 : (a0 != 5) = false := bne_eq_false_iff_eq.mpr c15
  clear c15
  by_cases c16 : a3 = 0
  rotate_left
  ·rw [if_neg c16] at H
   have c16b0 : (a3 == 0) = false := beq_eq_false_iff_ne.mpr c16
   have c16b1 : (a3 != 0) = true := bne_iff_ne.mpr c16
   obtain rfl := Option.some.inj H
   go_enter Try.func68, Try.ntmps68
   go_wp2
   go_ret
   exact ⟨rr, bb HB⟩
  rw [if_pos c16] at H
  have c16b0 : (a3 == 0) = true := beq_iff_eq.mpr c16
  have c16b1 : (a3 != 0) = false := bne_eq_false_iff_eq.mpr c16
  clear c16
  obtain ⟨t274, A17, H⟩ := be H
  obtain rfl := Option.some.inj H
  go_enter Try.func68, Try.ntmps68
  go_wp2_with (first | ((with_reducible refine gate_callee (f := 80) rfl ?_); refine gL (some 42) rfl rfl Try.func80 #[.int .i64 a1] rfl ?_; (with_reducible refine (r1_Top.calls k a1 t274 _ A17.out).mono ?_); rintro e w' ⟨rfl, ⟨nd, rfl⟩⟩; refine ⟨_, rfl, ?_⟩))
  go_ret
  exact ⟨rr, bb HB⟩
 rw [if_neg c15] at H
 have c15b0 : (a0 == 5) = false := beq_eq_false_iff_ne.mpr c15
 have c15b1 : (a0 != 5) = true := bne_iff_ne.mpr c15
 by_cases c18 : a0 = 6
 ·rw [if_pos c18] at H
  have c18b0 : (a0 == 6) = true := beq_iff_eq.mpr c18
  have c18b1 : (a0 != 6) = false := bne_eq_false_iff_eq.mpr c18
  clear c18
  by_cases c19 : a3 = 0
  rotate_left
  ·rw [if_neg c19] at H
   have c19b0 : (a3 == 0) = false := beq_eq_false_iff_ne.mpr c19
   have c19b1 : (a3 != 0) = true := bne_iff_ne.mpr c19
   obtain rfl := Option.some.inj H
   go_enter Try.func68, Try.ntmps68
   go_wp2
   go_ret
   exact ⟨rr, bb HB⟩
  rw [if_pos c19] at H
  have c19b0 : (a3 == 0) = true := beq_iff_eq.mpr c19
  have c19b1 : (a3 != 0) = false := bne_eq_false_iff_eq.mpr c19
  clear c19
  obtain rfl := Option.some.inj H
  go_enter Try.func68, Try.ntmps68
  go_wp2
  go_ret
  exact ⟨rr, bb HB⟩
 rw [if_neg c18] at H
 have c18b0 : (a0 == 6) = false := beq_eq_false_iff_ne.mpr c18
 have c18b1 : (a0 != 6) = true := bne_iff_ne.mpr c18
 have HC20 := Aside0.mk H
 clear H
 go_enter Try.func68, Try.ntmps68
 go_upto_if 54 with (fail)
 go_cut [54] (fun v54 wc => ∃ (kq : Nat) (x54_19 : Bool), v54 = .bool x54_19 ∧ Aside0 (r1_Do.j0 kq a0 a1 a2 a3 a0 x54_19 = some r) ∧ Aside0 (kq ≤ k) ∧ Aside0 (Below w.heap.size w wc))
 case first =>
  have H := HC20.out
  clear HC20
  by_cases c21 : a0 = 7
  ·rw [if_pos c21] at H
   have c21b0 : (a0 == 7) = true := beq_iff_eq.mpr c21
   have c21b1 : (a0 != 7) = false := bne_eq_false_iff_eq.mpr c21
   clear c21
   (first | rw [c21b0] | (simp only [i64_w, i32_w]; rw [c21b0]) | skip)
   have H' := Aside0.mk H
   clear H
   go_wp2
   go_meet
   case rel => exact ⟨_, ((a0 == 7)), rs, H', ⟨by first | omega | exact Nat.le_refl _⟩, ⟨bb HB⟩⟩
  rw [if_neg c21] at H
  have c21b0 : (a0 == 7) = false := beq_eq_false_iff_ne.mpr c21
  have c21b1 : (a0 != 7) = true := bne_iff_ne.mpr c21
  (first | rw [c21b0] | (simp only [i64_w, i32_w]; rw [c21b0]) | skip)
  by_cases c22 : a0 = 8
  rotate_left
  ·rw [if_neg c22] at H
   have c22b0 : (a0 == 8) = false := beq_eq_false_iff_ne.mpr c22
   have c22b1 : (a0 != 8) = true := bne_iff_ne.mpr c22
   have H' := Aside0.mk H
   clear H
   go_wp2
   go_meet
   case rel => exact ⟨_, ((a0 == 9)), rs, H', ⟨by first | omega | exact Nat.le_refl _⟩, ⟨bb HB⟩⟩
  rw [if_pos c22] at H
  have c22b0 : (a0 == 8) = true := beq_iff_eq.mpr c22
  have c22b1 : (a0 != 8) = false := bne_eq_false_iff_eq.mpr c22
  clear c22
  have H' := Aside0.mk H
  clear H
  go_wp2
  go_meet
  case rel => exact ⟨_, ((a0 == 8)), rs, H', ⟨by first | omega | exact Nat.le_refl _⟩, ⟨bb HB⟩⟩
 case rest =>
  clear HC20
  try clear c1
  try clear c2
  try clear p2
  try clear c5
  try clear c5b0
  try clear c5b1
  try clear c6
  try clear p6
  try clear c7
  try clear c7b0
  try clear c7b1
  try clear c8
  try clear c8b0
  try clear c8b1
  try clear c11
  try clear c11b0
  try clear c11b1
  try clear c12
  try clear c12b0
  try clear c12b1
  try clear c14
  try clear c14b0
  try clear c14b1
  try clear c15
  try clear c15b0
  try clear c15b1
  try clear c16
  try clear c16b0
  try clear c16b1
  try clear c18
  try clear c18b0
  try clear c18b1
  try clear c19
  try clear c19b0
  try clear c19b1
  try clear c21
  try clear c21b0
  try clear c21b1
  try clear c22
  try clear c22b0
  try clear c22b1
  obtain ⟨kq, x54_19, rfl, HA, HJ19, HB⟩ := hcut
  cases kq with
  | zero => exact absurd HA.out (by simp [r1_Do.j0])
  | succ kj19 =>
   have H := HA.out
   clear HA
   simp only [r1_Do.j0] at H
   by_cases c23 : x54_19 = true
   ·subst c23
    replace H := it H
    obtain ⟨t275, A24, H⟩ := be H
    obtain rfl := Option.some.inj H
    go_wp2_with (first | ((with_reducible refine gate_callee (f := 81) rfl ?_); refine gL (some 62) rfl rfl Try.func81 #[.int .i64 a0, .int .i64 a1, .int .i64 a2, .int .i64 a3] rfl ?_; (with_reducible refine (r1_each.calls kj19 a0 a1 a2 a3 t275 _ A24.out).mono ?_); rintro e w25 ⟨rfl, hb⟩; refine ⟨_, rfl, ?_⟩; replace HB := sb HB hb; (try clear hb)))
    go_ret
    exact ⟨rr, bb HB⟩
   replace c23 := Bool.eq_false_iff.mpr c23
   subst c23
   replace H := fi H
   by_cases c26 : a0 = 10
   ·rw [if_pos c26] at H
    have c26b0 : (a0 == 10) = true := beq_iff_eq.mpr c26
    have c26b1 : (a0 != 10) = false := bne_eq_false_iff_eq.mpr c26
    clear c26
    by_cases c27 : a3 ≥ a1
    ·rw [if_pos c27] at H
     have c27b0 : decide (a1 ≤ a3) = true := decide_eq_true c27
     clear c27
     obtain rfl := Option.some.inj H
     go_wp2
     go_ret
     exact ⟨rr, bb HB⟩
    rw [if_neg c27] at H
    have c27b0 : decide (a1 ≤ a3) = false := decide_eq_false c27
    clear c27
    obtain ⟨t276, A28, H⟩ := be H
    obtain ⟨t277, A29, H⟩ := be H
    by_cases c30 : t277 = 0
    ·rw [if_pos c30] at H
     exact absurd H (by simp)
    rw [if_neg c30] at H
    have c30b0 : (t277 == 0) = false := beq_eq_false_iff_ne.mpr c30
    have c30b1 : (t277 != 0) = true := bne_iff_ne.mpr c30
    obtain rfl := Option.some.inj H
    go_wp2_with (first | ((with_reducible refine gate_callee (f := 66) rfl ?_); refine gL (some 70) rfl rfl Try.func66 #[.int .i64 a3] rfl ?_; (with_reducible refine (r1_Pow.calls kj19 a3 t276 _ A28.out).mono ?_); rintro e w' ⟨rfl, ⟨nd, rfl⟩⟩; refine ⟨_, rfl, ?_⟩) | ((with_reducible refine gate_callee (f := 66) rfl ?_); refine gL (some 73) rfl rfl Try.func66 #[.int .i64 a1] rfl ?_; (with_reducible refine (r1_Pow.calls kj19 a1 t277 _ A29.out).mono ?_); rintro e w' ⟨rfl, ⟨nd, rfl⟩⟩; refine ⟨_, rfl, ?_⟩))
    go_ret
    exact ⟨rr, bb HB⟩
   rw [if_neg c26] at H
   have c26b0 : (a0 == 10) = false := beq_eq_false_iff_ne.mpr c26
   have c26b1 : (a0 != 10) = true := bne_iff_ne.mpr c26
   by_cases c31 : a0 = 11
   ·rw [if_pos c31] at H
    have c31b0 : (a0 == 11) = true := beq_iff_eq.mpr c31
    have c31b1 : (a0 != 11) = false := bne_eq_false_iff_eq.mpr c31
    clear c31
    by_cases c32 : a3 ≥ a1
    ·rw [if_pos c32] at H
     have c32b0 : decide (a1 ≤ a3) = true := decide_eq_true c32
     clear c32
     obtain rfl := Option.some.inj H
     go_wp2
     go_ret
     exact ⟨rr, bb HB⟩
    rw [if_neg c32] at H
    have c32b0 : decide (a1 ≤ a3) = false := decide_eq_false c32
    clear c32
    obtain ⟨t278, A33, H⟩ := be H
    by_cases c34 : t278 = 0
    ·rw [if_pos c34] at H
     exact absurd H (by simp)
    rw [if_neg c34] at H
    have c34b0 : (t278 == 0) = false := beq_eq_false_iff_ne.mpr c34
    have c34b1 : (t278 != 0) = true := bne_iff_ne.mpr c34
    obtain rfl := Option.some.inj H
    go_wp2_with (first | ((with_reducible refine gate_callee (f := 66) rfl ?_); refine gL (some 82) rfl rfl Try.func66 #[.int .i64 a3] rfl ?_; (with_reducible refine (r1_Pow.calls kj19 a3 t278 _ A33.out).mono ?_); rintro e w' ⟨rfl, ⟨nd, rfl⟩⟩; refine ⟨_, rfl, ?_⟩))
    go_ret
    exact ⟨rr, bb HB⟩
   rw [if_neg c31] at H
   have c31b0 : (a0 == 11) = false := beq_eq_false_iff_ne.mpr c31
   have c31b1 : (a0 != 11) = true := bne_iff_ne.mpr c31
   by_cases c35 : a0 = 13
   ·rw [if_pos c35] at H
    have c35b0 : (a0 == 13) = true := beq_iff_eq.mpr c35
    have c35b1 : (a0 != 13) = false := bne_eq_false_iff_eq.mpr c35
    clear c35
    obtain ⟨t279, A36, H⟩ := be H
    obtain rfl := Option.some.inj H
    go_wp2_with (first | ((with_reducible refine gate_callee (f := 60) rfl ?_); refine gL (some 89) rfl rfl Try.func60 #[.bool (a2 == a3)] rfl ?_; (with_reducible refine (r1_One.calls (a2 == a3) t279 _ A36.out).mono ?_); rintro e w' ⟨rfl, ⟨nd, rfl⟩⟩; refine ⟨_, rfl, ?_⟩))
    go_ret
    exact ⟨rr, bb HB⟩
   rw [if_neg c35] at H
   have c35b0 : (a0 == 13) = false := beq_eq_false_iff_ne.mpr c35
   have c35b1 : (a0 != 13) = true := bne_iff_ne.mpr c35
   obtain ⟨t280, A37, H⟩ := be H
   obtain rfl := Option.some.inj H
   go_wp2_with (first | ((with_reducible refine gate_callee (f := 60) rfl ?_); refine gL (some 93) rfl rfl Try.func60 #[.bool (decide (a2 < a3))] rfl ?_; (with_reducible refine (r1_One.calls (decide (a2 < a3)) t280 _ A37.out).mono ?_); rintro e w' ⟨rfl, ⟨nd, rfl⟩⟩; refine ⟨_, rfl, ?_⟩))
   go_ret
   exact ⟨rr, bb HB⟩
def r2_First.l0 : Nat → List (S42) → Int → Int → Int → Option (Int)
 | 0, _, _, _, _ => none
 | k + 1, x0, x1, x5, x6 => if x6 < x1 then (if 0 ≤ x6 then (if x6 < (x0.length : Int) then (r2_First.l0 k x0 x1 (wrap64 (x5 + ((rd_T42 x0 x6).f2))) (wrap64 (x6 + 1))) else (none)) else (none)) else (some x5)
def r2_First.f (k : Nat) (l0 : List (S42)) (a1 : Int) : Option (Int) := r2_First.l0 k l0 a1 0 0
theorem r2_First.calls (k : Nat) (A0 : Option Addr) (c0 : Nat) (l0 : List (S42)) (a1 : Int) (r : Int) (w : World) (hr0 : Kd.C k42 w A0 l0.length l0) (hc0 : l0.length ≤ c0) (h : r2_First.f k l0 a1 = some r) :
  Calls Try.prog 70 #[.slice A0 l0.length c0, .int .i64 a1] w fun e w' => e = .returned (.int .i64 r) ∧ Drawn0 w w' := by
 have HR0 := Aside0.mk hr0
 have HC0 := Aside0.mk hc0
 clear hr0 hc0
 have H : (r2_First.l0 k l0 a1 0 0) = some r := h
 clear h
 have H' := Aside0.mk H
 clear H
 go_enter Try.func70, Try.ntmps70
 go_wp2
 go_loopg [5, 6] k (fun kq v5 v6 w' => ∃ (x5_1 : Int) (x6_1 : Int), v5 = .int .i64 x5_1 ∧ v6 = .int .i64 x6_1 ∧ Aside0 (r2_First.l0 kq l0 a1 x5_1 x6_1 = some r) ∧ Aside0 (kq ≤ k) ∧ Drawn0 w w')
 case atStart => exact ⟨(0), (0), rs, rs, H', ⟨Nat.le_refl _⟩, dr⟩
 case round =>
  clear H'
  try clear p2
  obtain ⟨x5_1, x6_1, rfl, rfl, HA, HK1, ⟨m1, rfl⟩⟩ := hrel
  cases gk with
  | zero => exact absurd HA.out (by simp [r2_First.l0])
  | succ k1 =>
   have H := HA.out
   clear HA
   simp only [r2_First.l0] at H
   by_cases c3 : x6_1 < a1
   rotate_left
   ·rw [if_neg c3] at H
    have c3b0 : decide (x6_1 < a1) = false := decide_eq_false c3
    clear c3
    obtain rfl := Option.some.inj H
    go_wp2
    go_ret
    exact ⟨rs, dr⟩
   rw [if_pos c3] at H
   have c3b0 : decide (x6_1 < a1) = true := decide_eq_true c3
   clear c3
   by_cases c4 : 0 ≤ x6_1
   rotate_left
   ·rw [if_neg c4] at H
    exact absurd H (by simp)
   rw [if_pos c4] at H
   have c4b0 : decide (0 ≤ x6_1) = true := decide_eq_true c4
   clear c4
   by_cases c5 : x6_1 < (l0.length : Int)
   rotate_left
   ·rw [if_neg c5] at H
    exact absurd H (by simp)
   rw [if_pos c5] at H
   have c5b0 : decide (x6_1 < (l0.length : Int)) = true := decide_eq_true c5
   clear c5
   have H' := Aside0.mk H
   clear H
   have p299 : 0 ≤ (x6_1 : Int) := od
   have q299 : x6_1 < (l0.length : Int) := od
   obtain ⟨ad299, e299, hx299_0, hx299_1, hx299_2⟩ := at_T42 HR0.out x6_1 p299 q299
   cases e299
   replace p299 := eq_true p299
   replace q299 := eq_true q299
   go_wp2
   go_roundg k1
   case measure => have := HK1.out; omega
   case rel => exact ⟨(wrap64 (x5_1 + ((rd_T42 l0 x6_1).f2))), (wrap64 (x6_1 + 1)), rs, rs, H', ⟨by have := HK1.out; omega⟩, dr⟩
end Go.Proofs.Ytnlekgadadifdaa.Print
