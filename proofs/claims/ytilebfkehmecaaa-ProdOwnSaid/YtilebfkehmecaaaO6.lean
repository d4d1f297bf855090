/- For any program, number of copies and stores, no call of the product's functions changes what came in, and what they give is newly laid (programs of at most 600 nodes; else the law answers with its fixed calls). -/
import Derived.Test.YtilebfkehmecaaaO5
set_option maxRecDepth 100000
set_option maxHeartbeats 16000000
namespace Go.Proofs.Ytilebfkehmecaaa.Print
open Go.RowKit Go.Proofs.YtilebfkehmecaaaW.PrintWords Go.Proofs.YtilebfkehmecaaaW.PrintLast Go.Proofs.YtilebfkehmecaaaW.PrintMore
attribute [local go_sem] max2_int min2_int max_two min_two max_three min_three max_four min_four
set_option linter.unusedVariables false
set_option linter.unusedSimpArgs false
mutual
def r3_SameRows.l0 : Nat → List (S64) → List (S64) → Int → Option (Bool)
  | 0, _, _, _ => none
  | k + 1, x0, x1, x5 => if x5 < (x0.length : Int) then (if 0 ≤ x5 then (if x5 < (x1.length : Int) then ((r3_SameStmt.f k ((rd_T64 x0 x5).f0) ((rd_T64 x0 x5).f1) ((rd_T64 x0 x5).f2) ((rd_T64 x0 x5).f3) ((rd_T64 x0 x5).f4) ((rd_T64 x1 x5).f0) ((rd_T64 x1 x5).f1) ((rd_T64 x1 x5).f2) ((rd_T64 x1 x5).f3) ((rd_T64 x1 x5).f4)).bind fun t630 => (if t630 = true then (r3_SameRows.l0 k x0 x1 (wrap64 (x5 + 1))) else (some false))) else (none)) else (none)) else (some true)
def r3_SameRows.f : Nat → List (S64) → List (S64) → Option (Bool)
  | 0, _, _ => none
  | k + 1, l0, l1 => if (l0.length : Int) = (l1.length : Int) then (r3_SameRows.l0 k l0 l1 0) else (some false)
def r3_SameStmt.f : Nat → Int → Int → List (S28) → List (S64) → List (S64) → Int → Int → List (S28) → List (S64) → List (S64) → Option (Bool)
  | 0, _, _, _, _, _, _, _, _, _, _ => none
  | k + 1, a0_0, a0_1, l0_2, l0_3, l0_4, a1_0, a1_1, l1_2, l1_3, l1_4 => if a0_0 = a1_0 then (if a0_1 = a1_1 then ((r3_exprs.f k l0_2 l1_2).bind fun t630 => (if t630 = true then ((r3_SameRows.f k l0_3 l1_3).bind fun t631 => (if t631 = true then ((r3_SameRows.f k l0_4 l1_4).bind fun t632 => (some t632)) else (some false))) else (some false))) else (some false)) else (some false)
end
def r3_SameRows.T6 : Bool × List (List Nat × List Nat) := (true, [([], []), ([], []), ([0, 1], [0, 1]), ([2], [2]), ([], []), ([], []), ([4, 5], [4, 5]), ([6], [6]), ([3, 7], [3, 7]), ([8], [8])])
def r3_SameRows.B6 : List Nat := [0, 0, 3, 7, 0, 0, 48, 112, 255, 511]
theorem r3_SameRows.tab6 : rtab .any (opsOf Try.f77 6) = r3_SameRows.T6 := by kernel_rfl
theorem r3_SameRows.bits6 : waitsOk r3_SameRows.T6.2 r3_SameRows.B6 = true := by kernel_rfl
def r3_SameRows.At (k : Nat) : Prop := ∀ (A0 : Option Addr) (c0 : Nat) (l0 : List (S64)) (A1 : Option Addr) (c1 : Nat) (l1 : List (S64)) (r : Bool) (w : World) (hr0 : Kd.C k64 w A0 l0.length l0) (hc0 : l0.length ≤ c0) (hr1 : Kd.C k64 w A1 l1.length l1) (hc1 : l1.length ≤ c1) (h : r3_SameRows.f k l0 l1 = some r),
  Calls Try.prog 77 #[.slice A0 l0.length c0, .slice A1 l1.length c1] w fun e w' => e = .returned (.bool r) ∧ Below w.heap.size w w'
def r3_SameStmt.At (k : Nat) : Prop := ∀ (a0_0 : Int) (a0_1 : Int) (A0_2 : Option Addr) (c0_2 : Nat) (l0_2 : List (S28)) (A0_3 : Option Addr) (c0_3 : Nat) (l0_3 : List (S64)) (A0_4 : Option Addr) (c0_4 : Nat) (l0_4 : List (S64)) (a1_0 : Int) (a1_1 : Int) (A1_2 : Option Addr) (c1_2 : Nat) (l1_2 : List (S28)) (A1_3 : Option Addr) (c1_3 : Nat) (l1_3 : List (S64)) (A1_4 : Option Addr) (c1_4 : Nat) (l1_4 : List (S64)) (r : Bool) (w : World) (hr0_2 : Kd.C k28 w A0_2 l0_2.length l0_2) (hc0_2 : l0_2.length ≤ c0_2) (hr0_3 : Kd.C k64 w A0_3 l0_3.length l0_3) (hc0_3 : l0_3.length ≤ c0_3) (hr0_4 : Kd.C k64 w A0_4 l0_4.length l0_4) (hc0_4 : l0_4.length ≤ c0_4) (hr1_2 : Kd.C k28 w A1_2 l1_2.length l1_2) (hc1_2 : l1_2.length ≤ c1_2) (hr1_3 : Kd.C k64 w A1_3 l1_3.length l1_3) (hc1_3 : l1_3.length ≤ c1_3) (hr1_4 : Kd.C k64 w A1_4 l1_4.length l1_4) (hc1_4 : l1_4.length ≤ c1_4) (h : r3_SameStmt.f k a0_0 a0_1 l0_2 l0_3 l0_4 a1_0 a1_1 l1_2 l1_3 l1_4 = some r),
  Calls Try.prog 100 #[.agg #[.int .i64 a0_0, .int .i64 a0_1, .slice A0_2 l0_2.length c0_2, .slice A0_3 l0_3.length c0_3, .slice A0_4 l0_4.length c0_4], .agg #[.int .i64 a1_0, .int .i64 a1_1, .slice A1_2 l1_2.length c1_2, .slice A1_3 l1_3.length c1_3, .slice A1_4 l1_4.length c1_4]] w fun e w' => e = .returned (.bool r) ∧ Below w.heap.size w w'
theorem r3_SameRows.ap (k : Nat) (hAt : r3_SameRows.At k) (A0 : Option Addr) (c0 : Nat) (l0 : List (S64)) (A1 : Option Addr) (c1 : Nat) (l1 : List (S64)) (r : Bool) (w : World) (hr0 : Kd.C k64 w A0 l0.length l0) (hc0 : l0.length ≤ c0) (hr1 : Kd.C k64 w A1 l1.length l1) (hc1 : l1.length ≤ c1) (h : r3_SameRows.f k l0 l1 = some r) :
  Calls Try.prog 77 #[.slice A0 l0.length c0, .slice A1 l1.length c1] w fun e w' => e = .returned (.bool r) ∧ Below w.heap.size w w' := hAt A0 c0 l0 A1 c1 l1 r w hr0 hc0 hr1 hc1 h
theorem r3_SameStmt.ap (k : Nat) (hAt : r3_SameStmt.At k) (a0_0 : Int) (a0_1 : Int) (A0_2 : Option Addr) (c0_2 : Nat) (l0_2 : List (S28)) (A0_3 : Option Addr) (c0_3 : Nat) (l0_3 : List (S64)) (A0_4 : Option Addr) (c0_4 : Nat) (l0_4 : List (S64)) (a1_0 : Int) (a1_1 : Int) (A1_2 : Option Addr) (c1_2 : Nat) (l1_2 : List (S28)) (A1_3 : Option Addr) (c1_3 : Nat) (l1_3 : List (S64)) (A1_4 : Option Addr) (c1_4 : Nat) (l1_4 : List (S64)) (r : Bool) (w : World) (hr0_2 : Kd.C k28 w A0_2 l0_2.length l0_2) (hc0_2 : l0_2.length ≤ c0_2) (hr0_3 : Kd.C k64 w A0_3 l0_3.length l0_3) (hc0_3 : l0_3.length ≤ c0_3) (hr0_4 : Kd.C k64 w A0_4 l0_4.length l0_4) (hc0_4 : l0_4.length ≤ c0_4) (hr1_2 : Kd.C k28 w A1_2 l1_2.length l1_2) (hc1_2 : l1_2.length ≤ c1_2) (hr1_3 : Kd.C k64 w A1_3 l1_3.length l1_3) (hc1_3 : l1_3.length ≤ c1_3) (hr1_4 : Kd.C k64 w A1_4 l1_4.length l1_4) (hc1_4 : l1_4.length ≤ c1_4) (h : r3_SameStmt.f k a0_0 a0_1 l0_2 l0_3 l0_4 a1_0 a1_1 l1_2 l1_3 l1_4 = some r) :
  Calls Try.prog 100 #[.agg #[.int .i64 a0_0, .int .i64 a0_1, .slice A0_2 l0_2.length c0_2, .slice A0_3 l0_3.length c0_3, .slice A0_4 l0_4.length c0_4], .agg #[.int .i64 a1_0, .int .i64 a1_1, .slice A1_2 l1_2.length c1_2, .slice A1_3 l1_3.length c1_3, .slice A1_4 l1_4.length c1_4]] w fun e w' => e = .returned (.bool r) ∧ Below w.heap.size w w' := hAt a0_0 a0_1 A0_2 c0_2 l0_2 A0_3 c0_3 l0_3 A0_4 c0_4 l0_4 a1_0 a1_1 A1_2 c1_2 l1_2 A1_3 c1_3 l1_3 A1_4 c1_4 l1_4 r w hr0_2 hc0_2 hr0_3 hc0_3 hr0_4 hc0_4 hr1_2 hc1_2 hr1_3 hc1_3 hr1_4 hc1_4 h
theorem r3_SameRows.calls_of (k : Nat) (IH : ∀ m, m ≤ k → r3_SameStmt.At m) : r3_SameRows.At (k + 1) := by
  intro A0 c0 l0 A1 c1 l1 r w hr0 hc0 hr1 hc1 h
  have hu64 := Try.underlying64
  have HR0 := Aside0.mk hr0
  have HC0 := Aside0.mk hc0
  clear hr0 hc0
  have HR1 := Aside0.mk hr1
  have HC1 := Aside0.mk hc1
  clear hr1 hc1
  have HB := Aside0.mk (Below.refl w.heap.size w)
  have H : (if (l0.length : Int) = (l1.length : Int) then (r3_SameRows.l0 k l0 l1 0) else (some false)) = some r := h
  clear h
  by_cases c3 : (l0.length : Int) = (l1.length : Int)
  · rw [if_pos c3] at H
    have c3b0 : ((l0.length : Int) == (l1.length : Int)) = true := beq_iff_eq.mpr c3
    have c3b1 : ((l0.length : Int) != (l1.length : Int)) = false := bne_eq_false_iff_eq.mpr c3
    have c3b2 : (l0.length == l1.length) = true := by first | simpa using c3 | (simp at c3 ⊢; omega)
    clear c3
    have H' := Aside0.mk H
    clear H
    go_enter Try.func77, Try.ntmps77
    go_wp2
    go_loopg [5] k (fun kq v5 w' => ∃ (x5_1 : Int), v5 = .int .i64 x5_1 ∧ Aside0 (r3_SameRows.l0 kq l0 l1 x5_1 = some r) ∧ Aside0 (kq ≤ k) ∧ Aside0 (Below w.heap.size w w'))
    case atStart => exact ⟨(0), rs, H', ⟨Nat.le_refl _⟩, ⟨bb HB⟩⟩
    case round =>
      clear H'
      try clear c1
      try clear p2
      try clear c3
      try clear c3b0
      try clear c3b1
      try clear c3b2
      obtain ⟨x5_1, rfl, HA, HK1, HB⟩ := hrel
      cases gk with
      | zero => exact absurd HA.out (by simp [r3_SameRows.l0])
      | succ k1 =>
        have H := HA.out
        clear HA
        simp only [r3_SameRows.l0] at H
        by_cases c4 : x5_1 < (l0.length : Int)
        · rw [if_pos c4] at H
          have c4b0 : decide (x5_1 < (l0.length : Int)) = true := decide_eq_true c4
          clear c4
          by_cases c5 : 0 ≤ x5_1
          · rw [if_pos c5] at H
            have c5b0 : decide (0 ≤ x5_1) = true := decide_eq_true c5
            clear c5
            by_cases c6 : x5_1 < (l1.length : Int)
            · rw [if_pos c6] at H
              have c6b0 : decide (x5_1 < (l1.length : Int)) = true := decide_eq_true c6
              clear c6
              obtain ⟨t630, A7, H⟩ := be H
              by_cases c8 : t630 = true
              · subst c8
                replace H := it H
                have H' := Aside0.mk H
                clear H
                try go_wp2
                replace HB := Aside0.mk (bd1 HB.out)
                have p628 : 0 ≤ (x5_1 : Int) := od
                have q628 : x5_1 < (l0.length : Int) := od
                obtain ⟨ad628, A628_2, c628_2, A628_3, c628_3, A628_4, c628_4, e628, hx628_0, hx628_1, hx628_2, hx628_3, hx628_4, hl628_2, hi628_2, hl628_3, hi628_3, hl628_4, hi628_4⟩ := at_T64 HR0.out x5_1 p628 q628
                have hw628_4 := hx628_4
                have hw628_3 := hx628_3
                have hw628_2 := hx628_2
                have hw628_1 := hx628_1
                have hw628_0 := hx628_0
                cases e628
                replace hx628_0 := bcell HB.out hx628_0
                replace hx628_1 := bcell HB.out hx628_1
                replace hx628_2 := bcell HB.out hx628_2
                replace hx628_3 := bcell HB.out hx628_3
                replace hx628_4 := bcell HB.out hx628_4
                have HR628_2 := Aside0.mk hi628_2
                have HC628_2 := Aside0.mk hl628_2
                clear hi628_2 hl628_2
                have HR628_3 := Aside0.mk hi628_3
                have HC628_3 := Aside0.mk hl628_3
                clear hi628_3 hl628_3
                have HR628_4 := Aside0.mk hi628_4
                have HC628_4 := Aside0.mk hl628_4
                clear hi628_4 hl628_4
                replace p628 := eq_true p628
                replace q628 := eq_true q628
                have p629 : 0 ≤ (x5_1 : Int) := od
                have q629 : x5_1 < (l1.length : Int) := od
                obtain ⟨ad629, A629_2, c629_2, A629_3, c629_3, A629_4, c629_4, e629, hx629_0, hx629_1, hx629_2, hx629_3, hx629_4, hl629_2, hi629_2, hl629_3, hi629_3, hl629_4, hi629_4⟩ := at_T64 HR1.out x5_1 p629 q629
                have hw629_4 := hx629_4
                have hw629_3 := hx629_3
                have hw629_2 := hx629_2
                have hw629_1 := hx629_1
                have hw629_0 := hx629_0
                cases e629
                replace hx629_0 := bcell HB.out hx629_0
                replace hx629_1 := bcell HB.out hx629_1
                replace hx629_2 := bcell HB.out hx629_2
                replace hx629_3 := bcell HB.out hx629_3
                replace hx629_4 := bcell HB.out hx629_4
                have HR629_2 := Aside0.mk hi629_2
                have HC629_2 := Aside0.mk hl629_2
                clear hi629_2 hl629_2
                have HR629_3 := Aside0.mk hi629_3
                have HC629_3 := Aside0.mk hl629_3
                clear hi629_3 hl629_3
                have HR629_4 := Aside0.mk hi629_4
                have HC629_4 := Aside0.mk hl629_4
                clear hi629_4 hl629_4
                replace p629 := eq_true p629
                replace q629 := eq_true q629
                refine start_ (n := 10) (S := fun w' => w'.cell? (ad628.add ((x5_1).toNat * 5)) = some (.int .i64 ((rd_T64 l0 x5_1).f0)) ∧ w'.cell? ⟨(ad628.add ((x5_1).toNat * 5)).block, (ad628.add ((x5_1).toNat * 5)).off + 1, none⟩ = some (.int .i64 ((rd_T64 l0 x5_1).f1)) ∧ w'.cell? ⟨(ad628.add ((x5_1).toNat * 5)).block, (ad628.add ((x5_1).toNat * 5)).off + 2, none⟩ = some (.slice A628_2 ((rd_T64 l0 x5_1).f2).length c628_2) ∧ w'.cell? ⟨(ad628.add ((x5_1).toNat * 5)).block, (ad628.add ((x5_1).toNat * 5)).off + 3, none⟩ = some (.slice A628_3 ((rd_T64 l0 x5_1).f3).length c628_3) ∧ w'.cell? ⟨(ad628.add ((x5_1).toNat * 5)).block, (ad628.add ((x5_1).toNat * 5)).off + 4, none⟩ = some (.slice A628_4 ((rd_T64 l0 x5_1).f4).length c628_4) ∧ w'.cell? (ad629.add ((x5_1).toNat * 5)) = some (.int .i64 ((rd_T64 l1 x5_1).f0)) ∧ w'.cell? ⟨(ad629.add ((x5_1).toNat * 5)).block, (ad629.add ((x5_1).toNat * 5)).off + 1, none⟩ = some (.int .i64 ((rd_T64 l1 x5_1).f1)) ∧ w'.cell? ⟨(ad629.add ((x5_1).toNat * 5)).block, (ad629.add ((x5_1).toNat * 5)).off + 2, none⟩ = some (.slice A629_2 ((rd_T64 l1 x5_1).f2).length c629_2) ∧ w'.cell? ⟨(ad629.add ((x5_1).toNat * 5)).block, (ad629.add ((x5_1).toNat * 5)).off + 3, none⟩ = some (.slice A629_3 ((rd_T64 l1 x5_1).f3).length c629_3) ∧ w'.cell? ⟨(ad629.add ((x5_1).toNat * 5)).block, (ad629.add ((x5_1).toNat * 5)).off + 4, none⟩ = some (.slice A629_4 ((rd_T64 l1 x5_1).f4).length c629_4)) (ds := []) #[false, false, false, false, false, false, false, false, false, false] (by kernel_rfl) rfl rfl ⟨(bcell HB.out hw628_0), (bcell HB.out hw628_1), (bcell HB.out hw628_2), (bcell HB.out hw628_3), (bcell HB.out hw628_4), (bcell HB.out hw629_0), (bcell HB.out hw629_1), (bcell HB.out hw629_2), (bcell HB.out hw629_3), (bcell HB.out hw629_4)⟩ (fun hHeld => ?_); refine with_tabW r3_SameRows.tab6 r3_SameRows.bits6 (fun HT_ HW_ => ?_)
                generalize wr.drew = w9 at HB HR628_2 HR628_3 HR628_4 HR629_2 HR629_3 HR629_4 hx628_0 hx628_1 hx628_2 hx628_3 hx628_4 hx629_0 hx629_1 hx629_2 hx629_3 hx629_4 hHeld ⊢
                refine pT 0 17 (bl 10 1) HT_ rfl rfl ?_
                refine pT 1 18 (bl 10 3) HT_ rfl rfl ?_
                refine pT 2 19 (bl 10 7) HT_ rfl rfl ?_
                refine pT 4 21 (bl 10 23) HT_ rfl rfl ?_
                refine pT 5 22 (bl 10 55) HT_ rfl rfl ?_
                refine pT 6 23 (bl 10 119) HT_ rfl rfl ?_
                refine tk (i := 3) (N := some 20) (bl 10 127) rfl rfl (take_ofW HT_.out HW_.out (by kernel_rfl)) hHeld ?_
                refine tk (i := 7) (N := some 24) (bl 10 255) rfl rfl (take_ofW HT_.out HW_.out (by kernel_rfl)) hHeld ?_
                refine one_ (i := 8) (N := some 25) (bl 10 511) rfl rfl (one_of HT_.out (by kernel_rfl)) (by decide) (fun K hK => ?_)
                refine gO Try.func100 #[.agg #[.int .i64 ((rd_T64 l0 x5_1).f0), .int .i64 ((rd_T64 l0 x5_1).f1), .slice A628_2 ((rd_T64 l0 x5_1).f2).length c628_2, .slice A628_3 ((rd_T64 l0 x5_1).f3).length c628_3, .slice A628_4 ((rd_T64 l0 x5_1).f4).length c628_4], .agg #[.int .i64 ((rd_T64 l1 x5_1).f0), .int .i64 ((rd_T64 l1 x5_1).f1), .slice A629_2 ((rd_T64 l1 x5_1).f2).length c629_2, .slice A629_3 ((rd_T64 l1 x5_1).f3).length c629_3, .slice A629_4 ((rd_T64 l1 x5_1).f4).length c629_4]] (by rfl) rfl rfl ?_
                with_reducible refine (r3_SameStmt.ap k1 (IH k1 (by first | omega | (have := HK1.out; omega))) ((rd_T64 l0 x5_1).f0) ((rd_T64 l0 x5_1).f1) _ _ ((rd_T64 l0 x5_1).f2) _ _ ((rd_T64 l0 x5_1).f3) _ _ ((rd_T64 l0 x5_1).f4) ((rd_T64 l1 x5_1).f0) ((rd_T64 l1 x5_1).f1) _ _ ((rd_T64 l1 x5_1).f2) _ _ ((rd_T64 l1 x5_1).f3) _ _ ((rd_T64 l1 x5_1).f4) true _ ?side1 ?side2 ?side3 ?side4 ?side5 ?side6 ?side7 ?side8 ?side9 ?side10 ?side11 ?side12 A7.out).mono ?_
                (case side1 => exact cb HR628_2 HB)
                (case side2 => exact HC628_2.out)
                (case side3 => exact cb HR628_3 HB)
                (case side4 => exact HC628_3.out)
                (case side5 => exact cb HR628_4 HB)
                (case side6 => exact HC628_4.out)
                (case side7 => exact cb HR629_2 HB)
                (case side8 => exact HC629_2.out)
                (case side9 => exact cb HR629_3 HB)
                (case side10 => exact HC629_3.out)
                (case side11 => exact cb HR629_4 HB)
                (case side12 => exact HC629_4.out)
                rintro e w10 ⟨rfl, hb⟩
                refine ⟨_, rfl, ?_⟩
                replace HB := sb HB hb
                (try clear hb)
                (try clear hb2)
                (try clear hk)
                (try clear hi)
                refine hK.out _ _ ⟨(bcell HB.out hw628_0), (bcell HB.out hw628_1), (bcell HB.out hw628_2), (bcell HB.out hw628_3), (bcell HB.out hw628_4), (bcell HB.out hw629_0), (bcell HB.out hw629_1), (bcell HB.out hw629_2), (bcell HB.out hw629_3), (bcell HB.out hw629_4)⟩ (fun hHeld => ?_)
                clear hK K
                refine nm 25 ?_
                refine pT 9 26 (bl 10 1023) HT_ rfl rfl ?_
                refine done_ (done_of HT_.out (by kernel_rfl)) ?_
                try go_wp2
                go_roundg k1
                case measure => have := HK1.out; omega
                case rel => exact ⟨(wrap64 (x5_1 + 1)), rs, H', ⟨by have := HK1.out; omega⟩, ⟨bb HB⟩⟩
              · replace c8 := Bool.eq_false_iff.mpr c8
                subst c8
                replace H := fi H
                obtain rfl := Option.some.inj H
                try go_wp2
                replace HB := Aside0.mk (bd1 HB.out)
                have p628 : 0 ≤ (x5_1 : Int) := od
                have q628 : x5_1 < (l0.length : Int) := od
                obtain ⟨ad628, A628_2, c628_2, A628_3, c628_3, A628_4, c628_4, e628, hx628_0, hx628_1, hx628_2, hx628_3, hx628_4, hl628_2, hi628_2, hl628_3, hi628_3, hl628_4, hi628_4⟩ := at_T64 HR0.out x5_1 p628 q628
                have hw628_4 := hx628_4
                have hw628_3 := hx628_3
                have hw628_2 := hx628_2
                have hw628_1 := hx628_1
                have hw628_0 := hx628_0
                cases e628
                replace hx628_0 := bcell HB.out hx628_0
                replace hx628_1 := bcell HB.out hx628_1
                replace hx628_2 := bcell HB.out hx628_2
                replace hx628_3 := bcell HB.out hx628_3
                replace hx628_4 := bcell HB.out hx628_4
                have HR628_2 := Aside0.mk hi628_2
                have HC628_2 := Aside0.mk hl628_2
                clear hi628_2 hl628_2
                have HR628_3 := Aside0.mk hi628_3
                have HC628_3 := Aside0.mk hl628_3
                clear hi628_3 hl628_3
                have HR628_4 := Aside0.mk hi628_4
                have HC628_4 := Aside0.mk hl628_4
                clear hi628_4 hl628_4
                replace p628 := eq_true p628
                replace q628 := eq_true q628
                have p629 : 0 ≤ (x5_1 : Int) := od
                have q629 : x5_1 < (l1.length : Int) := od
                obtain ⟨ad629, A629_2, c629_2, A629_3, c629_3, A629_4, c629_4, e629, hx629_0, hx629_1, hx629_2, hx629_3, hx629_4, hl629_2, hi629_2, hl629_3, hi629_3, hl629_4, hi629_4⟩ := at_T64 HR1.out x5_1 p629 q629
                have hw629_4 := hx629_4
                have hw629_3 := hx629_3
                have hw629_2 := hx629_2
                have hw629_1 := hx629_1
                have hw629_0 := hx629_0
                cases e629
                replace hx629_0 := bcell HB.out hx629_0
                replace hx629_1 := bcell HB.out hx629_1
                replace hx629_2 := bcell HB.out hx629_2
                replace hx629_3 := bcell HB.out hx629_3
                replace hx629_4 := bcell HB.out hx629_4
                have HR629_2 := Aside0.mk hi629_2
                have HC629_2 := Aside0.mk hl629_2
                clear hi629_2 hl629_2
                have HR629_3 := Aside0.mk hi629_3
                have HC629_3 := Aside0.mk hl629_3
                clear hi629_3 hl629_3
                have HR629_4 := Aside0.mk hi629_4
                have HC629_4 := Aside0.mk hl629_4
                clear hi629_4 hl629_4
                replace p629 := eq_true p629
                replace q629 := eq_true q629
                refine start_ (n := 10) (S := fun w' => w'.cell? (ad628.add ((x5_1).toNat * 5)) = some (.int .i64 ((rd_T64 l0 x5_1).f0)) ∧ w'.cell? ⟨(ad628.add ((x5_1).toNat * 5)).block, (ad628.add ((x5_1).toNat * 5)).off + 1, none⟩ = some (.int .i64 ((rd_T64 l0 x5_1).f1)) ∧ w'.cell? ⟨(ad628.add ((x5_1).toNat * 5)).block, (ad628.add ((x5_1).toNat * 5)).off + 2, none⟩ = some (.slice A628_2 ((rd_T64 l0 x5_1).f2).length c628_2) ∧ w'.cell? ⟨(ad628.add ((x5_1).toNat * 5)).block, (ad628.add ((x5_1).toNat * 5)).off + 3, none⟩ = some (.slice A628_3 ((rd_T64 l0 x5_1).f3).length c628_3) ∧ w'.cell? ⟨(ad628.add ((x5_1).toNat * 5)).block, (ad628.add ((x5_1).toNat * 5)).off + 4, none⟩ = some (.slice A628_4 ((rd_T64 l0 x5_1).f4).length c628_4) ∧ w'.cell? (ad629.add ((x5_1).toNat * 5)) = some (.int .i64 ((rd_T64 l1 x5_1).f0)) ∧ w'.cell? ⟨(ad629.add ((x5_1).toNat * 5)).block, (ad629.add ((x5_1).toNat * 5)).off + 1, none⟩ = some (.int .i64 ((rd_T64 l1 x5_1).f1)) ∧ w'.cell? ⟨(ad629.add ((x5_1).toNat * 5)).block, (ad629.add ((x5_1).toNat * 5)).off + 2, none⟩ = some (.slice A629_2 ((rd_T64 l1 x5_1).f2).length c629_2) ∧ w'.cell? ⟨(ad629.add ((x5_1).toNat * 5)).block, (ad629.add ((x5_1).toNat * 5)).off + 3, none⟩ = some (.slice A629_3 ((rd_T64 l1 x5_1).f3).length c629_3) ∧ w'.cell? ⟨(ad629.add ((x5_1).toNat * 5)).block, (ad629.add ((x5_1).toNat * 5)).off + 4, none⟩ = some (.slice A629_4 ((rd_T64 l1 x5_1).f4).length c629_4)) (ds := []) #[false, false, false, false, false, false, false, false, false, false] (by kernel_rfl) rfl rfl ⟨(bcell HB.out hw628_0), (bcell HB.out hw628_1), (bcell HB.out hw628_2), (bcell HB.out hw628_3), (bcell HB.out hw628_4), (bcell HB.out hw629_0), (bcell HB.out hw629_1), (bcell HB.out hw629_2), (bcell HB.out hw629_3), (bcell HB.out hw629_4)⟩ (fun hHeld => ?_); refine with_tabW r3_SameRows.tab6 r3_SameRows.bits6 (fun HT_ HW_ => ?_)
                generalize wr.drew = w11 at HB HR628_2 HR628_3 HR628_4 HR629_2 HR629_3 HR629_4 hx628_0 hx628_1 hx628_2 hx628_3 hx628_4 hx629_0 hx629_1 hx629_2 hx629_3 hx629_4 hHeld ⊢
                refine pT 0 17 (bl 10 1) HT_ rfl rfl ?_
                refine pT 1 18 (bl 10 3) HT_ rfl rfl ?_
                refine pT 2 19 (bl 10 7) HT_ rfl rfl ?_
                refine pT 4 21 (bl 10 23) HT_ rfl rfl ?_
                refine pT 5 22 (bl 10 55) HT_ rfl rfl ?_
                refine pT 6 23 (bl 10 119) HT_ rfl rfl ?_
                refine tk (i := 3) (N := some 20) (bl 10 127) rfl rfl (take_ofW HT_.out HW_.out (by kernel_rfl)) hHeld ?_
                refine tk (i := 7) (N := some 24) (bl 10 255) rfl rfl (take_ofW HT_.out HW_.out (by kernel_rfl)) hHeld ?_
                refine one_ (i := 8) (N := some 25) (bl 10 511) rfl rfl (one_of HT_.out (by kernel_rfl)) (by decide) (fun K hK => ?_)
                refine gO Try.func100 #[.agg #[.int .i64 ((rd_T64 l0 x5_1).f0), .int .i64 ((rd_T64 l0 x5_1).f1), .slice A628_2 ((rd_T64 l0 x5_1).f2).length c628_2, .slice A628_3 ((rd_T64 l0 x5_1).f3).length c628_3, .slice A628_4 ((rd_T64 l0 x5_1).f4).length c628_4], .agg #[.int .i64 ((rd_T64 l1 x5_1).f0), .int .i64 ((rd_T64 l1 x5_1).f1), .slice A629_2 ((rd_T64 l1 x5_1).f2).length c629_2, .slice A629_3 ((rd_T64 l1 x5_1).f3).length c629_3, .slice A629_4 ((rd_T64 l1 x5_1).f4).length c629_4]] (by rfl) rfl rfl ?_
                with_reducible refine (r3_SameStmt.ap k1 (IH k1 (by first | omega | (have := HK1.out; omega))) ((rd_T64 l0 x5_1).f0) ((rd_T64 l0 x5_1).f1) _ _ ((rd_T64 l0 x5_1).f2) _ _ ((rd_T64 l0 x5_1).f3) _ _ ((rd_T64 l0 x5_1).f4) ((rd_T64 l1 x5_1).f0) ((rd_T64 l1 x5_1).f1) _ _ ((rd_T64 l1 x5_1).f2) _ _ ((rd_T64 l1 x5_1).f3) _ _ ((rd_T64 l1 x5_1).f4) false _ ?side1 ?side2 ?side3 ?side4 ?side5 ?side6 ?side7 ?side8 ?side9 ?side10 ?side11 ?side12 A7.out).mono ?_
                (case side1 => exact cb HR628_2 HB)
                (case side2 => exact HC628_2.out)
                (case side3 => exact cb HR628_3 HB)
                (case side4 => exact HC628_3.out)
                (case side5 => exact cb HR628_4 HB)
                (case side6 => exact HC628_4.out)
                (case side7 => exact cb HR629_2 HB)
                (case side8 => exact HC629_2.out)
                (case side9 => exact cb HR629_3 HB)
                (case side10 => exact HC629_3.out)
                (case side11 => exact cb HR629_4 HB)
                (case side12 => exact HC629_4.out)
                rintro e w12 ⟨rfl, hb⟩
                refine ⟨_, rfl, ?_⟩
                replace HB := sb HB hb
                (try clear hb)
                (try clear hb2)
                (try clear hk)
                (try clear hi)
                refine hK.out _ _ ⟨(bcell HB.out hw628_0), (bcell HB.out hw628_1), (bcell HB.out hw628_2), (bcell HB.out hw628_3), (bcell HB.out hw628_4), (bcell HB.out hw629_0), (bcell HB.out hw629_1), (bcell HB.out hw629_2), (bcell HB.out hw629_3), (bcell HB.out hw629_4)⟩ (fun hHeld => ?_)
                clear hK K
                refine nm 25 ?_
                refine pT 9 26 (bl 10 1023) HT_ rfl rfl ?_
                refine done_ (done_of HT_.out (by kernel_rfl)) ?_
                try go_wp2
                go_ret
                exact ⟨rr, bb HB⟩
            · rw [if_neg c6] at H
              exact absurd H (by simp)
          · rw [if_neg c5] at H
            exact absurd H (by simp)
        · rw [if_neg c4] at H
          have c4b0 : decide (x5_1 < (l0.length : Int)) = false := decide_eq_false c4
          clear c4
          obtain rfl := Option.some.inj H
          go_wp2
          go_ret
          exact ⟨rr, bb HB⟩
  · rw [if_neg c3] at H
    have c3b0 : ((l0.length : Int) == (l1.length : Int)) = false := beq_eq_false_iff_ne.mpr c3
    have c3b1 : ((l0.length : Int) != (l1.length : Int)) = true := bne_iff_ne.mpr c3
    have c3b2 : (l0.length == l1.length) = false := by first | simpa using c3 | (simp at c3 ⊢; omega)
    obtain rfl := Option.some.inj H
    go_enter Try.func77, Try.ntmps77
    go_wp2
    go_ret
    exact ⟨rr, bb HB⟩
theorem r3_SameStmt.calls_of (k : Nat) (IH : ∀ m, m ≤ k → r3_SameRows.At m) : r3_SameStmt.At (k + 1) := by
  intro a0_0 a0_1 A0_2 c0_2 l0_2 A0_3 c0_3 l0_3 A0_4 c0_4 l0_4 a1_0 a1_1 A1_2 c1_2 l1_2 A1_3 c1_3 l1_3 A1_4 c1_4 l1_4 r w hr0_2 hc0_2 hr0_3 hc0_3 hr0_4 hc0_4 hr1_2 hc1_2 hr1_3 hc1_3 hr1_4 hc1_4 h
  have hu64 := Try.underlying64
  have HR0_2 := Aside0.mk hr0_2
  have HC0_2 := Aside0.mk hc0_2
  clear hr0_2 hc0_2
  have HR0_3 := Aside0.mk hr0_3
  have HC0_3 := Aside0.mk hc0_3
  clear hr0_3 hc0_3
  have HR0_4 := Aside0.mk hr0_4
  have HC0_4 := Aside0.mk hc0_4
  clear hr0_4 hc0_4
  have HR1_2 := Aside0.mk hr1_2
  have HC1_2 := Aside0.mk hc1_2
  clear hr1_2 hc1_2
  have HR1_3 := Aside0.mk hr1_3
  have HC1_3 := Aside0.mk hc1_3
  clear hr1_3 hc1_3
  have HR1_4 := Aside0.mk hr1_4
  have HC1_4 := Aside0.mk hc1_4
  clear hr1_4 hc1_4
  have HB := Aside0.mk (Below.refl w.heap.size w)
  have H : (if a0_0 = a1_0 then (if a0_1 = a1_1 then ((r3_exprs.f k l0_2 l1_2).bind fun t630 => (if t630 = true then ((r3_SameRows.f k l0_3 l1_3).bind fun t631 => (if t631 = true then ((r3_SameRows.f k l0_4 l1_4).bind fun t632 => (some t632)) else (some false))) else (some false))) else (some false)) else (some false)) = some r := h
  clear h
  by_cases c3 : a0_0 = a1_0
  · rw [if_pos c3] at H
    have c3b0 : (a0_0 == a1_0) = true := beq_iff_eq.mpr c3
    have c3b1 : (a0_0 != a1_0) = false := bne_eq_false_iff_eq.mpr c3
    clear c3
    by_cases c4 : a0_1 = a1_1
    · rw [if_pos c4] at H
      have c4b0 : (a0_1 == a1_1) = true := beq_iff_eq.mpr c4
      have c4b1 : (a0_1 != a1_1) = false := bne_eq_false_iff_eq.mpr c4
      clear c4
      obtain ⟨t630, A5, H⟩ := be H
      by_cases c6 : t630 = true
      · subst c6
        replace H := it H
        obtain ⟨t631, A7, H⟩ := be H
        by_cases c8 : t631 = true
        · subst c8
          replace H := it H
          obtain ⟨t632, A9, H⟩ := be H
          obtain rfl := Option.some.inj H
          go_enter Try.func100, Try.ntmps100
          go_wp2_with (first | ((with_reducible refine gate_dst (N := 2) rfl ?_); refine bx 2 rfl rfl #[.int .i64 a0_0, .int .i64 a0_1, .slice A0_2 l0_2.length c0_2, .slice A0_3 l0_3.length c0_3, .slice A0_4 l0_4.length c0_4] 64 ?_; intro gb628 hg w10 hbox hb; have BK628 := Aside0.mk (hbox); have GE628 := ge HB hg; replace HB := sb HB hb; clear hb hbox hg) | ((with_reducible refine gate_dst (N := 3) rfl ?_); refine bx 3 rfl rfl #[.int .i64 a1_0, .int .i64 a1_1, .slice A1_2 l1_2.length c1_2, .slice A1_3 l1_3.length c1_3, .slice A1_4 l1_4.length c1_4] 64 ?_; intro gb629 hg w11 hbox hb; have BK629 := Aside0.mk (hbox); have GE629 := ge HB hg; have NB628_629 := Aside0.mk ((by rw [hg]; exact Nat.ne_of_lt (blk_lt (kk BK628)) : gb628 ≠ gb629)); have NB629_628 := Aside0.mk ((by rw [hg]; exact Nat.ne_of_gt (blk_lt (kk BK628)) : gb629 ≠ gb628)); replace BK628 := kb BK628 hb; replace HB := sb HB hb; clear hb hbox hg; have hnb12 := NB628_629.out; have hnc12 := NB629_628.out; obtain ⟨hcz13_0, hcz13_1, hcz13_2, hcz13_3, hcz13_4, hfz13_0, hfz13_1, hfz13_2, hfz13_3, hfz13_4⟩ := cf5 BK628.out; obtain ⟨hcz14_0, hcz14_1, hcz14_2, hcz14_3, hcz14_4, hfz14_0, hfz14_1, hfz14_2, hfz14_3, hfz14_4⟩ := cf5 BK629.out) | (go_at_call 117; (with_reducible refine (r3_exprs.calls k _ _ l0_2 _ _ l1_2 true _ ?side1 ?side2 ?side3 ?side4 A5.out).mono ?_); (case side1 => exact cb HR0_2 HB); (case side2 => exact HC0_2.out); (case side3 => exact cb HR1_2 HB); (case side4 => exact HC1_2.out); rintro e w15 ⟨rfl, hb⟩; replace BK628 := kb BK628 hb; replace BK629 := kb BK629 hb; replace HB := sb HB hb; (try clear hb); obtain ⟨hcz16_0, hcz16_1, hcz16_2, hcz16_3, hcz16_4, hfz16_0, hfz16_1, hfz16_2, hfz16_3, hfz16_4⟩ := cf5 BK628.out; obtain ⟨hcz17_0, hcz17_1, hcz17_2, hcz17_3, hcz17_4, hfz17_0, hfz17_1, hfz17_2, hfz17_3, hfz17_4⟩ := cf5 BK629.out) | (go_at_call 77; (with_reducible refine (r3_SameRows.ap k (IH k (by first | omega | (have := HK1.out; omega))) _ _ l0_3 _ _ l1_3 true _ ?side1 ?side2 ?side3 ?side4 A7.out).mono ?_); (case side1 => exact cb HR0_3 HB); (case side2 => exact HC0_3.out); (case side3 => exact cb HR1_3 HB); (case side4 => exact HC1_3.out); rintro e w18 ⟨rfl, hb⟩; replace BK628 := kb BK628 hb; replace BK629 := kb BK629 hb; replace HB := sb HB hb; (try clear hb); obtain ⟨hcz19_0, hcz19_1, hcz19_2, hcz19_3, hcz19_4, hfz19_0, hfz19_1, hfz19_2, hfz19_3, hfz19_4⟩ := cf5 BK628.out; obtain ⟨hcz20_0, hcz20_1, hcz20_2, hcz20_3, hcz20_4, hfz20_0, hfz20_1, hfz20_2, hfz20_3, hfz20_4⟩ := cf5 BK629.out) | (go_at_call 77; (with_reducible refine (r3_SameRows.ap k (IH k (by first | omega | (have := HK1.out; omega))) _ _ l0_4 _ _ l1_4 t632 _ ?side1 ?side2 ?side3 ?side4 A9.out).mono ?_); (case side1 => exact cb HR0_4 HB); (case side2 => exact HC0_4.out); (case side3 => exact cb HR1_4 HB); (case side4 => exact HC1_4.out); rintro e w21 ⟨rfl, hb⟩; replace BK628 := kb BK628 hb; replace BK629 := kb BK629 hb; replace HB := sb HB hb; (try clear hb)))
          go_ret
          exact ⟨rr, bb HB⟩
        · replace c8 := Bool.eq_false_iff.mpr c8
          subst c8
          replace H := fi H
          obtain rfl := Option.some.inj H
          go_enter Try.func100, Try.ntmps100
          go_wp2_with (first | ((with_reducible refine gate_dst (N := 2) rfl ?_); refine bx 2 rfl rfl #[.int .i64 a0_0, .int .i64 a0_1, .slice A0_2 l0_2.length c0_2, .slice A0_3 l0_3.length c0_3, .slice A0_4 l0_4.length c0_4] 64 ?_; intro gb628 hg w22 hbox hb; have BK628 := Aside0.mk (hbox); have GE628 := ge HB hg; replace HB := sb HB hb; clear hb hbox hg) | ((with_reducible refine gate_dst (N := 3) rfl ?_); refine bx 3 rfl rfl #[.int .i64 a1_0, .int .i64 a1_1, .slice A1_2 l1_2.length c1_2, .slice A1_3 l1_3.length c1_3, .slice A1_4 l1_4.length c1_4] 64 ?_; intro gb629 hg w23 hbox hb; have BK629 := Aside0.mk (hbox); have GE629 := ge HB hg; have NB628_629 := Aside0.mk ((by rw [hg]; exact Nat.ne_of_lt (blk_lt (kk BK628)) : gb628 ≠ gb629)); have NB629_628 := Aside0.mk ((by rw [hg]; exact Nat.ne_of_gt (blk_lt (kk BK628)) : gb629 ≠ gb628)); replace BK628 := kb BK628 hb; replace HB := sb HB hb; clear hb hbox hg; have hnb24 := NB628_629.out; have hnc24 := NB629_628.out; obtain ⟨hcz25_0, hcz25_1, hcz25_2, hcz25_3, hcz25_4, hfz25_0, hfz25_1, hfz25_2, hfz25_3, hfz25_4⟩ := cf5 BK628.out; obtain ⟨hcz26_0, hcz26_1, hcz26_2, hcz26_3, hcz26_4, hfz26_0, hfz26_1, hfz26_2, hfz26_3, hfz26_4⟩ := cf5 BK629.out) | (go_at_call 117; (with_reducible refine (r3_exprs.calls k _ _ l0_2 _ _ l1_2 true _ ?side1 ?side2 ?side3 ?side4 A5.out).mono ?_); (case side1 => exact cb HR0_2 HB); (case side2 => exact HC0_2.out); (case side3 => exact cb HR1_2 HB); (case side4 => exact HC1_2.out); rintro e w27 ⟨rfl, hb⟩; replace BK628 := kb BK628 hb; replace BK629 := kb BK629 hb; replace HB := sb HB hb; (try clear hb); obtain ⟨hcz28_0, hcz28_1, hcz28_2, hcz28_3, hcz28_4, hfz28_0, hfz28_1, hfz28_2, hfz28_3, hfz28_4⟩ := cf5 BK628.out; obtain ⟨hcz29_0, hcz29_1, hcz29_2, hcz29_3, hcz29_4, hfz29_0, hfz29_1, hfz29_2, hfz29_3, hfz29_4⟩ := cf5 BK629.out) | (go_at_call 77; (with_reducible refine (r3_SameRows.ap k (IH k (by first | omega | (have := HK1.out; omega))) _ _ l0_3 _ _ l1_3 false _ ?side1 ?side2 ?side3 ?side4 A7.out).mono ?_); (case side1 => exact cb HR0_3 HB); (case side2 => exact HC0_3.out); (case side3 => exact cb HR1_3 HB); (case side4 => exact HC1_3.out); rintro e w30 ⟨rfl, hb⟩; replace BK628 := kb BK628 hb; replace BK629 := kb BK629 hb; replace HB := sb HB hb; (try clear hb)))
          go_ret
          exact ⟨rr, bb HB⟩
      · replace c6 := Bool.eq_false_iff.mpr c6
        subst c6
        replace H := fi H
        obtain rfl := Option.some.inj H
        go_enter Try.func100, Try.ntmps100
        go_wp2_with (first | ((with_reducible refine gate_dst (N := 2) rfl ?_); refine bx 2 rfl rfl #[.int .i64 a0_0, .int .i64 a0_1, .slice A0_2 l0_2.length c0_2, .slice A0_3 l0_3.length c0_3, .slice A0_4 l0_4.length c0_4] 64 ?_; intro gb628 hg w31 hbox hb; have BK628 := Aside0.mk (hbox); have GE628 := ge HB hg; replace HB := sb HB hb; clear hb hbox hg) | ((with_reducible refine gate_dst (N := 3) rfl ?_); refine bx 3 rfl rfl #[.int .i64 a1_0, .int .i64 a1_1, .slice A1_2 l1_2.length c1_2, .slice A1_3 l1_3.length c1_3, .slice A1_4 l1_4.length c1_4] 64 ?_; intro gb629 hg w32 hbox hb; have BK629 := Aside0.mk (hbox); have GE629 := ge HB hg; have NB628_629 := Aside0.mk ((by rw [hg]; exact Nat.ne_of_lt (blk_lt (kk BK628)) : gb628 ≠ gb629)); have NB629_628 := Aside0.mk ((by rw [hg]; exact Nat.ne_of_gt (blk_lt (kk BK628)) : gb629 ≠ gb628)); replace BK628 := kb BK628 hb; replace HB := sb HB hb; clear hb hbox hg; have hnb33 := NB628_629.out; have hnc33 := NB629_628.out; obtain ⟨hcz34_0, hcz34_1, hcz34_2, hcz34_3, hcz34_4, hfz34_0, hfz34_1, hfz34_2, hfz34_3, hfz34_4⟩ := cf5 BK628.out; obtain ⟨hcz35_0, hcz35_1, hcz35_2, hcz35_3, hcz35_4, hfz35_0, hfz35_1, hfz35_2, hfz35_3, hfz35_4⟩ := cf5 BK629.out) | (go_at_call 117; (with_reducible refine (r3_exprs.calls k _ _ l0_2 _ _ l1_2 false _ ?side1 ?side2 ?side3 ?side4 A5.out).mono ?_); (case side1 => exact cb HR0_2 HB); (case side2 => exact HC0_2.out); (case side3 => exact cb HR1_2 HB); (case side4 => exact HC1_2.out); rintro e w36 ⟨rfl, hb⟩; replace BK628 := kb BK628 hb; replace BK629 := kb BK629 hb; replace HB := sb HB hb; (try clear hb)))
        go_ret
        exact ⟨rr, bb HB⟩
    · rw [if_neg c4] at H
      have c4b0 : (a0_1 == a1_1) = false := beq_eq_false_iff_ne.mpr c4
      have c4b1 : (a0_1 != a1_1) = true := bne_iff_ne.mpr c4
      obtain rfl := Option.some.inj H
      go_enter Try.func100, Try.ntmps100
      go_wp2_with (first | ((with_reducible refine gate_dst (N := 2) rfl ?_); refine bx 2 rfl rfl #[.int .i64 a0_0, .int .i64 a0_1, .slice A0_2 l0_2.length c0_2, .slice A0_3 l0_3.length c0_3, .slice A0_4 l0_4.length c0_4] 64 ?_; intro gb628 hg w37 hbox hb; have BK628 := Aside0.mk (hbox); have GE628 := ge HB hg; replace HB := sb HB hb; clear hb hbox hg) | ((with_reducible refine gate_dst (N := 3) rfl ?_); refine bx 3 rfl rfl #[.int .i64 a1_0, .int .i64 a1_1, .slice A1_2 l1_2.length c1_2, .slice A1_3 l1_3.length c1_3, .slice A1_4 l1_4.length c1_4] 64 ?_; intro gb629 hg w38 hbox hb; have BK629 := Aside0.mk (hbox); have GE629 := ge HB hg; have NB628_629 := Aside0.mk ((by rw [hg]; exact Nat.ne_of_lt (blk_lt (kk BK628)) : gb628 ≠ gb629)); have NB629_628 := Aside0.mk ((by rw [hg]; exact Nat.ne_of_gt (blk_lt (kk BK628)) : gb629 ≠ gb628)); replace BK628 := kb BK628 hb; replace HB := sb HB hb; clear hb hbox hg; have hnb39 := NB628_629.out; have hnc39 := NB629_628.out; obtain ⟨hcz40_0, hcz40_1, hcz40_2, hcz40_3, hcz40_4, hfz40_0, hfz40_1, hfz40_2, hfz40_3, hfz40_4⟩ := cf5 BK628.out; obtain ⟨hcz41_0, hcz41_1, hcz41_2, hcz41_3, hcz41_4, hfz41_0, hfz41_1, hfz41_2, hfz41_3, hfz41_4⟩ := cf5 BK629.out))
      go_ret
      exact ⟨rr, bb HB⟩
  · rw [if_neg c3] at H
    have c3b0 : (a0_0 == a1_0) = false := beq_eq_false_iff_ne.mpr c3
    have c3b1 : (a0_0 != a1_0) = true := bne_iff_ne.mpr c3
    obtain rfl := Option.some.inj H
    go_enter Try.func100, Try.ntmps100
    go_wp2_with (first | ((with_reducible refine gate_dst (N := 2) rfl ?_); refine bx 2 rfl rfl #[.int .i64 a0_0, .int .i64 a0_1, .slice A0_2 l0_2.length c0_2, .slice A0_3 l0_3.length c0_3, .slice A0_4 l0_4.length c0_4] 64 ?_; intro gb628 hg w42 hbox hb; have BK628 := Aside0.mk (hbox); have GE628 := ge HB hg; replace HB := sb HB hb; clear hb hbox hg) | ((with_reducible refine gate_dst (N := 3) rfl ?_); refine bx 3 rfl rfl #[.int .i64 a1_0, .int .i64 a1_1, .slice A1_2 l1_2.length c1_2, .slice A1_3 l1_3.length c1_3, .slice A1_4 l1_4.length c1_4] 64 ?_; intro gb629 hg w43 hbox hb; have BK629 := Aside0.mk (hbox); have GE629 := ge HB hg; have NB628_629 := Aside0.mk ((by rw [hg]; exact Nat.ne_of_lt (blk_lt (kk BK628)) : gb628 ≠ gb629)); have NB629_628 := Aside0.mk ((by rw [hg]; exact Nat.ne_of_gt (blk_lt (kk BK628)) : gb629 ≠ gb628)); replace BK628 := kb BK628 hb; replace HB := sb HB hb; clear hb hbox hg; have hnb44 := NB628_629.out; have hnc44 := NB629_628.out; obtain ⟨hcz45_0, hcz45_1, hcz45_2, hcz45_3, hcz45_4, hfz45_0, hfz45_1, hfz45_2, hfz45_3, hfz45_4⟩ := cf5 BK628.out; obtain ⟨hcz46_0, hcz46_1, hcz46_2, hcz46_3, hcz46_4, hfz46_0, hfz46_1, hfz46_2, hfz46_3, hfz46_4⟩ := cf5 BK629.out))
    go_ret
    exact ⟨rr, bb HB⟩
theorem r3_SameStmt.calls_all : ∀ n k, k ≤ n → r3_SameRows.At k ∧ r3_SameStmt.At k
  | n, 0, _ => ⟨by
      intro A0 c0 l0 A1 c1 l1 r w hr0 hc0 hr1 hc1 h
      exact absurd h (by simp [r3_SameRows.f]), by
      intro a0_0 a0_1 A0_2 c0_2 l0_2 A0_3 c0_3 l0_3 A0_4 c0_4 l0_4 a1_0 a1_1 A1_2 c1_2 l1_2 A1_3 c1_3 l1_3 A1_4 c1_4 l1_4 r w hr0_2 hc0_2 hr0_3 hc0_3 hr0_4 hc0_4 hr1_2 hc1_2 hr1_3 hc1_3 hr1_4 hc1_4 h
      exact absurd h (by simp [r3_SameStmt.f])⟩
  | 0, k + 1, h => absurd h (by omega)
  | n + 1, k + 1, h => ⟨r3_SameRows.calls_of k (fun m hm => (r3_SameStmt.calls_all n m (by omega)).2), r3_SameStmt.calls_of k (fun m hm => (r3_SameStmt.calls_all n m (by omega)).1)⟩
theorem r3_SameRows.calls (k : Nat) (A0 : Option Addr) (c0 : Nat) (l0 : List (S64)) (A1 : Option Addr) (c1 : Nat) (l1 : List (S64)) (r : Bool) (w : World) (hr0 : Kd.C k64 w A0 l0.length l0) (hc0 : l0.length ≤ c0) (hr1 : Kd.C k64 w A1 l1.length l1) (hc1 : l1.length ≤ c1) (h : r3_SameRows.f k l0 l1 = some r) :
    Calls Try.prog 77 #[.slice A0 l0.length c0, .slice A1 l1.length c1] w fun e w' => e = .returned (.bool r) ∧ Below w.heap.size w w' := (r3_SameStmt.calls_all k k (Nat.le_refl k)).1 A0 c0 l0 A1 c1 l1 r w hr0 hc0 hr1 hc1 h
end Go.Proofs.Ytilebfkehmecaaa.Print
namespace Go.Proofs.Ytilebfkehmecaaa.Print
open Go.RowKit Go.Proofs.YtilebfkehmecaaaW.PrintWords Go.Proofs.YtilebfkehmecaaaW.PrintLast Go.Proofs.YtilebfkehmecaaaW.PrintMore
attribute [local go_sem] max2_int min2_int max_two min_two max_three min_three max_four min_four
set_option linter.unusedVariables false
set_option linter.unusedSimpArgs false
attribute [local go_sem high] eqA66
def r3_SameVars.l0 : Nat → List (S66) → List (S66) → Int → Option (Bool)
 | 0, _, _, _ => none
 | k + 1, x0, x1, x5 => if x5 < (x0.length : Int) then (if 0 ≤ x5 then (if x5 < (x1.length : Int) then (if (!((((rd_T66 x0 x5).f0).toList) == (((rd_T66 x1 x5).f0).toList)) || (!(((rd_T66 x0 x5).f1) == ((rd_T66 x1 x5).f1)) || (!(((rd_T66 x0 x5).f2) == ((rd_T66 x1 x5).f2))))) = true then (some false) else (r3_SameVars.l0 k x0 x1 (wrap64 (x5 + 1)))) else (none)) else (none)) else (some true)
def r3_SameVars.f (k : Nat) (l0 : List (S66)) (l1 : List (S66)) : Option (Bool) := if (l0.length : Int) = (l1.length : Int) then (r3_SameVars.l0 k l0 l1 0) else (some false)
theorem r3_SameVars.calls (k : Nat) (A0 : Option Addr) (c0 : Nat) (l0 : List (S66)) (A1 : Option Addr) (c1 : Nat) (l1 : List (S66)) (r : Bool) (w : World) (hr0 : Kd.C k66 w A0 l0.length l0) (hc0 : l0.length ≤ c0) (hr1 : Kd.C k66 w A1 l1.length l1) (hc1 : l1.length ≤ c1) (h : r3_SameVars.f k l0 l1 = some r) :
  Calls Try.prog 76 #[.slice A0 l0.length c0, .slice A1 l1.length c1] w fun e w' => e = .returned (.bool r) ∧ Drawn0 w w' := by
 have hu66 := Try.underlying66
 have HR0 := Aside0.mk hr0
 have HC0 := Aside0.mk hc0
 clear hr0 hc0
 have HR1 := Aside0.mk hr1
 have HC1 := Aside0.mk hc1
 clear hr1 hc1
 have H : (if (l0.length : Int) = (l1.length : Int) then (r3_SameVars.l0 k l0 l1 0) else (some false)) = some r := h
 clear h
 by_cases c3 : (l0.length : Int) = (l1.length : Int)
 rotate_left
 ·rw [if_neg c3] at H
  have c3b0 : ((l0.length : Int) == (l1.length : Int)) = false := beq_eq_false_iff_ne.mpr c3
  have c3b1 : ((l0.length : Int) != (l1.length : Int)) = true := bne_iff_ne.mpr c3
  have c3b2 : (l0.length == l1.length) = false := by first | simpa using c3 | (simp at c3 ⊢; omega)
  obtain rfl := Option.some.inj H
  go_enter Try.func76, Try.ntmps76
  go_wp2
  repeat (go_quiet (fail); try go_wp2)
  go_ret
  exact ⟨rs, dr⟩
 rw [if_pos c3] at H
 have c3b0 : ((l0.length : Int) == (l1.length : Int)) = true := beq_iff_eq.mpr c3
 have c3b1 : ((l0.length : Int) != (l1.length : Int)) = false := bne_eq_false_iff_eq.mpr c3
 have c3b2 : (l0.length == l1.length) = true := by first | simpa using c3 | (simp at c3 ⊢; omega)
 clear c3
 have H' := Aside0.mk H
 clear H
 go_enter Try.func76, Try.ntmps76
 go_wp2
 repeat (go_quiet (fail); try go_wp2)
 go_loopg [5] k (fun kq v5 w' => ∃ (x5_1 : Int), v5 = .int .i64 x5_1 ∧ Aside0 (r3_SameVars.l0 kq l0 l1 x5_1 = some r) ∧ Aside0 (kq ≤ k) ∧ Drawn0 w w')
 case atStart => exact ⟨(0), rs, H', ⟨Nat.le_refl _⟩, dr⟩
 case round =>
  clear H'
  try clear c1
  try clear p2
  try clear c3
  try clear c3b0
  try clear c3b1
  try clear c3b2
  obtain ⟨x5_1, rfl, HA, HK1, ⟨m1, rfl⟩⟩ := hrel
  cases gk with
  | zero => exact absurd HA.out (by simp [r3_SameVars.l0])
  | succ k1 =>
   have H := HA.out
   clear HA
   simp only [r3_SameVars.l0] at H
   by_cases c4 : x5_1 < (l0.length : Int)
   rotate_left
   ·rw [if_neg c4] at H
    have c4b0 : decide (x5_1 < (l0.length : Int)) = false := decide_eq_false c4
    clear c4
    obtain rfl := Option.some.inj H
    go_wp2
    repeat (go_quiet (fail); try go_wp2)
    go_ret
    exact ⟨rs, dr⟩
   rw [if_pos c4] at H
   have c4b0 : decide (x5_1 < (l0.length : Int)) = true := decide_eq_true c4
   clear c4
   by_cases c5 : 0 ≤ x5_1
   rotate_left
   ·rw [if_neg c5] at H
    exact absurd H (by simp)
   rw [if_pos c5] at H
   have c5b0 : decide (0 ≤ x5_1) = true := decide_eq_true c5
   clear c5
   by_cases c6 : x5_1 < (l1.length : Int)
   rotate_left
   ·rw [if_neg c6] at H
    exact absurd H (by simp)
   rw [if_pos c6] at H
   have c6b0 : decide (x5_1 < (l1.length : Int)) = true := decide_eq_true c6
   clear c6
   by_cases c7 : (!((((rd_T66 l0 x5_1).f0).toList) == (((rd_T66 l1 x5_1).f0).toList)) || (!(((rd_T66 l0 x5_1).f1) == ((rd_T66 l1 x5_1).f1)) || (!(((rd_T66 l0 x5_1).f2) == ((rd_T66 l1 x5_1).f2))))) = true
   ·rw [if_pos c7] at H
    have c7b0 : (!((((rd_T66 l0 x5_1).f0).toList) == (((rd_T66 l1 x5_1).f0).toList)) || (!(((rd_T66 l0 x5_1).f1) == ((rd_T66 l1 x5_1).f1)) || (!(((rd_T66 l0 x5_1).f2) == ((rd_T66 l1 x5_1).f2))))) = true := c7
    clear c7
    obtain rfl := Option.some.inj H
    have p592 : 0 ≤ (x5_1 : Int) := od
    have q592 : x5_1 < (l0.length : Int) := od
    obtain ⟨ad592, e592, hx592_0, hx592_1, hx592_2⟩ := at_T66 HR0.out x5_1 p592 q592
    cases e592
    replace p592 := eq_true p592
    replace q592 := eq_true q592
    have p593 : 0 ≤ (x5_1 : Int) := od
    have q593 : x5_1 < (l1.length : Int) := od
    obtain ⟨ad593, e593, hx593_0, hx593_1, hx593_2⟩ := at_T66 HR1.out x5_1 p593 q593
    cases e593
    replace p593 := eq_true p593
    replace q593 := eq_true q593
    go_wp2
    repeat (go_quiet (fail); try go_wp2)
    go_ret
    exact ⟨rs, dr⟩
   rw [if_neg c7] at H
   have c7b0 : (!((((rd_T66 l0 x5_1).f0).toList) == (((rd_T66 l1 x5_1).f0).toList)) || (!(((rd_T66 l0 x5_1).f1) == ((rd_T66 l1 x5_1).f1)) || (!(((rd_T66 l0 x5_1).f2) == ((rd_T66 l1 x5_1).f2))))) = false := by simpa using c7
   clear c7
   have H' := Aside0.mk H
   clear H
   have p592 : 0 ≤ (x5_1 : Int) := od
   have q592 : x5_1 < (l0.length : Int) := od
   obtain ⟨ad592, e592, hx592_0, hx592_1, hx592_2⟩ := at_T66 HR0.out x5_1 p592 q592
   cases e592
   replace p592 := eq_true p592
   replace q592 := eq_true q592
   have p593 : 0 ≤ (x5_1 : Int) := od
   have q593 : x5_1 < (l1.length : Int) := od
   obtain ⟨ad593, e593, hx593_0, hx593_1, hx593_2⟩ := at_T66 HR1.out x5_1 p593 q593
   cases e593
   replace p593 := eq_true p593
   replace q593 := eq_true q593
   go_wp2
   repeat (go_quiet (fail); try go_wp2)
   go_roundg k1
   case measure => have := HK1.out; omega
   case rel => exact ⟨(wrap64 (x5_1 + 1)), rs, H', ⟨by have := HK1.out; omega⟩, dr⟩
end Go.Proofs.Ytilebfkehmecaaa.Print
namespace Go.Proofs.Ytilebfkehmecaaa.Print
open Go.RowKit Go.Proofs.YtilebfkehmecaaaW.PrintWords Go.Proofs.YtilebfkehmecaaaW.PrintLast Go.Proofs.YtilebfkehmecaaaW.PrintMore
attribute [local go_sem] max2_int min2_int max_two min_two max_three min_three max_four min_four
set_option linter.unusedVariables false
set_option linter.unusedSimpArgs false
def r3_Same.f (k : Nat) (a0_0 : Int) (l0_1 : List (S66)) (l0_2 : List (S64)) (a1_0 : Int) (l1_1 : List (S66)) (l1_2 : List (S64)) : Option (Bool) := if a0_0 = a1_0 then ((r3_SameVars.f k l0_1 l1_1).bind fun t630 => (if t630 = true then ((r3_SameRows.f k l0_2 l1_2).bind fun t631 => (some t631)) else (some false))) else (some false)
theorem r3_Same.calls (k : Nat) (a0_0 : Int) (A0_1 : Option Addr) (c0_1 : Nat) (l0_1 : List (S66)) (A0_2 : Option Addr) (c0_2 : Nat) (l0_2 : List (S64)) (a1_0 : Int) (A1_1 : Option Addr) (c1_1 : Nat) (l1_1 : List (S66)) (A1_2 : Option Addr) (c1_2 : Nat) (l1_2 : List (S64)) (r : Bool) (w : World) (hr0_1 : Kd.C k66 w A0_1 l0_1.length l0_1) (hc0_1 : l0_1.length ≤ c0_1) (hr0_2 : Kd.C k64 w A0_2 l0_2.length l0_2) (hc0_2 : l0_2.length ≤ c0_2) (hr1_1 : Kd.C k66 w A1_1 l1_1.length l1_1) (hc1_1 : l1_1.length ≤ c1_1) (hr1_2 : Kd.C k64 w A1_2 l1_2.length l1_2) (hc1_2 : l1_2.length ≤ c1_2) (h : r3_Same.f k a0_0 l0_1 l0_2 a1_0 l1_1 l1_2 = some r) :
  Calls Try.prog 38 #[.agg #[.int .i64 a0_0, .slice A0_1 l0_1.length c0_1, .slice A0_2 l0_2.length c0_2], .agg #[.int .i64 a1_0, .slice A1_1 l1_1.length c1_1, .slice A1_2 l1_2.length c1_2]] w fun e w' => e = .returned (.bool r) ∧ Below w.heap.size w w' := by
 have hu25 := Try.underlying25
 have HR0_1 := Aside0.mk hr0_1
 have HC0_1 := Aside0.mk hc0_1
 clear hr0_1 hc0_1
 have HR0_2 := Aside0.mk hr0_2
 have HC0_2 := Aside0.mk hc0_2
 clear hr0_2 hc0_2
 have HR1_1 := Aside0.mk hr1_1
 have HC1_1 := Aside0.mk hc1_1
 clear hr1_1 hc1_1
 have HR1_2 := Aside0.mk hr1_2
 have HC1_2 := Aside0.mk hc1_2
 clear hr1_2 hc1_2
 have HB := Aside0.mk (Below.refl w.heap.size w)
 have H : (if a0_0 = a1_0 then ((r3_SameVars.f k l0_1 l1_1).bind fun t630 => (if t630 = true then ((r3_SameRows.f k l0_2 l1_2).bind fun t631 => (some t631)) else (some false))) else (some false)) = some r := h
 clear h
 by_cases c3 : a0_0 = a1_0
 rotate_left
 ·rw [if_neg c3] at H
  have c3b0 : (a0_0 == a1_0) = false := beq_eq_false_iff_ne.mpr c3
  have c3b1 : (a0_0 != a1_0) = true := bne_iff_ne.mpr c3
  obtain rfl := Option.some.inj H
  go_enter Try.func38, Try.ntmps38
  go_wp2_with (first | ((with_reducible refine gate_dst (N := 2) rfl ?_); refine bx 2 rfl rfl #[.int .i64 a0_0, .slice A0_1 l0_1.length c0_1, .slice A0_2 l0_2.length c0_2] 25 ?_; intro gb628 hg w18 hbox hb; have BK628 := Aside0.mk (hbox); have GE628 := ge HB hg; replace HB := sb HB hb; clear hb hbox hg) | ((with_reducible refine gate_dst (N := 3) rfl ?_); refine bx 3 rfl rfl #[.int .i64 a1_0, .slice A1_1 l1_1.length c1_1, .slice A1_2 l1_2.length c1_2] 25 ?_; intro gb629 hg w19 hbox hb; have BK629 := Aside0.mk (hbox); have GE629 := ge HB hg; have NB628_629 := Aside0.mk ((by rw [hg]; exact Nat.ne_of_lt (blk_lt (kk BK628)) : gb628 ≠ gb629)); have NB629_628 := Aside0.mk ((by rw [hg]; exact Nat.ne_of_gt (blk_lt (kk BK628)) : gb629 ≠ gb628)); replace BK628 := kb BK628 hb; replace HB := sb HB hb; clear hb hbox hg; have hnb20 := NB628_629.out; have hnc20 := NB629_628.out; obtain ⟨hcz21_0, hcz21_1, hcz21_2, hfz21_0, hfz21_1, hfz21_2⟩ := cf3 BK628.out; obtain ⟨hcz22_0, hcz22_1, hcz22_2, hfz22_0, hfz22_1, hfz22_2⟩ := cf3 BK629.out))
  go_ret
  exact ⟨rr, bb HB⟩
 rw [if_pos c3] at H
 have c3b0 : (a0_0 == a1_0) = true := beq_iff_eq.mpr c3
 have c3b1 : (a0_0 != a1_0) = false := bne_eq_false_iff_eq.mpr c3
 clear c3
 obtain ⟨t630, A4, H⟩ := be H
 by_cases c5 : t630 = true
 rotate_left
 ·replace c5 := Bool.eq_false_iff.mpr c5
  subst c5
  replace H := fi H
  obtain rfl := Option.some.inj H
  go_enter Try.func38, Try.ntmps38
  go_wp2_with (first | ((with_reducible refine gate_dst (N := 2) rfl ?_); refine bx 2 rfl rfl #[.int .i64 a0_0, .slice A0_1 l0_1.length c0_1, .slice A0_2 l0_2.length c0_2] 25 ?_; intro gb628 hg w13 hbox hb; have BK628 := Aside0.mk (hbox); have GE628 := ge HB hg; replace HB := sb HB hb; clear hb hbox hg) | ((with_reducible refine gate_dst (N := 3) rfl ?_); refine bx 3 rfl rfl #[.int .i64 a1_0, .slice A1_1 l1_1.length c1_1, .slice A1_2 l1_2.length c1_2] 25 ?_; intro gb629 hg w14 hbox hb; have BK629 := Aside0.mk (hbox); have GE629 := ge HB hg; have NB628_629 := Aside0.mk ((by rw [hg]; exact Nat.ne_of_lt (blk_lt (kk BK628)) : gb628 ≠ gb629)); have NB629_628 := Aside0.mk ((by rw [hg]; exact Nat.ne_of_gt (blk_lt (kk BK628)) : gb629 ≠ gb628)); replace BK628 := kb BK628 hb; replace HB := sb HB hb; clear hb hbox hg; have hnb15 := NB628_629.out; have hnc15 := NB629_628.out; obtain ⟨hcz16_0, hcz16_1, hcz16_2, hfz16_0, hfz16_1, hfz16_2⟩ := cf3 BK628.out; obtain ⟨hcz17_0, hcz17_1, hcz17_2, hfz17_0, hfz17_1, hfz17_2⟩ := cf3 BK629.out) | (go_at_call 76; (with_reducible refine (r3_SameVars.calls k _ _ l0_1 _ _ l1_1 false _ ?side1 ?side2 ?side3 ?side4 A4.out).mono ?_); (case side1 => exact cb HR0_1 HB); (case side2 => exact HC0_1.out); (case side3 => exact cb HR1_1 HB); (case side4 => exact HC1_1.out); rintro e w' ⟨rfl, ⟨nd, rfl⟩⟩))
  go_ret
  exact ⟨rr, bb HB⟩
 subst c5
 replace H := it H
 obtain ⟨t631, A6, H⟩ := be H
 obtain rfl := Option.some.inj H
 go_enter Try.func38, Try.ntmps38
 go_wp2_with (first | ((with_reducible refine gate_dst (N := 2) rfl ?_); refine bx 2 rfl rfl #[.int .i64 a0_0, .slice A0_1 l0_1.length c0_1, .slice A0_2 l0_2.length c0_2] 25 ?_; intro gb628 hg w7 hbox hb; have BK628 := Aside0.mk (hbox); have GE628 := ge HB hg; replace HB := sb HB hb; clear hb hbox hg) | ((with_reducible refine gate_dst (N := 3) rfl ?_); refine bx 3 rfl rfl #[.int .i64 a1_0, .slice A1_1 l1_1.length c1_1, .slice A1_2 l1_2.length c1_2] 25 ?_; intro gb629 hg w8 hbox hb; have BK629 := Aside0.mk (hbox); have GE629 := ge HB hg; have NB628_629 := Aside0.mk ((by rw [hg]; exact Nat.ne_of_lt (blk_lt (kk BK628)) : gb628 ≠ gb629)); have NB629_628 := Aside0.mk ((by rw [hg]; exact Nat.ne_of_gt (blk_lt (kk BK628)) : gb629 ≠ gb628)); replace BK628 := kb BK628 hb; replace HB := sb HB hb; clear hb hbox hg; have hnb9 := NB628_629.out; have hnc9 := NB629_628.out; obtain ⟨hcz10_0, hcz10_1, hcz10_2, hfz10_0, hfz10_1, hfz10_2⟩ := cf3 BK628.out; obtain ⟨hcz11_0, hcz11_1, hcz11_2, hfz11_0, hfz11_1, hfz11_2⟩ := cf3 BK629.out) | (go_at_call 76; (with_reducible refine (r3_SameVars.calls k _ _ l0_1 _ _ l1_1 true _ ?side1 ?side2 ?side3 ?side4 A4.out).mono ?_); (case side1 => exact cb HR0_1 HB); (case side2 => exact HC0_1.out); (case side3 => exact cb HR1_1 HB); (case side4 => exact HC1_1.out); rintro e w' ⟨rfl, ⟨nd, rfl⟩⟩) | (go_at_call 77; (with_reducible refine (r3_SameRows.calls k _ _ l0_2 _ _ l1_2 t631 _ ?side1 ?side2 ?side3 ?side4 A6.out).mono ?_); (case side1 => repeat (first | exact (Kd.C_below HR0_2.out (bb HB)) | with_reducible first | apply Kd.C_alloc | apply Kd.C_drewN | apply Kd.C_drew)); (case side2 => exact HC0_2.out); (case side3 => repeat (first | exact (Kd.C_below HR1_2.out (bb HB)) | with_reducible first | apply Kd.C_alloc | apply Kd.C_drewN | apply Kd.C_drew)); (case side4 => exact HC1_2.out); rintro e w12 ⟨rfl, hb⟩; replace BK628 := kb BK628 hb; replace BK629 := kb BK629 hb; replace HB := sb HB hb; (try clear hb)))
 go_ret
 exact ⟨rr, bb HB⟩
theorem exprs_loop : ∀ (suf pre : List S28), goodEs suf → (pre ++ suf).length ≤ 9223372036854775807 → Tells (fun k => r3_exprs.l0 k (pre ++ suf) (pre ++ suf) (pre.length : Int)) true
  | [], pre, _, _ => by
    refine Tells.succ ?_
    simp only [r3_exprs.l0, pre_nlt, if_false]
    exact Tells.pure _
  | x :: r, pre, hg, hl => by
    refine Tells.succ ?_
    simp only [r3_exprs.l0, pre_lt, pre_pos, if_true, rdE_mid]
    refine Tells.bind (sameE.1 x hg.1) (Tells.ifT rfl ?_)
    rw [pre_next pre x r hl]
    have ih := exprs_loop r (pre ++ [x]) hg.2 (by rw [← pre_app]; exact hl)
    rw [← pre_app] at ih
    exact ih
theorem exprs_tells (l : List S28) (hg : goodEs l) (hl : l.length ≤ 9223372036854775807) : Tells (fun k => r3_exprs.f k l l) true := by
  unfold r3_exprs.f
  exact Tells.ifT rfl (exprs_loop l [] hg hl)
theorem sameS : (∀ x, goodS x → Tells (fun k => r3_SameStmt.f k x.f0 x.f1 x.f2 x.f3 x.f4 x.f0 x.f1 x.f2 x.f3 x.f4) true) ∧
    (∀ suf, goodSs suf → ∀ (pre : List S64), (pre ++ suf).length ≤ 9223372036854775807 → Tells (fun k => r3_SameRows.l0 k (pre ++ suf) (pre ++ suf) (pre.length : Int)) true) := by
  refine S_ind (fun a b l t e iht ihe => ?_) ?_ (fun x r ih1 ih2 => ?_)
  · intro hg
    rw [goodS_mk] at hg
    obtain ⟨⟨g1, g2⟩, ⟨g3, g4⟩, ⟨g5, g6⟩⟩ := hg
    refine Tells.succ ?_
    simp only [r3_SameStmt.f, if_true]
    have rt : ∀ q : List S64, Tells (fun k => r3_SameRows.l0 k q q 0) true → Tells (fun k => r3_SameRows.f k q q) true := by
      intro q h
      refine Tells.succ ?_
      simp only [r3_SameRows.f, if_true]
      exact h
    exact Tells.bind (exprs_tells l g2 g1) (Tells.ifT rfl (Tells.bind (rt t (iht g4 [] g3)) (Tells.ifT rfl (Tells.bind (rt e (ihe g6 [] g5)) (Tells.pure _)))))
  · intro _ pre _
    refine Tells.succ ?_
    simp only [r3_SameRows.l0, pre_nlt, if_false]
    exact Tells.pure _
  · intro hg pre hl
    refine Tells.succ ?_
    simp only [r3_SameRows.l0, pre_lt, pre_pos, if_true, rdS_mid]
    refine Tells.bind (ih1 hg.1) (Tells.ifT rfl ?_)
    rw [pre_next pre x r hl]
    have ih := ih2 hg.2 (pre ++ [x]) (by rw [← pre_app]; exact hl)
    rw [← pre_app] at ih
    exact ih
theorem sameRows (l : List S64) (hg : goodSs l) (hl : l.length ≤ 9223372036854775807) : Tells (fun k => r3_SameRows.f k l l) true := by
  refine Tells.succ ?_
  simp only [r3_SameRows.f, if_true]
  exact sameS.2 l hg [] hl
theorem sameVars_loop : ∀ (suf pre : List S66), (pre ++ suf).length ≤ 9223372036854775807 → Tells (fun k => r3_SameVars.l0 k (pre ++ suf) (pre ++ suf) (pre.length : Int)) true
  | [], pre, _ => by
    refine Tells.succ ?_
    simp only [r3_SameVars.l0, pre_nlt, if_false]
    exact Tells.pure _
  | v :: r, pre, hl => by
    refine Tells.succ ?_
    simp only [r3_SameVars.l0, pre_lt, pre_pos, if_true, rdV_mid, beq_self_eq_true, Bool.not_true, Bool.or_self, Bool.false_eq_true, if_false]
    rw [pre_next pre v r hl]
    have ih := sameVars_loop r (pre ++ [v]) (by rw [← pre_app]; exact hl)
    rw [← pre_app] at ih
    exact ih
theorem sameVars (l : List S66) (hl : l.length ≤ 9223372036854775807) : Tells (fun k => r3_SameVars.f k l l) true := by
  unfold r3_SameVars.f
  exact Tells.ifT rfl (sameVars_loop l [] hl)
theorem sameProg (w : Int) (vars : List S66) (body : List S64) (hv : vars.length ≤ 9223372036854775807) (hg : goodSs body) (hl : body.length ≤ 9223372036854775807) : Tells (fun k => r3_Same.f k w vars body w vars body) true := by
  unfold r3_Same.f
  exact Tells.ifT rfl (Tells.bind (sameVars vars hv) (Tells.ifT rfl (Tells.bind (sameRows body hg hl) (Tells.pure _))))
mutual
def r2_Copy.l0 : Nat → Int → Int → Int → Int → List (S28) → Int → Int → Int → List (S28) → Option (Int × Int × Int × (List (S28)))
 | 0, _, _, _, _, _, _, _, _, _ => none
 | k + 1, x4, x768000, x768001, x768002, x768003, x770000, x770001, x770002, x770003 => if x4 < (x768003.length : Int) then (if 0 ≤ x4 then ((r2_Copy.f k ((rd_T28 x768003 x4).f0) ((rd_T28 x768003 x4).f1) ((rd_T28 x768003 x4).f2) ((rd_T28 x768003 x4).f3)).bind fun bt771 => (if x770003.length < 2932031007402 then (r2_Copy.l0 k (wrap64 (x4 + 1)) x768000 x768001 x768002 x768003 x770000 x770001 x770002 (x770003 ++ [(⟨bt771.1, bt771.2.1, bt771.2.2.1, bt771.2.2.2⟩ : S28)])) else (none))) else (none)) else (some (x770000, x770001, x770002, x770003))
def r2_Copy.f : Nat → Int → Int → Int → List (S28) → Option (Int × Int × Int × (List (S28)))
 | 0, _, _, _, _ => none
 | k + 1, a0_0, a0_1, a0_2, l0_3 => r2_Copy.l0 k 0 a0_0 a0_1 a0_2 l0_3 a0_0 a0_1 a0_2 ([] : List (S28))
end
def r2_Copy.T5 : Bool × List (List Nat × List Nat) := (true, [([], []), ([0], [0]), ([], []), ([2], [2]), ([], []), ([3, 4], [3, 4]), ([5], [5]), ([6], [6]), ([7], [7]), ([1, 8, 7], [1, 8]), ([0, 1, 2, 3, 4, 5, 6, 7, 8, 9], []), ([10, 9, 9, 0, 1, 2, 3, 4, 5, 6, 7, 8, 9], [9, 10])])
def r2_Copy.B5 : List Nat := [0, 1, 0, 4, 0, 28, 60, 124, 252, 511, 1023, 2047]
theorem r2_Copy.tab5 : rtab .any (opsOf Try.f99 5) = r2_Copy.T5 := by kernel_rfl
theorem r2_Copy.bits5 : waitsOk r2_Copy.T5.2 r2_Copy.B5 = true := by kernel_rfl
theorem r2_Copy.calls (k : Nat) : ∀ (a0_0 : Int) (a0_1 : Int) (a0_2 : Int) (A0_3 : Option Addr) (c0_3 : Nat) (l0_3 : List (S28)) (r1 : Int) (r2 : Int) (r3 : Int) (r4 : List (S28)) (w : World) (hr0_3 : Kd.C k28 w A0_3 l0_3.length l0_3) (hc0_3 : l0_3.length ≤ c0_3) (h : r2_Copy.f k a0_0 a0_1 a0_2 l0_3 = some (r1, r2, r3, r4)),
  Calls Try.prog 99 #[.agg #[.int .i64 a0_0, .int .i64 a0_1, .int .i64 a0_2, .slice A0_3 l0_3.length c0_3]] w fun e w' => ∃ v3_ : Value, e = .returned (.agg #[.int .i64 r1, .int .i64 r2, .int .i64 r3, v3_]) ∧ Kd.R k28 28 w' w.heap.size (fun _ => True) v3_ r4 ∧ Below w.heap.size w w' := by
 induction k using Nat.strongRecOn with
 | _ k ih =>
 intro a0_0 a0_1 a0_2 A0_3 c0_3 l0_3 r1 r2 r3 r4 w hr0_3 hc0_3 h
 cases k with
 | zero => exact absurd h (by simp [r2_Copy.f])
 | succ k =>
 simp only [r2_Copy.f] at h
 have hu28 := Try.underlying28
 have HR0_3 := Aside0.mk hr0_3
 have HC0_3 := Aside0.mk hc0_3
 clear hr0_3 hc0_3
 have HB := Aside0.mk (Below.refl w.heap.size w)
 have H : (r2_Copy.l0 k 0 a0_0 a0_1 a0_2 l0_3 a0_0 a0_1 a0_2 ([] : List (S28))) = some (r1, r2, r3, r4) := h
 clear h
 have H' := Aside0.mk H
 clear H
 go_enter Try.func99, Try.ntmps99
 go_wp2_with (first | ((with_reducible refine gate_dst (N := 1) rfl ?_); refine bx 1 rfl rfl #[.int .i64 a0_0, .int .i64 a0_1, .int .i64 a0_2, .slice A0_3 l0_3.length c0_3] 28 ?_; intro gb767 hg w2 hbox hb; have BK767 := Aside0.mk (hbox); have GE767 := ge HB hg; replace HB := sb HB hb; clear hb hbox hg) | ((with_reducible refine gate_dst (N := 2) rfl ?_); refine bx 2 rfl rfl #[.int .i64 0, .int .i64 0, .int .i64 0, .slice none 0 0] 28 ?_; intro gb768 hg w3 hbox hb; have BK768 := Aside0.mk (hbox); have GE768 := ge HB hg; have NB767_768 := Aside0.mk ((by rw [hg]; exact Nat.ne_of_lt (blk_lt (kk BK767)) : gb767 ≠ gb768)); have NB768_767 := Aside0.mk ((by rw [hg]; exact Nat.ne_of_gt (blk_lt (kk BK767)) : gb768 ≠ gb767)); replace BK767 := kb BK767 hb; replace HB := sb HB hb; clear hb hbox hg; have hnb4 := NB767_768.out; have hnc4 := NB768_767.out; obtain ⟨hcz5_0, hcz5_1, hcz5_2, hcz5_3, hfz5_0, hfz5_1, hfz5_2, hfz5_3⟩ := cf4 BK767.out) | ((with_reducible refine gate_dst (N := 3) rfl ?_); refine bx 3 rfl rfl #[.int .i64 0, .int .i64 0, .int .i64 0, .slice none 0 0] 28 ?_; intro gb769 hg w6 hbox hb; have BK769 := Aside0.mk (hbox); have GE769 := ge HB hg; have NB767_769 := Aside0.mk ((by rw [hg]; exact Nat.ne_of_lt (blk_lt (kk BK767)) : gb767 ≠ gb769)); have NB769_767 := Aside0.mk ((by rw [hg]; exact Nat.ne_of_gt (blk_lt (kk BK767)) : gb769 ≠ gb767)); have NB768_769 := Aside0.mk ((by rw [hg]; exact Nat.ne_of_lt (blk_lt (kk BK768)) : gb768 ≠ gb769)); have NB769_768 := Aside0.mk ((by rw [hg]; exact Nat.ne_of_gt (blk_lt (kk BK768)) : gb769 ≠ gb768)); replace BK767 := kb BK767 hb; replace BK768 := kb BK768 hb; replace HB := sb HB hb; clear hb hbox hg; have hnb7 := NB769_767.out; have hnc7 := NB767_769.out; have hnb8 := NB769_768.out; have hnc8 := NB768_769.out; obtain ⟨hcz9_0, hcz9_1, hcz9_2, hcz9_3, hfz9_0, hfz9_1, hfz9_2, hfz9_3⟩ := cf4 BK769.out))
 go_loopg [4] k (fun kq v4 w' => ∃ (x4_1 : Int) (x770003_1 : List (S28)) (u770003 : Value), v4 = .int .i64 x4_1 ∧ Aside0 (r2_Copy.l0 kq x4_1 a0_0 a0_1 a0_2 l0_3 a0_0 a0_1 a0_2 x770003_1 = some (r1, r2, r3, r4)) ∧ Aside0 (kq ≤ k) ∧ Aside0 (Kd.R k28 28 w' w.heap.size (fun k_ => k_ ≠ gb767 ∧ k_ ≠ gb768 ∧ k_ ≠ gb769) u770003 x770003_1) ∧ Aside0 (w'.heap[gb767]? = some (.cells #[.int .i64 a0_0, .int .i64 a0_1, .int .i64 a0_2, (.slice A0_3 l0_3.length c0_3)] 28 (0, 0))) ∧ Aside0 (w'.heap[gb768]? = some (.cells #[.int .i64 0, .int .i64 0, .int .i64 0, (.slice none 0 0)] 28 (0, 0))) ∧ Aside0 (w'.heap[gb769]? = some (.cells #[.int .i64 a0_0, .int .i64 a0_1, .int .i64 a0_2, u770003] 28 (0, 0))) ∧ Aside0 (Below w.heap.size w w'))
 case atStart => exact ⟨(0), (([] : List (S28))), (.slice none 0 0), rs, H', ⟨Nat.le_refl _⟩, ⟨by first | exact Kd.R_nil _ _ _ _ _ | exact Kd.N_nil _ _ _ _ _ | exact Kd.V_nil _ _ _ _ _ | exact Kd.Q_nil _ _ _ _ _ | exact Kd.S_nil _ _ _ _ _⟩, ⟨kk BK767⟩, ⟨kk BK768⟩, ⟨by (with_reducible repeat (first | refine kdN ?_ _ | refine kdr ?_ | refine kal ?_ _)); refine blk_put (cs := #[.int .i64 a0_0, .int .i64 a0_1, .int .i64 a0_2, .slice none 0 0]) ?_ 3 _ rfl; (with_reducible repeat (first | refine kdN ?_ _ | refine kdr ?_ | refine kal ?_ _)); refine blk_put (cs := #[.int .i64 a0_0, .int .i64 a0_1, .int .i64 0, .slice none 0 0]) ?_ 2 _ rfl; (with_reducible repeat (first | refine kdN ?_ _ | refine kdr ?_ | refine kal ?_ _)); refine blk_put (cs := #[.int .i64 a0_0, .int .i64 0, .int .i64 0, .slice none 0 0]) ?_ 1 _ rfl; (with_reducible repeat (first | refine kdN ?_ _ | refine kdr ?_ | refine kal ?_ _)); refine blk_put (cs := #[.int .i64 0, .int .i64 0, .int .i64 0, .slice none 0 0]) ?_ 0 _ rfl; (with_reducible repeat (first | refine kdN ?_ _ | refine kdr ?_ | refine kal ?_ _)); exact BK769.out⟩, ⟨bb HB⟩⟩
 case round =>
  clear H'
  try clear p2
  try clear c4
  try clear c7
  try clear c8
  try clear c9
  try clear hcz5_0 hcz5_1 hcz5_2 hcz5_3
  try clear hcz9_0 hcz9_1 hcz9_2 hcz9_3
  try clear hfz5_0 hfz5_1 hfz5_2 hfz5_3
  try clear hfz9_0 hfz9_1 hfz9_2 hfz9_3
  obtain ⟨x4_1, x770003_1, u770003, rfl, HA, HK1, HO_770003, BK767, BK768, BK769, HB⟩ := hrel
  cases gk with
  | zero => exact absurd HA.out (by simp [r2_Copy.l0])
  | succ k1 =>
   have H := HA.out
   clear HA
   simp only [r2_Copy.l0] at H
   by_cases c10 : x4_1 < (l0_3.length : Int)
   rotate_left
   ·rw [if_neg c10] at H
    have c10b0 : decide (x4_1 < (l0_3.length : Int)) = false := decide_eq_false c10
    clear c10
    simp only [Option.some.injEq, Prod.mk.injEq] at H
    obtain ⟨rfl, rfl, rfl, rfl⟩ := H
    have hnb23 := NB767_768.out
    have hnc23 := NB768_767.out
    have hnb24 := NB767_769.out
    have hnc24 := NB769_767.out
    obtain ⟨hcz25_0, hcz25_1, hcz25_2, hcz25_3, hfz25_0, hfz25_1, hfz25_2, hfz25_3⟩ := cf4 BK767.out
    have hnb26 := NB769_768.out
    have hnc26 := NB768_769.out
    obtain ⟨hcz27_0, hcz27_1, hcz27_2, hcz27_3, hfz27_0, hfz27_1, hfz27_2, hfz27_3⟩ := cf4 BK769.out
    obtain ⟨hcz28_0, hcz28_1, hcz28_2, hcz28_3, hfz28_0, hfz28_1, hfz28_2, hfz28_3⟩ := cf4 BK768.out
    obtain ⟨Ao29, co29, eo29⟩ := Kd.R_slice HO_770003.out
    subst eo29
    go_wp2
    refine bodyPost_ret (results_cell_row rfl _ _ gb768 28 #[.int .i64 a0_0, .int .i64 a0_1, .int .i64 a0_2, .slice Ao29 x770003_1.length co29] (0, 0) _ rfl (by (with_reducible repeat (first | refine kdN ?_ _ | refine kdr ?_ | refine kal ?_ _)); refine blk_put (cs := #[.int .i64 a0_0, .int .i64 a0_1, .int .i64 a0_2, .slice none 0 0]) ?_ 3 _ rfl; (with_reducible repeat (first | refine kdN ?_ _ | refine kdr ?_ | refine kal ?_ _)); refine blk_put (cs := #[.int .i64 a0_0, .int .i64 a0_1, .int .i64 0, .slice none 0 0]) ?_ 2 _ rfl; (with_reducible repeat (first | refine kdN ?_ _ | refine kdr ?_ | refine kal ?_ _)); refine blk_put (cs := #[.int .i64 a0_0, .int .i64 0, .int .i64 0, .slice none 0 0]) ?_ 1 _ rfl; (with_reducible repeat (first | refine kdN ?_ _ | refine kdr ?_ | refine kal ?_ _)); refine blk_put (cs := #[.int .i64 0, .int .i64 0, .int .i64 0, .slice none 0 0]) ?_ 0 _ rfl; (with_reducible repeat (first | refine kdN ?_ _ | refine kdr ?_ | refine kal ?_ _)); exact BK768.out) Try.underlying28 rfl (by kernel_rfl)) rfl ?_
    exact ⟨_, rr, by (with_reducible repeat (first | apply Kd.R_alloc | apply Kd.R_drewN | apply Kd.R_drew)); exact Kd.R_mono (Kd.R_far (p := ⟨gb768, 3, none⟩) (Kd.R_far (p := ⟨gb768, 2, none⟩) (Kd.R_far (p := ⟨gb768, 1, none⟩) (Kd.R_far (p := ⟨gb768, 0, none⟩) (Kd.R_mono HO_770003.out (fun k_ hk => (⟨hk, hk.2.1⟩ : _ ∧ k_ ≠ gb768))) (fun _ hk => hk.2) (.int .i64 a0_0)) (fun _ hk => hk.2) (.int .i64 a0_1)) (fun _ hk => hk.2) (.int .i64 a0_2)) (fun _ hk => hk.2) (.slice Ao29 x770003_1.length co29)) (fun _ hk => trivial), bb HB⟩
   rw [if_pos c10] at H
   have c10b0 : decide (x4_1 < (l0_3.length : Int)) = true := decide_eq_true c10
   clear c10
   by_cases c11 : 0 ≤ x4_1
   rotate_left
   ·rw [if_neg c11] at H
    exact absurd H (by simp)
   rw [if_pos c11] at H
   have c11b0 : decide (0 ≤ x4_1) = true := decide_eq_true c11
   clear c11
   replace H := Option.bind_eq_some_iff.mp H
   obtain ⟨⟨t771, t772, t773, t774⟩, A120, H⟩ := H
   replace H : (if x770003_1.length < 2932031007402 then (r2_Copy.l0 k1 (wrap64 (x4_1 + 1)) a0_0 a0_1 a0_2 l0_3 a0_0 a0_1 a0_2 (x770003_1 ++ [(⟨t771, t772, t773, t774⟩ : S28)])) else (none)) = some (r1, r2, r3, r4) := H
   have A12 := Aside0.mk A120
   clear A120
   by_cases c13 : x770003_1.length < 2932031007402
   rotate_left
   ·rw [if_neg c13] at H
    exact absurd H (by simp)
   rw [if_pos c13] at H
   have LMc13 := Aside0.mk c13
   clear c13
   obtain ⟨y777, hy777⟩ : ∃ y_ : List (S28), y_ = (x770003_1 ++ [(⟨t771, t772, t773, t774⟩ : S28)]) := ⟨_, rfl⟩
   replace H : (r2_Copy.l0 k1 (wrap64 (x4_1 + 1)) a0_0 a0_1 a0_2 l0_3 a0_0 a0_1 a0_2 y777) = some (r1, r2, r3, r4) := by first | (rw [hy777]; with_reducible exact H) | (have H2_ := (Option.bind_some _ _).symm.trans H; rw [hy777]; with_reducible exact H2_) | (have H2_ := (Option.bind_some _ _).symm.trans H; with_reducible exact H2_) | with_reducible exact H | (rw [hy777]; exact H) | exact H
   have Ny777 := Aside0.mk hy777
   clear hy777
   have H' := Aside0.mk H
   clear H
   have hnb14 := NB767_768.out
   have hnc14 := NB768_767.out
   have hnb15 := NB767_769.out
   have hnc15 := NB769_767.out
   obtain ⟨hcz16_0, hcz16_1, hcz16_2, hcz16_3, hfz16_0, hfz16_1, hfz16_2, hfz16_3⟩ := cf4 BK767.out
   try go_wp2
   replace HO_770003 := Aside0.mk (Kd.R_drew HO_770003.out)
   replace BK767 := Aside0.mk (kdr BK767.out)
   replace BK768 := Aside0.mk (kdr BK768.out)
   replace BK769 := Aside0.mk (kdr BK769.out)
   replace HB := Aside0.mk (bd1 HB.out)
   have p770 : 0 ≤ (x4_1 : Int) := od
   have q770 : x4_1 < (l0_3.length : Int) := od
   obtain ⟨ad770, A770_3, c770_3, e770, hx770_0, hx770_1, hx770_2, hx770_3, hl770_3, hi770_3⟩ := at_T28 HR0_3.out x4_1 p770 q770
   have hw770_3 := hx770_3
   have hw770_2 := hx770_2
   have hw770_1 := hx770_1
   have hw770_0 := hx770_0
   cases e770
   replace hx770_0 := bcell HB.out hx770_0
   replace hx770_1 := bcell HB.out hx770_1
   replace hx770_2 := bcell HB.out hx770_2
   replace hx770_3 := bcell HB.out hx770_3
   have HR770_3 := Aside0.mk hi770_3
   have HC770_3 := Aside0.mk hl770_3
   clear hi770_3 hl770_3
   replace p770 := eq_true p770
   replace q770 := eq_true q770
   refine start_ (n := 12) (S := fun w' => w'.cell? ⟨gb769, 0, none⟩ = some (.int .i64 a0_0) ∧ w'.cell? ⟨gb769, 1, none⟩ = some (.int .i64 a0_1) ∧ w'.cell? ⟨gb769, 2, none⟩ = some (.int .i64 a0_2) ∧ w'.cell? ⟨gb769, 3, none⟩ = some (u770003) ∧ w'.cell? ⟨gb767, 0, none⟩ = some (.int .i64 a0_0) ∧ w'.cell? ⟨gb767, 1, none⟩ = some (.int .i64 a0_1) ∧ w'.cell? ⟨gb767, 2, none⟩ = some (.int .i64 a0_2) ∧ w'.cell? ⟨gb767, 3, none⟩ = some (.slice (some ad770) l0_3.length c0_3) ∧ w'.cell? (ad770.add ((x4_1).toNat * 4)) = some (.int .i64 ((rd_T28 l0_3 x4_1).f0)) ∧ w'.cell? ⟨(ad770.add ((x4_1).toNat * 4)).block, (ad770.add ((x4_1).toNat * 4)).off + 1, none⟩ = some (.int .i64 ((rd_T28 l0_3 x4_1).f1)) ∧ w'.cell? ⟨(ad770.add ((x4_1).toNat * 4)).block, (ad770.add ((x4_1).toNat * 4)).off + 2, none⟩ = some (.int .i64 ((rd_T28 l0_3 x4_1).f2)) ∧ w'.cell? ⟨(ad770.add ((x4_1).toNat * 4)).block, (ad770.add ((x4_1).toNat * 4)).off + 3, none⟩ = some (.slice A770_3 ((rd_T28 l0_3 x4_1).f3).length c770_3)) (ds := [11]) #[false, false, false, false, false, false, false, false, false, false, false, false] (by kernel_rfl) rfl rfl ⟨(blk_cell BK769.out 0).trans rfl, (blk_cell BK769.out 1).trans rfl, (blk_cell BK769.out 2).trans rfl, (blk_cell BK769.out 3).trans rfl, (blk_cell BK767.out 0).trans rfl, (blk_cell BK767.out 1).trans rfl, (blk_cell BK767.out 2).trans rfl, (blk_cell BK767.out 3).trans rfl, (bcell HB.out hw770_0), (bcell HB.out hw770_1), (bcell HB.out hw770_2), (bcell HB.out hw770_3)⟩ (fun hHeld => ?_); refine with_tabW r2_Copy.tab5 r2_Copy.bits5 (fun HT_ HW_ => ?_)
   generalize wr.drew = w17 at HO_770003 BK767 BK768 BK769 HB HR770_3 hx770_0 hx770_1 hx770_2 hx770_3 hHeld ⊢
   refine pT 0 19 (bl 12 1) HT_ rfl rfl ?_
   refine pT 2 21 (bl 12 5) HT_ rfl rfl ?_
   refine pT 4 23 (bl 12 21) HT_ rfl rfl ?_
   refine tk (i := 1) (N := some 20) (bl 12 23) rfl rfl (take_ofW HT_.out HW_.out (by kernel_rfl)) hHeld ?_
   refine tk (i := 3) (N := some 22) (bl 12 31) rfl rfl (take_ofW HT_.out HW_.out (by kernel_rfl)) hHeld ?_
   refine pT 5 24 (bl 12 63) HT_ rfl rfl ?_
   refine tk (i := 6) (N := some 25) (bl 12 127) rfl rfl (take_ofW HT_.out HW_.out (by kernel_rfl)) hHeld ?_
   refine one_ (i := 7) (N := some 26) (bl 12 255) rfl rfl (one_of HT_.out (by kernel_rfl)) (by decide) (fun K hK => ?_)
   refine gO Try.func99 #[.agg #[.int .i64 ((rd_T28 l0_3 x4_1).f0), .int .i64 ((rd_T28 l0_3 x4_1).f1), .int .i64 ((rd_T28 l0_3 x4_1).f2), .slice A770_3 ((rd_T28 l0_3 x4_1).f3).length c770_3]] (by rfl) rfl rfl ?_
   with_reducible refine (ih k1 (by have := HK1.out; omega) ((rd_T28 l0_3 x4_1).f0) ((rd_T28 l0_3 x4_1).f1) ((rd_T28 l0_3 x4_1).f2) _ _ ((rd_T28 l0_3 x4_1).f3) t771 t772 t773 t774 _ ?side1 ?side2 A12.out).mono ?_
   (case side1 => exact cb HR770_3 HB)
   (case side2 => exact HC770_3.out)
   rintro e w18 ⟨v775, rfl, ho0, hb⟩
   refine ⟨_, rfl, ?_⟩
   have HO776 := Aside0.mk (Kd.R_lower (Kd.R_newB (Kd.R_newB (Kd.R_newB (Kd.R_new' ho0 (Kd.R_lt (iR HO_770003))) (kk BK767)) (kk BK768)) (kk BK769)) (bsz (bb HB)))
   replace HO_770003 := Aside0.mk (Kd.R_elder' (iR HO_770003) (Kd.R_base ho0) hb)
   replace BK767 := kb BK767 hb
   replace BK768 := kb BK768 hb
   replace BK769 := kb BK769 hb
   replace HB := sb HB hb
   (try clear hb)
   (try clear hb2)
   (try clear hk)
   (try clear hi)
   (try clear ho0)
   obtain ⟨Ao20, co20, eo20⟩ := Kd.R_slice HO776.out
   (first | subst eo20 | (injection eo20 with f1_ f2_ f3_; have f4_ := f1_.symm; have f5_ := f3_.symm; clear f1_ f2_ f3_; subst f4_; subst f5_))
   refine hK.out _ _ ⟨(blk_cell BK769.out 0).trans rfl, (blk_cell BK769.out 1).trans rfl, (blk_cell BK769.out 2).trans rfl, (blk_cell BK769.out 3).trans rfl, (blk_cell BK767.out 0).trans rfl, (blk_cell BK767.out 1).trans rfl, (blk_cell BK767.out 2).trans rfl, (blk_cell BK767.out 3).trans rfl, (bcell HB.out hw770_0), (bcell HB.out hw770_1), (bcell HB.out hw770_2), (bcell HB.out hw770_3)⟩ (fun hHeld => ?_)
   clear hK K
   refine nm 26 ?_
   refine one_ (i := 8) (N := some 27) (bl 12 511) rfl rfl (one_of HT_.out (by kernel_rfl)) (by decide) (fun K hK => ?_)
   refine value_ (w1 := ?_) (v := ?_) (by rfl) rfl ?_ ?_
   rotate_left 2
   ·go_simp
    constructor
    ·rfl
    ·rfl
   refine hK.out _ _ ⟨(blk_cell (kal BK769.out _) 0).trans rfl, (blk_cell (kal BK769.out _) 1).trans rfl, (blk_cell (kal BK769.out _) 2).trans rfl, (blk_cell (kal BK769.out _) 3).trans rfl, (blk_cell (kal BK767.out _) 0).trans rfl, (blk_cell (kal BK767.out _) 1).trans rfl, (blk_cell (kal BK767.out _) 2).trans rfl, (blk_cell (kal BK767.out _) 3).trans rfl, (World.cell?_alloc_lt _ _ _ (World.block_lt_of_cell? _ _ ((bcell HB.out hw770_0)))).trans ((bcell HB.out hw770_0)), (World.cell?_alloc_lt _ _ _ (World.block_lt_of_cell? _ _ ((bcell HB.out hw770_1)))).trans ((bcell HB.out hw770_1)), (World.cell?_alloc_lt _ _ _ (World.block_lt_of_cell? _ _ ((bcell HB.out hw770_2)))).trans ((bcell HB.out hw770_2)), (World.cell?_alloc_lt _ _ _ (World.block_lt_of_cell? _ _ ((bcell HB.out hw770_3)))).trans ((bcell HB.out hw770_3))⟩ (fun hHeld => ?_)
   clear hK K
   refine nm 27 ?_
   refine one_ (i := 9) (N := some 28) (bl 12 1023) rfl rfl (one_of HT_.out (by kernel_rfl)) (by decide) (fun K hK => ?_)
   refine Kd.R_append_step k28 (w0 := w) w.heap.size (by rfl) (.tmp 20) (.tmp 27) 26 28 (.agg #[(.int .i64 0), (.int .i64 0), (.int .i64 0), (.slice none 0 0)]) 48 rfl Try.underlying26 info28 rfl (by decide) (by omega) u770003 x770003_1 (⟨t771, t772, t773, t774⟩ : S28) [.int .i64 t771, .int .i64 t772, .int .i64 t773, .slice Ao20 t774.length co20] (fun k_ => k_ ≠ gb767 ∧ k_ ≠ gb768 ∧ k_ ≠ gb769) (fun k_ => ((fun k_ => k_ ≠ gb767 ∧ k_ ≠ gb768 ∧ k_ ≠ gb769)) k_ ∧ some k_ ≠ (u770003 : Value).ownBlock) rfl rfl ?aP (fun _ hk => hk) ?aF ?aO ?aB ?aS ?aL ?_
   (case aP => exact k28_mkM _ _ _ (⟨t771, t772, t773, t774⟩ : S28) (Kd.R_mono (HO776.out) (fun k_ hk => ⟨⟨hk.1.1.2, ⟨hk.1.2, hk.2⟩⟩, hk.1.1.1.2⟩)))
   (case aB => exact (bb HB))
   (case aF => exact (fun k_ hk => ⟨Kd.freshB (kk BK767) k_ hk, Kd.freshB (kk BK768) k_ hk, Kd.freshB (kk BK769) k_ hk⟩))
   (case aO => exact (by (with_reducible repeat (first | apply Kd.R_alloc | apply Kd.R_drewN | apply Kd.R_drew)); exact Kd.R_mono HO_770003.out (fun _ hk => ⟨hk.1.1, ⟨hk.1.2.1, hk.1.2.2⟩⟩)))
   (case aS => exact (bsz (bb HB)))
   (case aL => have := LMc13.out; omega)
   intro v778 w19 ho hb hg hat
   rw [← Ny777.out] at ho
   have HO779 := Aside0.mk (ho)
   replace BK767 := Aside0.mk (blk_grown (kk BK767) hg (Kd.R_away HO_770003.out (fun _ hk => hk.1.1)))
   replace BK768 := Aside0.mk (blk_grown (kk BK768) hg (Kd.R_away HO_770003.out (fun _ hk => hk.1.2.1)))
   replace BK769 := Aside0.mk (blk_grown (kk BK769) hg (Kd.R_away HO_770003.out (fun _ hk => hk.1.2.2)))
   replace HB := Aside0.mk (hb)
   clear HO_770003 HO776
   clear ho hb hg hat
   obtain ⟨Ao21, co21, eo21⟩ := Kd.R_slice HO779.out
   (first | subst eo21 | (injection eo21 with f1_ f2_ f3_; have f4_ := f1_.symm; have f5_ := f3_.symm; clear f1_ f2_ f3_; subst f4_; subst f5_))
   refine hK.out _ _ ⟨(blk_cell BK769.out 0).trans rfl, (blk_cell BK769.out 1).trans rfl, (blk_cell BK769.out 2).trans rfl, (blk_cell BK769.out 3).trans rfl, (blk_cell BK767.out 0).trans rfl, (blk_cell BK767.out 1).trans rfl, (blk_cell BK767.out 2).trans rfl, (blk_cell BK767.out 3).trans rfl, (bcell HB.out hw770_0), (bcell HB.out hw770_1), (bcell HB.out hw770_2), (bcell HB.out hw770_3)⟩ (fun hHeld => ?_)
   clear hK K
   refine nm 28 ?_
   refine pT 10 29 (bl 12 2047) HT_ rfl rfl ?_
   refine last_ (i := 11) (N := none) (bl 12 4095) rfl rfl (one_of HT_.out (by kernel_rfl)) (by decide) (fun K hK => ?_)
   have hs22 : w19.cell? ⟨gb769, 3, none⟩ = some (u770003) := (blk_cell BK769.out 3).trans rfl
   have hfs22 := blk_frozen BK769.out 3
   have hns22_0 := NB767_769.out
   have hns22_1 := NB768_769.out
   have hms22_0 := NB769_767.out
   have hms22_1 := NB769_768.out
   refine skip_ (w1 := ?_) (by rfl) rfl ?_ ?_
   rotate_left
   ·go_simp
    rfl
   refine hK.out _ _ ?_
   clear hK K
   refine done_ (done_of HT_.out (by kernel_rfl)) ?_
   try go_wp2
   go_roundg k1
   case measure => have := HK1.out; omega
   case rel => exact ⟨(wrap64 (x4_1 + 1)), (y777), (.slice Ao21 y777.length co21), rs, H', ⟨by have := HK1.out; omega⟩, ⟨by (with_reducible repeat (first | apply Kd.R_alloc | apply Kd.R_drewN | apply Kd.R_drew)); exact Kd.R_mono (Kd.R_far (p := ⟨gb769, 3, none⟩) (Kd.R_mono HO779.out (fun k_ hk => (⟨hk, hk.2.2⟩ : _ ∧ k_ ≠ gb769))) (fun _ hk => hk.2) (.slice Ao21 y777.length co21)) (fun _ hk => ⟨hk.1.1, ⟨hk.1.2.1, hk.1.2.2⟩⟩)⟩, ⟨kk BK767⟩, ⟨kk BK768⟩, ⟨by (with_reducible repeat (first | refine kdN ?_ _ | refine kdr ?_ | refine kal ?_ _)); refine blk_put (cs := #[.int .i64 a0_0, .int .i64 a0_1, .int .i64 a0_2, u770003]) ?_ 3 _ rfl; (with_reducible repeat (first | refine kdN ?_ _ | refine kdr ?_ | refine kal ?_ _)); exact BK769.out⟩, ⟨bb HB⟩⟩
mutual
def r3_CopyRows.l0 : Nat → List (S64) → List (S64) → Int → Option ((List (S64)))
 | 0, _, _, _ => none
 | k + 1, x0, x3, x4 => if x4 < (x0.length : Int) then (if 0 ≤ x4 then ((r3_CopyRows.f k ((rd_T64 x0 x4).f3)).bind fun t783 => ((r3_CopyRows.f k ((rd_T64 x0 x4).f4)).bind fun t787 => (r3_CopyRows.l1 k x0 x3 x4 0 ((rd_T64 x0 x4).f0) ((rd_T64 x0 x4).f1) ([] : List (S28)) t783 t787))) else (none)) else (some x3)
def r3_CopyRows.l1 : Nat → List (S64) → List (S64) → Int → Int → Int → Int → List (S28) → List (S64) → List (S64) → Option ((List (S64)))
 | 0, _, _, _, _, _, _, _, _, _ => none
 | k + 1, x0, x3, x4, x6, x791000, x791001, x791002, x791003, x791004 => if 0 ≤ x4 then (if x4 < (x0.length : Int) then (if x6 < (((rd_T64 x0 x4).f2).length : Int) then (if 0 ≤ x6 then ((r2_Copy.f k ((rd_T28 ((rd_T64 x0 x4).f2) x6).f0) ((rd_T28 ((rd_T64 x0 x4).f2) x6).f1) ((rd_T28 ((rd_T64 x0 x4).f2) x6).f2) ((rd_T28 ((rd_T64 x0 x4).f2) x6).f3)).bind fun bt794 => (if x791002.length < 2932031007402 then (r3_CopyRows.l1 k x0 x3 x4 (wrap64 (x6 + 1)) x791000 x791001 (x791002 ++ [(⟨bt794.1, bt794.2.1, bt794.2.2.1, bt794.2.2.2⟩ : S28)]) x791003 x791004) else (none))) else (none)) else (if x3.length < 1599289640401 then (r3_CopyRows.l0 k x0 (x3 ++ [(⟨x791000, x791001, x791002, x791003, x791004⟩ : S64)]) (wrap64 (x4 + 1))) else (none))) else (none)) else (none)
def r3_CopyRows.f : Nat → List (S64) → Option ((List (S64)))
 | 0, _ => none
 | k + 1, l0 => r3_CopyRows.l0 k l0 ([] : List (S64)) 0
end
def r3_CopyRows.T5 : Bool × List (List Nat × List Nat) := (true, [([], []), ([], []), ([0, 1], [0, 1]), ([2], [2]), ([3], [3]), ([], []), ([], []), ([5, 6], [5, 6]), ([7], [7]), ([8], [8]), ([], []), ([], []), ([10, 11], [10, 11]), ([12], [12]), ([13], [13]), ([14], [14]), ([], []), ([], []), ([16, 17], [16, 17]), ([18], [18]), ([19], [19]), ([20, 15], [20]), ([4, 9, 15, 21], [4, 9, 15, 21]), ([], []), ([23, 22, 21, 0, 1, 2, 3, 4, 5, 6, 7, 8, 9, 10, 11, 12, 13, 14, 15, 16, 17, 18, 19, 20, 21, 22, 23], [22, 23])])
def r3_CopyRows.B5 : List Nat := [0, 0, 3, 7, 15, 0, 0, 96, 224, 480, 0, 0, 3072, 7168, 15360, 31744, 0, 0, 196608, 458752, 983040, 2096128, 4194303, 0, 16777215]
theorem r3_CopyRows.tab5 : rtab .any (opsOf Try.f75 5) = r3_CopyRows.T5 := by kernel_rfl
theorem r3_CopyRows.bits5 : waitsOk r3_CopyRows.T5.2 r3_CopyRows.B5 = true := by kernel_rfl
def r3_CopyRows.T9 : Bool × List (List Nat × List Nat) := (true, [([], []), ([0], [0]), ([], []), ([], []), ([2, 3], [2, 3]), ([4], [4]), ([5], [5]), ([], []), ([6, 7], [6, 7]), ([8], [8]), ([9], [9]), ([10], [10]), ([1, 11, 10], [1, 11]), ([0, 1, 2, 3, 4, 5, 6, 7, 8, 9, 10, 11, 12], []), ([13, 12, 12, 0, 1, 2, 3, 4, 5, 6, 7, 8, 9, 10, 11, 12], [12, 13])])
def r3_CopyRows.B9 : List Nat := [0, 1, 0, 0, 12, 28, 60, 0, 252, 508, 1020, 2044, 4095, 8191, 16383]
theorem r3_CopyRows.tab9 : rtab .any (opsOf Try.f75 9) = r3_CopyRows.T9 := by kernel_rfl
theorem r3_CopyRows.bits9 : waitsOk r3_CopyRows.T9.2 r3_CopyRows.B9 = true := by kernel_rfl
theorem r3_CopyRows.calls (k : Nat) : ∀ (A0 : Option Addr) (c0 : Nat) (l0 : List (S64)) (r : List (S64)) (w : World) (hr0 : Kd.C k64 w A0 l0.length l0) (hc0 : l0.length ≤ c0) (h : r3_CopyRows.f k l0 = some r),
  Calls Try.prog 75 #[.slice A0 l0.length c0] w fun e w' => ∃ v0_ : Value, e = .returned (v0_) ∧ Kd.R k64 64 w' w.heap.size (fun _ => True) v0_ r ∧ Below w.heap.size w w' := by
 induction k using Nat.strongRecOn with
 | _ k ih =>
 intro A0 c0 l0 r w hr0 hc0 h
 cases k with
 | zero => exact absurd h (by simp [r3_CopyRows.f])
 | succ k =>
 simp only [r3_CopyRows.f] at h
 have hu64 := Try.underlying64
 have hu28 := Try.underlying28
 have HR0 := Aside0.mk hr0
 have HC0 := Aside0.mk hc0
 clear hr0 hc0
 have HB := Aside0.mk (Below.refl w.heap.size w)
 have H : (r3_CopyRows.l0 k l0 ([] : List (S64)) 0) = some r := h
 clear h
 have H' := Aside0.mk H
 clear H
 go_enter Try.func75, Try.ntmps75
 go_wp2
 go_loopg [3, 4] k (fun kq v3 v4 w' => ∃ (x3_1 : List (S64)) (x4_1 : Int), v4 = .int .i64 x4_1 ∧ Aside0 (r3_CopyRows.l0 kq l0 x3_1 x4_1 = some r) ∧ Aside0 (kq ≤ k) ∧ Aside0 (Kd.R k64 64 w' w.heap.size (fun _ => True) v3 x3_1) ∧ Aside0 (Below w.heap.size w w'))
 case atStart => exact ⟨(([] : List (S64))), (0), rs, H', ⟨Nat.le_refl _⟩, ⟨by first | exact Kd.R_nil _ _ _ _ _ | exact Kd.N_nil _ _ _ _ _ | exact Kd.V_nil _ _ _ _ _ | exact Kd.Q_nil _ _ _ _ _ | exact Kd.S_nil _ _ _ _ _⟩, ⟨bb HB⟩⟩
 case round =>
  clear H'
  obtain ⟨x3_1, x4_1, rfl, HA, HK1, HO_3, HB⟩ := hrel
  cases gk with
  | zero => exact absurd HA.out (by simp [r3_CopyRows.l0])
  | succ k1 =>
   have H := HA.out
   clear HA
   simp only [r3_CopyRows.l0] at H
   by_cases c2 : x4_1 < (l0.length : Int)
   rotate_left
   ·rw [if_neg c2] at H
    have c2b0 : decide (x4_1 < (l0.length : Int)) = false := decide_eq_false c2
    clear c2
    obtain rfl := Option.some.inj H
    go_wp2
    go_ret
    exact ⟨_, rr, iR HO_3, bb HB⟩
   rw [if_pos c2] at H
   have c2b0 : decide (x4_1 < (l0.length : Int)) = true := decide_eq_true c2
   clear c2
   by_cases c3 : 0 ≤ x4_1
   rotate_left
   ·rw [if_neg c3] at H
    exact absurd H (by simp)
   rw [if_pos c3] at H
   have c3b0 : decide (0 ≤ x4_1) = true := decide_eq_true c3
   clear c3
   obtain ⟨t783, A4, H⟩ := be H
   obtain ⟨t787, A5, H⟩ := be H
   have H' := Aside0.mk H
   clear H
   try go_wp2
   replace HO_3 := Aside0.mk (Kd.R_drew HO_3.out)
   replace HB := Aside0.mk (bd1 HB.out)
   have p780 : 0 ≤ (x4_1 : Int) := od
   have q780 : x4_1 < (l0.length : Int) := od
   obtain ⟨ad780, A780_2, c780_2, A780_3, c780_3, A780_4, c780_4, e780, hx780_0, hx780_1, hx780_2, hx780_3, hx780_4, hl780_2, hi780_2, hl780_3, hi780_3, hl780_4, hi780_4⟩ := at_T64 HR0.out x4_1 p780 q780
   have hw780_4 := hx780_4
   have hw780_3 := hx780_3
   have hw780_2 := hx780_2
   have hw780_1 := hx780_1
   have hw780_0 := hx780_0
   cases e780
   replace hx780_0 := bcell HB.out hx780_0
   replace hx780_1 := bcell HB.out hx780_1
   replace hx780_2 := bcell HB.out hx780_2
   replace hx780_3 := bcell HB.out hx780_3
   replace hx780_4 := bcell HB.out hx780_4
   have HR780_2 := Aside0.mk hi780_2
   have HC780_2 := Aside0.mk hl780_2
   clear hi780_2 hl780_2
   have HR780_3 := Aside0.mk hi780_3
   have HC780_3 := Aside0.mk hl780_3
   clear hi780_3 hl780_3
   have HR780_4 := Aside0.mk hi780_4
   have HC780_4 := Aside0.mk hl780_4
   clear hi780_4 hl780_4
   replace p780 := eq_true p780
   replace q780 := eq_true q780
   refine start_ (n := 25) (S := fun w' => w'.cell? (ad780.add ((x4_1).toNat * 5)) = some (.int .i64 ((rd_T64 l0 x4_1).f0)) ∧ w'.cell? ⟨(ad780.add ((x4_1).toNat * 5)).block, (ad780.add ((x4_1).toNat * 5)).off + 1, none⟩ = some (.int .i64 ((rd_T64 l0 x4_1).f1)) ∧ w'.cell? ⟨(ad780.add ((x4_1).toNat * 5)).block, (ad780.add ((x4_1).toNat * 5)).off + 2, none⟩ = some (.slice A780_2 ((rd_T64 l0 x4_1).f2).length c780_2) ∧ w'.cell? ⟨(ad780.add ((x4_1).toNat * 5)).block, (ad780.add ((x4_1).toNat * 5)).off + 3, none⟩ = some (.slice A780_3 ((rd_T64 l0 x4_1).f3).length c780_3) ∧ w'.cell? ⟨(ad780.add ((x4_1).toNat * 5)).block, (ad780.add ((x4_1).toNat * 5)).off + 4, none⟩ = some (.slice A780_4 ((rd_T64 l0 x4_1).f4).length c780_4)) (ds := []) #[false, false, false, false, false, false, false, false, false, false, false, false, false, false, false, false, false, false, false, false, false, false, false, false, false] (by kernel_rfl) rfl rfl ⟨(bcell HB.out hw780_0), (bcell HB.out hw780_1), (bcell HB.out hw780_2), (bcell HB.out hw780_3), (bcell HB.out hw780_4)⟩ (fun hHeld => ?_); refine with_tabW r3_CopyRows.tab5 r3_CopyRows.bits5 (fun HT_ HW_ => ?_)
   generalize wr.drew = w6 at HO_3 HB HR780_2 HR780_3 HR780_4 hx780_0 hx780_1 hx780_2 hx780_3 hx780_4 hHeld ⊢
   refine pT 0 13 (bl 25 1) HT_ rfl rfl ?_
   refine pT 1 14 (bl 25 3) HT_ rfl rfl ?_
   refine pT 2 15 (bl 25 7) HT_ rfl rfl ?_
   refine pT 3 16 (bl 25 15) HT_ rfl rfl ?_
   refine pT 5 18 (bl 25 47) HT_ rfl rfl ?_
   refine pT 6 19 (bl 25 111) HT_ rfl rfl ?_
   refine pT 7 20 (bl 25 239) HT_ rfl rfl ?_
   refine pT 8 21 (bl 25 495) HT_ rfl rfl ?_
   refine pT 10 23 (bl 25 1519) HT_ rfl rfl ?_
   refine pT 11 24 (bl 25 3567) HT_ rfl rfl ?_
   refine pT 12 25 (bl 25 7663) HT_ rfl rfl ?_
   refine pT 13 26 (bl 25 15855) HT_ rfl rfl ?_
   refine pT 16 29 (bl 25 81391) HT_ rfl rfl ?_
   refine pT 17 30 (bl 25 212463) HT_ rfl rfl ?_
   refine pT 18 31 (bl 25 474607) HT_ rfl rfl ?_
   refine pT 19 32 (bl 25 998895) HT_ rfl rfl ?_
   refine tk (i := 4) (N := some 17) (bl 25 998911) rfl rfl (take_ofW HT_.out HW_.out (by kernel_rfl)) hHeld ?_
   refine tk (i := 9) (N := some 22) (bl 25 999423) rfl rfl (take_ofW HT_.out HW_.out (by kernel_rfl)) hHeld ?_
   refine tk (i := 14) (N := some 27) (bl 25 1015807) rfl rfl (take_ofW HT_.out HW_.out (by kernel_rfl)) hHeld ?_
   refine tk (i := 20) (N := some 33) (bl 25 2064383) rfl rfl (take_ofW HT_.out HW_.out (by kernel_rfl)) hHeld ?_
   refine join_ (σ := Value × Value × Nat) 1 #[true, true, true, true, true, true, true, true, true, true, true, true, true, true, true, true, true, true, true, true, true, true, true, true, false] (fun s_ => [(28, s_.1), (34, s_.2.1), (5, .pointer (some ⟨s_.2.2, 0, none⟩)), (35, .agg #[.int .i64 ((rd_T64 l0 x4_1).f0), .int .i64 ((rd_T64 l0 x4_1).f1), .slice none 0 0, s_.1, s_.2.1])]) (fun s_ w' => (w'.cell? (ad780.add ((x4_1).toNat * 5)) = some (.int .i64 ((rd_T64 l0 x4_1).f0)) ∧ w'.cell? ⟨(ad780.add ((x4_1).toNat * 5)).block, (ad780.add ((x4_1).toNat * 5)).off + 1, none⟩ = some (.int .i64 ((rd_T64 l0 x4_1).f1)) ∧ w'.cell? ⟨(ad780.add ((x4_1).toNat * 5)).block, (ad780.add ((x4_1).toNat * 5)).off + 2, none⟩ = some (.slice A780_2 ((rd_T64 l0 x4_1).f2).length c780_2) ∧ w'.cell? ⟨(ad780.add ((x4_1).toNat * 5)).block, (ad780.add ((x4_1).toNat * 5)).off + 3, none⟩ = some (.slice A780_3 ((rd_T64 l0 x4_1).f3).length c780_3) ∧ w'.cell? ⟨(ad780.add ((x4_1).toNat * 5)).block, (ad780.add ((x4_1).toNat * 5)).off + 4, none⟩ = some (.slice A780_4 ((rd_T64 l0 x4_1).f4).length c780_4)) ∧ (Kd.R k64 64 w' w.heap.size (fun k_ => some k_ ≠ (s_.2.1 : Value).ownBlock ∧ some k_ ≠ (u3 : Value).ownBlock ∧ k_ ≠ s_.2.2) s_.1 t783) ∧ (Kd.R k64 64 w' w.heap.size (fun k_ => some k_ ≠ (s_.1 : Value).ownBlock ∧ some k_ ≠ (u3 : Value).ownBlock ∧ k_ ≠ s_.2.2) s_.2.1 t787) ∧ (Kd.R k64 64 w' w.heap.size (fun k_ => some k_ ≠ (s_.1 : Value).ownBlock ∧ some k_ ≠ (s_.2.1 : Value).ownBlock ∧ k_ ≠ s_.2.2) u3 x3_1) ∧ (w'.heap[s_.2.2]? = some (.cells #[.int .i64 0, .int .i64 0, .slice none 0 0, .slice none 0 0, .slice none 0 0] 64 (0, 0))) ∧ (w.heap.size ≤ s_.2.2) ∧ (w.heap.size ≤ s_.2.2) ∧ (Below w.heap.size w w')) ?_ ?_
   rotate_left
   ·intro hCont
    refine two_ (i := 15) (j := 23) (Ni := some 28) (Nj := some 5) #[true, true, true, true, true, true, true, true, true, true, true, true, true, true, true, true, true, true, true, true, true, false, false, false, false] #[true, true, true, true, true, true, true, true, true, true, true, true, true, true, true, false, true, true, true, true, true, false, false, true, false] rfl rfl rfl rfl (two_of HT_.out (by kernel_rfl)) (by decide) (by decide) (fun K hK => ?_) (fun K hK => ?_)
    ·skip
     refine gO Try.func75 #[.slice A780_3 ((rd_T64 l0 x4_1).f3).length c780_3] (by rfl) rfl rfl ?_
     with_reducible refine (ih k1 (by have := HK1.out; omega) _ _ ((rd_T64 l0 x4_1).f3) t783 _ ?side1 ?side2 A4.out).mono ?_
     (case side1 => exact cb HR780_3 HB)
     (case side2 => exact HC780_3.out)
     rintro e w7 ⟨v784, rfl, ho0, hb⟩
     refine ⟨_, rfl, ?_⟩
     have HO785 := Aside0.mk (Kd.R_lower (Kd.R_new' ho0 (Kd.R_lt (iR HO_3))) (bsz (bb HB)))
     replace HO_3 := Aside0.mk (Kd.R_elder' (iR HO_3) (Kd.R_base ho0) hb)
     replace HB := sb HB hb
     (try clear hb)
     (try clear hb2)
     (try clear hk)
     (try clear hi)
     (try clear ho0)
     refine hK.out _ _ ⟨(bcell HB.out hw780_0), (bcell HB.out hw780_1), (bcell HB.out hw780_2), (bcell HB.out hw780_3), (bcell HB.out hw780_4)⟩ (fun hHeld => ?_)
     clear hK K
     refine nm 28 ?_
     refine two_ (i := 21) (j := 23) (Ni := some 34) (Nj := some 5) #[true, true, true, true, true, true, true, true, true, true, true, true, true, true, true, true, true, true, true, true, true, true, false, false, false] #[true, true, true, true, true, true, true, true, true, true, true, true, true, true, true, true, true, true, true, true, true, false, false, true, false] rfl rfl rfl rfl (two_of HT_.out (by kernel_rfl)) (by decide) (by decide) (fun K hK => ?_) (fun K hK => ?_)
     ·skip
      refine gO Try.func75 #[.slice A780_4 ((rd_T64 l0 x4_1).f4).length c780_4] (by rfl) rfl rfl ?_
      with_reducible refine (ih k1 (by have := HK1.out; omega) _ _ ((rd_T64 l0 x4_1).f4) t787 _ ?side1 ?side2 A5.out).mono ?_
      (case side1 => exact cb HR780_4 HB)
      (case side2 => exact HC780_4.out)
      rintro e w8 ⟨v788, rfl, ho0, hb⟩
      refine ⟨_, rfl, ?_⟩
      have HO789 := Aside0.mk (Kd.R_lower (Kd.R_new' (Kd.R_new' ho0 (Kd.R_lt (iR HO_3))) (Kd.R_lt (iR HO785))) (bsz (bb HB)))
      replace HO_3 := Aside0.mk (Kd.R_elder' (iR HO_3) (Kd.R_base ho0) hb)
      replace HO785 := Aside0.mk (Kd.R_elder' (iR HO785) (Kd.R_base ho0) hb)
      replace HB := sb HB hb
      (try clear hb)
      (try clear hb2)
      (try clear hk)
      (try clear hi)
      (try clear ho0)
      obtain ⟨Ao9, co9, eo9⟩ := Kd.R_slice HO789.out
      (first | subst eo9 | (injection eo9 with f1_ f2_ f3_; have f4_ := f1_.symm; have f5_ := f3_.symm; clear f1_ f2_ f3_; subst f4_; subst f5_))
      obtain ⟨Ao10, co10, eo10⟩ := Kd.R_slice HO785.out
      (first | subst eo10 | (injection eo10 with f1_ f2_ f3_; have f4_ := f1_.symm; have f5_ := f3_.symm; clear f1_ f2_ f3_; subst f4_; subst f5_))
      refine hK.out _ _ ⟨(bcell HB.out hw780_0), (bcell HB.out hw780_1), (bcell HB.out hw780_2), (bcell HB.out hw780_3), (bcell HB.out hw780_4)⟩ (fun hHeld => ?_)
      clear hK K
      refine nm 34 ?_
      refine pT 22 35 (bl 25 8388607) HT_ rfl rfl ?_
      refine one_ (i := 23) (N := some 5) (bl 25 16777215) rfl rfl (one_of HT_.out (by kernel_rfl)) (by decide) (fun K hK => ?_)
      refine box_step ?hg (N := 5) ?hd (cs := #[.int .i64 0, .int .i64 0, .slice none 0 0, .slice none 0 0, .slice none 0 0]) (t := 64) ?hr ?_; (case hd => rfl); (case hg => rfl); (case hr => first | (go_simp; done) | (go_simp; rfl))
      intro gb790 hg w11 hbox hb
      have BK790 := Aside0.mk (hbox)
      have GW790 := ge HB hg
      have GE790 := ge HB hg
      replace HO_3 := Aside0.mk (Kd.R_below (Kd.R_elderB (iR HO_3) gb790 (Nat.le_of_eq hg.symm)) hb)
      replace HO785 := Aside0.mk (Kd.R_below (Kd.R_elderB (iR HO785) gb790 (Nat.le_of_eq hg.symm)) hb)
      replace HO789 := Aside0.mk (Kd.R_below (Kd.R_elderB (iR HO789) gb790 (Nat.le_of_eq hg.symm)) hb)
      replace HB := sb HB hb
      clear hb hbox hg
      refine hK.out _ _ ⟨(bcell HB.out hw780_0), (bcell HB.out hw780_1), (bcell HB.out hw780_2), (bcell HB.out hw780_3), (bcell HB.out hw780_4)⟩ (fun hHeld => ?_)
      clear hK K
      refine nm 5 ?_
      exact norm_ (by simp only [putAll, Act.put, List.setIfInBounds_toArray, List.set_cons_zero, List.set_cons_succ]) (hCont (.slice Ao10 t783.length co10, .slice Ao9 t787.length co9, gb790) _ ⟨hHeld, (by (with_reducible repeat (first | apply Kd.R_alloc | apply Kd.R_drewN | apply Kd.R_drew)); exact Kd.R_mono HO785.out (fun _ hk => ⟨hk.1.2, ⟨hk.1.1.2, hk.2⟩⟩)), (by (with_reducible repeat (first | apply Kd.R_alloc | apply Kd.R_drewN | apply Kd.R_drew)); exact Kd.R_mono HO789.out (fun _ hk => ⟨hk.1.2, ⟨hk.1.1.2, hk.2⟩⟩)), (by (with_reducible repeat (first | apply Kd.R_alloc | apply Kd.R_drewN | apply Kd.R_drew)); exact Kd.R_mono HO_3.out (fun _ hk => ⟨hk.1.1.2, ⟨hk.1.2, hk.2⟩⟩)), (kk BK790), GW790.out, GE790.out, (bb HB)⟩)
     ·skip
      refine box_step ?hg (N := 5) ?hd (cs := #[.int .i64 0, .int .i64 0, .slice none 0 0, .slice none 0 0, .slice none 0 0]) (t := 64) ?hr ?_; (case hd => rfl); (case hg => rfl); (case hr => first | (go_simp; done) | (go_simp; rfl))
      intro gb790 hg w8 hbox hb
      have BK790 := Aside0.mk (hbox)
      have GW790 := ge HB hg
      have GE790 := ge HB hg
      replace HO_3 := Aside0.mk (Kd.R_below (Kd.R_elderB (iR HO_3) gb790 (Nat.le_of_eq hg.symm)) hb)
      replace HO785 := Aside0.mk (Kd.R_below (Kd.R_elderB (iR HO785) gb790 (Nat.le_of_eq hg.symm)) hb)
      replace HB := sb HB hb
      clear hb hbox hg
      refine hK.out _ _ ⟨(bcell HB.out hw780_0), (bcell HB.out hw780_1), (bcell HB.out hw780_2), (bcell HB.out hw780_3), (bcell HB.out hw780_4)⟩ (fun hHeld => ?_)
      clear hK K
      refine nm 5 ?_
      refine one_ (i := 21) (N := some 34) (bl 25 12582911) rfl rfl (one_of HT_.out (by kernel_rfl)) (by decide) (fun K hK => ?_)
      refine gO Try.func75 #[.slice A780_4 ((rd_T64 l0 x4_1).f4).length c780_4] (by rfl) rfl rfl ?_
      with_reducible refine (ih k1 (by have := HK1.out; omega) _ _ ((rd_T64 l0 x4_1).f4) t787 _ ?side1 ?side2 A5.out).mono ?_
      (case side1 => exact cb HR780_4 HB)
      (case side2 => exact HC780_4.out)
      rintro e w9 ⟨v788, rfl, ho0, hb⟩
      refine ⟨_, rfl, ?_⟩
      have HO789 := Aside0.mk (Kd.R_lower (Kd.R_newB (Kd.R_new' (Kd.R_new' ho0 (Kd.R_lt (iR HO_3))) (Kd.R_lt (iR HO785))) (kk BK790)) (bsz (bb HB)))
      replace HO_3 := Aside0.mk (Kd.R_elder' (iR HO_3) (Kd.R_base ho0) hb)
      replace HO785 := Aside0.mk (Kd.R_elder' (iR HO785) (Kd.R_base ho0) hb)
      replace BK790 := kb BK790 hb
      replace HB := sb HB hb
      (try clear hb)
      (try clear hb2)
      (try clear hk)
      (try clear hi)
      (try clear ho0)
      obtain ⟨Ao10, co10, eo10⟩ := Kd.R_slice HO789.out
      (first | subst eo10 | (injection eo10 with f1_ f2_ f3_; have f4_ := f1_.symm; have f5_ := f3_.symm; clear f1_ f2_ f3_; subst f4_; subst f5_))
      obtain ⟨Ao11, co11, eo11⟩ := Kd.R_slice HO785.out
      (first | subst eo11 | (injection eo11 with f1_ f2_ f3_; have f4_ := f1_.symm; have f5_ := f3_.symm; clear f1_ f2_ f3_; subst f4_; subst f5_))
      refine hK.out _ _ ⟨(bcell HB.out hw780_0), (bcell HB.out hw780_1), (bcell HB.out hw780_2), (bcell HB.out hw780_3), (bcell HB.out hw780_4)⟩ (fun hHeld => ?_)
      clear hK K
      refine nm 34 ?_
      refine pT 22 35 (bl 25 16777215) HT_ rfl rfl ?_
      exact norm_ (by simp only [putAll, Act.put, List.setIfInBounds_toArray, List.set_cons_zero, List.set_cons_succ]) (hCont (.slice Ao11 t783.length co11, .slice Ao10 t787.length co10, gb790) _ ⟨hHeld, (by (with_reducible repeat (first | apply Kd.R_alloc | apply Kd.R_drewN | apply Kd.R_drew)); exact Kd.R_mono HO785.out (fun _ hk => ⟨hk.2, ⟨hk.1.1.2, hk.1.2⟩⟩)), (by (with_reducible repeat (first | apply Kd.R_alloc | apply Kd.R_drewN | apply Kd.R_drew)); exact Kd.R_mono HO789.out (fun _ hk => ⟨hk.1.2, ⟨hk.1.1.2, hk.2⟩⟩)), (by (with_reducible repeat (first | apply Kd.R_alloc | apply Kd.R_drewN | apply Kd.R_drew)); exact Kd.R_mono HO_3.out (fun _ hk => ⟨hk.1.1.2, ⟨hk.2, hk.1.2⟩⟩)), (kk BK790), GW790.out, GE790.out, (bb HB)⟩)
    ·skip
     refine box_step ?hg (N := 5) ?hd (cs := #[.int .i64 0, .int .i64 0, .slice none 0 0, .slice none 0 0, .slice none 0 0]) (t := 64) ?hr ?_; (case hd => rfl); (case hg => rfl); (case hr => first | (go_simp; done) | (go_simp; rfl))
     intro gb790 hg w7 hbox hb
     have BK790 := Aside0.mk (hbox)
     have GW790 := ge HB hg
     have GE790 := ge HB hg
     replace HO_3 := Aside0.mk (Kd.R_below (Kd.R_elderB (iR HO_3) gb790 (Nat.le_of_eq hg.symm)) hb)
     replace HB := sb HB hb
     clear hb hbox hg
     refine hK.out _ _ ⟨(bcell HB.out hw780_0), (bcell HB.out hw780_1), (bcell HB.out hw780_2), (bcell HB.out hw780_3), (bcell HB.out hw780_4)⟩ (fun hHeld => ?_)
     clear hK K
     refine nm 5 ?_
     refine one_ (i := 15) (N := some 28) (bl 25 10485759) rfl rfl (one_of HT_.out (by kernel_rfl)) (by decide) (fun K hK => ?_)
     refine gO Try.func75 #[.slice A780_3 ((rd_T64 l0 x4_1).f3).length c780_3] (by rfl) rfl rfl ?_
     with_reducible refine (ih k1 (by have := HK1.out; omega) _ _ ((rd_T64 l0 x4_1).f3) t783 _ ?side1 ?side2 A4.out).mono ?_
     (case side1 => exact cb HR780_3 HB)
     (case side2 => exact HC780_3.out)
     rintro e w8 ⟨v784, rfl, ho0, hb⟩
     refine ⟨_, rfl, ?_⟩
     have HO785 := Aside0.mk (Kd.R_lower (Kd.R_newB (Kd.R_new' ho0 (Kd.R_lt (iR HO_3))) (kk BK790)) (bsz (bb HB)))
     replace HO_3 := Aside0.mk (Kd.R_elder' (iR HO_3) (Kd.R_base ho0) hb)
     replace BK790 := kb BK790 hb
     replace HB := sb HB hb
     (try clear hb)
     (try clear hb2)
     (try clear hk)
     (try clear hi)
     (try clear ho0)
     refine hK.out _ _ ⟨(bcell HB.out hw780_0), (bcell HB.out hw780_1), (bcell HB.out hw780_2), (bcell HB.out hw780_3), (bcell HB.out hw780_4)⟩ (fun hHeld => ?_)
     clear hK K
     refine nm 28 ?_
     refine one_ (i := 21) (N := some 34) (bl 25 12582911) rfl rfl (one_of HT_.out (by kernel_rfl)) (by decide) (fun K hK => ?_)
     refine gO Try.func75 #[.slice A780_4 ((rd_T64 l0 x4_1).f4).length c780_4] (by rfl) rfl rfl ?_
     with_reducible refine (ih k1 (by have := HK1.out; omega) _ _ ((rd_T64 l0 x4_1).f4) t787 _ ?side1 ?side2 A5.out).mono ?_
     (case side1 => exact cb HR780_4 HB)
     (case side2 => exact HC780_4.out)
     rintro e w9 ⟨v788, rfl, ho0, hb⟩
     refine ⟨_, rfl, ?_⟩
     have HO789 := Aside0.mk (Kd.R_lower (Kd.R_newB (Kd.R_new' (Kd.R_new' ho0 (Kd.R_lt (iR HO_3))) (Kd.R_lt (iR HO785))) (kk BK790)) (bsz (bb HB)))
     replace HO_3 := Aside0.mk (Kd.R_elder' (iR HO_3) (Kd.R_base ho0) hb)
     replace HO785 := Aside0.mk (Kd.R_elder' (iR HO785) (Kd.R_base ho0) hb)
     replace BK790 := kb BK790 hb
     replace HB := sb HB hb
     (try clear hb)
     (try clear hb2)
     (try clear hk)
     (try clear hi)
     (try clear ho0)
     obtain ⟨Ao10, co10, eo10⟩ := Kd.R_slice HO789.out
     (first | subst eo10 | (injection eo10 with f1_ f2_ f3_; have f4_ := f1_.symm; have f5_ := f3_.symm; clear f1_ f2_ f3_; subst f4_; subst f5_))
     obtain ⟨Ao11, co11, eo11⟩ := Kd.R_slice HO785.out
     (first | subst eo11 | (injection eo11 with f1_ f2_ f3_; have f4_ := f1_.symm; have f5_ := f3_.symm; clear f1_ f2_ f3_; subst f4_; subst f5_))
     refine hK.out _ _ ⟨(bcell HB.out hw780_0), (bcell HB.out hw780_1), (bcell HB.out hw780_2), (bcell HB.out hw780_3), (bcell HB.out hw780_4)⟩ (fun hHeld => ?_)
     clear hK K
     refine nm 34 ?_
     refine pT 22 35 (bl 25 16777215) HT_ rfl rfl ?_
     exact norm_ (by simp only [putAll, Act.put, List.setIfInBounds_toArray, List.set_cons_zero, List.set_cons_succ]) (hCont (.slice Ao11 t783.length co11, .slice Ao10 t787.length co10, gb790) _ ⟨hHeld, (by (with_reducible repeat (first | apply Kd.R_alloc | apply Kd.R_drewN | apply Kd.R_drew)); exact Kd.R_mono HO785.out (fun _ hk => ⟨hk.2, ⟨hk.1.1.2, hk.1.2⟩⟩)), (by (with_reducible repeat (first | apply Kd.R_alloc | apply Kd.R_drewN | apply Kd.R_drew)); exact Kd.R_mono HO789.out (fun _ hk => ⟨hk.1.2, ⟨hk.1.1.2, hk.2⟩⟩)), (by (with_reducible repeat (first | apply Kd.R_alloc | apply Kd.R_drewN | apply Kd.R_drew)); exact Kd.R_mono HO_3.out (fun _ hk => ⟨hk.1.2, ⟨hk.2, hk.1.1.2⟩⟩)), (kk BK790), GW790.out, GE790.out, (bb HB)⟩)
   rintro ⟨v784, v788, gb790⟩ w12 ⟨hS_, h0_, h1_, h2_, h3_, h4_, h5_, h6_⟩
   have n0_ : Aside0 (Kd.R k64 64 w12 w.heap.size (fun k_ => some k_ ≠ (v788 : Value).ownBlock ∧ some k_ ≠ (u3 : Value).ownBlock ∧ k_ ≠ gb790) v784 t783) := ⟨h0_⟩
   have n1_ : Aside0 (Kd.R k64 64 w12 w.heap.size (fun k_ => some k_ ≠ (v784 : Value).ownBlock ∧ some k_ ≠ (u3 : Value).ownBlock ∧ k_ ≠ gb790) v788 t787) := ⟨h1_⟩
   have n2_ : Aside0 (Kd.R k64 64 w12 w.heap.size (fun k_ => some k_ ≠ (v784 : Value).ownBlock ∧ some k_ ≠ (v788 : Value).ownBlock ∧ k_ ≠ gb790) u3 x3_1) := ⟨h2_⟩
   have n3_ : Aside0 (w12.heap[gb790]? = some (.cells #[.int .i64 0, .int .i64 0, .slice none 0 0, .slice none 0 0, .slice none 0 0] 64 (0, 0))) := ⟨h3_⟩
   have n4_ : Aside0 (w.heap.size ≤ gb790) := ⟨h4_⟩
   have n5_ : Aside0 (w.heap.size ≤ gb790) := ⟨h5_⟩
   have n6_ : Aside0 (Below w.heap.size w w12) := ⟨h6_⟩
   clear HO_3
   clear HB
   clear h0_ h1_ h2_ h3_ h4_ h5_ h6_
   have HO785 := n0_
   have HO789 := n1_
   have HO_3 := n2_
   have BK790 := n3_
   have GW790 := n4_
   have GE790 := n5_
   have HB := n6_
   clear n0_ n1_ n2_ n3_ n4_ n5_ n6_
   have hHeld : w12.cell? (ad780.add ((x4_1).toNat * 5)) = some (.int .i64 ((rd_T64 l0 x4_1).f0)) ∧ w12.cell? ⟨(ad780.add ((x4_1).toNat * 5)).block, (ad780.add ((x4_1).toNat * 5)).off + 1, none⟩ = some (.int .i64 ((rd_T64 l0 x4_1).f1)) ∧ w12.cell? ⟨(ad780.add ((x4_1).toNat * 5)).block, (ad780.add ((x4_1).toNat * 5)).off + 2, none⟩ = some (.slice A780_2 ((rd_T64 l0 x4_1).f2).length c780_2) ∧ w12.cell? ⟨(ad780.add ((x4_1).toNat * 5)).block, (ad780.add ((x4_1).toNat * 5)).off + 3, none⟩ = some (.slice A780_3 ((rd_T64 l0 x4_1).f3).length c780_3) ∧ w12.cell? ⟨(ad780.add ((x4_1).toNat * 5)).block, (ad780.add ((x4_1).toNat * 5)).off + 4, none⟩ = some (.slice A780_4 ((rd_T64 l0 x4_1).f4).length c780_4) := hS_
   obtain ⟨Ao13, co13, eo13⟩ := Kd.R_slice HO789.out
   (first | subst eo13 | (injection eo13 with f1_ f2_ f3_; have f4_ := f1_.symm; have f5_ := f3_.symm; clear f1_ f2_ f3_; subst f4_; subst f5_))
   obtain ⟨Ao14, co14, eo14⟩ := Kd.R_slice HO785.out
   (first | subst eo14 | (injection eo14 with f1_ f2_ f3_; have f4_ := f1_.symm; have f5_ := f3_.symm; clear f1_ f2_ f3_; subst f4_; subst f5_))
   refine norm_ (a' := ?_) ?_ ?_
   rotate_left
   ·simp only [putAll, Act.put, List.setIfInBounds_toArray, List.set_cons_zero, List.set_cons_succ]
    rfl
   refine one_ (i := 24) (N := none) (bl 25 33554431) rfl rfl (one_of HT_.out (by kernel_rfl)) (by decide) (fun K hK => ?_)
   have hs15 : w12.cell? ⟨gb790, 0, none⟩ = some (.int .i64 0) := (blk_cell BK790.out 0).trans rfl
   have hfs15 := blk_frozen BK790.out 0
   have hs16 : w12.cell? ⟨gb790, 1, none⟩ = some (.int .i64 0) := (blk_cell BK790.out 1).trans rfl
   have hfs16 := blk_frozen BK790.out 1
   have hs17 : w12.cell? ⟨gb790, 2, none⟩ = some (.slice none 0 0) := (blk_cell BK790.out 2).trans rfl
   have hfs17 := blk_frozen BK790.out 2
   have hs18 : w12.cell? ⟨gb790, 3, none⟩ = some (.slice none 0 0) := (blk_cell BK790.out 3).trans rfl
   have hfs18 := blk_frozen BK790.out 3
   have hs19 : w12.cell? ⟨gb790, 4, none⟩ = some (.slice none 0 0) := (blk_cell BK790.out 4).trans rfl
   have hfs19 := blk_frozen BK790.out 4
   refine skip_ (w1 := ?_) (by rfl) rfl ?_ ?_
   rotate_left
   ·go_simp
    rfl
   refine hK.out _ _ ⟨(cw hw780_0 GW790.out ((cw hw780_0 GW790.out ((cw hw780_0 GW790.out ((cw hw780_0 GW790.out ((cw hw780_0 GW790.out (hHeld.1)))))))))), (cw hw780_1 GW790.out ((cw hw780_1 GW790.out ((cw hw780_1 GW790.out ((cw hw780_1 GW790.out ((cw hw780_1 GW790.out (hHeld.2.1)))))))))), (cw hw780_2 GW790.out ((cw hw780_2 GW790.out ((cw hw780_2 GW790.out ((cw hw780_2 GW790.out ((cw hw780_2 GW790.out (hHeld.2.2.1)))))))))), (cw hw780_3 GW790.out ((cw hw780_3 GW790.out ((cw hw780_3 GW790.out ((cw hw780_3 GW790.out ((cw hw780_3 GW790.out (hHeld.2.2.2.1)))))))))), (cw hw780_4 GW790.out ((cw hw780_4 GW790.out ((cw hw780_4 GW790.out ((cw hw780_4 GW790.out ((cw hw780_4 GW790.out (hHeld.2.2.2.2))))))))))⟩ (fun hHeld => ?_)
   clear hK K
   refine done_ (done_of HT_.out (by kernel_rfl)) ?_
   try go_wp2
   go_loopg [6] k1 (fun kq v6 w' => ∃ (x6_2 : Int) (x791002_2 : List (S28)) (u791002 : Value), v6 = .int .i64 x6_2 ∧ Aside0 (r3_CopyRows.l1 kq l0 x3_1 x4_1 x6_2 ((rd_T64 l0 x4_1).f0) ((rd_T64 l0 x4_1).f1) x791002_2 t783 t787 = some r) ∧ Aside0 (kq ≤ k1) ∧ Aside0 (Kd.R k64 64 w' w.heap.size (fun k_ => some k_ ≠ (u791002 : Value).ownBlock ∧ some k_ ≠ ((.slice Ao14 t783.length co14) : Value).ownBlock ∧ some k_ ≠ ((.slice Ao13 t787.length co13) : Value).ownBlock ∧ k_ ≠ gb790) u3 x3_1) ∧ Aside0 (Kd.R k28 28 w' w.heap.size (fun _ => True) u791002 x791002_2) ∧ Aside0 (Kd.R k64 64 w' w.heap.size (fun k_ => some k_ ≠ (u3 : Value).ownBlock ∧ some k_ ≠ (u791002 : Value).ownBlock ∧ some k_ ≠ ((.slice Ao13 t787.length co13) : Value).ownBlock ∧ k_ ≠ gb790) (.slice Ao14 t783.length co14) t783) ∧ Aside0 (Kd.R k64 64 w' w.heap.size (fun k_ => some k_ ≠ (u3 : Value).ownBlock ∧ some k_ ≠ (u791002 : Value).ownBlock ∧ some k_ ≠ ((.slice Ao14 t783.length co14) : Value).ownBlock ∧ k_ ≠ gb790) (.slice Ao13 t787.length co13) t787) ∧ Aside0 (w'.heap[gb790]? = some (.cells #[.int .i64 ((rd_T64 l0 x4_1).f0), .int .i64 ((rd_T64 l0 x4_1).f1), u791002, (.slice Ao14 t783.length co14), (.slice Ao13 t787.length co13)] 64 (0, 0))) ∧ Aside0 (Below w.heap.size w w'))
   case atStart => exact ⟨(0), (([] : List (S28))), (.slice none 0 0), rs, H', ⟨Nat.le_refl _⟩, ⟨by (with_reducible repeat (first | apply Kd.R_alloc | apply Kd.R_drewN | apply Kd.R_drew)); exact Kd.R_mono (Kd.R_far (p := ⟨gb790, 4, none⟩) (Kd.R_far (p := ⟨gb790, 3, none⟩) (Kd.R_far (p := ⟨gb790, 2, none⟩) (Kd.R_far (p := ⟨gb790, 1, none⟩) (Kd.R_far (p := ⟨gb790, 0, none⟩) (Kd.R_mono HO_3.out (fun k_ hk => (⟨hk, hk.2.2⟩ : _ ∧ k_ ≠ gb790))) (fun _ hk => hk.2) (.int .i64 ((rd_T64 l0 x4_1).f0))) (fun _ hk => hk.2) (.int .i64 ((rd_T64 l0 x4_1).f1))) (fun _ hk => hk.2) (.slice none 0 0)) (fun _ hk => hk.2) (.slice Ao14 t783.length co14)) (fun _ hk => hk.2) (.slice Ao13 t787.length co13)) (fun _ hk => ⟨(by simp [Value.ownBlock]), ⟨hk.1.1, ⟨hk.1.2.1, hk.1.2.2⟩⟩⟩)⟩, ⟨by first | exact Kd.R_nil _ _ _ _ _ | exact Kd.N_nil _ _ _ _ _ | exact Kd.V_nil _ _ _ _ _ | exact Kd.Q_nil _ _ _ _ _ | exact Kd.S_nil _ _ _ _ _⟩, ⟨by (with_reducible repeat (first | apply Kd.R_alloc | apply Kd.R_drewN | apply Kd.R_drew)); exact Kd.R_mono (Kd.R_far (p := ⟨gb790, 4, none⟩) (Kd.R_far (p := ⟨gb790, 3, none⟩) (Kd.R_far (p := ⟨gb790, 2, none⟩) (Kd.R_far (p := ⟨gb790, 1, none⟩) (Kd.R_far (p := ⟨gb790, 0, none⟩) (Kd.R_mono HO785.out (fun k_ hk => (⟨hk, hk.2.2⟩ : _ ∧ k_ ≠ gb790))) (fun _ hk => hk.2) (.int .i64 ((rd_T64 l0 x4_1).f0))) (fun _ hk => hk.2) (.int .i64 ((rd_T64 l0 x4_1).f1))) (fun _ hk => hk.2) (.slice none 0 0)) (fun _ hk => hk.2) (.slice Ao14 t783.length co14)) (fun _ hk => hk.2) (.slice Ao13 t787.length co13)) (fun _ hk => ⟨hk.1.2.1, ⟨(by simp [Value.ownBlock]), ⟨hk.1.1, hk.1.2.2⟩⟩⟩)⟩, ⟨by (with_reducible repeat (first | apply Kd.R_alloc | apply Kd.R_drewN | apply Kd.R_drew)); exact Kd.R_mono (Kd.R_far (p := ⟨gb790, 4, none⟩) (Kd.R_far (p := ⟨gb790, 3, none⟩) (Kd.R_far (p := ⟨gb790, 2, none⟩) (Kd.R_far (p := ⟨gb790, 1, none⟩) (Kd.R_far (p := ⟨gb790, 0, none⟩) (Kd.R_mono HO789.out (fun k_ hk => (⟨hk, hk.2.2⟩ : _ ∧ k_ ≠ gb790))) (fun _ hk => hk.2) (.int .i64 ((rd_T64 l0 x4_1).f0))) (fun _ hk => hk.2) (.int .i64 ((rd_T64 l0 x4_1).f1))) (fun _ hk => hk.2) (.slice none 0 0)) (fun _ hk => hk.2) (.slice Ao14 t783.length co14)) (fun _ hk => hk.2) (.slice Ao13 t787.length co13)) (fun _ hk => ⟨hk.1.2.1, ⟨(by simp [Value.ownBlock]), ⟨hk.1.1, hk.1.2.2⟩⟩⟩)⟩, ⟨by (with_reducible repeat (first | refine kdN ?_ _ | refine kdr ?_ | refine kal ?_ _)); refine blk_put (cs := #[.int .i64 ((rd_T64 l0 x4_1).f0), .int .i64 ((rd_T64 l0 x4_1).f1), .slice none 0 0, .slice Ao14 t783.length co14, .slice none 0 0]) ?_ 4 _ rfl; (with_reducible repeat (first | refine kdN ?_ _ | refine kdr ?_ | refine kal ?_ _)); refine blk_put (cs := #[.int .i64 ((rd_T64 l0 x4_1).f0), .int .i64 ((rd_T64 l0 x4_1).f1), .slice none 0 0, .slice none 0 0, .slice none 0 0]) ?_ 3 _ rfl; (with_reducible repeat (first | refine kdN ?_ _ | refine kdr ?_ | refine kal ?_ _)); refine blk_put (cs := #[.int .i64 ((rd_T64 l0 x4_1).f0), .int .i64 ((rd_T64 l0 x4_1).f1), .slice none 0 0, .slice none 0 0, .slice none 0 0]) ?_ 2 _ rfl; (with_reducible repeat (first | refine kdN ?_ _ | refine kdr ?_ | refine kal ?_ _)); refine blk_put (cs := #[.int .i64 ((rd_T64 l0 x4_1).f0), .int .i64 0, .slice none 0 0, .slice none 0 0, .slice none 0 0]) ?_ 1 _ rfl; (with_reducible repeat (first | refine kdN ?_ _ | refine kdr ?_ | refine kal ?_ _)); refine blk_put (cs := #[.int .i64 0, .int .i64 0, .slice none 0 0, .slice none 0 0, .slice none 0 0]) ?_ 0 _ rfl; (with_reducible repeat (first | refine kdN ?_ _ | refine kdr ?_ | refine kal ?_ _)); exact BK790.out⟩, ⟨bb HB⟩⟩
   case round =>
    clear H'
    try clear p2
    try clear c7
    try clear p7
    try clear q7
    try clear hx7
    try clear hx780_0
    try clear hx780_1
    try clear hx780_2
    try clear hx780_3
    try clear hx780_4
    try clear hx780_0
    try clear hx780_1
    try clear hx780_2
    try clear hx780_3
    try clear hx780_4
    try clear hx780_0
    try clear hx780_1
    try clear hx780_2
    try clear hx780_3
    try clear hx780_4
    try clear hx780_0
    try clear hx780_1
    try clear hx780_2
    try clear hx780_3
    try clear hx780_4
    try clear p780
    try clear p780
    try clear p780
    try clear q780
    try clear q780
    try clear q780
    obtain ⟨x6_2, x791002_2, u791002, rfl, HA, HK2, HO_3, HO_791002, HO_791003, HO_791004, BK790, HB⟩ := hrel
    cases gk with
    | zero => exact absurd HA.out (by simp [r3_CopyRows.l1])
    | succ k2 =>
     have H := HA.out
     clear HA
     simp only [r3_CopyRows.l1] at H
     by_cases c20 : 0 ≤ x4_1
     rotate_left
     ·rw [if_neg c20] at H
      exact absurd H (by simp)
     rw [if_pos c20] at H
     have c20b0 : decide (0 ≤ x4_1) = true := decide_eq_true c20
     clear c20
     by_cases c21 : x4_1 < (l0.length : Int)
     rotate_left
     ·rw [if_neg c21] at H
      exact absurd H (by simp)
     rw [if_pos c21] at H
     have c21b0 : decide (x4_1 < (l0.length : Int)) = true := decide_eq_true c21
     clear c21
     by_cases c22 : x6_2 < (((rd_T64 l0 x4_1).f2).length : Int)
     rotate_left
     ·rw [if_neg c22] at H
      have c22b0 : decide (x6_2 < (((rd_T64 l0 x4_1).f2).length : Int)) = false := decide_eq_false c22
      clear c22
      by_cases c32 : x3_1.length < 1599289640401
      rotate_left
      ·rw [if_neg c32] at H
       exact absurd H (by simp)
      rw [if_pos c32] at H
      have LMc32 := Aside0.mk c32
      clear c32
      obtain ⟨y803, hy803⟩ : ∃ y_ : List (S64), y_ = (x3_1 ++ [(⟨((rd_T64 l0 x4_1).f0), ((rd_T64 l0 x4_1).f1), x791002_2, t783, t787⟩ : S64)]) := ⟨_, rfl⟩
      replace H : (r3_CopyRows.l0 k2 l0 y803 (wrap64 (x4_1 + 1))) = some r := by first | (rw [hy803]; with_reducible exact H) | (have H2_ := (Option.bind_some _ _).symm.trans H; rw [hy803]; with_reducible exact H2_) | (have H2_ := (Option.bind_some _ _).symm.trans H; with_reducible exact H2_) | with_reducible exact H | (rw [hy803]; exact H) | exact H
      have Ny803 := Aside0.mk hy803
      clear hy803
      have H' := Aside0.mk H
      clear H
      have p791 : 0 ≤ (x4_1 : Int) := od
      have q791 : x4_1 < (l0.length : Int) := od
      obtain ⟨ad791, A791_2, c791_2, A791_3, c791_3, A791_4, c791_4, e791, hx791_0, hx791_1, hx791_2, hx791_3, hx791_4, hl791_2, hi791_2, hl791_3, hi791_3, hl791_4, hi791_4⟩ := at_T64 HR0.out x4_1 p791 q791
      obtain rfl : ad780 = ad791 := (by injection e791)
      replace hx791_0 := bcell HB.out hx791_0
      replace hx791_1 := bcell HB.out hx791_1
      replace hx791_2 := bcell HB.out hx791_2
      replace hx791_3 := bcell HB.out hx791_3
      replace hx791_4 := bcell HB.out hx791_4
      have HR791_2 := Aside0.mk hi791_2
      have HC791_2 := Aside0.mk hl791_2
      clear hi791_2 hl791_2
      have HR791_3 := Aside0.mk hi791_3
      have HC791_3 := Aside0.mk hl791_3
      clear hi791_3 hl791_3
      have HR791_4 := Aside0.mk hi791_4
      have HC791_4 := Aside0.mk hl791_4
      clear hi791_4 hl791_4
      replace p791 := eq_true p791
      replace q791 := eq_true q791
      obtain ⟨hcz33_0, hcz33_1, hcz33_2, hcz33_3, hcz33_4, hfz33_0, hfz33_1, hfz33_2, hfz33_3, hfz33_4⟩ := cf5 BK790.out
      obtain ⟨Ao35, co35, eo35⟩ := Kd.R_slice HO_791002.out
      subst eo35
      go_wp2_with (first | ((with_reducible refine gate_builtin (b := .append) (xs := #[.tmp 60, .tmp 62]) rfl ?_); at_builtin; refine Kd.R_append k64 (w0 := w) w.heap.size rfl (.tmp 60) (.tmp 62) 23 64 (.agg #[(.int .i64 0), (.int .i64 0), (.slice none 0 0), (.slice none 0 0), (.slice none 0 0)]) 88 rfl Try.underlying23 info64 rfl (by decide) (by omega) u3 x3_1 (⟨((rd_T64 l0 x4_1).f0), ((rd_T64 l0 x4_1).f1), x791002_2, t783, t787⟩ : S64) [.int .i64 ((rd_T64 l0 x4_1).f0), .int .i64 ((rd_T64 l0 x4_1).f1), .slice Ao35 x791002_2.length co35, .slice Ao14 t783.length co14, .slice Ao13 t787.length co13] (fun k_ => k_ ≠ gb790) (fun k_ => ((fun k_ => k_ ≠ gb790)) k_ ∧ some k_ ≠ (u3 : Value).ownBlock) rfl rfl ?aP (fun _ hk => hk) ?aF ?aO ?aB ?aS ?aL ?_; (case aP => exact k64_mkM _ _ _ (⟨((rd_T64 l0 x4_1).f0), ((rd_T64 l0 x4_1).f1), x791002_2, t783, t787⟩ : S64) (Kd.R_mono (Kd.R_types (Kd.R_apart' (HO_791002.out) (Kd.R_typed HO_3.out) (by decide)) BK790.out (by decide)) (fun k_ hk => ⟨hk.2, hk.1.2⟩)) (Kd.R_mono (HO_791003.out) (fun k_ hk => ⟨hk.2.2.2, hk.1⟩)) (Kd.R_mono (HO_791004.out) (fun k_ hk => ⟨hk.2.2.2, hk.1⟩))); (case aB => exact (bb HB)); (case aF => exact (fun k_ hk => Kd.freshB (kk BK790) k_ hk)); (case aO => exact (by (with_reducible repeat (first | apply Kd.R_alloc | apply Kd.R_drewN | apply Kd.R_drew)); exact Kd.R_mono HO_3.out (fun _ hk => hk.2.2.2))); (case aS => exact (bsz (bb HB))); (case aL => have := LMc32.out; omega); intro v804 w34 ho hb hg hat; rw [← Ny803.out] at ho; have HO805 := Aside0.mk (ho); replace BK790 := Aside0.mk (blk_grown (kk BK790) hg (Kd.R_away HO_3.out (fun _ hk => hk.2.2.2))); replace HB := Aside0.mk (hb); clear HO_3 HO_791002 HO_791003 HO_791004; clear ho hb hg hat))
      go_roundg k2
      case measure => have := HK1.out; have := HK2.out; omega
      case rel => exact ⟨(y803), (wrap64 (x4_1 + 1)), rs, H', ⟨by have := HK1.out; have := HK2.out; omega⟩, ⟨by (with_reducible repeat (first | apply Kd.R_alloc | apply Kd.R_drewN | apply Kd.R_drew)); exact Kd.R_mono HO805.out (fun _ hk => trivial)⟩, ⟨bb HB⟩⟩
     rw [if_pos c22] at H
     have c22b0 : decide (x6_2 < (((rd_T64 l0 x4_1).f2).length : Int)) = true := decide_eq_true c22
     clear c22
     by_cases c23 : 0 ≤ x6_2
     rotate_left
     ·rw [if_neg c23] at H
      exact absurd H (by simp)
     rw [if_pos c23] at H
     have c23b0 : decide (0 ≤ x6_2) = true := decide_eq_true c23
     clear c23
     replace H := Option.bind_eq_some_iff.mp H
     obtain ⟨⟨t794, t795, t796, t797⟩, A240, H⟩ := H
     replace H : (if x791002_2.length < 2932031007402 then (r3_CopyRows.l1 k2 l0 x3_1 x4_1 (wrap64 (x6_2 + 1)) ((rd_T64 l0 x4_1).f0) ((rd_T64 l0 x4_1).f1) (x791002_2 ++ [(⟨t794, t795, t796, t797⟩ : S28)]) t783 t787) else (none)) = some r := H
     have A24 := Aside0.mk A240
     clear A240
     by_cases c25 : x791002_2.length < 2932031007402
     rotate_left
     ·rw [if_neg c25] at H
      exact absurd H (by simp)
     rw [if_pos c25] at H
     have LMc25 := Aside0.mk c25
     clear c25
     obtain ⟨y800, hy800⟩ : ∃ y_ : List (S28), y_ = (x791002_2 ++ [(⟨t794, t795, t796, t797⟩ : S28)]) := ⟨_, rfl⟩
     replace H : (r3_CopyRows.l1 k2 l0 x3_1 x4_1 (wrap64 (x6_2 + 1)) ((rd_T64 l0 x4_1).f0) ((rd_T64 l0 x4_1).f1) y800 t783 t787) = some r := by first | (rw [hy800]; with_reducible exact H) | (have H2_ := (Option.bind_some _ _).symm.trans H; rw [hy800]; with_reducible exact H2_) | (have H2_ := (Option.bind_some _ _).symm.trans H; with_reducible exact H2_) | with_reducible exact H | (rw [hy800]; exact H) | exact H
     have Ny800 := Aside0.mk hy800
     clear hy800
     have H' := Aside0.mk H
     clear H
     have p791 : 0 ≤ (x4_1 : Int) := od
     have q791 : x4_1 < (l0.length : Int) := od
     obtain ⟨ad791, A791_2, c791_2, A791_3, c791_3, A791_4, c791_4, e791, hx791_0, hx791_1, hx791_2, hx791_3, hx791_4, hl791_2, hi791_2, hl791_3, hi791_3, hl791_4, hi791_4⟩ := at_T64 HR0.out x4_1 p791 q791
     obtain rfl : ad780 = ad791 := (by injection e791)
     replace hx791_0 := bcell HB.out hx791_0
     replace hx791_1 := bcell HB.out hx791_1
     replace hx791_2 := bcell HB.out hx791_2
     replace hx791_3 := bcell HB.out hx791_3
     replace hx791_4 := bcell HB.out hx791_4
     have HR791_2 := Aside0.mk hi791_2
     have HC791_2 := Aside0.mk hl791_2
     clear hi791_2 hl791_2
     have HR791_3 := Aside0.mk hi791_3
     have HC791_3 := Aside0.mk hl791_3
     clear hi791_3 hl791_3
     have HR791_4 := Aside0.mk hi791_4
     have HC791_4 := Aside0.mk hl791_4
     clear hi791_4 hl791_4
     replace p791 := eq_true p791
     replace q791 := eq_true q791
     try go_wp2
     replace HO_3 := Aside0.mk (Kd.R_drew HO_3.out)
     replace HO_791002 := Aside0.mk (Kd.R_drew HO_791002.out)
     replace HO_791003 := Aside0.mk (Kd.R_drew HO_791003.out)
     replace HO_791004 := Aside0.mk (Kd.R_drew HO_791004.out)
     replace BK790 := Aside0.mk (kdr BK790.out)
     replace HB := Aside0.mk (bd1 HB.out)
     have p792 : 0 ≤ (x4_1 : Int) := od
     have q792 : x4_1 < (l0.length : Int) := od
     obtain ⟨ad792, A792_2, c792_2, A792_3, c792_3, A792_4, c792_4, e792, hx792_0, hx792_1, hx792_2, hx792_3, hx792_4, hl792_2, hi792_2, hl792_3, hi792_3, hl792_4, hi792_4⟩ := at_T64 HR0.out x4_1 p792 q792
     have hw792_4 := hx792_4
     have hw792_3 := hx792_3
     have hw792_2 := hx792_2
     have hw792_1 := hx792_1
     have hw792_0 := hx792_0
     obtain rfl : ad780 = ad792 := (by injection e792)
     replace hx792_0 := bcell HB.out hx792_0
     replace hx792_1 := bcell HB.out hx792_1
     replace hx792_2 := bcell HB.out hx792_2
     replace hx792_3 := bcell HB.out hx792_3
     replace hx792_4 := bcell HB.out hx792_4
     have HR792_2 := Aside0.mk hi792_2
     have HC792_2 := Aside0.mk hl792_2
     clear hi792_2 hl792_2
     have HR792_3 := Aside0.mk hi792_3
     have HC792_3 := Aside0.mk hl792_3
     clear hi792_3 hl792_3
     have HR792_4 := Aside0.mk hi792_4
     have HC792_4 := Aside0.mk hl792_4
     clear hi792_4 hl792_4
     replace p792 := eq_true p792
     replace q792 := eq_true q792
     have p793 : 0 ≤ (x6_2 : Int) := od
     have q793 : x6_2 < (((rd_T64 l0 x4_1).f2).length : Int) := od
     obtain ⟨ad793, A793_3, c793_3, e793, hx793_0, hx793_1, hx793_2, hx793_3, hl793_3, hi793_3⟩ := at_T28 HR792_2.out x6_2 p793 q793
     have hw793_3 := hx793_3
     have hw793_2 := hx793_2
     have hw793_1 := hx793_1
     have hw793_0 := hx793_0
     cases e793
     replace hx793_0 := bcell HB.out hx793_0
     replace hx793_1 := bcell HB.out hx793_1
     replace hx793_2 := bcell HB.out hx793_2
     replace hx793_3 := bcell HB.out hx793_3
     have HR793_3 := Aside0.mk hi793_3
     have HC793_3 := Aside0.mk hl793_3
     clear hi793_3 hl793_3
     replace p793 := eq_true p793
     replace q793 := eq_true q793
     refine start_ (n := 15) (S := fun w' => w'.cell? ⟨gb790, 0, none⟩ = some (.int .i64 ((rd_T64 l0 x4_1).f0)) ∧ w'.cell? ⟨gb790, 1, none⟩ = some (.int .i64 ((rd_T64 l0 x4_1).f1)) ∧ w'.cell? ⟨gb790, 2, none⟩ = some (u791002) ∧ w'.cell? ⟨gb790, 3, none⟩ = some (.slice Ao14 t783.length co14) ∧ w'.cell? ⟨gb790, 4, none⟩ = some (.slice Ao13 t787.length co13) ∧ w'.cell? (ad780.add ((x4_1).toNat * 5)) = some (.int .i64 ((rd_T64 l0 x4_1).f0)) ∧ w'.cell? ⟨(ad780.add ((x4_1).toNat * 5)).block, (ad780.add ((x4_1).toNat * 5)).off + 1, none⟩ = some (.int .i64 ((rd_T64 l0 x4_1).f1)) ∧ w'.cell? ⟨(ad780.add ((x4_1).toNat * 5)).block, (ad780.add ((x4_1).toNat * 5)).off + 2, none⟩ = some (.slice (some ad793) ((rd_T64 l0 x4_1).f2).length c792_2) ∧ w'.cell? ⟨(ad780.add ((x4_1).toNat * 5)).block, (ad780.add ((x4_1).toNat * 5)).off + 3, none⟩ = some (.slice A792_3 ((rd_T64 l0 x4_1).f3).length c792_3) ∧ w'.cell? ⟨(ad780.add ((x4_1).toNat * 5)).block, (ad780.add ((x4_1).toNat * 5)).off + 4, none⟩ = some (.slice A792_4 ((rd_T64 l0 x4_1).f4).length c792_4) ∧ w'.cell? (ad793.add ((x6_2).toNat * 4)) = some (.int .i64 ((rd_T28 ((rd_T64 l0 x4_1).f2) x6_2).f0)) ∧ w'.cell? ⟨(ad793.add ((x6_2).toNat * 4)).block, (ad793.add ((x6_2).toNat * 4)).off + 1, none⟩ = some (.int .i64 ((rd_T28 ((rd_T64 l0 x4_1).f2) x6_2).f1)) ∧ w'.cell? ⟨(ad793.add ((x6_2).toNat * 4)).block, (ad793.add ((x6_2).toNat * 4)).off + 2, none⟩ = some (.int .i64 ((rd_T28 ((rd_T64 l0 x4_1).f2) x6_2).f2)) ∧ w'.cell? ⟨(ad793.add ((x6_2).toNat * 4)).block, (ad793.add ((x6_2).toNat * 4)).off + 3, none⟩ = some (.slice A793_3 ((rd_T28 ((rd_T64 l0 x4_1).f2) x6_2).f3).length c793_3)) (ds := [14]) #[false, false, false, false, false, false, false, false, false, false, false, false, false, false, false] (by kernel_rfl) rfl rfl ⟨(blk_cell BK790.out 0).trans rfl, (blk_cell BK790.out 1).trans rfl, (blk_cell BK790.out 2).trans rfl, (blk_cell BK790.out 3).trans rfl, (blk_cell BK790.out 4).trans rfl, (bcell HB.out hw792_0), (bcell HB.out hw792_1), (bcell HB.out hw792_2), (bcell HB.out hw792_3), (bcell HB.out hw792_4), (bcell HB.out hw793_0), (bcell HB.out hw793_1), (bcell HB.out hw793_2), (bcell HB.out hw793_3)⟩ (fun hHeld => ?_); refine with_tabW r3_CopyRows.tab9 r3_CopyRows.bits9 (fun HT_ HW_ => ?_)
     generalize wr.drew = w26 at HO_3 HO_791002 HO_791003 HO_791004 BK790 HB HR792_2 HR792_3 HR792_4 HR793_3 hx792_0 hx792_1 hx792_2 hx792_3 hx792_4 hx793_0 hx793_1 hx793_2 hx793_3 hHeld ⊢
     refine pT 0 46 (bl 15 1) HT_ rfl rfl ?_
     refine pT 2 48 (bl 15 5) HT_ rfl rfl ?_
     refine pT 3 49 (bl 15 13) HT_ rfl rfl ?_
     refine pT 4 50 (bl 15 29) HT_ rfl rfl ?_
     refine pT 5 51 (bl 15 61) HT_ rfl rfl ?_
     refine pT 7 53 (bl 15 189) HT_ rfl rfl ?_
     refine tk (i := 1) (N := some 47) (bl 15 191) rfl rfl (take_ofW HT_.out HW_.out (by kernel_rfl)) hHeld ?_
     refine tk (i := 6) (N := some 52) (bl 15 255) rfl rfl (take_ofW HT_.out HW_.out (by kernel_rfl)) hHeld ?_
     refine pT 8 54 (bl 15 511) HT_ rfl rfl ?_
     refine tk (i := 9) (N := some 55) (bl 15 1023) rfl rfl (take_ofW HT_.out HW_.out (by kernel_rfl)) hHeld ?_
     refine one_ (i := 10) (N := some 56) (bl 15 2047) rfl rfl (one_of HT_.out (by kernel_rfl)) (by decide) (fun K hK => ?_)
     refine gO Try.func99 #[.agg #[.int .i64 ((rd_T28 ((rd_T64 l0 x4_1).f2) x6_2).f0), .int .i64 ((rd_T28 ((rd_T64 l0 x4_1).f2) x6_2).f1), .int .i64 ((rd_T28 ((rd_T64 l0 x4_1).f2) x6_2).f2), .slice A793_3 ((rd_T28 ((rd_T64 l0 x4_1).f2) x6_2).f3).length c793_3]] (by rfl) rfl rfl ?_
     with_reducible refine (r2_Copy.calls k2 ((rd_T28 ((rd_T64 l0 x4_1).f2) x6_2).f0) ((rd_T28 ((rd_T64 l0 x4_1).f2) x6_2).f1) ((rd_T28 ((rd_T64 l0 x4_1).f2) x6_2).f2) _ _ ((rd_T28 ((rd_T64 l0 x4_1).f2) x6_2).f3) t794 t795 t796 t797 _ ?side1 ?side2 A24.out).mono ?_
     (case side1 => exact cb HR793_3 HB)
     (case side2 => exact HC793_3.out)
     rintro e w27 ⟨v798, rfl, ho0, hb⟩
     refine ⟨_, rfl, ?_⟩
     have HO799 := Aside0.mk (Kd.R_lower (Kd.R_new' ho0 (Kd.R_lt (iR HO_791002))) (bsz (bb HB)))
     replace HO_3 := Aside0.mk (Kd.R_elder' (iR HO_3) (Kd.R_base ho0) hb)
     replace HO_791002 := Aside0.mk (Kd.R_elder' (iR HO_791002) (Kd.R_base ho0) hb)
     replace HO_791003 := Aside0.mk (Kd.R_elder' (iR HO_791003) (Kd.R_base ho0) hb)
     replace HO_791004 := Aside0.mk (Kd.R_elder' (iR HO_791004) (Kd.R_base ho0) hb)
     replace BK790 := kb BK790 hb
     replace HB := sb HB hb
     (try clear hb)
     (try clear hb2)
     (try clear hk)
     (try clear hi)
     (try clear ho0)
     obtain ⟨Ao29, co29, eo29⟩ := Kd.R_slice HO799.out
     (first | subst eo29 | (injection eo29 with f1_ f2_ f3_; have f4_ := f1_.symm; have f5_ := f3_.symm; clear f1_ f2_ f3_; subst f4_; subst f5_))
     refine hK.out _ _ ⟨(blk_cell BK790.out 0).trans rfl, (blk_cell BK790.out 1).trans rfl, (blk_cell BK790.out 2).trans rfl, (blk_cell BK790.out 3).trans rfl, (blk_cell BK790.out 4).trans rfl, (bcell HB.out hw792_0), (bcell HB.out hw792_1), (bcell HB.out hw792_2), (bcell HB.out hw792_3), (bcell HB.out hw792_4), (bcell HB.out hw793_0), (bcell HB.out hw793_1), (bcell HB.out hw793_2), (bcell HB.out hw793_3)⟩ (fun hHeld => ?_)
     clear hK K
     refine nm 56 ?_
     refine one_ (i := 11) (N := some 57) (bl 15 4095) rfl rfl (one_of HT_.out (by kernel_rfl)) (by decide) (fun K hK => ?_)
     refine value_ (w1 := ?_) (v := ?_) (by rfl) rfl ?_ ?_
     rotate_left 2
     ·go_simp
      constructor
      ·rfl
      ·rfl
     refine hK.out _ _ ⟨(blk_cell (kal BK790.out _) 0).trans rfl, (blk_cell (kal BK790.out _) 1).trans rfl, (blk_cell (kal BK790.out _) 2).trans rfl, (blk_cell (kal BK790.out _) 3).trans rfl, (blk_cell (kal BK790.out _) 4).trans rfl, (World.cell?_alloc_lt _ _ _ (World.block_lt_of_cell? _ _ ((bcell HB.out hw792_0)))).trans ((bcell HB.out hw792_0)), (World.cell?_alloc_lt _ _ _ (World.block_lt_of_cell? _ _ ((bcell HB.out hw792_1)))).trans ((bcell HB.out hw792_1)), (World.cell?_alloc_lt _ _ _ (World.block_lt_of_cell? _ _ ((bcell HB.out hw792_2)))).trans ((bcell HB.out hw792_2)), (World.cell?_alloc_lt _ _ _ (World.block_lt_of_cell? _ _ ((bcell HB.out hw792_3)))).trans ((bcell HB.out hw792_3)), (World.cell?_alloc_lt _ _ _ (World.block_lt_of_cell? _ _ ((bcell HB.out hw792_4)))).trans ((bcell HB.out hw792_4)), (World.cell?_alloc_lt _ _ _ (World.block_lt_of_cell? _ _ ((bcell HB.out hw793_0)))).trans ((bcell HB.out hw793_0)), (World.cell?_alloc_lt _ _ _ (World.block_lt_of_cell? _ _ ((bcell HB.out hw793_1)))).trans ((bcell HB.out hw793_1)), (World.cell?_alloc_lt _ _ _ (World.block_lt_of_cell? _ _ ((bcell HB.out hw793_2)))).trans ((bcell HB.out hw793_2)), (World.cell?_alloc_lt _ _ _ (World.block_lt_of_cell? _ _ ((bcell HB.out hw793_3)))).trans ((bcell HB.out hw793_3))⟩ (fun hHeld => ?_)
     clear hK K
     refine nm 57 ?_
     refine one_ (i := 12) (N := some 58) (bl 15 8191) rfl rfl (one_of HT_.out (by kernel_rfl)) (by decide) (fun K hK => ?_)
     refine Kd.R_append_step k28 (w0 := w) w.heap.size (by rfl) (.tmp 47) (.tmp 57) 26 28 (.agg #[(.int .i64 0), (.int .i64 0), (.int .i64 0), (.slice none 0 0)]) 48 rfl Try.underlying26 info28 rfl (by decide) (by omega) u791002 x791002_2 (⟨t794, t795, t796, t797⟩ : S28) [.int .i64 t794, .int .i64 t795, .int .i64 t796, .slice Ao29 t797.length co29] (fun _ => True) (fun k_ => ((fun _ => True)) k_ ∧ some k_ ≠ (u791002 : Value).ownBlock) rfl rfl ?aP (fun _ hk => hk) ?aF ?aO ?aB ?aS ?aL ?_
     (case aP => exact k28_mkM _ _ _ (⟨t794, t795, t796, t797⟩ : S28) (Kd.R_mono (HO799.out) (fun k_ hk => ⟨trivial, hk.2⟩)))
     (case aB => exact (bb HB))
     (case aF => exact (fun _ _ => trivial))
     (case aO => exact (by (with_reducible repeat (first | apply Kd.R_alloc | apply Kd.R_drewN | apply Kd.R_drew)); exact Kd.R_mono HO_791002.out (fun _ hk => trivial)))
     (case aS => exact (bsz (bb HB)))
     (case aL => have := LMc25.out; omega)
     intro v801 w28 ho hb hg hat
     rw [← Ny800.out] at ho
     have HO802 := Aside0.mk (ho)
     replace HO_3 := Aside0.mk (Kd.R_after (ok := (fun k_ => some k_ ≠ (.slice Ao14 t783.length co14 : Value).ownBlock ∧ some k_ ≠ (.slice Ao13 t787.length co13 : Value).ownBlock ∧ some k_ ≠ (.slice Ao29 t797.length co29 : Value).ownBlock ∧ k_ ≠ gb790)) (by (with_reducible repeat (first | apply Kd.R_alloc | apply Kd.R_drewN | apply Kd.R_drew)); exact Kd.R_mono HO_3.out (fun _ hk => ⟨⟨hk.1.2.1, ⟨hk.1.2.2.1, ⟨hk.2, hk.1.2.2.2⟩⟩⟩, hk.1.1⟩)) hg hat)
     replace HO_791003 := Aside0.mk (Kd.R_after (ok := (fun k_ => some k_ ≠ (u3 : Value).ownBlock ∧ some k_ ≠ (.slice Ao13 t787.length co13 : Value).ownBlock ∧ some k_ ≠ (.slice Ao29 t797.length co29 : Value).ownBlock ∧ k_ ≠ gb790)) (by (with_reducible repeat (first | apply Kd.R_alloc | apply Kd.R_drewN | apply Kd.R_drew)); exact Kd.R_mono HO_791003.out (fun _ hk => ⟨⟨hk.1.1, ⟨hk.1.2.2.1, ⟨hk.2, hk.1.2.2.2⟩⟩⟩, hk.1.2.1⟩)) hg hat)
     replace HO_791004 := Aside0.mk (Kd.R_after (ok := (fun k_ => some k_ ≠ (u3 : Value).ownBlock ∧ some k_ ≠ (.slice Ao14 t783.length co14 : Value).ownBlock ∧ some k_ ≠ (.slice Ao29 t797.length co29 : Value).ownBlock ∧ k_ ≠ gb790)) (by (with_reducible repeat (first | apply Kd.R_alloc | apply Kd.R_drewN | apply Kd.R_drew)); exact Kd.R_mono HO_791004.out (fun _ hk => ⟨⟨hk.1.1, ⟨hk.1.2.2.1, ⟨hk.2, hk.1.2.2.2⟩⟩⟩, hk.1.2.1⟩)) hg hat)
     replace BK790 := Aside0.mk (blk_grown (kk BK790) hg (Kd.R_ne HO_791002.out BK790.out (by decide)))
     replace HB := Aside0.mk (hb)
     clear HO_791002 HO799
     clear ho hb hg hat
     obtain ⟨Ao30, co30, eo30⟩ := Kd.R_slice HO802.out
     (first | subst eo30 | (injection eo30 with f1_ f2_ f3_; have f4_ := f1_.symm; have f5_ := f3_.symm; clear f1_ f2_ f3_; subst f4_; subst f5_))
     refine hK.out _ _ ⟨(blk_cell BK790.out 0).trans rfl, (blk_cell BK790.out 1).trans rfl, (blk_cell BK790.out 2).trans rfl, (blk_cell BK790.out 3).trans rfl, (blk_cell BK790.out 4).trans rfl, (bcell HB.out hw792_0), (bcell HB.out hw792_1), (bcell HB.out hw792_2), (bcell HB.out hw792_3), (bcell HB.out hw792_4), (bcell HB.out hw793_0), (bcell HB.out hw793_1), (bcell HB.out hw793_2), (bcell HB.out hw793_3)⟩ (fun hHeld => ?_)
     clear hK K
     refine nm 58 ?_
     refine pT 13 59 (bl 15 16383) HT_ rfl rfl ?_
     refine last_ (i := 14) (N := none) (bl 15 32767) rfl rfl (one_of HT_.out (by kernel_rfl)) (by decide) (fun K hK => ?_)
     have hs31 : w28.cell? ⟨gb790, 2, none⟩ = some (u791002) := (blk_cell BK790.out 2).trans rfl
     have hfs31 := blk_frozen BK790.out 2
     refine skip_ (w1 := ?_) (by rfl) rfl ?_ ?_
     rotate_left
     ·go_simp
      rfl
     refine hK.out _ _ ?_
     clear hK K
     refine done_ (done_of HT_.out (by kernel_rfl)) ?_
     try go_wp2
     go_roundg k2
     case measure => have := HK1.out; have := HK2.out; omega
     case rel => exact ⟨(wrap64 (x6_2 + 1)), (y800), (.slice Ao30 y800.length co30), rs, H', ⟨by have := HK1.out; have := HK2.out; omega⟩, ⟨by (with_reducible repeat (first | apply Kd.R_alloc | apply Kd.R_drewN | apply Kd.R_drew)); exact Kd.R_mono (Kd.R_far (p := ⟨gb790, 2, none⟩) (Kd.R_mono HO_3.out (fun k_ hk => (⟨hk, hk.1.2.2.2⟩ : _ ∧ k_ ≠ gb790))) (fun _ hk => hk.2) (.slice Ao30 y800.length co30)) (fun _ hk => ⟨hk.1.2, ⟨hk.1.1.1, ⟨hk.1.1.2.1, hk.1.1.2.2.2⟩⟩⟩)⟩, ⟨by (with_reducible repeat (first | apply Kd.R_alloc | apply Kd.R_drewN | apply Kd.R_drew)); exact Kd.R_mono (Kd.R_far (p := ⟨gb790, 2, none⟩) (Kd.R_types HO802.out BK790.out (by decide)) (fun _ hk => hk.2) (.slice Ao30 y800.length co30)) (fun _ hk => trivial)⟩, ⟨by (with_reducible repeat (first | apply Kd.R_alloc | apply Kd.R_drewN | apply Kd.R_drew)); exact Kd.R_mono (Kd.R_far (p := ⟨gb790, 2, none⟩) (Kd.R_mono HO_791003.out (fun k_ hk => (⟨hk, hk.1.2.2.2⟩ : _ ∧ k_ ≠ gb790))) (fun _ hk => hk.2) (.slice Ao30 y800.length co30)) (fun _ hk => ⟨hk.1.1.1, ⟨hk.1.2, ⟨hk.1.1.2.1, hk.1.1.2.2.2⟩⟩⟩)⟩, ⟨by (with_reducible repeat (first | apply Kd.R_alloc | apply Kd.R_drewN | apply Kd.R_drew)); exact Kd.R_mono (Kd.R_far (p := ⟨gb790, 2, none⟩) (Kd.R_mono HO_791004.out (fun k_ hk => (⟨hk, hk.1.2.2.2⟩ : _ ∧ k_ ≠ gb790))) (fun _ hk => hk.2) (.slice Ao30 y800.length co30)) (fun _ hk => ⟨hk.1.1.1, ⟨hk.1.2, ⟨hk.1.1.2.1, hk.1.1.2.2.2⟩⟩⟩)⟩, ⟨by (with_reducible repeat (first | refine kdN ?_ _ | refine kdr ?_ | refine kal ?_ _)); refine blk_put (cs := #[.int .i64 ((rd_T64 l0 x4_1).f0), .int .i64 ((rd_T64 l0 x4_1).f1), u791002, .slice Ao14 t783.length co14, .slice Ao13 t787.length co13]) ?_ 2 _ rfl; (with_reducible repeat (first | refine kdN ?_ _ | refine kdr ?_ | refine kal ?_ _)); exact BK790.out⟩, ⟨bb HB⟩⟩
def r3_Copy.l0 : Nat → Int → Int → List (S66) → List (S64) → Int → List (S66) → List (S64) → Option (Int × (List (S66)) × (List (S64)))
 | 0, _, _, _, _, _, _, _ => none
 | k + 1, x4, x807000, x807001, x807002, x812000, x812001, x812002 => if x4 < (x807001.length : Int) then (if 0 ≤ x4 then (if x812001.length < 4398046511104 then (r3_Copy.l0 k (wrap64 (x4 + 1)) x807000 x807001 x807002 x812000 (x812001 ++ [(⟨(rd_T66 x807001 x4).f0, (rd_T66 x807001 x4).f1, (rd_T66 x807001 x4).f2⟩ : S66)]) x812002) else (none)) else (none)) else (some (x812000, x812001, x812002))
def r3_Copy.f (k : Nat) (a0_0 : Int) (l0_1 : List (S66)) (l0_2 : List (S64)) : Option (Int × (List (S66)) × (List (S64))) := (r3_CopyRows.f k l0_2).bind fun t808 => (r3_Copy.l0 k 0 a0_0 l0_1 l0_2 a0_0 ([] : List (S66)) t808)
def r3_Copy.T1 : Bool × List (List Nat × List Nat) := (true, [([], []), ([0], [0]), ([], []), ([2], [2]), ([3], [3]), ([1, 4], [1, 4]), ([], []), ([6, 5, 4, 0, 1, 2, 3, 4, 5, 6], [5, 6])])
def r3_Copy.B1 : List Nat := [0, 1, 0, 4, 12, 31, 0, 127]
theorem r3_Copy.tab1 : rtab .any (opsOf Try.f37 1) = r3_Copy.T1 := by kernel_rfl
theorem r3_Copy.bits1 : waitsOk r3_Copy.T1.2 r3_Copy.B1 = true := by kernel_rfl
def r3_Copy.T5 : Bool × List (List Nat × List Nat) := (true, [([], []), ([0], [0]), ([], []), ([2], [2]), ([], []), ([3, 4], [3, 4]), ([5], [5]), ([6], [6]), ([1, 7], [1, 7]), ([0, 1, 2, 3, 4, 5, 6, 7, 8], []), ([9, 8, 8, 0, 1, 2, 3, 4, 5, 6, 7, 8], [8, 9])])
def r3_Copy.B5 : List Nat := [0, 1, 0, 4, 0, 28, 60, 124, 255, 511, 1023]
theorem r3_Copy.tab5 : rtab .any (opsOf Try.f37 5) = r3_Copy.T5 := by kernel_rfl
theorem r3_Copy.bits5 : waitsOk r3_Copy.T5.2 r3_Copy.B5 = true := by kernel_rfl
theorem r3_Copy.calls (k : Nat) (a0_0 : Int) (A0_1 : Option Addr) (c0_1 : Nat) (l0_1 : List (S66)) (A0_2 : Option Addr) (c0_2 : Nat) (l0_2 : List (S64)) (r1 : Int) (r2 : List (S66)) (r3 : List (S64)) (w : World) (hr0_1 : Kd.C k66 w A0_1 l0_1.length l0_1) (hc0_1 : l0_1.length ≤ c0_1) (hr0_2 : Kd.C k64 w A0_2 l0_2.length l0_2) (hc0_2 : l0_2.length ≤ c0_2) (h : r3_Copy.f k a0_0 l0_1 l0_2 = some (r1, r2, r3)) :
  Calls Try.prog 37 #[.agg #[.int .i64 a0_0, .slice A0_1 l0_1.length c0_1, .slice A0_2 l0_2.length c0_2]] w fun e w' => ∃ v1_ v2_ : Value, e = .returned (.agg #[.int .i64 r1, v1_, v2_]) ∧ Kd.R k66 66 w' w.heap.size (fun _ => True) v1_ r2 ∧ Kd.R k64 64 w' w.heap.size (fun _ => True) v2_ r3 ∧ Below w.heap.size w w' := by
 have hu25 := Try.underlying25
 have hu66 := Try.underlying66
 have HR0_1 := Aside0.mk hr0_1
 have HC0_1 := Aside0.mk hc0_1
 clear hr0_1 hc0_1
 have HR0_2 := Aside0.mk hr0_2
 have HC0_2 := Aside0.mk hc0_2
 clear hr0_2 hc0_2
 have HB := Aside0.mk (Below.refl w.heap.size w)
 have H : ((r3_CopyRows.f k l0_2).bind fun t808 => (r3_Copy.l0 k 0 a0_0 l0_1 l0_2 a0_0 ([] : List (S66)) t808)) = some (r1, r2, r3) := h
 clear h
 obtain ⟨t808, A2, H⟩ := be H
 have H' := Aside0.mk H
 clear H
 go_enter Try.func37, Try.ntmps37
 try go_wp2_with (first | ((with_reducible refine gate_dst (N := 1) rfl ?_); refine bx 1 rfl rfl #[.int .i64 a0_0, .slice A0_1 l0_1.length c0_1, .slice A0_2 l0_2.length c0_2] 25 ?_; intro gb806 hg w3 hbox hb; have BK806 := Aside0.mk (hbox); have GE806 := ge HB hg; replace HB := sb HB hb; clear hb hbox hg) | ((with_reducible refine gate_dst (N := 2) rfl ?_); refine bx 2 rfl rfl #[.int .i64 0, .slice none 0 0, .slice none 0 0] 25 ?_; intro gb807 hg w4 hbox hb; have BK807 := Aside0.mk (hbox); have GE807 := ge HB hg; have NB806_807 := Aside0.mk ((by rw [hg]; exact Nat.ne_of_lt (blk_lt (kk BK806)) : gb806 ≠ gb807)); have NB807_806 := Aside0.mk ((by rw [hg]; exact Nat.ne_of_gt (blk_lt (kk BK806)) : gb807 ≠ gb806)); replace BK806 := kb BK806 hb; replace HB := sb HB hb; clear hb hbox hg))
 replace BK806 := Aside0.mk (kdr BK806.out)
 replace BK807 := Aside0.mk (kdr BK807.out)
 replace HB := Aside0.mk (bd1 HB.out)
 refine start_ (n := 8) (S := fun w' => w'.cell? ⟨gb806, 0, none⟩ = some (.int .i64 a0_0) ∧ w'.cell? ⟨gb806, 1, none⟩ = some (.slice A0_1 l0_1.length c0_1) ∧ w'.cell? ⟨gb806, 2, none⟩ = some (.slice A0_2 l0_2.length c0_2)) (ds := []) #[false, false, false, false, false, false, false, false] (by kernel_rfl) rfl rfl ⟨(blk_cell BK806.out 0).trans rfl, (blk_cell BK806.out 1).trans rfl, (blk_cell BK806.out 2).trans rfl⟩ (fun hHeld => ?_); refine with_tabW r3_Copy.tab1 r3_Copy.bits1 (fun HT_ HW_ => ?_)
 generalize w4.drew = w5 at BK806 BK807 HB hHeld ⊢
 refine pT 0 5 (bl 8 1) HT_ rfl rfl ?_
 refine pT 2 7 (bl 8 5) HT_ rfl rfl ?_
 refine tk (i := 1) (N := some 6) (bl 8 7) rfl rfl (take_ofW HT_.out HW_.out (by kernel_rfl)) hHeld ?_
 refine tk (i := 3) (N := some 8) (bl 8 15) rfl rfl (take_ofW HT_.out HW_.out (by kernel_rfl)) hHeld ?_
 refine join_ (σ := Value × Nat) 1 #[true, true, true, true, true, true, true, false] (fun s_ => [(9, s_.1), (3, .pointer (some ⟨s_.2, 0, none⟩)), (10, .agg #[.int .i64 a0_0, .slice none 0 0, s_.1])]) (fun s_ w' => (w'.cell? ⟨gb806, 0, none⟩ = some (.int .i64 a0_0) ∧ w'.cell? ⟨gb806, 1, none⟩ = some (.slice A0_1 l0_1.length c0_1) ∧ w'.cell? ⟨gb806, 2, none⟩ = some (.slice A0_2 l0_2.length c0_2)) ∧ (Kd.R k64 64 w' w.heap.size (fun _ => True) s_.1 t808) ∧ (w'.heap[gb806]? = some (.cells #[.int .i64 a0_0, .slice A0_1 l0_1.length c0_1, .slice A0_2 l0_2.length c0_2] 25 (0, 0))) ∧ (w'.heap[gb807]? = some (.cells #[.int .i64 0, .slice none 0 0, .slice none 0 0] 25 (0, 0))) ∧ (w'.heap[s_.2]? = some (.cells #[.int .i64 0, .slice none 0 0, .slice none 0 0] 25 (0, 0))) ∧ (w.heap.size ≤ s_.2) ∧ (w.heap.size ≤ s_.2) ∧ (gb806 ≠ s_.2) ∧ (s_.2 ≠ gb806) ∧ (gb807 ≠ s_.2) ∧ (s_.2 ≠ gb807) ∧ (Below w.heap.size w w')) ?_ ?_
 rotate_left
 ·intro hCont
  refine two_ (i := 4) (j := 6) (Ni := some 9) (Nj := some 3) #[true, true, true, true, true, false, false, false] #[true, true, true, true, false, false, true, false] rfl rfl rfl rfl (two_of HT_.out (by kernel_rfl)) (by decide) (by decide) (fun K hK => ?_) (fun K hK => ?_)
  ·skip
   refine gO Try.func75 #[.slice A0_2 l0_2.length c0_2] (by rfl) rfl rfl ?_
   with_reducible refine (r3_CopyRows.calls k _ _ l0_2 t808 _ ?side1 ?side2 A2.out).mono ?_
   (case side1 => exact cb HR0_2 HB)
   (case side2 => exact HC0_2.out)
   rintro e w6 ⟨v809, rfl, ho0, hb⟩
   refine ⟨_, rfl, ?_⟩
   have HO810 := Aside0.mk (Kd.R_lower ho0 (bsz (bb HB)))
   replace BK806 := kb BK806 hb
   replace BK807 := kb BK807 hb
   replace HB := sb HB hb
   (try clear hb)
   (try clear hb2)
   (try clear hk)
   (try clear hi)
   (try clear ho0)
   obtain ⟨Ao7, co7, eo7⟩ := Kd.R_slice HO810.out
   (first | subst eo7 | (injection eo7 with f1_ f2_ f3_; have f4_ := f1_.symm; have f5_ := f3_.symm; clear f1_ f2_ f3_; subst f4_; subst f5_))
   refine hK.out _ _ ⟨(blk_cell BK806.out 0).trans rfl, (blk_cell BK806.out 1).trans rfl, (blk_cell BK806.out 2).trans rfl⟩ (fun hHeld => ?_)
   clear hK K
   refine nm 9 ?_
   refine pT 5 10 (bl 8 63) HT_ rfl rfl ?_
   refine one_ (i := 6) (N := some 3) (bl 8 127) rfl rfl (one_of HT_.out (by kernel_rfl)) (by decide) (fun K hK => ?_)
   refine box_step ?hg (N := 3) ?hd (cs := #[.int .i64 0, .slice none 0 0, .slice none 0 0]) (t := 25) ?hr ?_; (case hd => rfl); (case hg => rfl); (case hr => first | (go_simp; done) | (go_simp; rfl))
   intro gb811 hg w8 hbox hb
   have BK811 := Aside0.mk (hbox)
   have GW811 := ge HB hg
   have GE811 := ge HB hg
   have NB806_811 := Aside0.mk ((by rw [hg]; exact Nat.ne_of_lt (blk_lt (kk BK806)) : gb806 ≠ gb811))
   have NB811_806 := Aside0.mk ((by rw [hg]; exact Nat.ne_of_gt (blk_lt (kk BK806)) : gb811 ≠ gb806))
   have NB807_811 := Aside0.mk ((by rw [hg]; exact Nat.ne_of_lt (blk_lt (kk BK807)) : gb807 ≠ gb811))
   have NB811_807 := Aside0.mk ((by rw [hg]; exact Nat.ne_of_gt (blk_lt (kk BK807)) : gb811 ≠ gb807))
   replace HO810 := Aside0.mk (Kd.R_below (iR HO810) hb)
   replace BK806 := kb BK806 hb
   replace BK807 := kb BK807 hb
   replace HB := sb HB hb
   clear hb hbox hg
   refine hK.out _ _ ⟨(blk_cell BK806.out 0).trans rfl, (blk_cell BK806.out 1).trans rfl, (blk_cell BK806.out 2).trans rfl⟩ (fun hHeld => ?_)
   clear hK K
   refine nm 3 ?_
   exact norm_ (by simp only [putAll, Act.put, List.setIfInBounds_toArray, List.set_cons_zero, List.set_cons_succ]) (hCont (.slice Ao7 t808.length co7, gb811) _ ⟨hHeld, (iR HO810), (kk BK806), (kk BK807), (kk BK811), GW811.out, GE811.out, NB806_811.out, NB811_806.out, NB807_811.out, NB811_807.out, (bb HB)⟩)
  ·skip
   refine box_step ?hg (N := 3) ?hd (cs := #[.int .i64 0, .slice none 0 0, .slice none 0 0]) (t := 25) ?hr ?_; (case hd => rfl); (case hg => rfl); (case hr => first | (go_simp; done) | (go_simp; rfl))
   intro gb811 hg w6 hbox hb
   have BK811 := Aside0.mk (hbox)
   have GW811 := ge HB hg
   have GE811 := ge HB hg
   have NB806_811 := Aside0.mk ((by rw [hg]; exact Nat.ne_of_lt (blk_lt (kk BK806)) : gb806 ≠ gb811))
   have NB811_806 := Aside0.mk ((by rw [hg]; exact Nat.ne_of_gt (blk_lt (kk BK806)) : gb811 ≠ gb806))
   have NB807_811 := Aside0.mk ((by rw [hg]; exact Nat.ne_of_lt (blk_lt (kk BK807)) : gb807 ≠ gb811))
   have NB811_807 := Aside0.mk ((by rw [hg]; exact Nat.ne_of_gt (blk_lt (kk BK807)) : gb811 ≠ gb807))
   replace BK806 := kb BK806 hb
   replace BK807 := kb BK807 hb
   replace HB := sb HB hb
   clear hb hbox hg
   refine hK.out _ _ ⟨(blk_cell BK806.out 0).trans rfl, (blk_cell BK806.out 1).trans rfl, (blk_cell BK806.out 2).trans rfl⟩ (fun hHeld => ?_)
   clear hK K
   refine nm 3 ?_
   refine one_ (i := 4) (N := some 9) (bl 8 95) rfl rfl (one_of HT_.out (by kernel_rfl)) (by decide) (fun K hK => ?_)
   refine gO Try.func75 #[.slice A0_2 l0_2.length c0_2] (by rfl) rfl rfl ?_
   with_reducible refine (r3_CopyRows.calls k _ _ l0_2 t808 _ ?side1 ?side2 A2.out).mono ?_
   (case side1 => exact cb HR0_2 HB)
   (case side2 => exact HC0_2.out)
   rintro e w7 ⟨v809, rfl, ho0, hb⟩
   refine ⟨_, rfl, ?_⟩
   have HO810 := Aside0.mk (Kd.R_lower ho0 (bsz (bb HB)))
   replace BK806 := kb BK806 hb
   replace BK807 := kb BK807 hb
   replace BK811 := kb BK811 hb
   replace HB := sb HB hb
   (try clear hb)
   (try clear hb2)
   (try clear hk)
   (try clear hi)
   (try clear ho0)
   obtain ⟨Ao8, co8, eo8⟩ := Kd.R_slice HO810.out
   (first | subst eo8 | (injection eo8 with f1_ f2_ f3_; have f4_ := f1_.symm; have f5_ := f3_.symm; clear f1_ f2_ f3_; subst f4_; subst f5_))
   refine hK.out _ _ ⟨(blk_cell BK806.out 0).trans rfl, (blk_cell BK806.out 1).trans rfl, (blk_cell BK806.out 2).trans rfl⟩ (fun hHeld => ?_)
   clear hK K
   refine nm 9 ?_
   refine pT 5 10 (bl 8 127) HT_ rfl rfl ?_
   exact norm_ (by simp only [putAll, Act.put, List.setIfInBounds_toArray, List.set_cons_zero, List.set_cons_succ]) (hCont (.slice Ao8 t808.length co8, gb811) _ ⟨hHeld, (iR HO810), (kk BK806), (kk BK807), (kk BK811), GW811.out, GE811.out, NB806_811.out, NB811_806.out, NB807_811.out, NB811_807.out, (bb HB)⟩)
 rintro ⟨v809, gb811⟩ w9 ⟨hS_, h0_, h1_, h2_, h3_, h4_, h5_, h6_, h7_, h8_, h9_, h10_⟩
 have n0_ : Aside0 (Kd.R k64 64 w9 w.heap.size (fun _ => True) v809 t808) := ⟨h0_⟩
 have n1_ : Aside0 (w9.heap[gb806]? = some (.cells #[.int .i64 a0_0, .slice A0_1 l0_1.length c0_1, .slice A0_2 l0_2.length c0_2] 25 (0, 0))) := ⟨h1_⟩
 have n2_ : Aside0 (w9.heap[gb807]? = some (.cells #[.int .i64 0, .slice none 0 0, .slice none 0 0] 25 (0, 0))) := ⟨h2_⟩
 have n3_ : Aside0 (w9.heap[gb811]? = some (.cells #[.int .i64 0, .slice none 0 0, .slice none 0 0] 25 (0, 0))) := ⟨h3_⟩
 have n4_ : Aside0 (w.heap.size ≤ gb811) := ⟨h4_⟩
 have n5_ : Aside0 (w.heap.size ≤ gb811) := ⟨h5_⟩
 have n6_ : Aside0 (gb806 ≠ gb811) := ⟨h6_⟩
 have n7_ : Aside0 (gb811 ≠ gb806) := ⟨h7_⟩
 have n8_ : Aside0 (gb807 ≠ gb811) := ⟨h8_⟩
 have n9_ : Aside0 (gb811 ≠ gb807) := ⟨h9_⟩
 have n10_ : Aside0 (Below w.heap.size w w9) := ⟨h10_⟩
 clear BK806
 clear BK807
 clear HB
 clear h0_ h1_ h2_ h3_ h4_ h5_ h6_ h7_ h8_ h9_ h10_
 have HO810 := n0_
 have BK806 := n1_
 have BK807 := n2_
 have BK811 := n3_
 have GW811 := n4_
 have GE811 := n5_
 have NB806_811 := n6_
 have NB811_806 := n7_
 have NB807_811 := n8_
 have NB811_807 := n9_
 have HB := n10_
 clear n0_ n1_ n2_ n3_ n4_ n5_ n6_ n7_ n8_ n9_ n10_
 have hHeld : w9.cell? ⟨gb806, 0, none⟩ = some (.int .i64 a0_0) ∧ w9.cell? ⟨gb806, 1, none⟩ = some (.slice A0_1 l0_1.length c0_1) ∧ w9.cell? ⟨gb806, 2, none⟩ = some (.slice A0_2 l0_2.length c0_2) := hS_
 obtain ⟨Ao10, co10, eo10⟩ := Kd.R_slice HO810.out
 (first | subst eo10 | (injection eo10 with f1_ f2_ f3_; have f4_ := f1_.symm; have f5_ := f3_.symm; clear f1_ f2_ f3_; subst f4_; subst f5_))
 refine norm_ (a' := ?_) ?_ ?_
 rotate_left
 ·simp only [putAll, Act.put, List.setIfInBounds_toArray, List.set_cons_zero, List.set_cons_succ]
  rfl
 refine one_ (i := 7) (N := none) (bl 8 255) rfl rfl (one_of HT_.out (by kernel_rfl)) (by decide) (fun K hK => ?_)
 have hs11 : w9.cell? ⟨gb811, 0, none⟩ = some (.int .i64 0) := (blk_cell BK811.out 0).trans rfl
 have hfs11 := blk_frozen BK811.out 0
 have hns11_0 := NB806_811.out
 have hns11_1 := NB807_811.out
 have hms11_0 := NB811_806.out
 have hms11_1 := NB811_807.out
 have hs12 : w9.cell? ⟨gb811, 1, none⟩ = some (.slice none 0 0) := (blk_cell BK811.out 1).trans rfl
 have hfs12 := blk_frozen BK811.out 1
 have hns12_0 := NB806_811.out
 have hns12_1 := NB807_811.out
 have hms12_0 := NB811_806.out
 have hms12_1 := NB811_807.out
 have hs13 : w9.cell? ⟨gb811, 2, none⟩ = some (.slice none 0 0) := (blk_cell BK811.out 2).trans rfl
 have hfs13 := blk_frozen BK811.out 2
 have hns13_0 := NB806_811.out
 have hns13_1 := NB807_811.out
 have hms13_0 := NB811_806.out
 have hms13_1 := NB811_807.out
 refine skip_ (w1 := ?_) (by rfl) rfl ?_ ?_
 rotate_left
 ·go_simp
  rfl
 refine hK.out _ _ ⟨((cell_far (p := ⟨gb811, _, none⟩) NB806_811.out _).trans (((cell_far (p := ⟨gb811, _, none⟩) NB806_811.out _).trans (((cell_far (p := ⟨gb811, _, none⟩) NB806_811.out _).trans (hHeld.1)))))), ((cell_far (p := ⟨gb811, _, none⟩) NB806_811.out _).trans (((cell_far (p := ⟨gb811, _, none⟩) NB806_811.out _).trans (((cell_far (p := ⟨gb811, _, none⟩) NB806_811.out _).trans (hHeld.2.1)))))), ((cell_far (p := ⟨gb811, _, none⟩) NB806_811.out _).trans (((cell_far (p := ⟨gb811, _, none⟩) NB806_811.out _).trans (((cell_far (p := ⟨gb811, _, none⟩) NB806_811.out _).trans (hHeld.2.2))))))⟩ (fun hHeld => ?_)
 clear hK K
 refine done_ (done_of HT_.out (by kernel_rfl)) ?_
 try go_wp2
 go_loopg [4] k (fun kq v4 w' => ∃ (x4_1 : Int) (x812001_1 : List (S66)) (u812001 : Value), v4 = .int .i64 x4_1 ∧ Aside0 (r3_Copy.l0 kq x4_1 a0_0 l0_1 l0_2 a0_0 x812001_1 t808 = some (r1, r2, r3)) ∧ Aside0 (kq ≤ k) ∧ Aside0 (Kd.R k66 66 w' w.heap.size (fun _ => True) u812001 x812001_1) ∧ Aside0 (Kd.R k64 64 w' w.heap.size (fun _ => True) (.slice Ao10 t808.length co10) t808) ∧ Aside0 (w'.heap[gb806]? = some (.cells #[.int .i64 a0_0, (.slice A0_1 l0_1.length c0_1), (.slice A0_2 l0_2.length c0_2)] 25 (0, 0))) ∧ Aside0 (w'.heap[gb807]? = some (.cells #[.int .i64 0, (.slice none 0 0), (.slice none 0 0)] 25 (0, 0))) ∧ Aside0 (w'.heap[gb811]? = some (.cells #[.int .i64 a0_0, u812001, (.slice Ao10 t808.length co10)] 25 (0, 0))) ∧ Aside0 (Below w.heap.size w w'))
 case atStart => exact ⟨(0), (([] : List (S66))), (.slice none 0 0), rs, H', ⟨Nat.le_refl _⟩, ⟨by first | exact Kd.R_nil _ _ _ _ _ | exact Kd.N_nil _ _ _ _ _ | exact Kd.V_nil _ _ _ _ _ | exact Kd.Q_nil _ _ _ _ _ | exact Kd.S_nil _ _ _ _ _⟩, ⟨by (with_reducible repeat (first | apply Kd.R_alloc | apply Kd.R_drewN | apply Kd.R_drew)); exact Kd.R_mono (Kd.R_far (p := ⟨gb811, 2, none⟩) (Kd.R_far (p := ⟨gb811, 1, none⟩) (Kd.R_far (p := ⟨gb811, 0, none⟩) (Kd.R_types HO810.out BK811.out (by decide)) (fun _ hk => hk.2) (.int .i64 a0_0)) (fun _ hk => hk.2) (.slice none 0 0)) (fun _ hk => hk.2) (.slice Ao10 t808.length co10)) (fun _ hk => trivial)⟩, ⟨kk BK806⟩, ⟨kk BK807⟩, ⟨by (with_reducible repeat (first | refine kdN ?_ _ | refine kdr ?_ | refine kal ?_ _)); refine blk_put (cs := #[.int .i64 a0_0, .slice none 0 0, .slice none 0 0]) ?_ 2 _ rfl; (with_reducible repeat (first | refine kdN ?_ _ | refine kdr ?_ | refine kal ?_ _)); refine blk_put (cs := #[.int .i64 a0_0, .slice none 0 0, .slice none 0 0]) ?_ 1 _ rfl; (with_reducible repeat (first | refine kdN ?_ _ | refine kdr ?_ | refine kal ?_ _)); refine blk_put (cs := #[.int .i64 0, .slice none 0 0, .slice none 0 0]) ?_ 0 _ rfl; (with_reducible repeat (first | refine kdN ?_ _ | refine kdr ?_ | refine kal ?_ _)); exact BK811.out⟩, ⟨bb HB⟩⟩
 case round =>
  clear H'
  try clear p2
  try clear c3
  try clear c7
  obtain ⟨x4_1, x812001_1, u812001, rfl, HA, HK1, HO_812001, HO_812002, BK806, BK807, BK811, HB⟩ := hrel
  cases gk with
  | zero => exact absurd HA.out (by simp [r3_Copy.l0])
  | succ k1 =>
   have H := HA.out
   clear HA
   simp only [r3_Copy.l0] at H
   by_cases c14 : x4_1 < (l0_1.length : Int)
   rotate_left
   ·rw [if_neg c14] at H
    have c14b0 : decide (x4_1 < (l0_1.length : Int)) = false := decide_eq_false c14
    clear c14
    simp only [Option.some.injEq, Prod.mk.injEq] at H
    obtain ⟨rfl, rfl, rfl⟩ := H
    have hnb24 := NB806_807.out
    have hnc24 := NB807_806.out
    have hnb25 := NB806_811.out
    have hnc25 := NB811_806.out
    obtain ⟨hcz26_0, hcz26_1, hcz26_2, hfz26_0, hfz26_1, hfz26_2⟩ := cf3 BK806.out
    have hnb27 := NB811_807.out
    have hnc27 := NB807_811.out
    obtain ⟨hcz28_0, hcz28_1, hcz28_2, hfz28_0, hfz28_1, hfz28_2⟩ := cf3 BK811.out
    obtain ⟨hcz29_0, hcz29_1, hcz29_2, hfz29_0, hfz29_1, hfz29_2⟩ := cf3 BK807.out
    obtain ⟨Ao30, co30, eo30⟩ := Kd.R_slice HO_812001.out
    subst eo30
    go_wp2
    refine bodyPost_ret (results_cell_row rfl _ _ gb807 25 #[.int .i64 a0_0, .slice Ao30 x812001_1.length co30, .slice Ao10 t808.length co10] (0, 0) _ rfl (by (with_reducible repeat (first | refine kdN ?_ _ | refine kdr ?_ | refine kal ?_ _)); refine blk_put (cs := #[.int .i64 a0_0, .slice Ao30 x812001_1.length co30, .slice none 0 0]) ?_ 2 _ rfl; (with_reducible repeat (first | refine kdN ?_ _ | refine kdr ?_ | refine kal ?_ _)); refine blk_put (cs := #[.int .i64 a0_0, .slice none 0 0, .slice none 0 0]) ?_ 1 _ rfl; (with_reducible repeat (first | refine kdN ?_ _ | refine kdr ?_ | refine kal ?_ _)); refine blk_put (cs := #[.int .i64 0, .slice none 0 0, .slice none 0 0]) ?_ 0 _ rfl; (with_reducible repeat (first | refine kdN ?_ _ | refine kdr ?_ | refine kal ?_ _)); exact BK807.out) Try.underlying25 rfl (by kernel_rfl)) rfl ?_
    exact ⟨_, _, rr, by (with_reducible repeat (first | apply Kd.R_alloc | apply Kd.R_drewN | apply Kd.R_drew)); exact Kd.R_mono (Kd.R_far (p := ⟨gb807, 2, none⟩) (Kd.R_far (p := ⟨gb807, 1, none⟩) (Kd.R_far (p := ⟨gb807, 0, none⟩) (Kd.R_types HO_812001.out BK807.out (by decide)) (fun _ hk => hk.2) (.int .i64 a0_0)) (fun _ hk => hk.2) (.slice Ao30 x812001_1.length co30)) (fun _ hk => hk.2) (.slice Ao10 t808.length co10)) (fun _ hk => trivial), by (with_reducible repeat (first | apply Kd.R_alloc | apply Kd.R_drewN | apply Kd.R_drew)); exact Kd.R_mono (Kd.R_far (p := ⟨gb807, 2, none⟩) (Kd.R_far (p := ⟨gb807, 1, none⟩) (Kd.R_far (p := ⟨gb807, 0, none⟩) (Kd.R_types HO_812002.out BK807.out (by decide)) (fun _ hk => hk.2) (.int .i64 a0_0)) (fun _ hk => hk.2) (.slice Ao30 x812001_1.length co30)) (fun _ hk => hk.2) (.slice Ao10 t808.length co10)) (fun _ hk => trivial), bb HB⟩
   rw [if_pos c14] at H
   have c14b0 : decide (x4_1 < (l0_1.length : Int)) = true := decide_eq_true c14
   clear c14
   by_cases c15 : 0 ≤ x4_1
   rotate_left
   ·rw [if_neg c15] at H
    exact absurd H (by simp)
   rw [if_pos c15] at H
   have c15b0 : decide (0 ≤ x4_1) = true := decide_eq_true c15
   clear c15
   by_cases c16 : x812001_1.length < 4398046511104
   rotate_left
   ·rw [if_neg c16] at H
    exact absurd H (by simp)
   rw [if_pos c16] at H
   have LMc16 := Aside0.mk c16
   clear c16
   obtain ⟨y813, hy813⟩ : ∃ y_ : List (S66), y_ = (x812001_1 ++ [(⟨(rd_T66 l0_1 x4_1).f0, (rd_T66 l0_1 x4_1).f1, (rd_T66 l0_1 x4_1).f2⟩ : S66)]) := ⟨_, rfl⟩
   replace H : (r3_Copy.l0 k1 (wrap64 (x4_1 + 1)) a0_0 l0_1 l0_2 a0_0 y813 t808) = some (r1, r2, r3) := by first | (rw [hy813]; with_reducible exact H) | (have H2_ := (Option.bind_some _ _).symm.trans H; rw [hy813]; with_reducible exact H2_) | (have H2_ := (Option.bind_some _ _).symm.trans H; with_reducible exact H2_) | with_reducible exact H | (rw [hy813]; exact H) | exact H
   have Ny813 := Aside0.mk hy813
   clear hy813
   have H' := Aside0.mk H
   clear H
   have hnb17 := NB806_807.out
   have hnc17 := NB807_806.out
   have hnb18 := NB806_811.out
   have hnc18 := NB811_806.out
   obtain ⟨hcz19_0, hcz19_1, hcz19_2, hfz19_0, hfz19_1, hfz19_2⟩ := cf3 BK806.out
   try go_wp2
   replace HO_812001 := Aside0.mk (Kd.R_drew HO_812001.out)
   replace HO_812002 := Aside0.mk (Kd.R_drew HO_812002.out)
   replace BK806 := Aside0.mk (kdr BK806.out)
   replace BK807 := Aside0.mk (kdr BK807.out)
   replace BK811 := Aside0.mk (kdr BK811.out)
   replace HB := Aside0.mk (bd1 HB.out)
   have p812 : 0 ≤ (x4_1 : Int) := od
   have q812 : x4_1 < (l0_1.length : Int) := od
   obtain ⟨ad812, e812, hx812_0, hx812_1, hx812_2⟩ := at_T66 HR0_1.out x4_1 p812 q812
   have hw812_2 := hx812_2
   have hw812_1 := hx812_1
   have hw812_0 := hx812_0
   cases e812
   replace hx812_0 := bcell HB.out hx812_0
   replace hx812_1 := bcell HB.out hx812_1
   replace hx812_2 := bcell HB.out hx812_2
   replace p812 := eq_true p812
   replace q812 := eq_true q812
   refine start_ (n := 11) (S := fun w' => w'.cell? ⟨gb811, 0, none⟩ = some (.int .i64 a0_0) ∧ w'.cell? ⟨gb811, 1, none⟩ = some (u812001) ∧ w'.cell? ⟨gb811, 2, none⟩ = some (.slice Ao10 t808.length co10) ∧ w'.cell? ⟨gb806, 0, none⟩ = some (.int .i64 a0_0) ∧ w'.cell? ⟨gb806, 1, none⟩ = some (.slice (some ad812) l0_1.length c0_1) ∧ w'.cell? ⟨gb806, 2, none⟩ = some (.slice A0_2 l0_2.length c0_2) ∧ w'.cell? (ad812.add ((x4_1).toNat * 3)) = some (.string ((rd_T66 l0_1 x4_1).f0)) ∧ w'.cell? ⟨(ad812.add ((x4_1).toNat * 3)).block, (ad812.add ((x4_1).toNat * 3)).off + 1, none⟩ = some (.int .i64 ((rd_T66 l0_1 x4_1).f1)) ∧ w'.cell? ⟨(ad812.add ((x4_1).toNat * 3)).block, (ad812.add ((x4_1).toNat * 3)).off + 2, none⟩ = some (.int .i64 ((rd_T66 l0_1 x4_1).f2))) (ds := [10]) #[false, false, false, false, false, false, false, false, false, false, false] (by kernel_rfl) rfl rfl ⟨(blk_cell BK811.out 0).trans rfl, (blk_cell BK811.out 1).trans rfl, (blk_cell BK811.out 2).trans rfl, (blk_cell BK806.out 0).trans rfl, (blk_cell BK806.out 1).trans rfl, (blk_cell BK806.out 2).trans rfl, (bcell HB.out hw812_0), (bcell HB.out hw812_1), (bcell HB.out hw812_2)⟩ (fun hHeld => ?_); refine with_tabW r3_Copy.tab5 r3_Copy.bits5 (fun HT_ HW_ => ?_)
   generalize wr.drew = w20 at HO_812001 HO_812002 BK806 BK807 BK811 HB hx812_0 hx812_1 hx812_2 hHeld ⊢
   refine pT 0 18 (bl 11 1) HT_ rfl rfl ?_
   refine pT 2 20 (bl 11 5) HT_ rfl rfl ?_
   refine pT 4 22 (bl 11 21) HT_ rfl rfl ?_
   refine tk (i := 1) (N := some 19) (bl 11 23) rfl rfl (take_ofW HT_.out HW_.out (by kernel_rfl)) hHeld ?_
   refine tk (i := 3) (N := some 21) (bl 11 31) rfl rfl (take_ofW HT_.out HW_.out (by kernel_rfl)) hHeld ?_
   refine pT 5 23 (bl 11 63) HT_ rfl rfl ?_
   refine tk (i := 6) (N := some 24) (bl 11 127) rfl rfl (take_ofW HT_.out HW_.out (by kernel_rfl)) hHeld ?_
   refine one_ (i := 7) (N := some 25) (bl 11 255) rfl rfl (one_of HT_.out (by kernel_rfl)) (by decide) (fun K hK => ?_)
   refine value_ (w1 := ?_) (v := ?_) (by rfl) rfl ?_ ?_
   rotate_left 2
   ·go_simp
    constructor
    ·rfl
    ·rfl
   refine hK.out _ _ ⟨(blk_cell (kal BK811.out _) 0).trans rfl, (blk_cell (kal BK811.out _) 1).trans rfl, (blk_cell (kal BK811.out _) 2).trans rfl, (blk_cell (kal BK806.out _) 0).trans rfl, (blk_cell (kal BK806.out _) 1).trans rfl, (blk_cell (kal BK806.out _) 2).trans rfl, (World.cell?_alloc_lt _ _ _ (World.block_lt_of_cell? _ _ ((bcell HB.out hw812_0)))).trans ((bcell HB.out hw812_0)), (World.cell?_alloc_lt _ _ _ (World.block_lt_of_cell? _ _ ((bcell HB.out hw812_1)))).trans ((bcell HB.out hw812_1)), (World.cell?_alloc_lt _ _ _ (World.block_lt_of_cell? _ _ ((bcell HB.out hw812_2)))).trans ((bcell HB.out hw812_2))⟩ (fun hHeld => ?_)
   clear hK K
   refine nm 25 ?_
   refine one_ (i := 8) (N := some 26) (bl 11 511) rfl rfl (one_of HT_.out (by kernel_rfl)) (by decide) (fun K hK => ?_)
   refine Kd.R_append_step k66 (w0 := w) w.heap.size (by rfl) (.tmp 19) (.tmp 25) 22 66 (.agg #[(.string ⟨#[]⟩), (.int .i64 0), (.int .i64 0)]) 32 rfl Try.underlying22 info66 rfl (by decide) (by omega) u812001 x812001_1 (⟨(rd_T66 l0_1 x4_1).f0, (rd_T66 l0_1 x4_1).f1, (rd_T66 l0_1 x4_1).f2⟩ : S66) [.string ((rd_T66 l0_1 x4_1).f0), .int .i64 ((rd_T66 l0_1 x4_1).f1), .int .i64 ((rd_T66 l0_1 x4_1).f2)] (fun _ => True) (fun _ => False) rfl rfl ?aP (fun _ hk => hk.elim) ?aF ?aO ?aB ?aS ?aL ?_
   (case aP => exact k66_mkM _ _ _ (⟨(rd_T66 l0_1 x4_1).f0, (rd_T66 l0_1 x4_1).f1, (rd_T66 l0_1 x4_1).f2⟩ : S66))
   (case aB => exact (bb HB))
   (case aF => exact (fun _ _ => trivial))
   (case aO => exact (iR HO_812001))
   (case aS => exact (bsz (bb HB)))
   (case aL => have := LMc16.out; omega)
   intro v814 w21 ho hb hg hat
   rw [← Ny813.out] at ho
   have HO815 := Aside0.mk (ho)
   replace HO_812002 := Aside0.mk (Kd.R_over' (iR HO_812002) (Kd.R_typed (iR HO_812001)) (by decide) hg)
   replace BK806 := Aside0.mk (blk_grown (kk BK806) hg (Kd.R_ne HO_812001.out BK806.out (by decide)))
   replace BK807 := Aside0.mk (blk_grown (kk BK807) hg (Kd.R_ne HO_812001.out BK807.out (by decide)))
   replace BK811 := Aside0.mk (blk_grown (kk BK811) hg (Kd.R_ne HO_812001.out BK811.out (by decide)))
   replace HB := Aside0.mk (hb)
   clear HO_812001
   clear ho hb hg hat
   obtain ⟨Ao22, co22, eo22⟩ := Kd.R_slice HO815.out
   (first | subst eo22 | (injection eo22 with f1_ f2_ f3_; have f4_ := f1_.symm; have f5_ := f3_.symm; clear f1_ f2_ f3_; subst f4_; subst f5_))
   refine hK.out _ _ ⟨(blk_cell BK811.out 0).trans rfl, (blk_cell BK811.out 1).trans rfl, (blk_cell BK811.out 2).trans rfl, (blk_cell BK806.out 0).trans rfl, (blk_cell BK806.out 1).trans rfl, (blk_cell BK806.out 2).trans rfl, (bcell HB.out hw812_0), (bcell HB.out hw812_1), (bcell HB.out hw812_2)⟩ (fun hHeld => ?_)
   clear hK K
   refine nm 26 ?_
   refine pT 9 27 (bl 11 1023) HT_ rfl rfl ?_
   refine last_ (i := 10) (N := none) (bl 11 2047) rfl rfl (one_of HT_.out (by kernel_rfl)) (by decide) (fun K hK => ?_)
   have hs23 : w21.cell? ⟨gb811, 1, none⟩ = some (u812001) := (blk_cell BK811.out 1).trans rfl
   have hfs23 := blk_frozen BK811.out 1
   have hns23_0 := NB806_811.out
   have hns23_1 := NB807_811.out
   have hms23_0 := NB811_806.out
   have hms23_1 := NB811_807.out
   refine skip_ (w1 := ?_) (by rfl) rfl ?_ ?_
   rotate_left
   ·go_simp
    rfl
   refine hK.out _ _ ?_
   clear hK K
   refine done_ (done_of HT_.out (by kernel_rfl)) ?_
   try go_wp2
   go_roundg k1
   case measure => have := HK1.out; omega
   case rel => exact ⟨(wrap64 (x4_1 + 1)), (y813), (.slice Ao22 y813.length co22), rs, H', ⟨by have := HK1.out; omega⟩, ⟨by (with_reducible repeat (first | apply Kd.R_alloc | apply Kd.R_drewN | apply Kd.R_drew)); exact Kd.R_mono (Kd.R_far (p := ⟨gb811, 1, none⟩) (Kd.R_types HO815.out BK811.out (by decide)) (fun _ hk => hk.2) (.slice Ao22 y813.length co22)) (fun _ hk => trivial)⟩, ⟨by (with_reducible repeat (first | apply Kd.R_alloc | apply Kd.R_drewN | apply Kd.R_drew)); exact Kd.R_mono (Kd.R_far (p := ⟨gb811, 1, none⟩) (Kd.R_types HO_812002.out BK811.out (by decide)) (fun _ hk => hk.2) (.slice Ao22 y813.length co22)) (fun _ hk => trivial)⟩, ⟨kk BK806⟩, ⟨kk BK807⟩, ⟨by (with_reducible repeat (first | refine kdN ?_ _ | refine kdr ?_ | refine kal ?_ _)); refine blk_put (cs := #[.int .i64 a0_0, u812001, .slice Ao10 t808.length co10]) ?_ 1 _ rfl; (with_reducible repeat (first | refine kdN ?_ _ | refine kdr ?_ | refine kal ?_ _)); exact BK811.out⟩, ⟨bb HB⟩⟩
theorem rcopyE : (∀ x, goodE x → eN x ≤ 1000 → Tells (fun k => r2_Copy.f k x.f0 x.f1 x.f2 x.f3) (x.f0, x.f1, x.f2, x.f3)) ∧
    (∀ suf, ∀ (pre acc : List S28) (a b c a' b' c' : Int), goodEs suf → (pre ++ suf).length ≤ 9223372036854775807 → eNs suf ≤ 1000 → acc.length + suf.length ≤ 1000 →
      Tells (fun k => r2_Copy.l0 k (pre.length : Int) a b c (pre ++ suf) a' b' c' acc) (a', b', c', acc ++ suf)) := by
  refine E_ind (fun a b c l ih => ?_) ?_ (fun x r ih1 ih2 => ?_)
  · intro hg hn
    simp only [eN] at hn
    have hle := eNs_len l
    refine Tells.succ ?_
    simp only [r2_Copy.f]
    exact ih [] [] a b c a b c hg.2 hg.1 (by omega) (by simp only [List.length_nil]; omega)
  · intro pre acc a b c a' b' c' _ _ _ _
    refine Tells.succ ?_
    simp only [r2_Copy.l0, pre_nlt, if_false]
    rw [List.append_nil]
    exact Tells.pure _
  · intro pre acc a b c a' b' c' hg hl hn ha
    simp only [eNs] at hn
    simp only [List.length_cons] at ha
    refine Tells.succ ?_
    simp only [r2_Copy.l0, pre_lt, pre_pos, if_true, rdE_mid]
    refine Tells.bind (ih1 hg.1 (by omega)) (Tells.ifT (by omega) ?_)
    rw [pre_next pre x r hl]
    have := ih2 (pre ++ [x]) (acc ++ [x]) a b c a' b' c' hg.2 (by rw [← pre_app]; exact hl) (by omega) (by simp only [List.length_append, List.length_cons, List.length_nil]; omega)
    rw [← pre_app, List.append_assoc, List.singleton_append] at this
    rw [E_eta]
    exact this
theorem rcopy_l1 (pre : List S64) (x : S64) (r acc : List S64) (op n : Int) (t e : List S64) (v : List S64) (ha : acc.length ≤ 1000) (hxl : x.f2.length ≤ 9223372036854775807) (hx1 : x.f2.length ≤ 1000) : ∀ (suf ap : List S28), x.f2 = ap ++ suf → goodEs suf → eNs suf ≤ 1000 →
    Tells (fun k => r3_CopyRows.l0 k (pre ++ x :: r) (acc ++ [⟨op, n, x.f2, t, e⟩]) (wrap64 ((pre.length : Int) + 1))) v →
    Tells (fun k => r3_CopyRows.l1 k (pre ++ x :: r) acc (pre.length : Int) (ap.length : Int) op n ap t e) v
  | [], ap, h, _, _, hv => by
    refine Tells.succ ?_
    have e1 : ¬ (ap.length : Int) < (x.f2.length : Int) := by rw [h, List.append_nil]; omega
    simp only [r3_CopyRows.l1, pre_lt, pre_pos, if_true, rdS_mid, e1, if_false]
    rw [h, List.append_nil] at hv
    exact Tells.ifT (by omega) hv
  | y :: q, ap, h, hg, hn, hv => by
    simp only [eNs] at hn
    refine Tells.succ ?_
    have e1 : (ap.length : Int) < (x.f2.length : Int) := by rw [h]; exact pre_lt ap y q
    have e2 : rd_T28 x.f2 (ap.length : Int) = y := by rw [h]; exact rdE_mid ap y q
    have hal : ap.length ≤ 1000 := by have := congrArg List.length h; rw [List.length_append] at this; omega
    simp only [r3_CopyRows.l1, pre_lt, pre_pos, if_true, rdS_mid, e1, e2]
    refine Tells.bind (rcopyE.1 y hg.1 (by omega)) (Tells.ifT (by omega) ?_)
    have e3 : wrap64 ((ap.length : Int) + 1) = ((ap ++ [y]).length : Int) := by
      rw [List.length_append, List.length_singleton, w64 (by omega) (by omega)]; omega
    rw [e3, E_eta]
    exact rcopy_l1 pre x r acc op n t e v ha hxl hx1 q (ap ++ [y]) (by rw [h]; simp) hg.2 (by omega) hv
theorem rcopyS : (∀ x, goodS x → sN x ≤ 1000 → Tells (fun k => r3_CopyRows.f k x.f3) x.f3 ∧ Tells (fun k => r3_CopyRows.f k x.f4) x.f4) ∧
    (∀ suf, goodSs suf → sNs suf ≤ 1000 → ∀ (pre acc : List S64), (pre ++ suf).length ≤ 9223372036854775807 → acc.length + suf.length ≤ 1000 → Tells (fun k => r3_CopyRows.l0 k (pre ++ suf) acc (pre.length : Int)) (acc ++ suf)) := by
  refine S_ind (fun a b l t e iht ihe => ?_) ?_ (fun x r ih1 ih2 => ?_)
  · intro hg hn
    rw [goodS_mk] at hg
    obtain ⟨⟨g1, g2⟩, ⟨g3, g4⟩, ⟨g5, g6⟩⟩ := hg
    rw [sN_eq] at hn
    have ht := sNs_len t
    have he := sNs_len e
    simp only at hn
    constructor
    · refine Tells.succ ?_
      simp only [r3_CopyRows.f]
      exact iht g4 (by omega) [] [] g3 (by simp only [List.length_nil]; omega)
    · refine Tells.succ ?_
      simp only [r3_CopyRows.f]
      exact ihe g6 (by omega) [] [] g5 (by simp only [List.length_nil]; omega)
  · intro _ _ pre acc _ _
    refine Tells.succ ?_
    simp only [r3_CopyRows.l0, pre_nlt, if_false]
    rw [List.append_nil]
    exact Tells.pure _
  · intro hg hn pre acc hl ha
    rw [sNs_cons] at hn
    rw [List.length_cons] at ha
    have gx : goodS x := hg.1
    rw [goodS_eq] at gx
    have hx := sN_eq x
    have hle := eNs_len x.f2
    refine Tells.succ ?_
    simp only [r3_CopyRows.l0, pre_lt, pre_pos, if_true, rdS_mid]
    obtain ⟨t3, t4⟩ := ih1 hg.1 (by omega)
    refine Tells.bind t3 (Tells.bind t4 ?_)
    refine rcopy_l1 pre x r acc x.f0 x.f1 x.f3 x.f4 _ (by omega) gx.1.1 (by omega) x.f2 [] rfl gx.1.2 (by omega) ?_
    rw [pre_next pre x r hl, S_eta]
    have := ih2 hg.2 (by omega) (pre ++ [x]) (acc ++ [x]) (by rw [← pre_app]; exact hl) (by simp only [List.length_append, List.length_cons, List.length_nil]; omega)
    rw [← pre_app, List.append_assoc, List.singleton_append] at this
    exact this
theorem rcopyV (w w' : Int) (body b' : List S64) : ∀ (suf pre acc : List S66), (pre ++ suf).length ≤ 1000 → acc.length + suf.length ≤ 1000 → Tells (fun k => r3_Copy.l0 k (pre.length : Int) w (pre ++ suf) body w' acc b') (w', acc ++ suf, b')
  | [], pre, acc, _, _ => by
    refine Tells.succ ?_
    simp only [r3_Copy.l0, pre_nlt, if_false]
    rw [List.append_nil]
    exact Tells.pure _
  | v :: r, pre, acc, hl, ha => by
    rw [List.length_cons] at ha
    refine Tells.succ ?_
    simp only [r3_Copy.l0, pre_lt, pre_pos, if_true, rdV_mid]
    refine Tells.ifT (by omega) ?_
    rw [pre_next pre v r (by omega)]
    have := rcopyV w w' body b' r (pre ++ [v]) (acc ++ [v]) (by rw [← pre_app]; exact hl) (by simp only [List.length_append, List.length_cons, List.length_nil]; omega)
    rw [← pre_app, List.append_assoc, List.singleton_append] at this
    exact this
theorem rcopyP (w : Int) (vars : List S66) (body : List S64) (hl : body.length ≤ 9223372036854775807) (hg : goodSs body) (hn : sNs body ≤ 1000) (hv : vars.length ≤ 1000) : Tells (fun k => r3_Copy.f k w vars body) (w, vars, body) := by
  unfold r3_Copy.f
  have hb := sNs_len body
  have t : Tells (fun k => r3_CopyRows.f k body) body := by
    refine Tells.succ ?_
    simp only [r3_CopyRows.f]
    exact rcopyS.2 body hg hn [] [] hl (by simp only [List.length_nil]; omega)
  exact Tells.bind t (rcopyV w w body body vars [] [] hv (by simp only [List.length_nil]; omega))
theorem mvE_good (g : Int → Option Int) (hg : ∀ c, ∃ v, g c = some v) : (∀ x, goodE x → eN x ≤ 1000 → ∃ y, mvE g x = some y ∧ goodE y ∧ eN y = eN x) ∧ (∀ l, goodEs l → eNs l ≤ 1000 → ∃ l', mvEs g l = some l' ∧ l'.length = l.length ∧ goodEs l' ∧ eNs l' = eNs l) := by
  refine E_ind (fun a b c l h => ?_) ?_ (fun x r ih1 ih2 => ?_)
  · intro hx hn
    rw [goodE_mk] at hx
    simp only [eN] at hn
    obtain ⟨l', e1, e2, e3, e4⟩ := h hx.2 (by omega)
    obtain ⟨v, hv⟩ := hg c
    rw [mvE]
    by_cases ha : a = 1
    · rw [if_pos ha, hv, Option.bind_some, e1, Option.bind_some]
      exact ⟨_, rfl, by rw [goodE_mk, e2]; exact ⟨hx.1, e3⟩, by simp only [eN, e4]⟩
    · rw [if_neg ha, e1, Option.bind_some]
      exact ⟨_, rfl, by rw [goodE_mk, e2]; exact ⟨hx.1, e3⟩, by simp only [eN, e4]⟩
  · intro _ _
    exact ⟨[], by rw [mvEs], rfl, trivial, rfl⟩
  · intro hx hn
    rw [goodEs_cons] at hx
    rw [eNs_cons] at hn
    obtain ⟨y, e1, e2, e3⟩ := ih1 hx.1 (by omega)
    obtain ⟨s, f1, f2, f3, f4⟩ := ih2 hx.2 (by omega)
    have hl := eNs_len r
    exact ⟨y :: s, by rw [mvEs, e1, Option.bind_some, f1, Option.bind_some, if_pos (by omega)], by rw [List.length_cons, List.length_cons, f2], by rw [goodEs_cons]; exact ⟨e2, f3⟩, by rw [eNs_cons, eNs_cons, e3, f4]⟩
theorem mvS_good (i fr : Int) : (∀ x, goodS x → sN x ≤ 1000 → ∃ y, mvS i fr x = some y ∧ goodS y ∧ sN y = sN x) ∧ (∀ l, goodSs l → sNs l ≤ 1000 → ∃ l', mvSs i fr l = some l' ∧ l'.length = l.length ∧ goodSs l' ∧ sNs l' = sNs l) := by
  refine S_ind (fun a b l t e h1 h2 => ?_) ?_ (fun x r ih1 ih2 => ?_)
  · intro hx hn
    rw [goodS_mk] at hx
    rw [sN_eq] at hn
    simp only at hn
    obtain ⟨a', e1, e2, e3, e4⟩ := (mvE_good (fun _ => some fr) (fun _ => ⟨fr, rfl⟩)).2 l hx.1.2 (by omega)
    obtain ⟨t', f1, f2, f3, f4⟩ := h1 hx.2.1.2 (by omega)
    obtain ⟨s', g1, g2, g3, g4⟩ := h2 hx.2.2.2 (by omega)
    rw [mvS, e1, Option.bind_some, f1, Option.bind_some, g1, Option.bind_some]
    exact ⟨_, rfl, by rw [goodS_mk, e2, f2, g2]; exact ⟨⟨hx.1.1, e3⟩, ⟨hx.2.1.1, f3⟩, ⟨hx.2.2.1, g3⟩⟩, by rw [sN_eq, sN_eq]; simp only [e4, f4, g4]⟩
  · intro _ _
    exact ⟨[], by rw [mvSs], rfl, trivial, rfl⟩
  · intro hx hn
    rw [goodSs_cons] at hx
    rw [sNs_cons] at hn
    obtain ⟨y, e1, e2, e3⟩ := ih1 hx.1 (by omega)
    obtain ⟨s, f1, f2, f3, f4⟩ := ih2 hx.2 (by omega)
    have hl := sNs_len r
    exact ⟨y :: s, by rw [mvSs, e1, Option.bind_some, f1, Option.bind_some, if_pos (by omega)], by rw [List.length_cons, List.length_cons, f2], by rw [goodSs_cons]; exact ⟨e2, f3⟩, by rw [sNs_cons, sNs_cons, e3, f4]⟩
theorem goodSs_app : ∀ {a b : List S64}, goodSs a → goodSs b → goodSs (a ++ b)
  | [], b, _, h => h
  | x :: r, b, h1, h2 => by
    rw [goodSs_cons] at h1
    rw [List.cons_append, goodSs_cons]
    exact ⟨h1.1, goodSs_app h1.2 h2⟩
theorem of_loop (w : Int) (vars : List S66) (body : List S64) (n : Nat) (hn : n ≤ 3) (hv : vars.length ≤ 1000) (hvs : ∀ v ∈ vars, v.f0.size ≤ 1000) (hg : goodSs body) (hs : sNs body ≤ 1000) : ∀ (m i : Nat) (av : List S66) (ab : List S64), i + m = n → av.length ≤ 1000 * i → ab.length ≤ 1000 * i → goodSs ab →
    ∃ rv rb, Tells (fun k => prod_Of.l0 k (List.replicate n (⟨w, vars, body⟩ : S25)) (n : Int) (i : Int) w av ab) (w, rv, rb) ∧ rb.length ≤ 1000 * n ∧ goodSs rb
  | 0, i, av, ab, hi, h1, h2, h3 => by
    have hin : i = n := by omega
    refine ⟨av, ab, ?_, by rw [← hin]; exact h2, h3⟩
    refine Tells.succ ?_
    simp only [prod_Of.l0]
    exact Tells.ifF (by omega) (Tells.pure _)
  | m + 1, i, av, ab, hi, h1, h2, h3 => by
    have hrd : rd_T25 (List.replicate n (⟨w, vars, body⟩ : S25)) (i : Int) = ⟨w, vars, body⟩ := by
      unfold rd_T25
      rw [Int.toNat_natCast, List.getD_eq_getElem?_getD, List.getElem?_replicate, if_pos (by omega)]
      rfl
    obtain ⟨b', e1, e2, e3, e4⟩ := (mvS_good (i : Int) (wrap64 ((i : Int) * (vars.length : Int)))).2 body hg hs
    have hbl := sNs_len body
    obtain ⟨rv, rb, ht, hr, hgr⟩ := of_loop w vars body n hn hv hvs hg hs m (i + 1) (av ++ vars.map (nmd (i : Int))) (ab ++ b') (by omega) (by rw [List.length_append, List.length_map]; omega) (by rw [List.length_append]; omega) (goodSs_app h3 e3)
    refine ⟨rv, rb, ?_, hr, hgr⟩
    refine Tells.succ ?_
    simp only [prod_Of.l0, hrd]
    refine Tells.ifT (by omega) (Tells.ifT (by omega) (Tells.ifT (by rw [List.length_replicate]; omega) (Tells.bind (variables_tells (i : Int) (by omega) (by omega) vars hv hvs) (Tells.ifT ?_ (Tells.bind (x := b') ⟨0, fun k _ => e1⟩ (Tells.ifT ?_ ?_))))))
    · rw [List.length_map]; omega
    · omega
    · rw [w64 (n := (i : Int) + 1) (by omega) (by omega)]
      have e : ((i : Int) + 1) = ((i + 1 : Nat) : Int) := by omega
      rw [e]
      exact ht
theorem self_total (w : Int) (vars : List S66) (body : List S64) (n : Int) (hl : body.length ≤ 9223372036854775807) (hg : goodSs body) : ∃ r, Tells (fun k => prod_Self.f k w vars body n) r := by
  unfold prod_Self.f
  have tc := pCheck_tells w vars body hl hg
  cases hp : pIs w vars body with
  | false =>
    rw [hp] at tc
    exact ⟨_, Tells.bind tc (Tells.ifF (show ¬ ((30 : Int) = 0) by decide) (Tells.pure _))⟩
  | true =>
    rw [hp] at tc
    by_cases h1 : n < 1
    · exact ⟨_, Tells.bind tc (Tells.ifT rfl (Tells.ifT h1 (Tells.pure _)))⟩
    by_cases h3 : n > 3
    · exact ⟨_, Tells.bind tc (Tells.ifT rfl (Tells.ifF h1 (Tells.ifT h3 (Tells.pure _))))⟩
    have ts := prodSingle_tells w vars body hl hg
    by_cases hs : sgE w vars body = 0
    · obtain ⟨hh, hn4⟩ := pIs_all hp
      obtain ⟨_, _, _, h18, hna, _⟩ := hIs_all hh
      obtain ⟨m, hm⟩ : ∃ m : Nat, n = (m : Int) := ⟨n.toNat, by omega⟩
      subst hm
      obtain ⟨rv, rb, ht, hr, hgr⟩ := of_loop w vars body m (by omega) (by omega) (pIs_names hp).2 hg (by omega) m 0 [] [] (by omega) (Nat.zero_le _) (Nat.zero_le _) trivial
      have tof : Tells (fun k => prod_Of.f k (List.replicate (m : Int).toNat (⟨w, vars, body⟩ : S25))) (w, rv, rb) := by
        rw [Int.toNat_natCast]
        unfold prod_Of.f
        have hrd : rd_T25 (List.replicate m (⟨w, vars, body⟩ : S25)) 0 = ⟨w, vars, body⟩ := by
          unfold rd_T25
          rw [List.getD_eq_getElem?_getD, Int.toNat_zero, List.getElem?_replicate, if_pos (by omega)]
          rfl
        simp only [hrd, List.length_replicate]
        exact Tells.ifT (by omega) ht
      have tm := pCheck_tells w rv rb (by omega) hgr
      by_cases hq : okInt (pIs w rv rb) 30 = 0
      · exact ⟨_, Tells.bind tc (Tells.ifT rfl (Tells.ifF h1 (Tells.ifF h3 (Tells.bind ts (Tells.ifT hs (Tells.bind tof (by unfold prod_made.f; exact Tells.bind tm (Tells.ifT hq (Tells.pure _)))))))))⟩
      · exact ⟨_, Tells.bind tc (Tells.ifT rfl (Tells.ifF h1 (Tells.ifF h3 (Tells.bind ts (Tells.ifT hs (Tells.bind tof (by unfold prod_made.f; exact Tells.bind tm (Tells.ifF hq (Tells.pure _)))))))))⟩
    · exact ⟨_, Tells.bind tc (Tells.ifT rfl (Tells.ifF h1 (Tells.ifF h3 (Tells.bind ts (Tells.ifF hs (Tells.pure _))))))⟩
end Go.Proofs.Ytilebfkehmecaaa.Print
namespace Go.Proofs.Ytilebfkehmecaaa.Print
open Go.RowKit Go.Proofs.YtilebfkehmecaaaW.PrintWords Go.Proofs.YtilebfkehmecaaaW.PrintLast Go.Proofs.YtilebfkehmecaaaW.PrintMore
attribute [local go_sem] max2_int min2_int max_two min_two max_three min_three max_four min_four
set_option linter.unusedVariables false
set_option linter.unusedSimpArgs false
open Go.RowKit
theorem own_sized (W : World) (p : Addr) (v : Value) (hp : p.spot = none) : ∀ (b : Nat) (t : TypeId) (cur : Array Value), W.heap[b]? = some (.cells cur t (0, 0)) → ∃ cur' : Array Value, (W.setCell p v).heap[b]? = some (.cells cur' t (0, 0)) ∧ cur'.size = cur.size := by
  intro b t cur h
  by_cases e : b = p.block
  · obtain ⟨pb, po, pp⟩ := p
    simp only at hp e
    subst hp
    subst e
    exact ⟨_, blk_set h po v, by simp⟩
  · exact ⟨cur, (Below.heap_setCell _ _ _ _ e).trans h, rfl⟩
theorem own_cell {W : World} {b : Nat} {t : TypeId} {cur : Array Value} (h : W.heap[b]? = some (.cells cur t (0, 0))) {i : Nat} (hi : i < cur.size) : ∃ v, W.cell? ⟨b, i, none⟩ = some v := ⟨cur[i], (blk_cell h i).trans (Array.getElem?_eq_getElem hi)⟩
def Own (W0 : World) (B g q : Nat) (X : World) : Prop :=
  Below B W0 X ∧ (∀ (b : Nat) (t : TypeId) (cur : Array Value), W0.heap[b]? = some (.cells cur t (0, 0)) → ∃ cur' : Array Value, X.heap[b]? = some (.cells cur' t (0, 0)) ∧ cur'.size = cur.size) ∧ X.heap[g]? = W0.heap[g]? ∧ X.heap[q]? = W0.heap[q]?
theorem Own.refl (W0 : World) (B g q : Nat) : Own W0 B g q W0 := ⟨Below.refl _ _, fun b t cur h => ⟨cur, h, rfl⟩, rfl, rfl⟩
theorem Own.set {W0 X : World} {B g q b : Nat} (h : Own W0 B g q X) (hB : B ≤ b) (hg : b ≠ g) (hq : b ≠ q) (i : Nat) (v : Value) : Own W0 B g q (X.setCell ⟨b, i, none⟩ v) := by
  obtain ⟨h1, h2, h3, h4⟩ := h
  have hm := own_sized X ⟨b, i, none⟩ v rfl
  refine ⟨h1.trans ((Below.refl _ _).setCell hB _), fun b' t cur hc => ?_, (Below.heap_setCell _ _ _ _ (fun e => hg e.symm)).trans h3, (Below.heap_setCell _ _ _ _ (fun e => hq e.symm)).trans h4⟩
  obtain ⟨cur', q1, q2⟩ := h2 b' t cur hc
  obtain ⟨cur2, q3, q4⟩ := hm b' t cur' q1
  exact ⟨cur2, q3, q4.trans q2⟩
theorem own_same {W X : World} {g : Nat} (h : X.heap[g]? = W.heap[g]?) (i : Nat) : X.cell? ⟨g, i, none⟩ = W.cell? ⟨g, i, none⟩ := by simp only [World.cell?, h]
def RowW (W : World) (B e sz : Nat) (A : Option Addr) (n : Nat) (ok : Nat → Prop) (g : Nat) : Prop :=
  n ≤ 9223372036854775807 ∧ (0 < n → ∃ (b : Nat) (cur : Array Value), A = some ⟨b, 0, none⟩ ∧ B ≤ b ∧ ok b ∧ b ≠ g ∧ W.heap[b]? = some (.cells cur e (0, 0)) ∧ n * sz ≤ cur.size)
theorem rowW_of_R {α : Type} {d : Kd α} {e : Nat} {W : World} {B g : Nat} {ok : Nat → Prop} {A : Option Addr} {n c : Nat} {xs : List α} {sz : Nat} (h : d.R e W B (fun k => ok k ∧ k ≠ g) (.slice A n c) xs) (hs : d.sz = sz) : RowW W B e sz A n ok g := by
  obtain ⟨h0, inner, ⟨_, ho⟩, _⟩ := h
  rcases ho with ⟨hv, _⟩ | ⟨b, cap, cur, hv, h1, h2, h3, h4, h5, _⟩
  · injection hv with e1 e2 e3
    subst e2
    exact ⟨Nat.zero_le _, fun hn => absurd hn (by omega)⟩
  · injection hv with e1 e2 e3
    subst e1
    subst e2
    subst e3
    have hb := h0 b (by simp [Value.ownBlock])
    unfold maxLen at h4
    refine ⟨by omega, fun _ => ⟨b, cur, rfl, h1, hb.1, hb.2, h2, ?_⟩⟩
    rw [h5, hs]
    exact Nat.mul_le_mul h3 (Nat.le_refl _)
theorem own_row {α : Type} {d : Kd α} {e : Nat} {W : World} {B : Nat} {ok : Nat → Prop} {A : Option Addr} {n c : Nat} {xs : List α} {sz : Nat} (h : d.R e W B ok (.slice A n c) xs) (hs : d.sz = sz) : n ≤ 9223372036854775807 ∧ (0 < n → ∃ (b : Nat) (cur : Array Value), A = some ⟨b, 0, none⟩ ∧ B ≤ b ∧ ok b ∧ W.heap[b]? = some (.cells cur e (0, 0)) ∧ n * sz ≤ cur.size) := by
  obtain ⟨h0, inner, ⟨_, ho⟩, _⟩ := h
  rcases ho with ⟨hv, _⟩ | ⟨b, cap, cur, hv, h1, h2, h3, h4, h5, _⟩
  · injection hv with e1 e2 e3
    subst e2
    exact ⟨Nat.zero_le _, fun hn => absurd hn (by omega)⟩
  · injection hv with e1 e2 e3
    subst e1
    subst e2
    subst e3
    have hb := h0 b (by simp [Value.ownBlock])
    unfold maxLen at h4
    refine ⟨by omega, fun _ => ⟨b, cur, rfl, h1, hb, h2, ?_⟩⟩
    rw [h5, hs]
    exact Nat.mul_le_mul h3 (Nat.le_refl _)
theorem body_at {W : World} {B g : Nat} {ok : Nat → Prop} {n c : Nat} {l : List S64} (h : Kd.R k64 64 W B ok (.slice (some ⟨g, 0, none⟩) n c) l) (i : Nat) (hi : i < n) :
    ∃ A3 m3 c3 A4 m4 c4, W.cell? ⟨g, i * 5 + 2, none⟩ = some (.slice A3 m3 c3) ∧ W.cell? ⟨g, i * 5 + 3, none⟩ = some (.slice A4 m4 c4) ∧ RowW W B 28 4 A3 m3 ok g ∧ RowW W B 64 5 A4 m4 ok g := by
  obtain ⟨cs, hcl, hM, hcc, _⟩ := Kd.R_elem h z64 (i : Int) (by omega) (by omega)
  rw [Int.toNat_natCast] at hM hcc
  obtain ⟨v2, v3, v4, rfl, g2, g3, g4⟩ := k64_openM hM
  obtain ⟨A3, c3, rfl⟩ := Kd.R_slice g2
  obtain ⟨A4, c4, rfl⟩ := Kd.R_slice g3
  exact ⟨A3, _, c3, A4, _, c4, hcc 2 _ rfl, hcc 3 _ rfl, rowW_of_R g2 rfl, rowW_of_R g3 rfl⟩
end Go.Proofs.Ytilebfkehmecaaa.Print
namespace Go.Proofs.Ytilebfkehmecaaa.Print
open Go.RowKit Go.Proofs.YtilebfkehmecaaaW.PrintWords Go.Proofs.YtilebfkehmecaaaW.PrintLast Go.Proofs.YtilebfkehmecaaaW.PrintMore
attribute [local go_sem] max2_int min2_int max_two min_two max_three min_three max_four min_four
set_option linter.unusedVariables false
set_option linter.unusedSimpArgs false
open Go.Shelf Go.RowKit
attribute [local go_sem] Oper.semAt_some
theorem box1 (w : World) (o : Obj) : Below w.heap.size w (w.alloc o) ∧ (w.alloc o).heap[w.heap.size]? = some o := ⟨(Below.refl _ _).alloc (Nat.le_refl _) _, heap_alloc_new _ _⟩
def Sw (Z : World) (B bs n : Nat) (X : World) : Prop := (∀ k, k ≠ bs → X.heap[k]? = Z.heap[k]?) ∧ (0 < n → ∃ cur : Array Value, X.heap[bs]? = some (.cells cur 3 (0, 0)) ∧ n ≤ cur.size) ∧ Below B Z X
theorem Sw.refl {Z : World} {B bs n : Nat} (h : 0 < n → ∃ cur : Array Value, Z.heap[bs]? = some (.cells cur 3 (0, 0)) ∧ n ≤ cur.size) : Sw Z B bs n Z := ⟨fun _ _ => rfl, h, Below.refl _ _⟩
theorem Sw.set {Z X : World} {B bs n : Nat} (h : Sw Z B bs n X) (hB : B ≤ bs) (i : Nat) (v : Value) : Sw Z B bs n (X.setCell ⟨bs, i, none⟩ v) := by
  obtain ⟨h1, h2, h3⟩ := h
  refine ⟨fun k hk => (Below.heap_setCell _ _ _ _ hk).trans (h1 k hk), fun hn => ?_, h3.trans ((Below.refl _ _).setCell hB _)⟩
  obtain ⟨cur, q1, q2⟩ := h2 hn
  obtain ⟨cur2, q3, q4⟩ := own_sized X ⟨bs, i, none⟩ v rfl _ _ _ q1
  exact ⟨cur2, q3, by omega⟩
theorem w12_ProdOwn.walk (k : Nat) (a0 : Int) (A1 : Option Addr) (c1 : Nat) (l1 : List S66) (A2 : Option Addr) (c2 : Nat) (l2 : List S64) (n : Int) (A3 : Option Addr) (c3 : Nat) (l3 : List (List Int)) (fit : Bool) (ce : Int) (q1 : Int) (q2 : List S66) (q3 : List S64) (q4 : Int) (s1 : List Int) (s2 : Int) (w : World)
    (hr1 : Kd.C k66 w A1 l1.length l1) (hc1 : l1.length ≤ c1) (hr2 : Kd.C k64 w A2 l2.length l2) (hc2 : l2.length ≤ c2) (hr3 : Kd.C (Kd.slice 3 (Kd.int .i64)) w A3 l3.length l3) (hc3 : l3.length ≤ c3) (hft : r3_Fits.f k l2 600 = some fit)
    (hce : fit = true → r12_Copies.f k a0 l1 l2 n = some ce)
    (hok : fit = true → ce = 0 → r3_Copy.f k a0 l1 l2 = some (a0, l1, l2) ∧ prod_Self.f k a0 l1 l2 n = some (q1, q2, q3, q4) ∧ r3_Same.f k a0 l1 l2 a0 l1 l2 = some true ∧ prod_Join.f k a0 l1 l2 l3 = some (s1, s2) ∧
      (s2 = 0 → prod_Split.f k a0 l1 l2 (l3.length : Int) s1 = some (l3, 0) ∧ w12_lists.f k l3 l3 = some true)) :
    Calls Try.prog 8 #[.agg #[.int .i64 a0, .slice A1 l1.length c1, .slice A2 l2.length c2], .int .i64 n, .slice A3 l3.length c3] w fun e w' => e = .returned (.bool true) ∧ Below w.heap.size w w' := by
  refine callsIn_wide.1 (?_ : CallsIn Fence.wide 9 _ _ _ _ _)
  have huP := Try.underlying25
  have huS := Try.underlying64
  have huE := Try.underlying28
  have huV := Try.underlying66
  have huSs := Try.underlying23
  have huEs := Try.underlying26
  have huVs := Try.underlying22
  refine callsIn_of_wp_marks Try.func8 rfl trivial ?_ rfl
  simp only [Try.ntmps8, List.size_toArray, List.length_cons, List.length_nil, Nat.reduceAdd, Nat.reduceSub, Array.replicate_succ, Array.replicate_zero, List.push_toArray, List.append_toArray, List.nil_append, List.cons_append]
  have HR1 := Aside0.mk hr1
  have HC1 := Aside0.mk hc1
  have HR2 := Aside0.mk hr2
  have HC2 := Aside0.mk hc2
  have HR3 := Aside0.mk hr3
  have HC3 := Aside0.mk hc3
  clear hr1 hc1 hr2 hc2 hr3 hc3
  have FB := box1 w (.cells #[.int .i64 a0, .slice A1 l1.length c1, .slice A2 l2.length c2] 25)
  have V0 : (w.alloc (.cells #[.int .i64 a0, .slice A1 l1.length c1, .slice A2 l2.length c2] 25)).cell? ⟨w.heap.size, 2, none⟩ = some (.slice A2 l2.length c2) := (blk_cell FB.2 2).trans rfl
  gi_wp2
  generalize w.alloc (.cells #[.int .i64 a0, .slice A1 l1.length c1, .slice A2 l2.length c2] 25) = W1 at FB V0 ⊢
  obtain ⟨b1, p1⟩ := FB
  refine ⟨trivial, ?_⟩
  refine (callsIn_wide.2 (r3_Fits.calls k A2 c2 l2 600 fit W1 (Kd.C_below HR2.out b1) HC2.out hft)).mono ?_
  rintro e W2 ⟨rfl, hb2⟩
  have b2 := b1.trans (hb2.mono b1.size)
  have hs2 := hb2.size
  have p2 := (hb2.block _ (blk_lt p1)).trans p1
  clear p1 hb2 b1 V0
  cases fit with
  | false =>
    gi_wp2
    refine ⟨trivial, ?_⟩
    gi_wp2
    refine ⟨trivial, ?_⟩
    refine (callsIn_wide.2 (w12_awake.calls k true W2 rfl)).mono ?_
    rintro e W3 ⟨rfl, hb3⟩
    gi_wp2
    exact ⟨_, results_tmp rfl _ _ _, rfl, b2.trans (hb3.mono b2.size)⟩
  | true =>
    replace hce := hce rfl
    have HOK := Aside0.mk (hok rfl)
    clear hok
    obtain ⟨x0, x1, x2⟩ := cells3 p2
    gi_wp2
    refine ⟨trivial, ?_⟩
    refine (callsIn_wide.2 (r12_Copies.calls k a0 _ _ l1 _ _ l2 n ce W2 (Kd.C_below HR1.out b2) HC1.out (Kd.C_below HR2.out b2) HC2.out hce)).mono ?_
    rintro e W3 ⟨rfl, hb3⟩
    have b3 := b2.trans (hb3.mono b2.size)
    have hs3 := hb3.size
    have p3 := (hb3.block _ (blk_lt p2)).trans p2
    clear p2 hb3 x0 x1 x2
    by_cases hz : ce = 0
    case neg =>
      have g1 : (ce != 0) = true := bne_iff_ne.mpr hz
      gi_wp2
      refine ⟨trivial, ?_⟩
      refine (callsIn_wide.2 (w12_awake.calls k true W3 rfl)).mono ?_
      rintro e Z ⟨rfl, hbz⟩
      gi_wp2
      exact ⟨_, results_tmp rfl _ _ _, rfl, b3.trans (hbz.mono b3.size)⟩
    case pos =>
      subst hz
      obtain ⟨hcy, hse, hsm, hjn, hsp⟩ := HOK.out rfl
      obtain ⟨x0, x1, x2⟩ := cells3 p3
      gi_wp2
      refine ⟨trivial, ?_⟩
      refine (callsIn_wide.2 (r3_Copy.calls k a0 _ _ l1 _ _ l2 a0 l1 l2 W3 (Kd.C_below HR1.out b3) HC1.out (Kd.C_below HR2.out b3) HC2.out hcy)).mono ?_
      rintro e W4 ⟨v1, v2, rfl, o1, o2, hb4⟩
      obtain ⟨D1, d1, ev1, el1, oc1⟩ := Kd.R_reads o1
      obtain ⟨D2, d2, ev2, el2, oc2⟩ := Kd.R_reads o2
      subst ev1 ev2
      clear o1 o2
      have b4 := b3.trans (hb4.mono b3.size)
      have hs4 := hb4.size
      have p4 := (hb4.block _ (blk_lt p3)).trans p3
      have l4 := blk_lt p4
      clear p3 hb4 x0 x1 x2
      obtain ⟨x0, x1, x2⟩ := cells3 p4
      have FB4 := box1 W4 (.cells #[.int .i64 a0, .slice D1 l1.length d1, .slice D2 l2.length d2] 25)
      gi_wp2
      generalize W4.alloc (.cells #[.int .i64 a0, .slice D1 l1.length d1, .slice D2 l2.length d2] 25) = W5 at FB4 ⊢
      obtain ⟨hb5, k5⟩ := FB4
      have b5 := b4.trans (hb5.mono b4.size)
      have hs5 := hb5.size
      have p5 := (hb5.block _ l4).trans p4
      have OD1 := Aside0.mk (Kd.C_below oc1 hb5)
      have OD2 := Aside0.mk (Kd.C_below oc2 hb5)
      have OL1 := Aside0.mk el1
      have OL2 := Aside0.mk el2
      clear p4 hb5 x0 x1 x2 oc1 oc2 el1 el2
      refine ⟨trivial, ?_⟩
      refine (callsIn_wide.2 (prod_Self.callsR k a0 _ _ l1 _ _ l2 n q1 q2 q3 q4 W5 (Kd.C_below HR1.out b5) HC1.out (Kd.C_below HR2.out b5) HC2.out hse)).mono ?_
      rintro e W6 ⟨v1, v2, rfl, o1, o2, hb6⟩
      have o1' := Kd.R_mono (Kd.R_bound o1) (ok' := fun q => W5.heap.size ≤ q) (fun _ hk => hk.2.1)
      obtain ⟨D3, d3, ev3⟩ := Kd.R_slice o1
      subst ev3
      obtain ⟨D4, d4, ev4⟩ := Kd.R_slice o2
      subst ev4
      have b6 := b5.trans (hb6.mono b5.size)
      have hs6 := hb6.size
      have p6 := (hb6.block _ (blk_lt p5)).trans p5
      have k6 := (hb6.block _ (blk_lt k5)).trans k5
      have hlp := blk_lt p5
      have hlk := blk_lt k5
      have FB6 := box1 W6 (.cells #[.int .i64 q1, .slice D3 q2.length d3, .slice D4 q3.length d4] 25)
      obtain ⟨W7, hW7⟩ : ∃ X, W6.alloc (.cells #[.int .i64 q1, .slice D3 q2.length d3, .slice D4 q3.length d4] 25) = X := ⟨_, rfl⟩
      rw [hW7] at FB6
      obtain ⟨hb7, z7⟩ := FB6
      have b7 := b6.trans (hb7.mono b6.size)
      have f7 := hb6.trans (hb7.mono hb6.size)
      have hs7 := hb7.size
      have p7 := (hb7.block _ (blk_lt p6)).trans p6
      have k7 := (hb7.block _ (blk_lt k6)).trans k6
      have r1 := Aside0.mk (Kd.R_below o1' hb7)
      have r2 := Aside0.mk (Kd.R_below o2 hb7)
      clear p5 k5 p6 k6 o1 o1' o2 hb6
      obtain ⟨x0, x1, x2⟩ := cells3 p7
      by_cases h6 : q4 = 0
      case neg =>
        have g6 : (q4 == 0) = false := beq_eq_false_iff_ne.mpr h6
        gi_wp2
        refine ⟨trivial, ?_⟩
        refine (callsIn_wide.2 (prod_Join.calls k a0 _ _ l1 _ _ l2 _ _ l3 s1 s2 W7 (Kd.C_below HR1.out b7) HC1.out (Kd.C_below HR2.out b7) HC2.out (Kd.C_below HR3.out b7) HC3.out hjn)).mono ?_
        rintro e Y1 ⟨vs, rfl, os, hbY1⟩
        obtain ⟨E1, e1, evs⟩ := Kd.R_slice os
        subst evs
        have by1 := b7.trans (hbY1.mono b7.size)
        have fy1 := f7.trans (hbY1.mono f7.size)
        have py1 := (hbY1.block _ (blk_lt p7)).trans p7
        have ky1 := (hbY1.block _ (blk_lt k7)).trans k7
        have hsX := hbY1.size
        have lpX := blk_lt p7
        have lkX := blk_lt k7
        have sfX := f7.size
        have sbX := b7.size
        clear hbY1
        obtain ⟨x0, x1, x2⟩ := cells3 py1
        obtain ⟨t0, t1, t2⟩ := cells3 ky1
        by_cases h2 : s2 = 0
        · subst h2
          obtain ⟨hspl, hlst⟩ := hsp rfl
          gi_wp2
          refine ⟨trivial, ?_⟩
          refine (callsIn_wide.2 (prod_Split.calls k a0 _ _ l1 _ _ l2 (l3.length : Int) E1 e1 s1 l3 0 Y1 (Kd.C_below HR1.out by1) HC1.out (Kd.C_below HR2.out by1) HC2.out (Kd.R_reads' os).2.2 (Kd.R_reads' os).2.1 hspl)).mono ?_
          rintro e Y2 ⟨vl, rfl, ol, hbY2⟩
          have ol2 := Aside0.mk (Kd.R_mono (Kd.R_bound (Kd.S_R ol)) (ok' := fun q => Y1.heap.size ≤ q) (fun _ hk => hk.2.1))
          clear ol
          obtain ⟨E2, e2, evl⟩ := Kd.R_slice ol2.out
          subst evl
          have by2 := by1.trans (hbY2.mono by1.size)
          have fy2 := fy1.trans (hbY2.mono fy1.size)
          have hs2' := hbY2.size
          have py2 := Aside0.mk ((hbY2.block _ (blk_lt py1)).trans py1)
          have ky2 := Aside0.mk ((hbY2.block _ (blk_lt ky1)).trans ky1)
          have os2 := Kd.R_below os hbY2
          obtain ⟨hs1m, hs1b⟩ := own_row (sz := 1) os2 rfl
          obtain ⟨bs, hbs1, hbs2, hbs4, hbs3⟩ : ∃ bs, (0 < s1.length → E1 = some ⟨bs, 0, none⟩) ∧ (0 < s1.length → W7.heap.size ≤ bs) ∧ bs < Y1.heap.size ∧ (0 < s1.length → ∃ cur, Y2.heap[bs]? = some (.cells cur 3 (0, 0)) ∧ s1.length ≤ cur.size) := by
            by_cases h0 : 0 < s1.length
            · obtain ⟨b, cur, q1', q2', _, q3', q4'⟩ := hs1b h0
              exact ⟨b, fun _ => q1', fun _ => q2', Kd.R_lt os b (by rw [q1']; rfl), fun _ => ⟨cur, q3', by omega⟩⟩
            · exact ⟨w.heap.size, fun h => absurd h h0, fun h => absurd h h0, by omega, fun h => absurd h h0⟩
          have BS := Aside0.mk hbs1
          have BC := Aside0.mk hbs2
          have SW := Aside0.mk (Sw.refl (B := W7.heap.size) hbs3)
          clear x0 x1 x2 t0 t1 t2 py1 ky1 hbY2 os os2 hs1b hbs1 hbs2 hbs3
          gi_wp2
          refine wpIn_wide.2 ?_
          go_loopw [117] (fun i X' => ∃ m : Nat, i = .int .i64 m ∧ m ≤ s1.length ∧ Aside0 (Sw Y2 W7.heap.size bs s1.length X')) (fun i _ => s1.length - (intOf i).toNat)
          case atStart => exact ⟨0, rfl, Nat.zero_le _, SW⟩
          case round =>
            clear SW
            obtain ⟨m, rfl, hm, SX⟩ := hrel
            by_cases hm5 : m < s1.length
            · have hm0 : m < 9223372036854775807 := by omega
              have hm' : ((m : Nat) : Int) < (s1.length : Int) := by omega
              obtain rfl := BS.out (by omega)
              obtain ⟨cur, hcur, hsz⟩ := SX.out.2.1 (by omega)
              obtain ⟨w0, g0⟩ := own_cell hcur (i := m) (by omega)
              have f0 := blk_frozen hcur m
              clear hcur hsz
              go_wp2
              exact ⟨⟨m + 1, by go_num, by omega, ⟨SX.out.set (BC.out (by omega)) _ _⟩⟩, by simp [intOf]; omega⟩
            · have hge : ¬ ((m : Nat) : Int) < (s1.length : Int) := by omega
              obtain ⟨sx1, sx2, sx3⟩ := SX.out
              have by3 := by2.trans (sx3.mono (by omega))
              have fy3 := fy2.trans (sx3.mono (by omega))
              have py3 := (sx3.block _ (by omega)).trans py2.out
              have ky3 := (sx3.block _ (by omega)).trans ky2.out
              have ol3 := Kd.R_step ol2.out (w1 := wr) (fun q hq _ => sx1 q (by omega))
              obtain ⟨x0, x1, x2⟩ := cells3 py3
              obtain ⟨t0, t1, t2⟩ := cells3 ky3
              go_wp2
              gi_wp2
              refine ⟨trivial, ?_⟩
              refine (callsIn_wide.2 (w12_lists.calls k E2 e2 l3 _ _ l3 true wr (Kd.R_reads' ol3).2.2 (Kd.R_reads' ol3).2.1 (Kd.C_below HR3.out by3) HC3.out hlst)).mono ?_
              rintro e Z7' ⟨rfl, hd7⟩
              have hz7' := hd7.below
              have by4 := by3.trans (hz7'.mono by3.size)
              have fy4 := fy3.trans (hz7'.mono fy3.size)
              have py4 := (hz7'.block _ (blk_lt py3)).trans py3
              have ky4 := (hz7'.block _ (blk_lt ky3)).trans ky3
              clear x0 x1 x2 t0 t1 t2
              obtain ⟨x0, x1, x2⟩ := cells3 py4
              obtain ⟨t0, t1, t2⟩ := cells3 ky4
              gi_wp2
              refine ⟨trivial, ?_⟩
              refine (callsIn_wide.2 (r3_Same.calls k a0 _ _ l1 _ _ l2 a0 _ _ l1 _ _ l2 true Z7' (Kd.C_below OD1.out fy4) OL1.out (Kd.C_below OD2.out fy4) OL2.out (Kd.C_below HR1.out by4) HC1.out (Kd.C_below HR2.out by4) HC2.out hsm)).mono ?_
              rintro e Z8 ⟨rfl, hz8⟩
              have bz8 := by4.trans (hz8.mono by4.size)
              gi_wp2
              refine ⟨trivial, ?_⟩
              refine (callsIn_wide.2 (w12_awake.calls k true Z8 rfl)).mono ?_
              rintro e Z9 ⟨rfl, hz9⟩
              gi_wp2
              exact ⟨_, results_tmp rfl _ _ _, rfl, bz8.trans (hz9.mono bz8.size)⟩
        · have g2 : (s2 == 0) = false := beq_eq_false_iff_ne.mpr h2
          gi_wp2
          refine ⟨trivial, ?_⟩
          refine (callsIn_wide.2 (r3_Same.calls k a0 _ _ l1 _ _ l2 a0 _ _ l1 _ _ l2 true Y1 (Kd.C_below OD1.out fy1) OL1.out (Kd.C_below OD2.out fy1) OL2.out (Kd.C_below HR1.out by1) HC1.out (Kd.C_below HR2.out by1) HC2.out hsm)).mono ?_
          rintro e Z8 ⟨rfl, hz8⟩
          have bz8 := by1.trans (hz8.mono by1.size)
          gi_wp2
          refine ⟨trivial, ?_⟩
          refine (callsIn_wide.2 (w12_awake.calls k true Z8 rfl)).mono ?_
          rintro e Z9 ⟨rfl, hz9⟩
          gi_wp2
          exact ⟨_, results_tmp rfl _ _ _, rfl, bz8.trans (hz9.mono bz8.size)⟩
      case pos =>
        subst h6
        have hl3 := (Kd.C_max (Kd.R_reads' r2.out).2.2)
        have hl2 := (Kd.C_max (Kd.R_reads' r1.out).2.2)
        obtain ⟨g, hgD, hgq, hgt⟩ : ∃ g, (0 < q3.length → D4 = some ⟨g, 0, none⟩) ∧ g ≠ W6.heap.size ∧ (∀ b cur t, t ≠ 64 → W7.heap[b]? = some (.cells cur t (0, 0)) → b ≠ g) := by
          by_cases h0 : 0 < q3.length
          · obtain ⟨b, cur, e1, _, _, e2, _⟩ := (own_row r2.out rfl).2 h0
            refine ⟨b, fun _ => e1, fun e => ?_, fun b' cur' t' ht h e => ?_⟩
            · rw [e, z7] at e2; cases e2
            · rw [e, e2] at h; cases h; exact ht rfl
          · exact ⟨W6.heap.size + 1, fun h => absurd h h0, by omega, fun b' cur' t' ht h e => by have h1 := blk_lt h; have h3 : W7.heap.size = W6.heap.size + 1 := (by rw [← hW7]; simp); omega⟩
        have hne : ∀ b cur t, t ≠ 25 → W7.heap[b]? = some (.cells cur t (0, 0)) → b ≠ W6.heap.size := fun b cur t ht h e => by rw [e, z7] at h; cases h; exact ht rfl
        have HGD := Aside0.mk hgD
        have HNE := Aside0.mk hne
        have HGT := Aside0.mk hgt
        have HL3 := Aside0.mk hl3
        have HL2 := Aside0.mk hl2
        have OW := Aside0.mk (Own.refl W7 W5.heap.size g W6.heap.size)
        have Z7 := Aside0.mk z7
        obtain ⟨z0, z1, z2⟩ := cells3 z7
        clear hgD hne hl3 hl2 hgt z7
        gi_wp2
        refine wpIn_wide.2 ?_
        go_loopw [43] (fun i X => ∃ j : Nat, i = .int .i64 j ∧ j ≤ q3.length ∧ Aside0 (Own W7 W5.heap.size g W6.heap.size X)) (fun i _ => q3.length - (intOf i).toNat)
        case atStart => exact ⟨0, rfl, Nat.zero_le _, OW⟩
        case round =>
          clear OW
          obtain ⟨j, rfl, hj, OX⟩ := hrel
          by_cases hlt : j < q3.length
          · have hj0 : j < 9223372036854775807 := by have := HL3.out; omega
            have hlt' : ((j : Nat) : Int) < (q3.length : Int) := by omega
            obtain rfl := HGD.out (by omega)
            obtain ⟨A5, m5, c5, A6, m6, c6, y2, y3, R5, R6⟩ := body_at r2.out j hlt
            have RW5 := Aside0.mk R5
            have RW6 := Aside0.mk R6
            clear R5 R6
            obtain ⟨u0, u1, u2⟩ := cells3 (OX.out.2.2.2.trans Z7.out)
            have y2' : wr.cell? ⟨g, j * 5 + 2, none⟩ = some (.slice A5 m5 c5) := (own_same OX.out.2.2.1 _).trans y2
            have y3' : wr.cell? ⟨g, j * 5 + 3, none⟩ = some (.slice A6 m6 c6) := (own_same OX.out.2.2.1 _).trans y3
            clear z0 z1 z2 x0 x1 x2
            go_wp2
            clear u0 u1 u2 y2' y3'
            go_loopw [53] (fun i X => ∃ m : Nat, i = .int .i64 m ∧ m ≤ m5 ∧ Aside0 (Own W7 W5.heap.size g W6.heap.size X)) (fun i _ => m5 - (intOf i).toNat)
            case atStart => exact ⟨0, rfl, Nat.zero_le _, OX⟩
            case round =>
              clear OX
              obtain ⟨m, rfl, hm, OX⟩ := hrel
              obtain ⟨u0, u1, u2⟩ := cells3 (OX.out.2.2.2.trans Z7.out)
              have y2' : wr.cell? ⟨g, j * 5 + 2, none⟩ = some (.slice A5 m5 c5) := (own_same OX.out.2.2.1 _).trans y2
              have y3' : wr.cell? ⟨g, j * 5 + 3, none⟩ = some (.slice A6 m6 c6) := (own_same OX.out.2.2.1 _).trans y3
              by_cases hm5 : m < m5
              · have hm0 : m < 9223372036854775807 := by have := RW5.out.1; omega
                have hm' : ((m : Nat) : Int) < (m5 : Int) := by omega
                obtain ⟨b, cur0, e5, hBb, _, hbg, hc0, hsz0⟩ := RW5.out.2 (by omega)
                subst e5
                have hbq := HNE.out b cur0 _ (by decide) hc0
                obtain ⟨cur, hcur, hsz⟩ := OX.out.2.1 _ _ _ hc0
                have hk1 : (m + 1) * 4 ≤ m5 * 4 := Nat.mul_le_mul hm5 (Nat.le_refl _)
                obtain ⟨w0, g0⟩ := own_cell hcur (i := m * 4) (by omega)
                obtain ⟨w1, g1⟩ := own_cell hcur (i := m * 4 + 1) (by omega)
                obtain ⟨w2, g2⟩ := own_cell hcur (i := m * 4 + 2) (by omega)
                obtain ⟨w3, g3⟩ := own_cell hcur (i := m * 4 + 3) (by omega)
                have f0 := blk_frozen hcur (m * 4)
                have f1 := blk_frozen hcur (m * 4 + 1)
                have f2 := blk_frozen hcur (m * 4 + 2)
                have f3 := blk_frozen hcur (m * 4 + 3)
                clear hcur hsz hk1 hsz0 hc0
                go_wp2
                exact ⟨⟨m + 1, by go_num, by omega, ⟨((((OX.out.set hBb hbg hbq _ _).set hBb hbg hbq _ _).set hBb hbg hbq _ _).set hBb hbg hbq _ _)⟩⟩, by simp [intOf]; omega⟩
              · have hge : ¬ ((m : Nat) : Int) < (m5 : Int) := by omega
                clear hm hm5
                go_wp2
                clear u0 u1 u2 y2' y3' hge
                go_loopw [73] (fun i X => ∃ m : Nat, i = .int .i64 m ∧ m ≤ m6 ∧ Aside0 (Own W7 W5.heap.size g W6.heap.size X)) (fun i _ => m6 - (intOf i).toNat)
                case atStart => exact ⟨0, rfl, Nat.zero_le _, OX⟩
                case round =>
                  clear OX
                  obtain ⟨m', rfl, hm, OX⟩ := hrel
                  obtain ⟨u0, u1, u2⟩ := cells3 (OX.out.2.2.2.trans Z7.out)
                  have y3' : wr.cell? ⟨g, j * 5 + 3, none⟩ = some (.slice A6 m6 c6) := (own_same OX.out.2.2.1 _).trans y3
                  by_cases hm6 : m' < m6
                  · have hm0 : m' < 9223372036854775807 := by have := RW6.out.1; omega
                    have hm' : ((m' : Nat) : Int) < (m6 : Int) := by omega
                    obtain ⟨b, cur0, e5, hBb, _, hbg, hc0, hsz0⟩ := RW6.out.2 (by omega)
                    subst e5
                    have hbq := HNE.out b cur0 _ (by decide) hc0
                    obtain ⟨cur, hcur, hsz⟩ := OX.out.2.1 _ _ _ hc0
                    have hk1 : (m' + 1) * 5 ≤ m6 * 5 := Nat.mul_le_mul hm6 (Nat.le_refl _)
                    obtain ⟨w0, g0⟩ := own_cell hcur (i := m' * 5) (by omega)
                    have f0 := blk_frozen hcur (m' * 5)
                    clear hcur hsz hk1 hsz0 hc0
                    go_wp2
                    exact ⟨⟨m' + 1, by go_num, by omega, ⟨OX.out.set hBb hbg hbq _ _⟩⟩, by simp [intOf]; omega⟩
                  · have hge : ¬ ((m' : Nat) : Int) < (m6 : Int) := by omega
                    clear hm hm6 y3'
                    go_wp2
                    exact ⟨⟨j + 1, by go_num, by omega, OX⟩, by simp [intOf]; omega⟩
          · have hge : ¬ ((j : Nat) : Int) < (q3.length : Int) := by omega
            clear z0 z1 z2 x0 x1 x2
            obtain ⟨u0, u1, u2⟩ := cells3 (OX.out.2.2.2.trans Z7.out)
            go_wp2
            gi_wp2
            refine wpIn_wide.2 ?_
            clear u0 u1 u2 hge hj hlt
            go_loopw [90] (fun i X => ∃ m : Nat, i = .int .i64 m ∧ m ≤ q2.length ∧ Aside0 (Own W7 W5.heap.size g W6.heap.size X)) (fun i _ => q2.length - (intOf i).toNat)
            case atStart => exact ⟨0, rfl, Nat.zero_le _, OX⟩
            case round =>
              clear OX
              obtain ⟨m, rfl, hm, OX⟩ := hrel
              obtain ⟨u0, u1, u2⟩ := cells3 (OX.out.2.2.2.trans Z7.out)
              by_cases hm5 : m < q2.length
              · have hm0 : m < 9223372036854775807 := by have := HL2.out; omega
                have hm' : ((m : Nat) : Int) < (q2.length : Int) := by omega
                obtain ⟨b, cur0, e5, hBb, _, hc0, hsz0⟩ := (own_row (sz := 3) r1.out rfl).2 (by omega)
                subst e5
                have hbq := HNE.out b cur0 _ (by decide) hc0
                have hbg := HGT.out b cur0 _ (by decide) hc0
                obtain ⟨cur, hcur, hsz⟩ := OX.out.2.1 _ _ _ hc0
                have hk1 : (m + 1) * 3 ≤ q2.length * 3 := Nat.mul_le_mul hm5 (Nat.le_refl _)
                obtain ⟨w0, g0⟩ := own_cell hcur (i := m * 3 + 2) (by omega)
                have f0 := blk_frozen hcur (m * 3 + 2)
                clear hcur hsz hk1 hsz0 hc0
                go_wp2
                exact ⟨⟨m + 1, by go_num, by omega, ⟨OX.out.set hBb hbg hbq _ _⟩⟩, by simp [intOf]; omega⟩
              · have hge : ¬ ((m : Nat) : Int) < (q2.length : Int) := by omega
                obtain ⟨X0, rfl⟩ : ∃ X0 : World, X0 = wr := ⟨_, rfl⟩
                have l7p := blk_lt p7
                have l7k := blk_lt k7
                have b8 := b7.trans (OX.out.1.mono b5.size)
                have f8 := f7.trans OX.out.1
                have p8 := (OX.out.1.block _ hlp).trans p7
                have k8 := (OX.out.1.block _ hlk).trans k7
                clear u0 u1 u2
                obtain ⟨x0, x1, x2⟩ := cells3 p8
                go_wp2
                clear hge hm hm5
                gi_wp2
                refine ⟨trivial, ?_⟩
                refine (callsIn_wide.2 (prod_Join.calls k a0 _ _ l1 _ _ l2 _ _ l3 s1 s2 X0 (Kd.C_below HR1.out b8) HC1.out (Kd.C_below HR2.out b8) HC2.out (Kd.C_below HR3.out b8) HC3.out hjn)).mono ?_
                rintro e Y1 ⟨vs, rfl, os, hbY1⟩
                obtain ⟨E1, e1, evs⟩ := Kd.R_slice os
                subst evs
                have by1 := b8.trans (hbY1.mono b8.size)
                have fy1 := f8.trans (hbY1.mono f8.size)
                have py1 := (hbY1.block _ (blk_lt p8)).trans p8
                have ky1 := (hbY1.block _ (blk_lt k8)).trans k8
                have hsX := hbY1.size
                have lpX := blk_lt p8
                have lkX := blk_lt k8
                have sfX := f8.size
                have sbX := b8.size
                clear hbY1
                obtain ⟨x0, x1, x2⟩ := cells3 py1
                obtain ⟨t0, t1, t2⟩ := cells3 ky1
                by_cases h2 : s2 = 0
                · subst h2
                  obtain ⟨hspl, hlst⟩ := hsp rfl
                  gi_wp2
                  refine ⟨trivial, ?_⟩
                  refine (callsIn_wide.2 (prod_Split.calls k a0 _ _ l1 _ _ l2 (l3.length : Int) E1 e1 s1 l3 0 Y1 (Kd.C_below HR1.out by1) HC1.out (Kd.C_below HR2.out by1) HC2.out (Kd.R_reads' os).2.2 (Kd.R_reads' os).2.1 hspl)).mono ?_
                  rintro e Y2 ⟨vl, rfl, ol, hbY2⟩
                  have ol2 := Aside0.mk (Kd.R_mono (Kd.R_bound (Kd.S_R ol)) (ok' := fun q => Y1.heap.size ≤ q) (fun _ hk => hk.2.1))
                  clear ol
                  obtain ⟨E2, e2, evl⟩ := Kd.R_slice ol2.out
                  subst evl
                  have by2 := by1.trans (hbY2.mono by1.size)
                  have fy2 := fy1.trans (hbY2.mono fy1.size)
                  have hs2' := hbY2.size
                  have py2 := Aside0.mk ((hbY2.block _ (blk_lt py1)).trans py1)
                  have ky2 := Aside0.mk ((hbY2.block _ (blk_lt ky1)).trans ky1)
                  have os2 := Kd.R_below os hbY2
                  obtain ⟨hs1m, hs1b⟩ := own_row (sz := 1) os2 rfl
                  obtain ⟨bs, hbs1, hbs2, hbs4, hbs3⟩ : ∃ bs, (0 < s1.length → E1 = some ⟨bs, 0, none⟩) ∧ (0 < s1.length → X0.heap.size ≤ bs) ∧ bs < Y1.heap.size ∧ (0 < s1.length → ∃ cur, Y2.heap[bs]? = some (.cells cur 3 (0, 0)) ∧ s1.length ≤ cur.size) := by
                    by_cases h0 : 0 < s1.length
                    · obtain ⟨b, cur, q1', q2', _, q3', q4'⟩ := hs1b h0
                      exact ⟨b, fun _ => q1', fun _ => q2', Kd.R_lt os b (by rw [q1']; rfl), fun _ => ⟨cur, q3', by omega⟩⟩
                    · exact ⟨w.heap.size, fun h => absurd h h0, fun h => absurd h h0, by omega, fun h => absurd h h0⟩
                  have BS := Aside0.mk hbs1
                  have BC := Aside0.mk hbs2
                  have SW := Aside0.mk (Sw.refl (B := X0.heap.size) hbs3)
                  clear x0 x1 x2 t0 t1 t2 py1 ky1 hbY2 os os2 hs1b hbs1 hbs2 hbs3
                  gi_wp2
                  refine wpIn_wide.2 ?_
                  go_loopw [117] (fun i X' => ∃ m : Nat, i = .int .i64 m ∧ m ≤ s1.length ∧ Aside0 (Sw Y2 X0.heap.size bs s1.length X')) (fun i _ => s1.length - (intOf i).toNat)
                  case atStart => exact ⟨0, rfl, Nat.zero_le _, SW⟩
                  case round =>
                    clear SW
                    obtain ⟨m, rfl, hm, SX⟩ := hrel
                    by_cases hm5 : m < s1.length
                    · have hm0 : m < 9223372036854775807 := by omega
                      have hm' : ((m : Nat) : Int) < (s1.length : Int) := by omega
                      obtain rfl := BS.out (by omega)
                      obtain ⟨cur, hcur, hsz⟩ := SX.out.2.1 (by omega)
                      obtain ⟨w0, g0⟩ := own_cell hcur (i := m) (by omega)
                      have f0 := blk_frozen hcur m
                      clear hcur hsz
                      go_wp2
                      exact ⟨⟨m + 1, by go_num, by omega, ⟨SX.out.set (BC.out (by omega)) _ _⟩⟩, by simp [intOf]; omega⟩
                    · have hge : ¬ ((m : Nat) : Int) < (s1.length : Int) := by omega
                      obtain ⟨sx1, sx2, sx3⟩ := SX.out
                      have by3 := by2.trans (sx3.mono (by omega))
                      have fy3 := fy2.trans (sx3.mono (by omega))
                      have py3 := (sx3.block _ (by omega)).trans py2.out
                      have ky3 := (sx3.block _ (by omega)).trans ky2.out
                      have ol3 := Kd.R_step ol2.out (w1 := wr) (fun q hq _ => sx1 q (by omega))
                      obtain ⟨x0, x1, x2⟩ := cells3 py3
                      obtain ⟨t0, t1, t2⟩ := cells3 ky3
                      go_wp2
                      gi_wp2
                      refine ⟨trivial, ?_⟩
                      refine (callsIn_wide.2 (w12_lists.calls k E2 e2 l3 _ _ l3 true wr (Kd.R_reads' ol3).2.2 (Kd.R_reads' ol3).2.1 (Kd.C_below HR3.out by3) HC3.out hlst)).mono ?_
                      rintro e Z7' ⟨rfl, hd7⟩
                      have hz7' := hd7.below
                      have by4 := by3.trans (hz7'.mono by3.size)
                      have fy4 := fy3.trans (hz7'.mono fy3.size)
                      have py4 := (hz7'.block _ (blk_lt py3)).trans py3
                      have ky4 := (hz7'.block _ (blk_lt ky3)).trans ky3
                      clear x0 x1 x2 t0 t1 t2
                      obtain ⟨x0, x1, x2⟩ := cells3 py4
                      obtain ⟨t0, t1, t2⟩ := cells3 ky4
                      gi_wp2
                      refine ⟨trivial, ?_⟩
                      refine (callsIn_wide.2 (r3_Same.calls k a0 _ _ l1 _ _ l2 a0 _ _ l1 _ _ l2 true Z7' (Kd.C_below OD1.out fy4) OL1.out (Kd.C_below OD2.out fy4) OL2.out (Kd.C_below HR1.out by4) HC1.out (Kd.C_below HR2.out by4) HC2.out hsm)).mono ?_
                      rintro e Z8 ⟨rfl, hz8⟩
                      have bz8 := by4.trans (hz8.mono by4.size)
                      gi_wp2
                      refine ⟨trivial, ?_⟩
                      refine (callsIn_wide.2 (w12_awake.calls k true Z8 rfl)).mono ?_
                      rintro e Z9 ⟨rfl, hz9⟩
                      gi_wp2
                      exact ⟨_, results_tmp rfl _ _ _, rfl, bz8.trans (hz9.mono bz8.size)⟩
                · have g2 : (s2 == 0) = false := beq_eq_false_iff_ne.mpr h2
                  gi_wp2
                  refine ⟨trivial, ?_⟩
                  refine (callsIn_wide.2 (r3_Same.calls k a0 _ _ l1 _ _ l2 a0 _ _ l1 _ _ l2 true Y1 (Kd.C_below OD1.out fy1) OL1.out (Kd.C_below OD2.out fy1) OL2.out (Kd.C_below HR1.out by1) HC1.out (Kd.C_below HR2.out by1) HC2.out hsm)).mono ?_
                  rintro e Z8 ⟨rfl, hz8⟩
                  have bz8 := by1.trans (hz8.mono by1.size)
                  gi_wp2
                  refine ⟨trivial, ?_⟩
                  refine (callsIn_wide.2 (w12_awake.calls k true Z8 rfl)).mono ?_
                  rintro e Z9 ⟨rfl, hz9⟩
                  gi_wp2
                  exact ⟨_, results_tmp rfl _ _ _, rfl, bz8.trans (hz9.mono bz8.size)⟩
end Go.Proofs.Ytilebfkehmecaaa.Print
namespace Go.Proofs.Ytilebfkehmecaaa.Print
open Go.RowKit Go.Proofs.YtilebfkehmecaaaW.PrintWords Go.Proofs.YtilebfkehmecaaaW.PrintLast Go.Proofs.YtilebfkehmecaaaW.PrintMore
attribute [local go_sem] max2_int min2_int max_two min_two max_three min_three max_four min_four
set_option linter.unusedVariables false
set_option linter.unusedSimpArgs false
theorem own12_law (w : Int) (A1 : Option Addr) (c1 : Nat) (l1 : List S66) (A2 : Option Addr) (c2 : Nat) (l2 : List S64) (n : Int) (A3 : Option Addr) (c3 : Nat) (l3 : List (List Int)) (W : World) (hr1 : Kd.C k66 W A1 l1.length l1) (hc1 : l1.length ≤ c1) (hr2 : Kd.C k64 W A2 l2.length l2) (hc2 : l2.length ≤ c2)
    (hr3 : Kd.C (Kd.slice 3 (Kd.int .i64)) W A3 l3.length l3) (hc3 : l3.length ≤ c3) (hl : l2.length ≤ 9223372036854775807) (hg : goodSs l2) (h3 : l3.length ≤ 9223372036854775807) (g3 : ∀ s ∈ l3, s.length ≤ 9223372036854775807) :
    Calls Try.prog 8 #[.agg #[.int .i64 w, .slice A1 l1.length c1, .slice A2 l2.length c2], .int .i64 n, .slice A3 l3.length c3] W fun e W' => e = .returned (.bool true) ∧ Below W.heap.size W W' := by
  obtain ⟨kf, hkf⟩ := fitsS l2 600 hl hg (by decide) (by decide)
  obtain ⟨kc, hkc⟩ := Copies_tells w l1 l2 hl hg n
  by_cases hcp : cpE w l1 l2 n = 0
  case neg => exact w12_ProdOwn.walk (kf + kc) w A1 c1 l1 A2 c2 l2 n A3 c3 l3 _ _ 0 [] [] 0 [] 0 W hr1 hc1 hr2 hc2 hr3 hc3 (hkf _ (by omega)) (fun _ => hkc _ (by omega)) (fun _ h => absurd h hcp)
  case pos =>
    obtain ⟨hp, _, _, _⟩ := cpE_ok hcp
    obtain ⟨hh, hn4⟩ := pIs_all hp
    obtain ⟨_, _, _, h18, _, _⟩ := hIs_all hh
    obtain ⟨ky, hky⟩ := rcopyP w l1 l2 hl hg (by omega) (by omega)
    obtain ⟨ks, hks⟩ := sameProg w l1 l2 (by omega) hg hl
    obtain ⟨⟨q1, q2, q3, q4⟩, ke, hke⟩ := self_total w l1 l2 n hl hg
    obtain ⟨kj, hkj⟩ := join_tells w l1 l2 hl hg l3 g3
    by_cases h0 : (jnR w l1 l2 l3).2 = 0
    · have b1 : (jnR w l1 l2 l3).1.length ≤ 9223372036854775807 := by
        obtain ⟨hc, ha, e⟩ := jnR_ok h0
        rw [e]
        obtain ⟨hp, _, k1, k3⟩ := cpE_ok hc
        obtain ⟨_, _, _, _, c0, c1⟩ := pIs_cells hp
        have hf := flatten_len c0 (l := l3) (fun s hs => (isSto_len (List.all_eq_true.1 ha s hs)).1)
        have hb : (l3.length : Int) * cs l1 ≤ 3 * 144 := Int.mul_le_mul k3 c1 c0 (by decide)
        show l3.flatten.length ≤ _
        omega
      obtain ⟨kp, hkp⟩ := split_tells w l1 l2 hl hg (l3.length : Int) _ b1
      rw [split_join h0] at hkp
      obtain ⟨kl, hkl⟩ := lists_tells l3 h3 g3
      obtain ⟨K, hK⟩ : ∃ K, K = kf + kc + ky + ks + ke + kj + kp + kl := ⟨_, rfl⟩
      exact w12_ProdOwn.walk K w A1 c1 l1 A2 c2 l2 n A3 c3 l3 _ _ q1 q2 q3 q4 _ _ W hr1 hc1 hr2 hc2 hr3 hc3 (hkf K (by omega)) (fun _ => hkc K (by omega))
        (fun _ _ => ⟨hky K (by omega), hke K (by omega), hks K (by omega), hkj K (by omega), fun _ => ⟨hkp K (by omega), hkl K (by omega)⟩⟩)
    · obtain ⟨K, hK⟩ : ∃ K, K = kf + kc + ky + ks + ke + kj := ⟨_, rfl⟩
      exact w12_ProdOwn.walk K w A1 c1 l1 A2 c2 l2 n A3 c3 l3 _ _ q1 q2 q3 q4 _ _ W hr1 hc1 hr2 hc2 hr3 hc3 (hkf K (by omega)) (fun _ => hkc K (by omega))
        (fun _ _ => ⟨hky K (by omega), hke K (by omega), hks K (by omega), hkj K (by omega), fun h => absurd h h0⟩)
end Go.Proofs.Ytilebfkehmecaaa.Print
