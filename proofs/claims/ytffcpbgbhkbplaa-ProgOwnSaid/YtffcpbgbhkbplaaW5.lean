/- For every program and number the law ProgOwn returns true, and what came in reads as before. No condition. -/
import Derived.Test.YtffcpbgbhkbplaaW4
import Derived.Orders
import Derived.OrdersHeld
set_option maxRecDepth 100000
set_option maxHeartbeats 16000000
namespace Go.Proofs.Ytffcpbgbhkbplaa.Print
open Go.RowKit Go.Proofs.YtffcpbgbhkbplaaW.PrintWords Go.Proofs.YtffcpbgbhkbplaaW.PrintLast Go.Proofs.YtffcpbgbhkbplaaW.PrintMore
attribute [local go_sem] max2_int min2_int max_two min_two max_three min_three max_four min_four
set_option linter.unusedVariables false
set_option linter.unusedSimpArgs false
mutual
def r3_CopyRows.l0 : Nat → List (S47) → List (S47) → Int → Option ((List (S47)))
 | 0, _, _, _ => none
 | k + 1, x0, x3, x4 => if x4 < (x0.length : Int) then (if 0 ≤ x4 then ((r3_CopyRows.f k ((rd_T47 x0 x4).f3)).bind fun t554 => ((r3_CopyRows.f k ((rd_T47 x0 x4).f4)).bind fun t558 => (r3_CopyRows.l1 k x0 x3 x4 0 ((rd_T47 x0 x4).f0) ((rd_T47 x0 x4).f1) ([] : List (S96)) t554 t558))) else (none)) else (some x3)
def r3_CopyRows.l1 : Nat → List (S47) → List (S47) → Int → Int → Int → Int → List (S96) → List (S47) → List (S47) → Option ((List (S47)))
 | 0, _, _, _, _, _, _, _, _, _ => none
 | k + 1, x0, x3, x4, x6, x562000, x562001, x562002, x562003, x562004 => if 0 ≤ x4 then (if x4 < (x0.length : Int) then (if x6 < (((rd_T47 x0 x4).f2).length : Int) then (if 0 ≤ x6 then ((r2_Copy.f k ((rd_T96 ((rd_T47 x0 x4).f2) x6).f0) ((rd_T96 ((rd_T47 x0 x4).f2) x6).f1) ((rd_T96 ((rd_T47 x0 x4).f2) x6).f2) ((rd_T96 ((rd_T47 x0 x4).f2) x6).f3)).bind fun bt565 => (if x562002.length < 2932031007402 then (r3_CopyRows.l1 k x0 x3 x4 (wrap64 (x6 + 1)) x562000 x562001 (x562002 ++ [(⟨bt565.1, bt565.2.1, bt565.2.2.1, bt565.2.2.2⟩ : S96)]) x562003 x562004) else (none))) else (none)) else (if x3.length < 1599289640401 then (r3_CopyRows.l0 k x0 (x3 ++ [(⟨x562000, x562001, x562002, x562003, x562004⟩ : S47)]) (wrap64 (x4 + 1))) else (none))) else (none)) else (none)
def r3_CopyRows.f : Nat → List (S47) → Option ((List (S47)))
 | 0, _ => none
 | k + 1, l0 => r3_CopyRows.l0 k l0 ([] : List (S47)) 0
end
def r3_CopyRows.T5 : Bool × List (List Nat × List Nat) := (true, [([], []), ([], []), ([0, 1], [0, 1]), ([2], [2]), ([3], [3]), ([], []), ([], []), ([5, 6], [5, 6]), ([7], [7]), ([8], [8]), ([], []), ([], []), ([10, 11], [10, 11]), ([12], [12]), ([13], [13]), ([14], [14]), ([], []), ([], []), ([16, 17], [16, 17]), ([18], [18]), ([19], [19]), ([20, 15], [20]), ([4, 9, 15, 21], [4, 9, 15, 21]), ([], []), ([23, 22, 21, 0, 1, 2, 3, 4, 5, 6, 7, 8, 9, 10, 11, 12, 13, 14, 15, 16, 17, 18, 19, 20, 21, 22, 23], [22, 23])])
def r3_CopyRows.B5 : List Nat := [0, 0, 3, 7, 15, 0, 0, 96, 224, 480, 0, 0, 3072, 7168, 15360, 31744, 0, 0, 196608, 458752, 983040, 2096128, 4194303, 0, 16777215]
theorem r3_CopyRows.tab5 : rtab .any (opsOf Try.f63 5) = r3_CopyRows.T5 := by kernel_rfl
theorem r3_CopyRows.bits5 : waitsOk r3_CopyRows.T5.2 r3_CopyRows.B5 = true := by kernel_rfl
def r3_CopyRows.T9 : Bool × List (List Nat × List Nat) := (true, [([], []), ([0], [0]), ([], []), ([], []), ([2, 3], [2, 3]), ([4], [4]), ([5], [5]), ([], []), ([6, 7], [6, 7]), ([8], [8]), ([9], [9]), ([10], [10]), ([1, 11, 10], [1, 11]), ([0, 1, 2, 3, 4, 5, 6, 7, 8, 9, 10, 11, 12], []), ([13, 12, 12, 0, 1, 2, 3, 4, 5, 6, 7, 8, 9, 10, 11, 12], [12, 13])])
def r3_CopyRows.B9 : List Nat := [0, 1, 0, 0, 12, 28, 60, 0, 252, 508, 1020, 2044, 4095, 8191, 16383]
theorem r3_CopyRows.tab9 : rtab .any (opsOf Try.f63 9) = r3_CopyRows.T9 := by kernel_rfl
theorem r3_CopyRows.bits9 : waitsOk r3_CopyRows.T9.2 r3_CopyRows.B9 = true := by kernel_rfl
theorem r3_CopyRows.calls (k : Nat) : ∀ (A0 : Option Addr) (c0 : Nat) (l0 : List (S47)) (r : List (S47)) (w : World) (hr0 : Kd.C k47 w A0 l0.length l0) (hc0 : l0.length ≤ c0) (h : r3_CopyRows.f k l0 = some r),
  Calls Try.prog 63 #[.slice A0 l0.length c0] w fun e w' => ∃ v0_ : Value, e = .returned (v0_) ∧ Kd.R k47 47 w' w.heap.size (fun _ => True) v0_ r ∧ Below w.heap.size w w' := by
 induction k using Nat.strongRecOn with
 | _ k ih =>
 intro A0 c0 l0 r w hr0 hc0 h
 cases k with
 | zero => exact absurd h (by simp [r3_CopyRows.f])
 | succ k =>
 simp only [r3_CopyRows.f] at h
 have hu47 := Try.underlying47
 have hu96 := Try.underlying96
 have HR0 := Aside0.mk hr0
 have HC0 := Aside0.mk hc0
 clear hr0 hc0
 have HB := Aside0.mk (Below.refl w.heap.size w)
 have H : (r3_CopyRows.l0 k l0 ([] : List (S47)) 0) = some r := h
 clear h
 have H' := Aside0.mk H
 clear H
 go_enter Try.func63, Try.ntmps63
 go_wp2
 go_loopg [3, 4] k (fun kq v3 v4 w' => ∃ (x3_1 : List (S47)) (x4_1 : Int), v4 = .int .i64 x4_1 ∧ Aside0 (r3_CopyRows.l0 kq l0 x3_1 x4_1 = some r) ∧ Aside0 (kq ≤ k) ∧ Aside0 (Kd.R k47 47 w' w.heap.size (fun _ => True) v3 x3_1) ∧ Aside0 (Below w.heap.size w w'))
 case atStart => exact ⟨(([] : List (S47))), (0), rs, H', ⟨Nat.le_refl _⟩, ⟨by first | exact Kd.R_nil _ _ _ _ _ | exact Kd.N_nil _ _ _ _ _ | exact Kd.V_nil _ _ _ _ _ | exact Kd.Q_nil _ _ _ _ _ | exact Kd.S_nil _ _ _ _ _⟩, ⟨bb HB⟩⟩
 case round =>
  clear H'
  obtain ⟨x3_1, x4_1, rfl, HA, HK1, HO_3, HB⟩ := hrel
  cases gk with
  | zero => exact absurd HA.out (by simp [r3_CopyRows.l0])
  | succ k1 =>
   have H := HA.out
   clear HA
   simp only [r3_CopyRows.l0] at H
   by_cases c2 : x4_1 < (l0.length : Int)
   rotate_left
   ·rw [if_neg c2] at H
    have c2b0 : decide (x4_1 < (l0.length : Int)) = false := decide_eq_false c2
    clear c2
    obtain rfl := Option.some.inj H
    go_wp2
    go_ret
    exact ⟨_, rr, by (with_reducible repeat (first | apply Kd.R_alloc | apply Kd.R_drewN | apply Kd.R_drew)); exact HO_3.out, bb HB⟩
   rw [if_pos c2] at H
   have c2b0 : decide (x4_1 < (l0.length : Int)) = true := decide_eq_true c2
   clear c2
   by_cases c3 : 0 ≤ x4_1
   rotate_left
   ·rw [if_neg c3] at H
    exact absurd H (by simp)
   rw [if_pos c3] at H
   have c3b0 : decide (0 ≤ x4_1) = true := decide_eq_true c3
   clear c3
   obtain ⟨t554, A4, H⟩ := be H
   obtain ⟨t558, A5, H⟩ := be H
   have H' := Aside0.mk H
   clear H
   try go_wp2
   replace HO_3 := Aside0.mk (Kd.R_drew HO_3.out)
   replace HB := Aside0.mk (bd1 HB.out)
   have p551 : 0 ≤ (x4_1 : Int) := od
   have q551 : x4_1 < (l0.length : Int) := od
   obtain ⟨ad551, A551_2, c551_2, A551_3, c551_3, A551_4, c551_4, e551, hx551_0, hx551_1, hx551_2, hx551_3, hx551_4, hl551_2, hi551_2, hl551_3, hi551_3, hl551_4, hi551_4⟩ := at_T47 HR0.out x4_1 p551 q551
   have hw551_4 := hx551_4
   have hw551_3 := hx551_3
   have hw551_2 := hx551_2
   have hw551_1 := hx551_1
   have hw551_0 := hx551_0
   cases e551
   replace hx551_0 := bcell HB.out hx551_0
   replace hx551_1 := bcell HB.out hx551_1
   replace hx551_2 := bcell HB.out hx551_2
   replace hx551_3 := bcell HB.out hx551_3
   replace hx551_4 := bcell HB.out hx551_4
   have HR551_2 := Aside0.mk hi551_2
   have HC551_2 := Aside0.mk hl551_2
   clear hi551_2 hl551_2
   have HR551_3 := Aside0.mk hi551_3
   have HC551_3 := Aside0.mk hl551_3
   clear hi551_3 hl551_3
   have HR551_4 := Aside0.mk hi551_4
   have HC551_4 := Aside0.mk hl551_4
   clear hi551_4 hl551_4
   replace p551 := eq_true p551
   replace q551 := eq_true q551
   have p552 : 0 ≤ (x4_1 : Int) := od
   have q552 : x4_1 < (l0.length : Int) := od
   obtain ⟨ad552, A552_2, c552_2, A552_3, c552_3, A552_4, c552_4, e552, hx552_0, hx552_1, hx552_2, hx552_3, hx552_4, hl552_2, hi552_2, hl552_3, hi552_3, hl552_4, hi552_4⟩ := at_T47 HR0.out x4_1 p552 q552
   have hw552_4 := hx552_4
   have hw552_3 := hx552_3
   have hw552_2 := hx552_2
   have hw552_1 := hx552_1
   have hw552_0 := hx552_0
   obtain rfl : ad551 = ad552 := (by injection e552)
   replace hx552_0 := bcell HB.out hx552_0
   replace hx552_1 := bcell HB.out hx552_1
   replace hx552_2 := bcell HB.out hx552_2
   replace hx552_3 := bcell HB.out hx552_3
   replace hx552_4 := bcell HB.out hx552_4
   have HR552_2 := Aside0.mk hi552_2
   have HC552_2 := Aside0.mk hl552_2
   clear hi552_2 hl552_2
   have HR552_3 := Aside0.mk hi552_3
   have HC552_3 := Aside0.mk hl552_3
   clear hi552_3 hl552_3
   have HR552_4 := Aside0.mk hi552_4
   have HC552_4 := Aside0.mk hl552_4
   clear hi552_4 hl552_4
   replace p552 := eq_true p552
   replace q552 := eq_true q552
   have ea_ := Option.some.inj (hx551_2.symm.trans hx552_2)
   injection ea_ with ea_ en_ ec_
   subst ea_
   subst ec_
   clear en_
   have ea_ := Option.some.inj (hx551_3.symm.trans hx552_3)
   injection ea_ with ea_ en_ ec_
   subst ea_
   subst ec_
   clear en_
   have ea_ := Option.some.inj (hx551_4.symm.trans hx552_4)
   injection ea_ with ea_ en_ ec_
   subst ea_
   subst ec_
   clear en_
   have p553 : 0 ≤ (x4_1 : Int) := od
   have q553 : x4_1 < (l0.length : Int) := od
   obtain ⟨ad553, A553_2, c553_2, A553_3, c553_3, A553_4, c553_4, e553, hx553_0, hx553_1, hx553_2, hx553_3, hx553_4, hl553_2, hi553_2, hl553_3, hi553_3, hl553_4, hi553_4⟩ := at_T47 HR0.out x4_1 p553 q553
   have hw553_4 := hx553_4
   have hw553_3 := hx553_3
   have hw553_2 := hx553_2
   have hw553_1 := hx553_1
   have hw553_0 := hx553_0
   obtain rfl : ad551 = ad553 := (by injection e553)
   replace hx553_0 := bcell HB.out hx553_0
   replace hx553_1 := bcell HB.out hx553_1
   replace hx553_2 := bcell HB.out hx553_2
   replace hx553_3 := bcell HB.out hx553_3
   replace hx553_4 := bcell HB.out hx553_4
   have HR553_2 := Aside0.mk hi553_2
   have HC553_2 := Aside0.mk hl553_2
   clear hi553_2 hl553_2
   have HR553_3 := Aside0.mk hi553_3
   have HC553_3 := Aside0.mk hl553_3
   clear hi553_3 hl553_3
   have HR553_4 := Aside0.mk hi553_4
   have HC553_4 := Aside0.mk hl553_4
   clear hi553_4 hl553_4
   replace p553 := eq_true p553
   replace q553 := eq_true q553
   have ea_ := Option.some.inj (hx551_2.symm.trans hx553_2)
   injection ea_ with ea_ en_ ec_
   subst ea_
   subst ec_
   clear en_
   have ea_ := Option.some.inj (hx551_3.symm.trans hx553_3)
   injection ea_ with ea_ en_ ec_
   subst ea_
   subst ec_
   clear en_
   have ea_ := Option.some.inj (hx551_4.symm.trans hx553_4)
   injection ea_ with ea_ en_ ec_
   subst ea_
   subst ec_
   clear en_
   have p557 : 0 ≤ (x4_1 : Int) := od
   have q557 : x4_1 < (l0.length : Int) := od
   obtain ⟨ad557, A557_2, c557_2, A557_3, c557_3, A557_4, c557_4, e557, hx557_0, hx557_1, hx557_2, hx557_3, hx557_4, hl557_2, hi557_2, hl557_3, hi557_3, hl557_4, hi557_4⟩ := at_T47 HR0.out x4_1 p557 q557
   have hw557_4 := hx557_4
   have hw557_3 := hx557_3
   have hw557_2 := hx557_2
   have hw557_1 := hx557_1
   have hw557_0 := hx557_0
   obtain rfl : ad551 = ad557 := (by injection e557)
   replace hx557_0 := bcell HB.out hx557_0
   replace hx557_1 := bcell HB.out hx557_1
   replace hx557_2 := bcell HB.out hx557_2
   replace hx557_3 := bcell HB.out hx557_3
   replace hx557_4 := bcell HB.out hx557_4
   have HR557_2 := Aside0.mk hi557_2
   have HC557_2 := Aside0.mk hl557_2
   clear hi557_2 hl557_2
   have HR557_3 := Aside0.mk hi557_3
   have HC557_3 := Aside0.mk hl557_3
   clear hi557_3 hl557_3
   have HR557_4 := Aside0.mk hi557_4
   have HC557_4 := Aside0.mk hl557_4
   clear hi557_4 hl557_4
   replace p557 := eq_true p557
   replace q557 := eq_true q557
   have ea_ := Option.some.inj (hx551_2.symm.trans hx557_2)
   injection ea_ with ea_ en_ ec_
   subst ea_
   subst ec_
   clear en_
   have ea_ := Option.some.inj (hx551_3.symm.trans hx557_3)
   injection ea_ with ea_ en_ ec_
   subst ea_
   subst ec_
   clear en_
   have ea_ := Option.some.inj (hx551_4.symm.trans hx557_4)
   injection ea_ with ea_ en_ ec_
   subst ea_
   subst ec_
   clear en_
   refine start_ (n := 25) (S := fun w' => w'.cell? (ad551.add ((x4_1).toNat * 5)) = some (.int .i64 ((rd_T47 l0 x4_1).f0)) ∧ w'.cell? ⟨(ad551.add ((x4_1).toNat * 5)).block, (ad551.add ((x4_1).toNat * 5)).off + 1, none⟩ = some (.int .i64 ((rd_T47 l0 x4_1).f1)) ∧ w'.cell? ⟨(ad551.add ((x4_1).toNat * 5)).block, (ad551.add ((x4_1).toNat * 5)).off + 2, none⟩ = some (.slice A551_2 ((rd_T47 l0 x4_1).f2).length c551_2) ∧ w'.cell? ⟨(ad551.add ((x4_1).toNat * 5)).block, (ad551.add ((x4_1).toNat * 5)).off + 3, none⟩ = some (.slice A551_3 ((rd_T47 l0 x4_1).f3).length c551_3) ∧ w'.cell? ⟨(ad551.add ((x4_1).toNat * 5)).block, (ad551.add ((x4_1).toNat * 5)).off + 4, none⟩ = some (.slice A551_4 ((rd_T47 l0 x4_1).f4).length c551_4) ∧ w'.cell? (ad551.add ((x4_1).toNat * 5)) = some (.int .i64 ((rd_T47 l0 x4_1).f0)) ∧ w'.cell? ⟨(ad551.add ((x4_1).toNat * 5)).block, (ad551.add ((x4_1).toNat * 5)).off + 1, none⟩ = some (.int .i64 ((rd_T47 l0 x4_1).f1)) ∧ w'.cell? ⟨(ad551.add ((x4_1).toNat * 5)).block, (ad551.add ((x4_1).toNat * 5)).off + 2, none⟩ = some (.slice A551_2 ((rd_T47 l0 x4_1).f2).length c551_2) ∧ w'.cell? ⟨(ad551.add ((x4_1).toNat * 5)).block, (ad551.add ((x4_1).toNat * 5)).off + 3, none⟩ = some (.slice A551_3 ((rd_T47 l0 x4_1).f3).length c551_3) ∧ w'.cell? ⟨(ad551.add ((x4_1).toNat * 5)).block, (ad551.add ((x4_1).toNat * 5)).off + 4, none⟩ = some (.slice A551_4 ((rd_T47 l0 x4_1).f4).length c551_4) ∧ w'.cell? (ad551.add ((x4_1).toNat * 5)) = some (.int .i64 ((rd_T47 l0 x4_1).f0)) ∧ w'.cell? ⟨(ad551.add ((x4_1).toNat * 5)).block, (ad551.add ((x4_1).toNat * 5)).off + 1, none⟩ = some (.int .i64 ((rd_T47 l0 x4_1).f1)) ∧ w'.cell? ⟨(ad551.add ((x4_1).toNat * 5)).block, (ad551.add ((x4_1).toNat * 5)).off + 2, none⟩ = some (.slice A551_2 ((rd_T47 l0 x4_1).f2).length c551_2) ∧ w'.cell? ⟨(ad551.add ((x4_1).toNat * 5)).block, (ad551.add ((x4_1).toNat * 5)).off + 3, none⟩ = some (.slice A551_3 ((rd_T47 l0 x4_1).f3).length c551_3) ∧ w'.cell? ⟨(ad551.add ((x4_1).toNat * 5)).block, (ad551.add ((x4_1).toNat * 5)).off + 4, none⟩ = some (.slice A551_4 ((rd_T47 l0 x4_1).f4).length c551_4) ∧ w'.cell? (ad551.add ((x4_1).toNat * 5)) = some (.int .i64 ((rd_T47 l0 x4_1).f0)) ∧ w'.cell? ⟨(ad551.add ((x4_1).toNat * 5)).block, (ad551.add ((x4_1).toNat * 5)).off + 1, none⟩ = some (.int .i64 ((rd_T47 l0 x4_1).f1)) ∧ w'.cell? ⟨(ad551.add ((x4_1).toNat * 5)).block, (ad551.add ((x4_1).toNat * 5)).off + 2, none⟩ = some (.slice A551_2 ((rd_T47 l0 x4_1).f2).length c551_2) ∧ w'.cell? ⟨(ad551.add ((x4_1).toNat * 5)).block, (ad551.add ((x4_1).toNat * 5)).off + 3, none⟩ = some (.slice A551_3 ((rd_T47 l0 x4_1).f3).length c551_3) ∧ w'.cell? ⟨(ad551.add ((x4_1).toNat * 5)).block, (ad551.add ((x4_1).toNat * 5)).off + 4, none⟩ = some (.slice A551_4 ((rd_T47 l0 x4_1).f4).length c551_4)) (ds := []) #[false, false, false, false, false, false, false, false, false, false, false, false, false, false, false, false, false, false, false, false, false, false, false, false, false] (by kernel_rfl) rfl rfl ⟨(bcell HB.out hw551_0), (bcell HB.out hw551_1), (bcell HB.out hw551_2), (bcell HB.out hw551_3), (bcell HB.out hw551_4), (bcell HB.out hw552_0), (bcell HB.out hw552_1), (bcell HB.out hw552_2), (bcell HB.out hw552_3), (bcell HB.out hw552_4), (bcell HB.out hw553_0), (bcell HB.out hw553_1), (bcell HB.out hw553_2), (bcell HB.out hw553_3), (bcell HB.out hw553_4), (bcell HB.out hw557_0), (bcell HB.out hw557_1), (bcell HB.out hw557_2), (bcell HB.out hw557_3), (bcell HB.out hw557_4)⟩ (fun hHeld => ?_); refine with_tabW r3_CopyRows.tab5 r3_CopyRows.bits5 (fun HT_ HW_ => ?_)
   generalize wr.drew = w6 at HO_3 HB HR551_2 HR551_3 HR551_4 HR552_2 HR552_3 HR552_4 HR553_2 HR553_3 HR553_4 HR557_2 HR557_3 HR557_4 hx551_0 hx551_1 hx551_2 hx551_3 hx551_4 hx552_0 hx552_1 hx552_2 hx552_3 hx552_4 hx553_0 hx553_1 hx553_2 hx553_3 hx553_4 hx557_0 hx557_1 hx557_2 hx557_3 hx557_4 hHeld ⊢
   refine pT 0 13 (bl 25 1) HT_ rfl rfl ?_
   refine pT 1 14 (bl 25 3) HT_ rfl rfl ?_
   refine pT 2 15 (bl 25 7) HT_ rfl rfl ?_
   refine pT 3 16 (bl 25 15) HT_ rfl rfl ?_
   refine pT 5 18 (bl 25 47) HT_ rfl rfl ?_
   refine pT 6 19 (bl 25 111) HT_ rfl rfl ?_
   refine pT 7 20 (bl 25 239) HT_ rfl rfl ?_
   refine pT 8 21 (bl 25 495) HT_ rfl rfl ?_
   refine pT 10 23 (bl 25 1519) HT_ rfl rfl ?_
   refine pT 11 24 (bl 25 3567) HT_ rfl rfl ?_
   refine pT 12 25 (bl 25 7663) HT_ rfl rfl ?_
   refine pT 13 26 (bl 25 15855) HT_ rfl rfl ?_
   refine pT 16 29 (bl 25 81391) HT_ rfl rfl ?_
   refine pT 17 30 (bl 25 212463) HT_ rfl rfl ?_
   refine pT 18 31 (bl 25 474607) HT_ rfl rfl ?_
   refine pT 19 32 (bl 25 998895) HT_ rfl rfl ?_
   refine tk (i := 4) (N := some 17) (bl 25 998911) rfl rfl (take_ofW HT_.out HW_.out (by kernel_rfl)) hHeld ?_
   refine tk (i := 9) (N := some 22) (bl 25 999423) rfl rfl (take_ofW HT_.out HW_.out (by kernel_rfl)) hHeld ?_
   refine tk (i := 14) (N := some 27) (bl 25 1015807) rfl rfl (take_ofW HT_.out HW_.out (by kernel_rfl)) hHeld ?_
   refine tk (i := 20) (N := some 33) (bl 25 2064383) rfl rfl (take_ofW HT_.out HW_.out (by kernel_rfl)) hHeld ?_
   refine join_ (σ := Value × Value × Nat) 1 #[true, true, true, true, true, true, true, true, true, true, true, true, true, true, true, true, true, true, true, true, true, true, true, true, false] (fun s_ => [(28, s_.1), (34, s_.2.1), (5, .pointer (some ⟨s_.2.2, 0, none⟩)), (35, .agg #[.int .i64 ((rd_T47 l0 x4_1).f0), .int .i64 ((rd_T47 l0 x4_1).f1), .slice none 0 0, s_.1, s_.2.1])]) (fun s_ w' => (w'.cell? (ad551.add ((x4_1).toNat * 5)) = some (.int .i64 ((rd_T47 l0 x4_1).f0)) ∧ w'.cell? ⟨(ad551.add ((x4_1).toNat * 5)).block, (ad551.add ((x4_1).toNat * 5)).off + 1, none⟩ = some (.int .i64 ((rd_T47 l0 x4_1).f1)) ∧ w'.cell? ⟨(ad551.add ((x4_1).toNat * 5)).block, (ad551.add ((x4_1).toNat * 5)).off + 2, none⟩ = some (.slice A551_2 ((rd_T47 l0 x4_1).f2).length c551_2) ∧ w'.cell? ⟨(ad551.add ((x4_1).toNat * 5)).block, (ad551.add ((x4_1).toNat * 5)).off + 3, none⟩ = some (.slice A551_3 ((rd_T47 l0 x4_1).f3).length c551_3) ∧ w'.cell? ⟨(ad551.add ((x4_1).toNat * 5)).block, (ad551.add ((x4_1).toNat * 5)).off + 4, none⟩ = some (.slice A551_4 ((rd_T47 l0 x4_1).f4).length c551_4) ∧ w'.cell? (ad551.add ((x4_1).toNat * 5)) = some (.int .i64 ((rd_T47 l0 x4_1).f0)) ∧ w'.cell? ⟨(ad551.add ((x4_1).toNat * 5)).block, (ad551.add ((x4_1).toNat * 5)).off + 1, none⟩ = some (.int .i64 ((rd_T47 l0 x4_1).f1)) ∧ w'.cell? ⟨(ad551.add ((x4_1).toNat * 5)).block, (ad551.add ((x4_1).toNat * 5)).off + 2, none⟩ = some (.slice A551_2 ((rd_T47 l0 x4_1).f2).length c551_2) ∧ w'.cell? ⟨(ad551.add ((x4_1).toNat * 5)).block, (ad551.add ((x4_1).toNat * 5)).off + 3, none⟩ = some (.slice A551_3 ((rd_T47 l0 x4_1).f3).length c551_3) ∧ w'.cell? ⟨(ad551.add ((x4_1).toNat * 5)).block, (ad551.add ((x4_1).toNat * 5)).off + 4, none⟩ = some (.slice A551_4 ((rd_T47 l0 x4_1).f4).length c551_4) ∧ w'.cell? (ad551.add ((x4_1).toNat * 5)) = some (.int .i64 ((rd_T47 l0 x4_1).f0)) ∧ w'.cell? ⟨(ad551.add ((x4_1).toNat * 5)).block, (ad551.add ((x4_1).toNat * 5)).off + 1, none⟩ = some (.int .i64 ((rd_T47 l0 x4_1).f1)) ∧ w'.cell? ⟨(ad551.add ((x4_1).toNat * 5)).block, (ad551.add ((x4_1).toNat * 5)).off + 2, none⟩ = some (.slice A551_2 ((rd_T47 l0 x4_1).f2).length c551_2) ∧ w'.cell? ⟨(ad551.add ((x4_1).toNat * 5)).block, (ad551.add ((x4_1).toNat * 5)).off + 3, none⟩ = some (.slice A551_3 ((rd_T47 l0 x4_1).f3).length c551_3) ∧ w'.cell? ⟨(ad551.add ((x4_1).toNat * 5)).block, (ad551.add ((x4_1).toNat * 5)).off + 4, none⟩ = some (.slice A551_4 ((rd_T47 l0 x4_1).f4).length c551_4) ∧ w'.cell? (ad551.add ((x4_1).toNat * 5)) = some (.int .i64 ((rd_T47 l0 x4_1).f0)) ∧ w'.cell? ⟨(ad551.add ((x4_1).toNat * 5)).block, (ad551.add ((x4_1).toNat * 5)).off + 1, none⟩ = some (.int .i64 ((rd_T47 l0 x4_1).f1)) ∧ w'.cell? ⟨(ad551.add ((x4_1).toNat * 5)).block, (ad551.add ((x4_1).toNat * 5)).off + 2, none⟩ = some (.slice A551_2 ((rd_T47 l0 x4_1).f2).length c551_2) ∧ w'.cell? ⟨(ad551.add ((x4_1).toNat * 5)).block, (ad551.add ((x4_1).toNat * 5)).off + 3, none⟩ = some (.slice A551_3 ((rd_T47 l0 x4_1).f3).length c551_3) ∧ w'.cell? ⟨(ad551.add ((x4_1).toNat * 5)).block, (ad551.add ((x4_1).toNat * 5)).off + 4, none⟩ = some (.slice A551_4 ((rd_T47 l0 x4_1).f4).length c551_4)) ∧ (Kd.R k47 47 w' w.heap.size (fun k_ => some k_ ≠ (s_.2.1 : Value).ownBlock ∧ some k_ ≠ (u3 : Value).ownBlock ∧ k_ ≠ s_.2.2) s_.1 t554) ∧ (Kd.R k47 47 w' w.heap.size (fun k_ => some k_ ≠ (s_.1 : Value).ownBlock ∧ some k_ ≠ (u3 : Value).ownBlock ∧ k_ ≠ s_.2.2) s_.2.1 t558) ∧ (Kd.R k47 47 w' w.heap.size (fun k_ => some k_ ≠ (s_.1 : Value).ownBlock ∧ some k_ ≠ (s_.2.1 : Value).ownBlock ∧ k_ ≠ s_.2.2) u3 x3_1) ∧ (w'.heap[s_.2.2]? = some (.cells #[.int .i64 0, .int .i64 0, .slice none 0 0, .slice none 0 0, .slice none 0 0] 47 (0, 0))) ∧ (w.heap.size ≤ s_.2.2) ∧ (w.heap.size ≤ s_.2.2) ∧ (Below w.heap.size w w')) ?_ ?_
   rotate_left
   ·intro hCont
    refine two_ (i := 15) (j := 23) (Ni := some 28) (Nj := some 5) #[true, true, true, true, true, true, true, true, true, true, true, true, true, true, true, true, true, true, true, true, true, false, false, false, false] #[true, true, true, true, true, true, true, true, true, true, true, true, true, true, true, false, true, true, true, true, true, false, false, true, false] rfl rfl rfl rfl (two_of HT_.out (by kernel_rfl)) (by decide) (by decide) (fun K hK => ?_) (fun K hK => ?_)
    ·skip
     refine gO Try.func63 #[.slice A551_3 ((rd_T47 l0 x4_1).f3).length c551_3] (by rfl) rfl rfl ?_
     with_reducible refine (ih k1 (by have := HK1.out; omega) _ _ ((rd_T47 l0 x4_1).f3) t554 _ ?side1 ?side2 A4.out).mono ?_
     (case side1 => exact cb HR553_3 HB)
     (case side2 => exact HC553_3.out)
     rintro e w7 ⟨v555, rfl, ho0, hb⟩
     refine ⟨_, rfl, ?_⟩
     have HO556 := Aside0.mk (Kd.R_lower (Kd.R_new' ho0 (Kd.R_lt (iR HO_3))) (bsz (bb HB)))
     replace HO_3 := Aside0.mk (Kd.R_elder' (iR HO_3) (Kd.R_base ho0) hb)
     replace HB := sb HB hb
     (try clear hb)
     (try clear hb2)
     (try clear hk)
     (try clear hi)
     (try clear ho0)
     refine hK.out _ _ ⟨(bcell HB.out hw551_0), (bcell HB.out hw551_1), (bcell HB.out hw551_2), (bcell HB.out hw551_3), (bcell HB.out hw551_4), (bcell HB.out hw552_0), (bcell HB.out hw552_1), (bcell HB.out hw552_2), (bcell HB.out hw552_3), (bcell HB.out hw552_4), (bcell HB.out hw553_0), (bcell HB.out hw553_1), (bcell HB.out hw553_2), (bcell HB.out hw553_3), (bcell HB.out hw553_4), (bcell HB.out hw557_0), (bcell HB.out hw557_1), (bcell HB.out hw557_2), (bcell HB.out hw557_3), (bcell HB.out hw557_4)⟩ (fun hHeld => ?_)
     clear hK K
     refine nm 28 ?_
     refine two_ (i := 21) (j := 23) (Ni := some 34) (Nj := some 5) #[true, true, true, true, true, true, true, true, true, true, true, true, true, true, true, true, true, true, true, true, true, true, false, false, false] #[true, true, true, true, true, true, true, true, true, true, true, true, true, true, true, true, true, true, true, true, true, false, false, true, false] rfl rfl rfl rfl (two_of HT_.out (by kernel_rfl)) (by decide) (by decide) (fun K hK => ?_) (fun K hK => ?_)
     ·skip
      refine gO Try.func63 #[.slice A551_4 ((rd_T47 l0 x4_1).f4).length c551_4] (by rfl) rfl rfl ?_
      with_reducible refine (ih k1 (by have := HK1.out; omega) _ _ ((rd_T47 l0 x4_1).f4) t558 _ ?side1 ?side2 A5.out).mono ?_
      (case side1 => exact cb HR557_4 HB)
      (case side2 => exact HC557_4.out)
      rintro e w8 ⟨v559, rfl, ho0, hb⟩
      refine ⟨_, rfl, ?_⟩
      have HO560 := Aside0.mk (Kd.R_lower (Kd.R_new' (Kd.R_new' ho0 (Kd.R_lt (iR HO_3))) (Kd.R_lt (iR HO556))) (bsz (bb HB)))
      replace HO_3 := Aside0.mk (Kd.R_elder' (iR HO_3) (Kd.R_base ho0) hb)
      replace HO556 := Aside0.mk (Kd.R_elder' (iR HO556) (Kd.R_base ho0) hb)
      replace HB := sb HB hb
      (try clear hb)
      (try clear hb2)
      (try clear hk)
      (try clear hi)
      (try clear ho0)
      obtain ⟨Ao9, co9, eo9⟩ := Kd.R_slice HO560.out
      (first | subst eo9 | (injection eo9 with f1_ f2_ f3_; have f4_ := f1_.symm; have f5_ := f3_.symm; clear f1_ f2_ f3_; subst f4_; subst f5_))
      obtain ⟨Ao10, co10, eo10⟩ := Kd.R_slice HO556.out
      (first | subst eo10 | (injection eo10 with f1_ f2_ f3_; have f4_ := f1_.symm; have f5_ := f3_.symm; clear f1_ f2_ f3_; subst f4_; subst f5_))
      refine hK.out _ _ ⟨(bcell HB.out hw551_0), (bcell HB.out hw551_1), (bcell HB.out hw551_2), (bcell HB.out hw551_3), (bcell HB.out hw551_4), (bcell HB.out hw552_0), (bcell HB.out hw552_1), (bcell HB.out hw552_2), (bcell HB.out hw552_3), (bcell HB.out hw552_4), (bcell HB.out hw553_0), (bcell HB.out hw553_1), (bcell HB.out hw553_2), (bcell HB.out hw553_3), (bcell HB.out hw553_4), (bcell HB.out hw557_0), (bcell HB.out hw557_1), (bcell HB.out hw557_2), (bcell HB.out hw557_3), (bcell HB.out hw557_4)⟩ (fun hHeld => ?_)
      clear hK K
      refine nm 34 ?_
      refine pT 22 35 (bl 25 8388607) HT_ rfl rfl ?_
      refine one_ (i := 23) (N := some 5) (bl 25 16777215) rfl rfl (one_of HT_.out (by kernel_rfl)) (by decide) (fun K hK => ?_)
      refine box_step ?hg (N := 5) ?hd (cs := #[.int .i64 0, .int .i64 0, .slice none 0 0, .slice none 0 0, .slice none 0 0]) (t := 47) ?hr ?_; (case hd => rfl); (case hg => rfl); (case hr => first | (go_simp; done) | (go_simp; rfl))
      intro gb561 hg w11 hbox hb
      have BK561 := Aside0.mk (hbox)
      have GW561 := ge HB hg
      have GE561 := ge HB hg
      replace HO_3 := Aside0.mk (Kd.R_below (Kd.R_elderB (iR HO_3) gb561 (Nat.le_of_eq hg.symm)) hb)
      replace HO556 := Aside0.mk (Kd.R_below (Kd.R_elderB (iR HO556) gb561 (Nat.le_of_eq hg.symm)) hb)
      replace HO560 := Aside0.mk (Kd.R_below (Kd.R_elderB (iR HO560) gb561 (Nat.le_of_eq hg.symm)) hb)
      replace HB := sb HB hb
      clear hb hbox hg
      refine hK.out _ _ ⟨(bcell HB.out hw551_0), (bcell HB.out hw551_1), (bcell HB.out hw551_2), (bcell HB.out hw551_3), (bcell HB.out hw551_4), (bcell HB.out hw552_0), (bcell HB.out hw552_1), (bcell HB.out hw552_2), (bcell HB.out hw552_3), (bcell HB.out hw552_4), (bcell HB.out hw553_0), (bcell HB.out hw553_1), (bcell HB.out hw553_2), (bcell HB.out hw553_3), (bcell HB.out hw553_4), (bcell HB.out hw557_0), (bcell HB.out hw557_1), (bcell HB.out hw557_2), (bcell HB.out hw557_3), (bcell HB.out hw557_4)⟩ (fun hHeld => ?_)
      clear hK K
      refine nm 5 ?_
      exact norm_ (by simp only [putAll, Act.put, List.setIfInBounds_toArray, List.set_cons_zero, List.set_cons_succ]) (hCont (.slice Ao10 t554.length co10, .slice Ao9 t558.length co9, gb561) _ ⟨hHeld, (by (with_reducible repeat (first | apply Kd.R_alloc | apply Kd.R_drewN | apply Kd.R_drew)); exact Kd.R_mono HO556.out (fun _ hk => ⟨hk.1.2, ⟨hk.1.1.2, hk.2⟩⟩)), (by (with_reducible repeat (first | apply Kd.R_alloc | apply Kd.R_drewN | apply Kd.R_drew)); exact Kd.R_mono HO560.out (fun _ hk => ⟨hk.1.2, ⟨hk.1.1.2, hk.2⟩⟩)), (by (with_reducible repeat (first | apply Kd.R_alloc | apply Kd.R_drewN | apply Kd.R_drew)); exact Kd.R_mono HO_3.out (fun _ hk => ⟨hk.1.1.2, ⟨hk.1.2, hk.2⟩⟩)), (kk BK561), GW561.out, GE561.out, (bb HB)⟩)
     ·skip
      refine box_step ?hg (N := 5) ?hd (cs := #[.int .i64 0, .int .i64 0, .slice none 0 0, .slice none 0 0, .slice none 0 0]) (t := 47) ?hr ?_; (case hd => rfl); (case hg => rfl); (case hr => first | (go_simp; done) | (go_simp; rfl))
      intro gb561 hg w8 hbox hb
      have BK561 := Aside0.mk (hbox)
      have GW561 := ge HB hg
      have GE561 := ge HB hg
      replace HO_3 := Aside0.mk (Kd.R_below (Kd.R_elderB (iR HO_3) gb561 (Nat.le_of_eq hg.symm)) hb)
      replace HO556 := Aside0.mk (Kd.R_below (Kd.R_elderB (iR HO556) gb561 (Nat.le_of_eq hg.symm)) hb)
      replace HB := sb HB hb
      clear hb hbox hg
      refine hK.out _ _ ⟨(bcell HB.out hw551_0), (bcell HB.out hw551_1), (bcell HB.out hw551_2), (bcell HB.out hw551_3), (bcell HB.out hw551_4), (bcell HB.out hw552_0), (bcell HB.out hw552_1), (bcell HB.out hw552_2), (bcell HB.out hw552_3), (bcell HB.out hw552_4), (bcell HB.out hw553_0), (bcell HB.out hw553_1), (bcell HB.out hw553_2), (bcell HB.out hw553_3), (bcell HB.out hw553_4), (bcell HB.out hw557_0), (bcell HB.out hw557_1), (bcell HB.out hw557_2), (bcell HB.out hw557_3), (bcell HB.out hw557_4)⟩ (fun hHeld => ?_)
      clear hK K
      refine nm 5 ?_
      refine one_ (i := 21) (N := some 34) (bl 25 12582911) rfl rfl (one_of HT_.out (by kernel_rfl)) (by decide) (fun K hK => ?_)
      refine gO Try.func63 #[.slice A551_4 ((rd_T47 l0 x4_1).f4).length c551_4] (by rfl) rfl rfl ?_
      with_reducible refine (ih k1 (by have := HK1.out; omega) _ _ ((rd_T47 l0 x4_1).f4) t558 _ ?side1 ?side2 A5.out).mono ?_
      (case side1 => exact cb HR557_4 HB)
      (case side2 => exact HC557_4.out)
      rintro e w9 ⟨v559, rfl, ho0, hb⟩
      refine ⟨_, rfl, ?_⟩
      have HO560 := Aside0.mk (Kd.R_lower (Kd.R_newB (Kd.R_new' (Kd.R_new' ho0 (Kd.R_lt (iR HO_3))) (Kd.R_lt (iR HO556))) (kk BK561)) (bsz (bb HB)))
      replace HO_3 := Aside0.mk (Kd.R_elder' (iR HO_3) (Kd.R_base ho0) hb)
      replace HO556 := Aside0.mk (Kd.R_elder' (iR HO556) (Kd.R_base ho0) hb)
      replace BK561 := kb BK561 hb
      replace HB := sb HB hb
      (try clear hb)
      (try clear hb2)
      (try clear hk)
      (try clear hi)
      (try clear ho0)
      obtain ⟨Ao10, co10, eo10⟩ := Kd.R_slice HO560.out
      (first | subst eo10 | (injection eo10 with f1_ f2_ f3_; have f4_ := f1_.symm; have f5_ := f3_.symm; clear f1_ f2_ f3_; subst f4_; subst f5_))
      obtain ⟨Ao11, co11, eo11⟩ := Kd.R_slice HO556.out
      (first | subst eo11 | (injection eo11 with f1_ f2_ f3_; have f4_ := f1_.symm; have f5_ := f3_.symm; clear f1_ f2_ f3_; subst f4_; subst f5_))
      refine hK.out _ _ ⟨(bcell HB.out hw551_0), (bcell HB.out hw551_1), (bcell HB.out hw551_2), (bcell HB.out hw551_3), (bcell HB.out hw551_4), (bcell HB.out hw552_0), (bcell HB.out hw552_1), (bcell HB.out hw552_2), (bcell HB.out hw552_3), (bcell HB.out hw552_4), (bcell HB.out hw553_0), (bcell HB.out hw553_1), (bcell HB.out hw553_2), (bcell HB.out hw553_3), (bcell HB.out hw553_4), (bcell HB.out hw557_0), (bcell HB.out hw557_1), (bcell HB.out hw557_2), (bcell HB.out hw557_3), (bcell HB.out hw557_4)⟩ (fun hHeld => ?_)
      clear hK K
      refine nm 34 ?_
      refine pT 22 35 (bl 25 16777215) HT_ rfl rfl ?_
      exact norm_ (by simp only [putAll, Act.put, List.setIfInBounds_toArray, List.set_cons_zero, List.set_cons_succ]) (hCont (.slice Ao11 t554.length co11, .slice Ao10 t558.length co10, gb561) _ ⟨hHeld, (by (with_reducible repeat (first | apply Kd.R_alloc | apply Kd.R_drewN | apply Kd.R_drew)); exact Kd.R_mono HO556.out (fun _ hk => ⟨hk.2, ⟨hk.1.1.2, hk.1.2⟩⟩)), (by (with_reducible repeat (first | apply Kd.R_alloc | apply Kd.R_drewN | apply Kd.R_drew)); exact Kd.R_mono HO560.out (fun _ hk => ⟨hk.1.2, ⟨hk.1.1.2, hk.2⟩⟩)), (by (with_reducible repeat (first | apply Kd.R_alloc | apply Kd.R_drewN | apply Kd.R_drew)); exact Kd.R_mono HO_3.out (fun _ hk => ⟨hk.1.1.2, ⟨hk.2, hk.1.2⟩⟩)), (kk BK561), GW561.out, GE561.out, (bb HB)⟩)
    ·skip
     refine box_step ?hg (N := 5) ?hd (cs := #[.int .i64 0, .int .i64 0, .slice none 0 0, .slice none 0 0, .slice none 0 0]) (t := 47) ?hr ?_; (case hd => rfl); (case hg => rfl); (case hr => first | (go_simp; done) | (go_simp; rfl))
     intro gb561 hg w7 hbox hb
     have BK561 := Aside0.mk (hbox)
     have GW561 := ge HB hg
     have GE561 := ge HB hg
     replace HO_3 := Aside0.mk (Kd.R_below (Kd.R_elderB (iR HO_3) gb561 (Nat.le_of_eq hg.symm)) hb)
     replace HB := sb HB hb
     clear hb hbox hg
     refine hK.out _ _ ⟨(bcell HB.out hw551_0), (bcell HB.out hw551_1), (bcell HB.out hw551_2), (bcell HB.out hw551_3), (bcell HB.out hw551_4), (bcell HB.out hw552_0), (bcell HB.out hw552_1), (bcell HB.out hw552_2), (bcell HB.out hw552_3), (bcell HB.out hw552_4), (bcell HB.out hw553_0), (bcell HB.out hw553_1), (bcell HB.out hw553_2), (bcell HB.out hw553_3), (bcell HB.out hw553_4), (bcell HB.out hw557_0), (bcell HB.out hw557_1), (bcell HB.out hw557_2), (bcell HB.out hw557_3), (bcell HB.out hw557_4)⟩ (fun hHeld => ?_)
     clear hK K
     refine nm 5 ?_
     refine one_ (i := 15) (N := some 28) (bl 25 10485759) rfl rfl (one_of HT_.out (by kernel_rfl)) (by decide) (fun K hK => ?_)
     refine gO Try.func63 #[.slice A551_3 ((rd_T47 l0 x4_1).f3).length c551_3] (by rfl) rfl rfl ?_
     with_reducible refine (ih k1 (by have := HK1.out; omega) _ _ ((rd_T47 l0 x4_1).f3) t554 _ ?side1 ?side2 A4.out).mono ?_
     (case side1 => exact cb HR553_3 HB)
     (case side2 => exact HC553_3.out)
     rintro e w8 ⟨v555, rfl, ho0, hb⟩
     refine ⟨_, rfl, ?_⟩
     have HO556 := Aside0.mk (Kd.R_lower (Kd.R_newB (Kd.R_new' ho0 (Kd.R_lt (iR HO_3))) (kk BK561)) (bsz (bb HB)))
     replace HO_3 := Aside0.mk (Kd.R_elder' (iR HO_3) (Kd.R_base ho0) hb)
     replace BK561 := kb BK561 hb
     replace HB := sb HB hb
     (try clear hb)
     (try clear hb2)
     (try clear hk)
     (try clear hi)
     (try clear ho0)
     refine hK.out _ _ ⟨(bcell HB.out hw551_0), (bcell HB.out hw551_1), (bcell HB.out hw551_2), (bcell HB.out hw551_3), (bcell HB.out hw551_4), (bcell HB.out hw552_0), (bcell HB.out hw552_1), (bcell HB.out hw552_2), (bcell HB.out hw552_3), (bcell HB.out hw552_4), (bcell HB.out hw553_0), (bcell HB.out hw553_1), (bcell HB.out hw553_2), (bcell HB.out hw553_3), (bcell HB.out hw553_4), (bcell HB.out hw557_0), (bcell HB.out hw557_1), (bcell HB.out hw557_2), (bcell HB.out hw557_3), (bcell HB.out hw557_4)⟩ (fun hHeld => ?_)
     clear hK K
     refine nm 28 ?_
     refine one_ (i := 21) (N := some 34) (bl 25 12582911) rfl rfl (one_of HT_.out (by kernel_rfl)) (by decide) (fun K hK => ?_)
     refine gO Try.func63 #[.slice A551_4 ((rd_T47 l0 x4_1).f4).length c551_4] (by rfl) rfl rfl ?_
     with_reducible refine (ih k1 (by have := HK1.out; omega) _ _ ((rd_T47 l0 x4_1).f4) t558 _ ?side1 ?side2 A5.out).mono ?_
     (case side1 => exact cb HR557_4 HB)
     (case side2 => exact HC557_4.out)
     rintro e w9 ⟨v559, rfl, ho0, hb⟩
     refine ⟨_, rfl, ?_⟩
     have HO560 := Aside0.mk (Kd.R_lower (Kd.R_newB (Kd.R_new' (Kd.R_new' ho0 (Kd.R_lt (iR HO_3))) (Kd.R_lt (iR HO556))) (kk BK561)) (bsz (bb HB)))
     replace HO_3 := Aside0.mk (Kd.R_elder' (iR HO_3) (Kd.R_base ho0) hb)
     replace HO556 := Aside0.mk (Kd.R_elder' (iR HO556) (Kd.R_base ho0) hb)
     replace BK561 := kb BK561 hb
     replace HB := sb HB hb
     (try clear hb)
     (try clear hb2)
     (try clear hk)
     (try clear hi)
     (try clear ho0)
     obtain ⟨Ao10, co10, eo10⟩ := Kd.R_slice HO560.out
     (first | subst eo10 | (injection eo10 with f1_ f2_ f3_; have f4_ := f1_.symm; have f5_ := f3_.symm; clear f1_ f2_ f3_; subst f4_; subst f5_))
     obtain ⟨Ao11, co11, eo11⟩ := Kd.R_slice HO556.out
     (first | subst eo11 | (injection eo11 with f1_ f2_ f3_; have f4_ := f1_.symm; have f5_ := f3_.symm; clear f1_ f2_ f3_; subst f4_; subst f5_))
     refine hK.out _ _ ⟨(bcell HB.out hw551_0), (bcell HB.out hw551_1), (bcell HB.out hw551_2), (bcell HB.out hw551_3), (bcell HB.out hw551_4), (bcell HB.out hw552_0), (bcell HB.out hw552_1), (bcell HB.out hw552_2), (bcell HB.out hw552_3), (bcell HB.out hw552_4), (bcell HB.out hw553_0), (bcell HB.out hw553_1), (bcell HB.out hw553_2), (bcell HB.out hw553_3), (bcell HB.out hw553_4), (bcell HB.out hw557_0), (bcell HB.out hw557_1), (bcell HB.out hw557_2), (bcell HB.out hw557_3), (bcell HB.out hw557_4)⟩ (fun hHeld => ?_)
     clear hK K
     refine nm 34 ?_
     refine pT 22 35 (bl 25 16777215) HT_ rfl rfl ?_
     exact norm_ (by simp only [putAll, Act.put, List.setIfInBounds_toArray, List.set_cons_zero, List.set_cons_succ]) (hCont (.slice Ao11 t554.length co11, .slice Ao10 t558.length co10, gb561) _ ⟨hHeld, (by (with_reducible repeat (first | apply Kd.R_alloc | apply Kd.R_drewN | apply Kd.R_drew)); exact Kd.R_mono HO556.out (fun _ hk => ⟨hk.2, ⟨hk.1.1.2, hk.1.2⟩⟩)), (by (with_reducible repeat (first | apply Kd.R_alloc | apply Kd.R_drewN | apply Kd.R_drew)); exact Kd.R_mono HO560.out (fun _ hk => ⟨hk.1.2, ⟨hk.1.1.2, hk.2⟩⟩)), (by (with_reducible repeat (first | apply Kd.R_alloc | apply Kd.R_drewN | apply Kd.R_drew)); exact Kd.R_mono HO_3.out (fun _ hk => ⟨hk.1.2, ⟨hk.2, hk.1.1.2⟩⟩)), (kk BK561), GW561.out, GE561.out, (bb HB)⟩)
   rintro ⟨v555, v559, gb561⟩ w12 ⟨hS_, h0_, h1_, h2_, h3_, h4_, h5_, h6_⟩
   have n0_ : Aside0 (Kd.R k47 47 w12 w.heap.size (fun k_ => some k_ ≠ (v559 : Value).ownBlock ∧ some k_ ≠ (u3 : Value).ownBlock ∧ k_ ≠ gb561) v555 t554) := ⟨h0_⟩
   have n1_ : Aside0 (Kd.R k47 47 w12 w.heap.size (fun k_ => some k_ ≠ (v555 : Value).ownBlock ∧ some k_ ≠ (u3 : Value).ownBlock ∧ k_ ≠ gb561) v559 t558) := ⟨h1_⟩
   have n2_ : Aside0 (Kd.R k47 47 w12 w.heap.size (fun k_ => some k_ ≠ (v555 : Value).ownBlock ∧ some k_ ≠ (v559 : Value).ownBlock ∧ k_ ≠ gb561) u3 x3_1) := ⟨h2_⟩
   have n3_ : Aside0 (w12.heap[gb561]? = some (.cells #[.int .i64 0, .int .i64 0, .slice none 0 0, .slice none 0 0, .slice none 0 0] 47 (0, 0))) := ⟨h3_⟩
   have n4_ : Aside0 (w.heap.size ≤ gb561) := ⟨h4_⟩
   have n5_ : Aside0 (w.heap.size ≤ gb561) := ⟨h5_⟩
   have n6_ : Aside0 (Below w.heap.size w w12) := ⟨h6_⟩
   clear HO_3
   clear HB
   clear h0_ h1_ h2_ h3_ h4_ h5_ h6_
   have HO556 := n0_
   have HO560 := n1_
   have HO_3 := n2_
   have BK561 := n3_
   have GW561 := n4_
   have GE561 := n5_
   have HB := n6_
   clear n0_ n1_ n2_ n3_ n4_ n5_ n6_
   have hHeld : w12.cell? (ad551.add ((x4_1).toNat * 5)) = some (.int .i64 ((rd_T47 l0 x4_1).f0)) ∧ w12.cell? ⟨(ad551.add ((x4_1).toNat * 5)).block, (ad551.add ((x4_1).toNat * 5)).off + 1, none⟩ = some (.int .i64 ((rd_T47 l0 x4_1).f1)) ∧ w12.cell? ⟨(ad551.add ((x4_1).toNat * 5)).block, (ad551.add ((x4_1).toNat * 5)).off + 2, none⟩ = some (.slice A551_2 ((rd_T47 l0 x4_1).f2).length c551_2) ∧ w12.cell? ⟨(ad551.add ((x4_1).toNat * 5)).block, (ad551.add ((x4_1).toNat * 5)).off + 3, none⟩ = some (.slice A551_3 ((rd_T47 l0 x4_1).f3).length c551_3) ∧ w12.cell? ⟨(ad551.add ((x4_1).toNat * 5)).block, (ad551.add ((x4_1).toNat * 5)).off + 4, none⟩ = some (.slice A551_4 ((rd_T47 l0 x4_1).f4).length c551_4) ∧ w12.cell? (ad551.add ((x4_1).toNat * 5)) = some (.int .i64 ((rd_T47 l0 x4_1).f0)) ∧ w12.cell? ⟨(ad551.add ((x4_1).toNat * 5)).block, (ad551.add ((x4_1).toNat * 5)).off + 1, none⟩ = some (.int .i64 ((rd_T47 l0 x4_1).f1)) ∧ w12.cell? ⟨(ad551.add ((x4_1).toNat * 5)).block, (ad551.add ((x4_1).toNat * 5)).off + 2, none⟩ = some (.slice A551_2 ((rd_T47 l0 x4_1).f2).length c551_2) ∧ w12.cell? ⟨(ad551.add ((x4_1).toNat * 5)).block, (ad551.add ((x4_1).toNat * 5)).off + 3, none⟩ = some (.slice A551_3 ((rd_T47 l0 x4_1).f3).length c551_3) ∧ w12.cell? ⟨(ad551.add ((x4_1).toNat * 5)).block, (ad551.add ((x4_1).toNat * 5)).off + 4, none⟩ = some (.slice A551_4 ((rd_T47 l0 x4_1).f4).length c551_4) ∧ w12.cell? (ad551.add ((x4_1).toNat * 5)) = some (.int .i64 ((rd_T47 l0 x4_1).f0)) ∧ w12.cell? ⟨(ad551.add ((x4_1).toNat * 5)).block, (ad551.add ((x4_1).toNat * 5)).off + 1, none⟩ = some (.int .i64 ((rd_T47 l0 x4_1).f1)) ∧ w12.cell? ⟨(ad551.add ((x4_1).toNat * 5)).block, (ad551.add ((x4_1).toNat * 5)).off + 2, none⟩ = some (.slice A551_2 ((rd_T47 l0 x4_1).f2).length c551_2) ∧ w12.cell? ⟨(ad551.add ((x4_1).toNat * 5)).block, (ad551.add ((x4_1).toNat * 5)).off + 3, none⟩ = some (.slice A551_3 ((rd_T47 l0 x4_1).f3).length c551_3) ∧ w12.cell? ⟨(ad551.add ((x4_1).toNat * 5)).block, (ad551.add ((x4_1).toNat * 5)).off + 4, none⟩ = some (.slice A551_4 ((rd_T47 l0 x4_1).f4).length c551_4) ∧ w12.cell? (ad551.add ((x4_1).toNat * 5)) = some (.int .i64 ((rd_T47 l0 x4_1).f0)) ∧ w12.cell? ⟨(ad551.add ((x4_1).toNat * 5)).block, (ad551.add ((x4_1).toNat * 5)).off + 1, none⟩ = some (.int .i64 ((rd_T47 l0 x4_1).f1)) ∧ w12.cell? ⟨(ad551.add ((x4_1).toNat * 5)).block, (ad551.add ((x4_1).toNat * 5)).off + 2, none⟩ = some (.slice A551_2 ((rd_T47 l0 x4_1).f2).length c551_2) ∧ w12.cell? ⟨(ad551.add ((x4_1).toNat * 5)).block, (ad551.add ((x4_1).toNat * 5)).off + 3, none⟩ = some (.slice A551_3 ((rd_T47 l0 x4_1).f3).length c551_3) ∧ w12.cell? ⟨(ad551.add ((x4_1).toNat * 5)).block, (ad551.add ((x4_1).toNat * 5)).off + 4, none⟩ = some (.slice A551_4 ((rd_T47 l0 x4_1).f4).length c551_4) := hS_
   obtain ⟨Ao13, co13, eo13⟩ := Kd.R_slice HO560.out
   (first | subst eo13 | (injection eo13 with f1_ f2_ f3_; have f4_ := f1_.symm; have f5_ := f3_.symm; clear f1_ f2_ f3_; subst f4_; subst f5_))
   obtain ⟨Ao14, co14, eo14⟩ := Kd.R_slice HO556.out
   (first | subst eo14 | (injection eo14 with f1_ f2_ f3_; have f4_ := f1_.symm; have f5_ := f3_.symm; clear f1_ f2_ f3_; subst f4_; subst f5_))
   refine norm_ (a' := ?_) ?_ ?_
   rotate_left
   ·simp only [putAll, Act.put, List.setIfInBounds_toArray, List.set_cons_zero, List.set_cons_succ]
    rfl
   refine one_ (i := 24) (N := none) (bl 25 33554431) rfl rfl (one_of HT_.out (by kernel_rfl)) (by decide) (fun K hK => ?_)
   have hs15 : w12.cell? ⟨gb561, 0, none⟩ = some (.int .i64 0) := (blk_cell BK561.out 0).trans rfl
   have hfs15 := blk_frozen BK561.out 0
   have hs16 : w12.cell? ⟨gb561, 1, none⟩ = some (.int .i64 0) := (blk_cell BK561.out 1).trans rfl
   have hfs16 := blk_frozen BK561.out 1
   have hs17 : w12.cell? ⟨gb561, 2, none⟩ = some (.slice none 0 0) := (blk_cell BK561.out 2).trans rfl
   have hfs17 := blk_frozen BK561.out 2
   have hs18 : w12.cell? ⟨gb561, 3, none⟩ = some (.slice none 0 0) := (blk_cell BK561.out 3).trans rfl
   have hfs18 := blk_frozen BK561.out 3
   have hs19 : w12.cell? ⟨gb561, 4, none⟩ = some (.slice none 0 0) := (blk_cell BK561.out 4).trans rfl
   have hfs19 := blk_frozen BK561.out 4
   refine skip_ (w1 := ?_) (by rfl) rfl ?_ ?_
   rotate_left
   ·go_simp
    rfl
   refine hK.out _ _ ⟨((cell_far (p := ⟨gb561, _, none⟩) (by first | exact Nat.ne_of_lt (Nat.lt_of_lt_of_le (by have := World.block_lt_of_cell? _ _ hw551_0; first | rwa [add_block] at this | exact this) GW561.out) | (rw [add_block]; exact Nat.ne_of_lt (Nat.lt_of_lt_of_le (by have := World.block_lt_of_cell? _ _ hw551_0; first | rwa [add_block] at this | exact this) GW561.out)) | (show (Addr.add _ _).block ≠ _; rw [add_block]; exact Nat.ne_of_lt (Nat.lt_of_lt_of_le (by have := World.block_lt_of_cell? _ _ hw551_0; first | rwa [add_block] at this | exact this) GW561.out)) | (dsimp only; exact Nat.ne_of_lt (Nat.lt_of_lt_of_le (by have := World.block_lt_of_cell? _ _ hw551_0; first | rwa [add_block] at this | exact this) GW561.out))) _).trans (((cell_far (p := ⟨gb561, _, none⟩) (by first | exact Nat.ne_of_lt (Nat.lt_of_lt_of_le (by have := World.block_lt_of_cell? _ _ hw551_0; first | rwa [add_block] at this | exact this) GW561.out) | (rw [add_block]; exact Nat.ne_of_lt (Nat.lt_of_lt_of_le (by have := World.block_lt_of_cell? _ _ hw551_0; first | rwa [add_block] at this | exact this) GW561.out)) | (show (Addr.add _ _).block ≠ _; rw [add_block]; exact Nat.ne_of_lt (Nat.lt_of_lt_of_le (by have := World.block_lt_of_cell? _ _ hw551_0; first | rwa [add_block] at this | exact this) GW561.out)) | (dsimp only; exact Nat.ne_of_lt (Nat.lt_of_lt_of_le (by have := World.block_lt_of_cell? _ _ hw551_0; first | rwa [add_block] at this | exact this) GW561.out))) _).trans (((cell_far (p := ⟨gb561, _, none⟩) (by first | exact Nat.ne_of_lt (Nat.lt_of_lt_of_le (by have := World.block_lt_of_cell? _ _ hw551_0; first | rwa [add_block] at this | exact this) GW561.out) | (rw [add_block]; exact Nat.ne_of_lt (Nat.lt_of_lt_of_le (by have := World.block_lt_of_cell? _ _ hw551_0; first | rwa [add_block] at this | exact this) GW561.out)) | (show (Addr.add _ _).block ≠ _; rw [add_block]; exact Nat.ne_of_lt (Nat.lt_of_lt_of_le (by have := World.block_lt_of_cell? _ _ hw551_0; first | rwa [add_block] at this | exact this) GW561.out)) | (dsimp only; exact Nat.ne_of_lt (Nat.lt_of_lt_of_le (by have := World.block_lt_of_cell? _ _ hw551_0; first | rwa [add_block] at this | exact this) GW561.out))) _).trans (((cell_far (p := ⟨gb561, _, none⟩) (by first | exact Nat.ne_of_lt (Nat.lt_of_lt_of_le (by have := World.block_lt_of_cell? _ _ hw551_0; first | rwa [add_block] at this | exact this) GW561.out) | (rw [add_block]; exact Nat.ne_of_lt (Nat.lt_of_lt_of_le (by have := World.block_lt_of_cell? _ _ hw551_0; first | rwa [add_block] at this | exact this) GW561.out)) | (show (Addr.add _ _).block ≠ _; rw [add_block]; exact Nat.ne_of_lt (Nat.lt_of_lt_of_le (by have := World.block_lt_of_cell? _ _ hw551_0; first | rwa [add_block] at this | exact this) GW561.out)) | (dsimp only; exact Nat.ne_of_lt (Nat.lt_of_lt_of_le (by have := World.block_lt_of_cell? _ _ hw551_0; first | rwa [add_block] at this | exact this) GW561.out))) _).trans (((cell_far (p := ⟨gb561, _, none⟩) (by first | exact Nat.ne_of_lt (Nat.lt_of_lt_of_le (by have := World.block_lt_of_cell? _ _ hw551_0; first | rwa [add_block] at this | exact this) GW561.out) | (rw [add_block]; exact Nat.ne_of_lt (Nat.lt_of_lt_of_le (by have := World.block_lt_of_cell? _ _ hw551_0; first | rwa [add_block] at this | exact this) GW561.out)) | (show (Addr.add _ _).block ≠ _; rw [add_block]; exact Nat.ne_of_lt (Nat.lt_of_lt_of_le (by have := World.block_lt_of_cell? _ _ hw551_0; first | rwa [add_block] at this | exact this) GW561.out)) | (dsimp only; exact Nat.ne_of_lt (Nat.lt_of_lt_of_le (by have := World.block_lt_of_cell? _ _ hw551_0; first | rwa [add_block] at this | exact this) GW561.out))) _).trans (hHeld.1)))))))))), ((cell_far (p := ⟨gb561, _, none⟩) (by first | exact Nat.ne_of_lt (Nat.lt_of_lt_of_le (by have := World.block_lt_of_cell? _ _ hw551_1; first | rwa [add_block] at this | exact this) GW561.out) | (rw [add_block]; exact Nat.ne_of_lt (Nat.lt_of_lt_of_le (by have := World.block_lt_of_cell? _ _ hw551_1; first | rwa [add_block] at this | exact this) GW561.out)) | (show (Addr.add _ _).block ≠ _; rw [add_block]; exact Nat.ne_of_lt (Nat.lt_of_lt_of_le (by have := World.block_lt_of_cell? _ _ hw551_1; first | rwa [add_block] at this | exact this) GW561.out)) | (dsimp only; exact Nat.ne_of_lt (Nat.lt_of_lt_of_le (by have := World.block_lt_of_cell? _ _ hw551_1; first | rwa [add_block] at this | exact this) GW561.out))) _).trans (((cell_far (p := ⟨gb561, _, none⟩) (by first | exact Nat.ne_of_lt (Nat.lt_of_lt_of_le (by have := World.block_lt_of_cell? _ _ hw551_1; first | rwa [add_block] at this | exact this) GW561.out) | (rw [add_block]; exact Nat.ne_of_lt (Nat.lt_of_lt_of_le (by have := World.block_lt_of_cell? _ _ hw551_1; first | rwa [add_block] at this | exact this) GW561.out)) | (show (Addr.add _ _).block ≠ _; rw [add_block]; exact Nat.ne_of_lt (Nat.lt_of_lt_of_le (by have := World.block_lt_of_cell? _ _ hw551_1; first | rwa [add_block] at this | exact this) GW561.out)) | (dsimp only; exact Nat.ne_of_lt (Nat.lt_of_lt_of_le (by have := World.block_lt_of_cell? _ _ hw551_1; first | rwa [add_block] at this | exact this) GW561.out))) _).trans (((cell_far (p := ⟨gb561, _, none⟩) (by first | exact Nat.ne_of_lt (Nat.lt_of_lt_of_le (by have := World.block_lt_of_cell? _ _ hw551_1; first | rwa [add_block] at this | exact this) GW561.out) | (rw [add_block]; exact Nat.ne_of_lt (Nat.lt_of_lt_of_le (by have := World.block_lt_of_cell? _ _ hw551_1; first | rwa [add_block] at this | exact this) GW561.out)) | (show (Addr.add _ _).block ≠ _; rw [add_block]; exact Nat.ne_of_lt (Nat.lt_of_lt_of_le (by have := World.block_lt_of_cell? _ _ hw551_1; first | rwa [add_block] at this | exact this) GW561.out)) | (dsimp only; exact Nat.ne_of_lt (Nat.lt_of_lt_of_le (by have := World.block_lt_of_cell? _ _ hw551_1; first | rwa [add_block] at this | exact this) GW561.out))) _).trans (((cell_far (p := ⟨gb561, _, none⟩) (by first | exact Nat.ne_of_lt (Nat.lt_of_lt_of_le (by have := World.block_lt_of_cell? _ _ hw551_1; first | rwa [add_block] at this | exact this) GW561.out) | (rw [add_block]; exact Nat.ne_of_lt (Nat.lt_of_lt_of_le (by have := World.block_lt_of_cell? _ _ hw551_1; first | rwa [add_block] at this | exact this) GW561.out)) | (show (Addr.add _ _).block ≠ _; rw [add_block]; exact Nat.ne_of_lt (Nat.lt_of_lt_of_le (by have := World.block_lt_of_cell? _ _ hw551_1; first | rwa [add_block] at this | exact this) GW561.out)) | (dsimp only; exact Nat.ne_of_lt (Nat.lt_of_lt_of_le (by have := World.block_lt_of_cell? _ _ hw551_1; first | rwa [add_block] at this | exact this) GW561.out))) _).trans (((cell_far (p := ⟨gb561, _, none⟩) (by first | exact Nat.ne_of_lt (Nat.lt_of_lt_of_le (by have := World.block_lt_of_cell? _ _ hw551_1; first | rwa [add_block] at this | exact this) GW561.out) | (rw [add_block]; exact Nat.ne_of_lt (Nat.lt_of_lt_of_le (by have := World.block_lt_of_cell? _ _ hw551_1; first | rwa [add_block] at this | exact this) GW561.out)) | (show (Addr.add _ _).block ≠ _; rw [add_block]; exact Nat.ne_of_lt (Nat.lt_of_lt_of_le (by have := World.block_lt_of_cell? _ _ hw551_1; first | rwa [add_block] at this | exact this) GW561.out)) | (dsimp only; exact Nat.ne_of_lt (Nat.lt_of_lt_of_le (by have := World.block_lt_of_cell? _ _ hw551_1; first | rwa [add_block] at this | exact this) GW561.out))) _).trans (hHeld.2.1)))))))))), ((cell_far (p := ⟨gb561, _, none⟩) (by first | exact Nat.ne_of_lt (Nat.lt_of_lt_of_le (by have := World.block_lt_of_cell? _ _ hw551_2; first | rwa [add_block] at this | exact this) GW561.out) | (rw [add_block]; exact Nat.ne_of_lt (Nat.lt_of_lt_of_le (by have := World.block_lt_of_cell? _ _ hw551_2; first | rwa [add_block] at this | exact this) GW561.out)) | (show (Addr.add _ _).block ≠ _; rw [add_block]; exact Nat.ne_of_lt (Nat.lt_of_lt_of_le (by have := World.block_lt_of_cell? _ _ hw551_2; first | rwa [add_block] at this | exact this) GW561.out)) | (dsimp only; exact Nat.ne_of_lt (Nat.lt_of_lt_of_le (by have := World.block_lt_of_cell? _ _ hw551_2; first | rwa [add_block] at this | exact this) GW561.out))) _).trans (((cell_far (p := ⟨gb561, _, none⟩) (by first | exact Nat.ne_of_lt (Nat.lt_of_lt_of_le (by have := World.block_lt_of_cell? _ _ hw551_2; first | rwa [add_block] at this | exact this) GW561.out) | (rw [add_block]; exact Nat.ne_of_lt (Nat.lt_of_lt_of_le (by have := World.block_lt_of_cell? _ _ hw551_2; first | rwa [add_block] at this | exact this) GW561.out)) | (show (Addr.add _ _).block ≠ _; rw [add_block]; exact Nat.ne_of_lt (Nat.lt_of_lt_of_le (by have := World.block_lt_of_cell? _ _ hw551_2; first | rwa [add_block] at this | exact this) GW561.out)) | (dsimp only; exact Nat.ne_of_lt (Nat.lt_of_lt_of_le (by have := World.block_lt_of_cell? _ _ hw551_2; first | rwa [add_block] at this | exact this) GW561.out))) _).trans (((cell_far (p := ⟨gb561, _, none⟩) (by first | exact Nat.ne_of_lt (Nat.lt_of_lt_of_le (by have := World.block_lt_of_cell? _ _ hw551_2; first | rwa [add_block] at this | exact this) GW561.out) | (rw [add_block]; exact Nat.ne_of_lt (Nat.lt_of_lt_of_le (by have := World.block_lt_of_cell? _ _ hw551_2; first | rwa [add_block] at this | exact this) GW561.out)) | (show (Addr.add _ _).block ≠ _; rw [add_block]; exact Nat.ne_of_lt (Nat.lt_of_lt_of_le (by have := World.block_lt_of_cell? _ _ hw551_2; first | rwa [add_block] at this | exact this) GW561.out)) | (dsimp only; exact Nat.ne_of_lt (Nat.lt_of_lt_of_le (by have := World.block_lt_of_cell? _ _ hw551_2; first | rwa [add_block] at this | exact this) GW561.out))) _).trans (((cell_far (p := ⟨gb561, _, none⟩) (by first | exact Nat.ne_of_lt (Nat.lt_of_lt_of_le (by have := World.block_lt_of_cell? _ _ hw551_2; first | rwa [add_block] at this | exact this) GW561.out) | (rw [add_block]; exact Nat.ne_of_lt (Nat.lt_of_lt_of_le (by have := World.block_lt_of_cell? _ _ hw551_2; first | rwa [add_block] at this | exact this) GW561.out)) | (show (Addr.add _ _).block ≠ _; rw [add_block]; exact Nat.ne_of_lt (Nat.lt_of_lt_of_le (by have := World.block_lt_of_cell? _ _ hw551_2; first | rwa [add_block] at this | exact this) GW561.out)) | (dsimp only; exact Nat.ne_of_lt (Nat.lt_of_lt_of_le (by have := World.block_lt_of_cell? _ _ hw551_2; first | rwa [add_block] at this | exact this) GW561.out))) _).trans (((cell_far (p := ⟨gb561, _, none⟩) (by first | exact Nat.ne_of_lt (Nat.lt_of_lt_of_le (by have := World.block_lt_of_cell? _ _ hw551_2; first | rwa [add_block] at this | exact this) GW561.out) | (rw [add_block]; exact Nat.ne_of_lt (Nat.lt_of_lt_of_le (by have := World.block_lt_of_cell? _ _ hw551_2; first | rwa [add_block] at this | exact this) GW561.out)) | (show (Addr.add _ _).block ≠ _; rw [add_block]; exact Nat.ne_of_lt (Nat.lt_of_lt_of_le (by have := World.block_lt_of_cell? _ _ hw551_2; first | rwa [add_block] at this | exact this) GW561.out)) | (dsimp only; exact Nat.ne_of_lt (Nat.lt_of_lt_of_le (by have := World.block_lt_of_cell? _ _ hw551_2; first | rwa [add_block] at this | exact this) GW561.out))) _).trans (hHeld.2.2.1)))))))))), ((cell_far (p := ⟨gb561, _, none⟩) (by first | exact Nat.ne_of_lt (Nat.lt_of_lt_of_le (by have := World.block_lt_of_cell? _ _ hw551_3; first | rwa [add_block] at this | exact this) GW561.out) | (rw [add_block]; exact Nat.ne_of_lt (Nat.lt_of_lt_of_le (by have := World.block_lt_of_cell? _ _ hw551_3; first | rwa [add_block] at this | exact this) GW561.out)) | (show (Addr.add _ _).block ≠ _; rw [add_block]; exact Nat.ne_of_lt (Nat.lt_of_lt_of_le (by have := World.block_lt_of_cell? _ _ hw551_3; first | rwa [add_block] at this | exact this) GW561.out)) | (dsimp only; exact Nat.ne_of_lt (Nat.lt_of_lt_of_le (by have := World.block_lt_of_cell? _ _ hw551_3; first | rwa [add_block] at this | exact this) GW561.out))) _).trans (((cell_far (p := ⟨gb561, _, none⟩) (by first | exact Nat.ne_of_lt (Nat.lt_of_lt_of_le (by have := World.block_lt_of_cell? _ _ hw551_3; first | rwa [add_block] at this | exact this) GW561.out) | (rw [add_block]; exact Nat.ne_of_lt (Nat.lt_of_lt_of_le (by have := World.block_lt_of_cell? _ _ hw551_3; first | rwa [add_block] at this | exact this) GW561.out)) | (show (Addr.add _ _).block ≠ _; rw [add_block]; exact Nat.ne_of_lt (Nat.lt_of_lt_of_le (by have := World.block_lt_of_cell? _ _ hw551_3; first | rwa [add_block] at this | exact this) GW561.out)) | (dsimp only; exact Nat.ne_of_lt (Nat.lt_of_lt_of_le (by have := World.block_lt_of_cell? _ _ hw551_3; first | rwa [add_block] at this | exact this) GW561.out))) _).trans (((cell_far (p := ⟨gb561, _, none⟩) (by first | exact Nat.ne_of_lt (Nat.lt_of_lt_of_le (by have := World.block_lt_of_cell? _ _ hw551_3; first | rwa [add_block] at this | exact this) GW561.out) | (rw [add_block]; exact Nat.ne_of_lt (Nat.lt_of_lt_of_le (by have := World.block_lt_of_cell? _ _ hw551_3; first | rwa [add_block] at this | exact this) GW561.out)) | (show (Addr.add _ _).block ≠ _; rw [add_block]; exact Nat.ne_of_lt (Nat.lt_of_lt_of_le (by have := World.block_lt_of_cell? _ _ hw551_3; first | rwa [add_block] at this | exact this) GW561.out)) | (dsimp only; exact Nat.ne_of_lt (Nat.lt_of_lt_of_le (by have := World.block_lt_of_cell? _ _ hw551_3; first | rwa [add_block] at this | exact this) GW561.out))) _).trans (((cell_far (p := ⟨gb561, _, none⟩) (by first | exact Nat.ne_of_lt (Nat.lt_of_lt_of_le (by have := World.block_lt_of_cell? _ _ hw551_3; first | rwa [add_block] at this | exact this) GW561.out) | (rw [add_block]; exact Nat.ne_of_lt (Nat.lt_of_lt_of_le (by have := World.block_lt_of_cell? _ _ hw551_3; first | rwa [add_block] at this | exact this) GW561.out)) | (show (Addr.add _ _).block ≠ _; rw [add_block]; exact Nat.ne_of_lt (Nat.lt_of_lt_of_le (by have := World.block_lt_of_cell? _ _ hw551_3; first | rwa [add_block] at this | exact this) GW561.out)) | (dsimp only; exact Nat.ne_of_lt (Nat.lt_of_lt_of_le (by have := World.block_lt_of_cell? _ _ hw551_3; first | rwa [add_block] at this | exact this) GW561.out))) _).trans (((cell_far (p := ⟨gb561, _, none⟩) (by first | exact Nat.ne_of_lt (Nat.lt_of_lt_of_le (by have := World.block_lt_of_cell? _ _ hw551_3; first | rwa [add_block] at this | exact this) GW561.out) | (rw [add_block]; exact Nat.ne_of_lt (Nat.lt_of_lt_of_le (by have := World.block_lt_of_cell? _ _ hw551_3; first | rwa [add_block] at this | exact this) GW561.out)) | (show (Addr.add _ _).block ≠ _; rw [add_block]; exact Nat.ne_of_lt (Nat.lt_of_lt_of_le (by have := World.block_lt_of_cell? _ _ hw551_3; first | rwa [add_block] at this | exact this) GW561.out)) | (dsimp only; exact Nat.ne_of_lt (Nat.lt_of_lt_of_le (by have := World.block_lt_of_cell? _ _ hw551_3; first | rwa [add_block] at this | exact this) GW561.out))) _).trans (hHeld.2.2.2.1)))))))))), ((cell_far (p := ⟨gb561, _, none⟩) (by first | exact Nat.ne_of_lt (Nat.lt_of_lt_of_le (by have := World.block_lt_of_cell? _ _ hw551_4; first | rwa [add_block] at this | exact this) GW561.out) | (rw [add_block]; exact Nat.ne_of_lt (Nat.lt_of_lt_of_le (by have := World.block_lt_of_cell? _ _ hw551_4; first | rwa [add_block] at this | exact this) GW561.out)) | (show (Addr.add _ _).block ≠ _; rw [add_block]; exact Nat.ne_of_lt (Nat.lt_of_lt_of_le (by have := World.block_lt_of_cell? _ _ hw551_4; first | rwa [add_block] at this | exact this) GW561.out)) | (dsimp only; exact Nat.ne_of_lt (Nat.lt_of_lt_of_le (by have := World.block_lt_of_cell? _ _ hw551_4; first | rwa [add_block] at this | exact this) GW561.out))) _).trans (((cell_far (p := ⟨gb561, _, none⟩) (by first | exact Nat.ne_of_lt (Nat.lt_of_lt_of_le (by have := World.block_lt_of_cell? _ _ hw551_4; first | rwa [add_block] at this | exact this) GW561.out) | (rw [add_block]; exact Nat.ne_of_lt (Nat.lt_of_lt_of_le (by have := World.block_lt_of_cell? _ _ hw551_4; first | rwa [add_block] at this | exact this) GW561.out)) | (show (Addr.add _ _).block ≠ _; rw [add_block]; exact Nat.ne_of_lt (Nat.lt_of_lt_of_le (by have := World.block_lt_of_cell? _ _ hw551_4; first | rwa [add_block] at this | exact this) GW561.out)) | (dsimp only; exact Nat.ne_of_lt (Nat.lt_of_lt_of_le (by have := World.block_lt_of_cell? _ _ hw551_4; first | rwa [add_block] at this | exact this) GW561.out))) _).trans (((cell_far (p := ⟨gb561, _, none⟩) (by first | exact Nat.ne_of_lt (Nat.lt_of_lt_of_le (by have := World.block_lt_of_cell? _ _ hw551_4; first | rwa [add_block] at this | exact this) GW561.out) | (rw [add_block]; exact Nat.ne_of_lt (Nat.lt_of_lt_of_le (by have := World.block_lt_of_cell? _ _ hw551_4; first | rwa [add_block] at this | exact this) GW561.out)) | (show (Addr.add _ _).block ≠ _; rw [add_block]; exact Nat.ne_of_lt (Nat.lt_of_lt_of_le (by have := World.block_lt_of_cell? _ _ hw551_4; first | rwa [add_block] at this | exact this) GW561.out)) | (dsimp only; exact Nat.ne_of_lt (Nat.lt_of_lt_of_le (by have := World.block_lt_of_cell? _ _ hw551_4; first | rwa [add_block] at this | exact this) GW561.out))) _).trans (((cell_far (p := ⟨gb561, _, none⟩) (by first | exact Nat.ne_of_lt (Nat.lt_of_lt_of_le (by have := World.block_lt_of_cell? _ _ hw551_4; first | rwa [add_block] at this | exact this) GW561.out) | (rw [add_block]; exact Nat.ne_of_lt (Nat.lt_of_lt_of_le (by have := World.block_lt_of_cell? _ _ hw551_4; first | rwa [add_block] at this | exact this) GW561.out)) | (show (Addr.add _ _).block ≠ _; rw [add_block]; exact Nat.ne_of_lt (Nat.lt_of_lt_of_le (by have := World.block_lt_of_cell? _ _ hw551_4; first | rwa [add_block] at this | exact this) GW561.out)) | (dsimp only; exact Nat.ne_of_lt (Nat.lt_of_lt_of_le (by have := World.block_lt_of_cell? _ _ hw551_4; first | rwa [add_block] at this | exact this) GW561.out))) _).trans (((cell_far (p := ⟨gb561, _, none⟩) (by first | exact Nat.ne_of_lt (Nat.lt_of_lt_of_le (by have := World.block_lt_of_cell? _ _ hw551_4; first | rwa [add_block] at this | exact this) GW561.out) | (rw [add_block]; exact Nat.ne_of_lt (Nat.lt_of_lt_of_le (by have := World.block_lt_of_cell? _ _ hw551_4; first | rwa [add_block] at this | exact this) GW561.out)) | (show (Addr.add _ _).block ≠ _; rw [add_block]; exact Nat.ne_of_lt (Nat.lt_of_lt_of_le (by have := World.block_lt_of_cell? _ _ hw551_4; first | rwa [add_block] at this | exact this) GW561.out)) | (dsimp only; exact Nat.ne_of_lt (Nat.lt_of_lt_of_le (by have := World.block_lt_of_cell? _ _ hw551_4; first | rwa [add_block] at this | exact this) GW561.out))) _).trans (hHeld.2.2.2.2.1)))))))))), ((cell_far (p := ⟨gb561, _, none⟩) (by first | exact Nat.ne_of_lt (Nat.lt_of_lt_of_le (by have := World.block_lt_of_cell? _ _ hw552_0; first | rwa [add_block] at this | exact this) GW561.out) | (rw [add_block]; exact Nat.ne_of_lt (Nat.lt_of_lt_of_le (by have := World.block_lt_of_cell? _ _ hw552_0; first | rwa [add_block] at this | exact this) GW561.out)) | (show (Addr.add _ _).block ≠ _; rw [add_block]; exact Nat.ne_of_lt (Nat.lt_of_lt_of_le (by have := World.block_lt_of_cell? _ _ hw552_0; first | rwa [add_block] at this | exact this) GW561.out)) | (dsimp only; exact Nat.ne_of_lt (Nat.lt_of_lt_of_le (by have := World.block_lt_of_cell? _ _ hw552_0; first | rwa [add_block] at this | exact this) GW561.out))) _).trans (((cell_far (p := ⟨gb561, _, none⟩) (by first | exact Nat.ne_of_lt (Nat.lt_of_lt_of_le (by have := World.block_lt_of_cell? _ _ hw552_0; first | rwa [add_block] at this | exact this) GW561.out) | (rw [add_block]; exact Nat.ne_of_lt (Nat.lt_of_lt_of_le (by have := World.block_lt_of_cell? _ _ hw552_0; first | rwa [add_block] at this | exact this) GW561.out)) | (show (Addr.add _ _).block ≠ _; rw [add_block]; exact Nat.ne_of_lt (Nat.lt_of_lt_of_le (by have := World.block_lt_of_cell? _ _ hw552_0; first | rwa [add_block] at this | exact this) GW561.out)) | (dsimp only; exact Nat.ne_of_lt (Nat.lt_of_lt_of_le (by have := World.block_lt_of_cell? _ _ hw552_0; first | rwa [add_block] at this | exact this) GW561.out))) _).trans (((cell_far (p := ⟨gb561, _, none⟩) (by first | exact Nat.ne_of_lt (Nat.lt_of_lt_of_le (by have := World.block_lt_of_cell? _ _ hw552_0; first | rwa [add_block] at this | exact this) GW561.out) | (rw [add_block]; exact Nat.ne_of_lt (Nat.lt_of_lt_of_le (by have := World.block_lt_of_cell? _ _ hw552_0; first | rwa [add_block] at this | exact this) GW561.out)) | (show (Addr.add _ _).block ≠ _; rw [add_block]; exact Nat.ne_of_lt (Nat.lt_of_lt_of_le (by have := World.block_lt_of_cell? _ _ hw552_0; first | rwa [add_block] at this | exact this) GW561.out)) | (dsimp only; exact Nat.ne_of_lt (Nat.lt_of_lt_of_le (by have := World.block_lt_of_cell? _ _ hw552_0; first | rwa [add_block] at this | exact this) GW561.out))) _).trans (((cell_far (p := ⟨gb561, _, none⟩) (by first | exact Nat.ne_of_lt (Nat.lt_of_lt_of_le (by have := World.block_lt_of_cell? _ _ hw552_0; first | rwa [add_block] at this | exact this) GW561.out) | (rw [add_block]; exact Nat.ne_of_lt (Nat.lt_of_lt_of_le (by have := World.block_lt_of_cell? _ _ hw552_0; first | rwa [add_block] at this | exact this) GW561.out)) | (show (Addr.add _ _).block ≠ _; rw [add_block]; exact Nat.ne_of_lt (Nat.lt_of_lt_of_le (by have := World.block_lt_of_cell? _ _ hw552_0; first | rwa [add_block] at this | exact this) GW561.out)) | (dsimp only; exact Nat.ne_of_lt (Nat.lt_of_lt_of_le (by have := World.block_lt_of_cell? _ _ hw552_0; first | rwa [add_block] at this | exact this) GW561.out))) _).trans (((cell_far (p := ⟨gb561, _, none⟩) (by first | exact Nat.ne_of_lt (Nat.lt_of_lt_of_le (by have := World.block_lt_of_cell? _ _ hw552_0; first | rwa [add_block] at this | exact this) GW561.out) | (rw [add_block]; exact Nat.ne_of_lt (Nat.lt_of_lt_of_le (by have := World.block_lt_of_cell? _ _ hw552_0; first | rwa [add_block] at this | exact this) GW561.out)) | (show (Addr.add _ _).block ≠ _; rw [add_block]; exact Nat.ne_of_lt (Nat.lt_of_lt_of_le (by have := World.block_lt_of_cell? _ _ hw552_0; first | rwa [add_block] at this | exact this) GW561.out)) | (dsimp only; exact Nat.ne_of_lt (Nat.lt_of_lt_of_le (by have := World.block_lt_of_cell? _ _ hw552_0; first | rwa [add_block] at this | exact this) GW561.out))) _).trans (hHeld.2.2.2.2.2.1)))))))))), ((cell_far (p := ⟨gb561, _, none⟩) (by first | exact Nat.ne_of_lt (Nat.lt_of_lt_of_le (by have := World.block_lt_of_cell? _ _ hw552_1; first | rwa [add_block] at this | exact this) GW561.out) | (rw [add_block]; exact Nat.ne_of_lt (Nat.lt_of_lt_of_le (by have := World.block_lt_of_cell? _ _ hw552_1; first | rwa [add_block] at this | exact this) GW561.out)) | (show (Addr.add _ _).block ≠ _; rw [add_block]; exact Nat.ne_of_lt (Nat.lt_of_lt_of_le (by have := World.block_lt_of_cell? _ _ hw552_1; first | rwa [add_block] at this | exact this) GW561.out)) | (dsimp only; exact Nat.ne_of_lt (Nat.lt_of_lt_of_le (by have := World.block_lt_of_cell? _ _ hw552_1; first | rwa [add_block] at this | exact this) GW561.out))) _).trans (((cell_far (p := ⟨gb561, _, none⟩) (by first | exact Nat.ne_of_lt (Nat.lt_of_lt_of_le (by have := World.block_lt_of_cell? _ _ hw552_1; first | rwa [add_block] at this | exact this) GW561.out) | (rw [add_block]; exact Nat.ne_of_lt (Nat.lt_of_lt_of_le (by have := World.block_lt_of_cell? _ _ hw552_1; first | rwa [add_block] at this | exact this) GW561.out)) | (show (Addr.add _ _).block ≠ _; rw [add_block]; exact Nat.ne_of_lt (Nat.lt_of_lt_of_le (by have := World.block_lt_of_cell? _ _ hw552_1; first | rwa [add_block] at this | exact this) GW561.out)) | (dsimp only; exact Nat.ne_of_lt (Nat.lt_of_lt_of_le (by have := World.block_lt_of_cell? _ _ hw552_1; first | rwa [add_block] at this | exact this) GW561.out))) _).trans (((cell_far (p := ⟨gb561, _, none⟩) (by first | exact Nat.ne_of_lt (Nat.lt_of_lt_of_le (by have := World.block_lt_of_cell? _ _ hw552_1; first | rwa [add_block] at this | exact this) GW561.out) | (rw [add_block]; exact Nat.ne_of_lt (Nat.lt_of_lt_of_le (by have := World.block_lt_of_cell? _ _ hw552_1; first | rwa [add_block] at this | exact this) GW561.out)) | (show (Addr.add _ _).block ≠ _; rw [add_block]; exact Nat.ne_of_lt (Nat.lt_of_lt_of_le (by have := World.block_lt_of_cell? _ _ hw552_1; first | rwa [add_block] at this | exact this) GW561.out)) | (dsimp only; exact Nat.ne_of_lt (Nat.lt_of_lt_of_le (by have := World.block_lt_of_cell? _ _ hw552_1; first | rwa [add_block] at this | exact this) GW561.out))) _).trans (((cell_far (p := ⟨gb561, _, none⟩) (by first | exact Nat.ne_of_lt (Nat.lt_of_lt_of_le (by have := World.block_lt_of_cell? _ _ hw552_1; first | rwa [add_block] at this | exact this) GW561.out) | (rw [add_block]; exact Nat.ne_of_lt (Nat.lt_of_lt_of_le (by have := World.block_lt_of_cell? _ _ hw552_1; first | rwa [add_block] at this | exact this) GW561.out)) | (show (Addr.add _ _).block ≠ _; rw [add_block]; exact Nat.ne_of_lt (Nat.lt_of_lt_of_le (by have := World.block_lt_of_cell? _ _ hw552_1; first | rwa [add_block] at this | exact this) GW561.out)) | (dsimp only; exact Nat.ne_of_lt (Nat.lt_of_lt_of_le (by have := World.block_lt_of_cell? _ _ hw552_1; first | rwa [add_block] at this | exact this) GW561.out))) _).trans (((cell_far (p := ⟨gb561, _, none⟩) (by first | exact Nat.ne_of_lt (Nat.lt_of_lt_of_le (by have := World.block_lt_of_cell? _ _ hw552_1; first | rwa [add_block] at this | exact this) GW561.out) | (rw [add_block]; exact Nat.ne_of_lt (Nat.lt_of_lt_of_le (by have := World.block_lt_of_cell? _ _ hw552_1; first | rwa [add_block] at this | exact this) GW561.out)) | (show (Addr.add _ _).block ≠ _; rw [add_block]; exact Nat.ne_of_lt (Nat.lt_of_lt_of_le (by have := World.block_lt_of_cell? _ _ hw552_1; first | rwa [add_block] at this | exact this) GW561.out)) | (dsimp only; exact Nat.ne_of_lt (Nat.lt_of_lt_of_le (by have := World.block_lt_of_cell? _ _ hw552_1; first | rwa [add_block] at this | exact this) GW561.out))) _).trans (hHeld.2.2.2.2.2.2.1)))))))))), ((cell_far (p := ⟨gb561, _, none⟩) (by first | exact Nat.ne_of_lt (Nat.lt_of_lt_of_le (by have := World.block_lt_of_cell? _ _ hw552_2; first | rwa [add_block] at this | exact this) GW561.out) | (rw [add_block]; exact Nat.ne_of_lt (Nat.lt_of_lt_of_le (by have := World.block_lt_of_cell? _ _ hw552_2; first | rwa [add_block] at this | exact this) GW561.out)) | (show (Addr.add _ _).block ≠ _; rw [add_block]; exact Nat.ne_of_lt (Nat.lt_of_lt_of_le (by have := World.block_lt_of_cell? _ _ hw552_2; first | rwa [add_block] at this | exact this) GW561.out)) | (dsimp only; exact Nat.ne_of_lt (Nat.lt_of_lt_of_le (by have := World.block_lt_of_cell? _ _ hw552_2; first | rwa [add_block] at this | exact this) GW561.out))) _).trans (((cell_far (p := ⟨gb561, _, none⟩) (by first | exact Nat.ne_of_lt (Nat.lt_of_lt_of_le (by have := World.block_lt_of_cell? _ _ hw552_2; first | rwa [add_block] at this | exact this) GW561.out) | (rw [add_block]; exact Nat.ne_of_lt (Nat.lt_of_lt_of_le (by have := World.block_lt_of_cell? _ _ hw552_2; first | rwa [add_block] at this | exact this) GW561.out)) | (show (Addr.add _ _).block ≠ _; rw [add_block]; exact Nat.ne_of_lt (Nat.lt_of_lt_of_le (by have := World.block_lt_of_cell? _ _ hw552_2; first | rwa [add_block] at this | exact this) GW561.out)) | (dsimp only; exact Nat.ne_of_lt (Nat.lt_of_lt_of_le (by have := World.block_lt_of_cell? _ _ hw552_2; first | rwa [add_block] at this | exact this) GW561.out))) _).trans (((cell_far (p := ⟨gb561, _, none⟩) (by first | exact Nat.ne_of_lt (Nat.lt_of_lt_of_le (by have := World.block_lt_of_cell? _ _ hw552_2; first | rwa [add_block] at this | exact this) GW561.out) | (rw [add_block]; exact Nat.ne_of_lt (Nat.lt_of_lt_of_le (by have := World.block_lt_of_cell? _ _ hw552_2; first | rwa [add_block] at this | exact this) GW561.out)) | (show (Addr.add _ _).block ≠ _; rw [add_block]; exact Nat.ne_of_lt (Nat.lt_of_lt_of_le (by have := World.block_lt_of_cell? _ _ hw552_2; first | rwa [add_block] at this | exact this) GW561.out)) | (dsimp only; exact Nat.ne_of_lt (Nat.lt_of_lt_of_le (by have := World.block_lt_of_cell? _ _ hw552_2; first | rwa [add_block] at this | exact this) GW561.out))) _).trans (((cell_far (p := ⟨gb561, _, none⟩) (by first | exact Nat.ne_of_lt (Nat.lt_of_lt_of_le (by have := World.block_lt_of_cell? _ _ hw552_2; first | rwa [add_block] at this | exact this) GW561.out) | (rw [add_block]; exact Nat.ne_of_lt (Nat.lt_of_lt_of_le (by have := World.block_lt_of_cell? _ _ hw552_2; first | rwa [add_block] at this | exact this) GW561.out)) | (show (Addr.add _ _).block ≠ _; rw [add_block]; exact Nat.ne_of_lt (Nat.lt_of_lt_of_le (by have := World.block_lt_of_cell? _ _ hw552_2; first | rwa [add_block] at this | exact this) GW561.out)) | (dsimp only; exact Nat.ne_of_lt (Nat.lt_of_lt_of_le (by have := World.block_lt_of_cell? _ _ hw552_2; first | rwa [add_block] at this | exact this) GW561.out))) _).trans (((cell_far (p := ⟨gb561, _, none⟩) (by first | exact Nat.ne_of_lt (Nat.lt_of_lt_of_le (by have := World.block_lt_of_cell? _ _ hw552_2; first | rwa [add_block] at this | exact this) GW561.out) | (rw [add_block]; exact Nat.ne_of_lt (Nat.lt_of_lt_of_le (by have := World.block_lt_of_cell? _ _ hw552_2; first | rwa [add_block] at this | exact this) GW561.out)) | (show (Addr.add _ _).block ≠ _; rw [add_block]; exact Nat.ne_of_lt (Nat.lt_of_lt_of_le (by have := World.block_lt_of_cell? _ _ hw552_2; first | rwa [add_block] at this | exact this) GW561.out)) | (dsimp only; exact Nat.ne_of_lt (Nat.lt_of_lt_of_le (by have := World.block_lt_of_cell? _ _ hw552_2; first | rwa [add_block] at this | exact this) GW561.out))) _).trans (hHeld.2.2.2.2.2.2.2.1)))))))))), ((cell_far (p := ⟨gb561, _, none⟩) (by first | exact Nat.ne_of_lt (Nat.lt_of_lt_of_le (by have := World.block_lt_of_cell? _ _ hw552_3; first | rwa [add_block] at this | exact this) GW561.out) | (rw [add_block]; exact Nat.ne_of_lt (Nat.lt_of_lt_of_le (by have := World.block_lt_of_cell? _ _ hw552_3; first | rwa [add_block] at this | exact this) GW561.out)) | (show (Addr.add _ _).block ≠ _; rw [add_block]; exact Nat.ne_of_lt (Nat.lt_of_lt_of_le (by have := World.block_lt_of_cell? _ _ hw552_3; first | rwa [add_block] at this | exact this) GW561.out)) | (dsimp only; exact Nat.ne_of_lt (Nat.lt_of_lt_of_le (by have := World.block_lt_of_cell? _ _ hw552_3; first | rwa [add_block] at this | exact this) GW561.out))) _).trans (((cell_far (p := ⟨gb561, _, none⟩) (by first | exact Nat.ne_of_lt (Nat.lt_of_lt_of_le (by have := World.block_lt_of_cell? _ _ hw552_3; first | rwa [add_block] at this | exact this) GW561.out) | (rw [add_block]; exact Nat.ne_of_lt (Nat.lt_of_lt_of_le (by have := World.block_lt_of_cell? _ _ hw552_3; first | rwa [add_block] at this | exact this) GW561.out)) | (show (Addr.add _ _).block ≠ _; rw [add_block]; exact Nat.ne_of_lt (Nat.lt_of_lt_of_le (by have := World.block_lt_of_cell? _ _ hw552_3; first | rwa [add_block] at this | exact this) GW561.out)) | (dsimp only; exact Nat.ne_of_lt (Nat.lt_of_lt_of_le (by have := World.block_lt_of_cell? _ _ hw552_3; first | rwa [add_block] at this | exact this) GW561.out))) _).trans (((cell_far (p := ⟨gb561, _, none⟩) (by first | exact Nat.ne_of_lt (Nat.lt_of_lt_of_le (by have := World.block_lt_of_cell? _ _ hw552_3; first | rwa [add_block] at this | exact this) GW561.out) | (rw [add_block]; exact Nat.ne_of_lt (Nat.lt_of_lt_of_le (by have := World.block_lt_of_cell? _ _ hw552_3; first | rwa [add_block] at this | exact this) GW561.out)) | (show (Addr.add _ _).block ≠ _; rw [add_block]; exact Nat.ne_of_lt (Nat.lt_of_lt_of_le (by have := World.block_lt_of_cell? _ _ hw552_3; first | rwa [add_block] at this | exact this) GW561.out)) | (dsimp only; exact Nat.ne_of_lt (Nat.lt_of_lt_of_le (by have := World.block_lt_of_cell? _ _ hw552_3; first | rwa [add_block] at this | exact this) GW561.out))) _).trans (((cell_far (p := ⟨gb561, _, none⟩) (by first | exact Nat.ne_of_lt (Nat.lt_of_lt_of_le (by have := World.block_lt_of_cell? _ _ hw552_3; first | rwa [add_block] at this | exact this) GW561.out) | (rw [add_block]; exact Nat.ne_of_lt (Nat.lt_of_lt_of_le (by have := World.block_lt_of_cell? _ _ hw552_3; first | rwa [add_block] at this | exact this) GW561.out)) | (show (Addr.add _ _).block ≠ _; rw [add_block]; exact Nat.ne_of_lt (Nat.lt_of_lt_of_le (by have := World.block_lt_of_cell? _ _ hw552_3; first | rwa [add_block] at this | exact this) GW561.out)) | (dsimp only; exact Nat.ne_of_lt (Nat.lt_of_lt_of_le (by have := World.block_lt_of_cell? _ _ hw552_3; first | rwa [add_block] at this | exact this) GW561.out))) _).trans (((cell_far (p := ⟨gb561, _, none⟩) (by first | exact Nat.ne_of_lt (Nat.lt_of_lt_of_le (by have := World.block_lt_of_cell? _ _ hw552_3; first | rwa [add_block] at this | exact this) GW561.out) | (rw [add_block]; exact Nat.ne_of_lt (Nat.lt_of_lt_of_le (by have := World.block_lt_of_cell? _ _ hw552_3; first | rwa [add_block] at this | exact this) GW561.out)) | (show (Addr.add _ _).block ≠ _; rw [add_block]; exact Nat.ne_of_lt (Nat.lt_of_lt_of_le (by have := World.block_lt_of_cell? _ _ hw552_3; first | rwa [add_block] at this | exact this) GW561.out)) | (dsimp only; exact Nat.ne_of_lt (Nat.lt_of_lt_of_le (by have := World.block_lt_of_cell? _ _ hw552_3; first | rwa [add_block] at this | exact this) GW561.out))) _).trans (hHeld.2.2.2.2.2.2.2.2.1)))))))))), ((cell_far (p := ⟨gb561, _, none⟩) (by first | exact Nat.ne_of_lt (Nat.lt_of_lt_of_le (by have := World.block_lt_of_cell? _ _ hw552_4; first | rwa [add_block] at this | exact this) GW561.out) | (rw [add_block]; exact Nat.ne_of_lt (Nat.lt_of_lt_of_le (by have := World.block_lt_of_cell? _ _ hw552_4; first | rwa [add_block] at this | exact this) GW561.out)) | (show (Addr.add _ _).block ≠ _; rw [add_block]; exact Nat.ne_of_lt (Nat.lt_of_lt_of_le (by have := World.block_lt_of_cell? _ _ hw552_4; first | rwa [add_block] at this | exact this) GW561.out)) | (dsimp only; exact Nat.ne_of_lt (Nat.lt_of_lt_of_le (by have := World.block_lt_of_cell? _ _ hw552_4; first | rwa [add_block] at this | exact this) GW561.out))) _).trans (((cell_far (p := ⟨gb561, _, none⟩) (by first | exact Nat.ne_of_lt (Nat.lt_of_lt_of_le (by have := World.block_lt_of_cell? _ _ hw552_4; first | rwa [add_block] at this | exact this) GW561.out) | (rw [add_block]; exact Nat.ne_of_lt (Nat.lt_of_lt_of_le (by have := World.block_lt_of_cell? _ _ hw552_4; first | rwa [add_block] at this | exact this) GW561.out)) | (show (Addr.add _ _).block ≠ _; rw [add_block]; exact Nat.ne_of_lt (Nat.lt_of_lt_of_le (by have := World.block_lt_of_cell? _ _ hw552_4; first | rwa [add_block] at this | exact this) GW561.out)) | (dsimp only; exact Nat.ne_of_lt (Nat.lt_of_lt_of_le (by have := World.block_lt_of_cell? _ _ hw552_4; first | rwa [add_block] at this | exact this) GW561.out))) _).trans (((cell_far (p := ⟨gb561, _, none⟩) (by first | exact Nat.ne_of_lt (Nat.lt_of_lt_of_le (by have := World.block_lt_of_cell? _ _ hw552_4; first | rwa [add_block] at this | exact this) GW561.out) | (rw [add_block]; exact Nat.ne_of_lt (Nat.lt_of_lt_of_le (by have := World.block_lt_of_cell? _ _ hw552_4; first | rwa [add_block] at this | exact this) GW561.out)) | (show (Addr.add _ _).block ≠ _; rw [add_block]; exact Nat.ne_of_lt (Nat.lt_of_lt_of_le (by have := World.block_lt_of_cell? _ _ hw552_4; first | rwa [add_block] at this | exact this) GW561.out)) | (dsimp only; exact Nat.ne_of_lt (Nat.lt_of_lt_of_le (by have := World.block_lt_of_cell? _ _ hw552_4; first | rwa [add_block] at this | exact this) GW561.out))) _).trans (((cell_far (p := ⟨gb561, _, none⟩) (by first | exact Nat.ne_of_lt (Nat.lt_of_lt_of_le (by have := World.block_lt_of_cell? _ _ hw552_4; first | rwa [add_block] at this | exact this) GW561.out) | (rw [add_block]; exact Nat.ne_of_lt (Nat.lt_of_lt_of_le (by have := World.block_lt_of_cell? _ _ hw552_4; first | rwa [add_block] at this | exact this) GW561.out)) | (show (Addr.add _ _).block ≠ _; rw [add_block]; exact Nat.ne_of_lt (Nat.lt_of_lt_of_le (by have := World.block_lt_of_cell? _ _ hw552_4; first | rwa [add_block] at this | exact this) GW561.out)) | (dsimp only; exact Nat.ne_of_lt (Nat.lt_of_lt_of_le (by have := World.block_lt_of_cell? _ _ hw552_4; first | rwa [add_block] at this | exact this) GW561.out))) _).trans (((cell_far (p := ⟨gb561, _, none⟩) (by first | exact Nat.ne_of_lt (Nat.lt_of_lt_of_le (by have := World.block_lt_of_cell? _ _ hw552_4; first | rwa [add_block] at this | exact this) GW561.out) | (rw [add_block]; exact Nat.ne_of_lt (Nat.lt_of_lt_of_le (by have := World.block_lt_of_cell? _ _ hw552_4; first | rwa [add_block] at this | exact this) GW561.out)) | (show (Addr.add _ _).block ≠ _; rw [add_block]; exact Nat.ne_of_lt (Nat.lt_of_lt_of_le (by have := World.block_lt_of_cell? _ _ hw552_4; first | rwa [add_block] at this | exact this) GW561.out)) | (dsimp only; exact Nat.ne_of_lt (Nat.lt_of_lt_of_le (by have := World.block_lt_of_cell? _ _ hw552_4; first | rwa [add_block] at this | exact this) GW561.out))) _).trans (hHeld.2.2.2.2.2.2.2.2.2.1)))))))))), ((cell_far (p := ⟨gb561, _, none⟩) (by first | exact Nat.ne_of_lt (Nat.lt_of_lt_of_le (by have := World.block_lt_of_cell? _ _ hw553_0; first | rwa [add_block] at this | exact this) GW561.out) | (rw [add_block]; exact Nat.ne_of_lt (Nat.lt_of_lt_of_le (by have := World.block_lt_of_cell? _ _ hw553_0; first | rwa [add_block] at this | exact this) GW561.out)) | (show (Addr.add _ _).block ≠ _; rw [add_block]; exact Nat.ne_of_lt (Nat.lt_of_lt_of_le (by have := World.block_lt_of_cell? _ _ hw553_0; first | rwa [add_block] at this | exact this) GW561.out)) | (dsimp only; exact Nat.ne_of_lt (Nat.lt_of_lt_of_le (by have := World.block_lt_of_cell? _ _ hw553_0; first | rwa [add_block] at this | exact this) GW561.out))) _).trans (((cell_far (p := ⟨gb561, _, none⟩) (by first | exact Nat.ne_of_lt (Nat.lt_of_lt_of_le (by have := World.block_lt_of_cell? _ _ hw553_0; first | rwa [add_block] at this | exact this) GW561.out) | (rw [add_block]; exact Nat.ne_of_lt (Nat.lt_of_lt_of_le (by have := World.block_lt_of_cell? _ _ hw553_0; first | rwa [add_block] at this | exact this) GW561.out)) | (show (Addr.add _ _).block ≠ _; rw [add_block]; exact Nat.ne_of_lt (Nat.lt_of_lt_of_le (by have := World.block_lt_of_cell? _ _ hw553_0; first | rwa [add_block] at this | exact this) GW561.out)) | (dsimp only; exact Nat.ne_of_lt (Nat.lt_of_lt_of_le (by have := World.block_lt_of_cell? _ _ hw553_0; first | rwa [add_block] at this | exact this) GW561.out))) _).trans (((cell_far (p := ⟨gb561, _, none⟩) (by first | exact Nat.ne_of_lt (Nat.lt_of_lt_of_le (by have := World.block_lt_of_cell? _ _ hw553_0; first | rwa [add_block] at this | exact this) GW561.out) | (rw [add_block]; exact Nat.ne_of_lt (Nat.lt_of_lt_of_le (by have := World.block_lt_of_cell? _ _ hw553_0; first | rwa [add_block] at this | exact this) GW561.out)) | (show (Addr.add _ _).block ≠ _; rw [add_block]; exact Nat.ne_of_lt (Nat.lt_of_lt_of_le (by have := World.block_lt_of_cell? _ _ hw553_0; first | rwa [add_block] at this | exact this) GW561.out)) | (dsimp only; exact Nat.ne_of_lt (Nat.lt_of_lt_of_le (by have := World.block_lt_of_cell? _ _ hw553_0; first | rwa [add_block] at this | exact this) GW561.out))) _).trans (((cell_far (p := ⟨gb561, _, none⟩) (by first | exact Nat.ne_of_lt (Nat.lt_of_lt_of_le (by have := World.block_lt_of_cell? _ _ hw553_0; first | rwa [add_block] at this | exact this) GW561.out) | (rw [add_block]; exact Nat.ne_of_lt (Nat.lt_of_lt_of_le (by have := World.block_lt_of_cell? _ _ hw553_0; first | rwa [add_block] at this | exact this) GW561.out)) | (show (Addr.add _ _).block ≠ _; rw [add_block]; exact Nat.ne_of_lt (Nat.lt_of_lt_of_le (by have := World.block_lt_of_cell? _ _ hw553_0; first | rwa [add_block] at this | exact this) GW561.out)) | (dsimp only; exact Nat.ne_of_lt (Nat.lt_of_lt_of_le (by have := World.block_lt_of_cell? _ _ hw553_0; first | rwa [add_block] at this | exact this) GW561.out))) _).trans (((cell_far (p := ⟨gb561, _, none⟩) (by first | exact Nat.ne_of_lt (Nat.lt_of_lt_of_le (by have := World.block_lt_of_cell? _ _ hw553_0; first | rwa [add_block] at this | exact this) GW561.out) | (rw [add_block]; exact Nat.ne_of_lt (Nat.lt_of_lt_of_le (by have := World.block_lt_of_cell? _ _ hw553_0; first | rwa [add_block] at this | exact this) GW561.out)) | (show (Addr.add _ _).block ≠ _; rw [add_block]; exact Nat.ne_of_lt (Nat.lt_of_lt_of_le (by have := World.block_lt_of_cell? _ _ hw553_0; first | rwa [add_block] at this | exact this) GW561.out)) | (dsimp only; exact Nat.ne_of_lt (Nat.lt_of_lt_of_le (by have := World.block_lt_of_cell? _ _ hw553_0; first | rwa [add_block] at this | exact this) GW561.out))) _).trans (hHeld.2.2.2.2.2.2.2.2.2.2.1)))))))))), ((cell_far (p := ⟨gb561, _, none⟩) (by first | exact Nat.ne_of_lt (Nat.lt_of_lt_of_le (by have := World.block_lt_of_cell? _ _ hw553_1; first | rwa [add_block] at this | exact this) GW561.out) | (rw [add_block]; exact Nat.ne_of_lt (Nat.lt_of_lt_of_le (by have := World.block_lt_of_cell? _ _ hw553_1; first | rwa [add_block] at this | exact this) GW561.out)) | (show (Addr.add _ _).block ≠ _; rw [add_block]; exact Nat.ne_of_lt (Nat.lt_of_lt_of_le (by have := World.block_lt_of_cell? _ _ hw553_1; first | rwa [add_block] at this | exact this) GW561.out)) | (dsimp only; exact Nat.ne_of_lt (Nat.lt_of_lt_of_le (by have := World.block_lt_of_cell? _ _ hw553_1; first | rwa [add_block] at this | exact this) GW561.out))) _).trans (((cell_far (p := ⟨gb561, _, none⟩) (by first | exact Nat.ne_of_lt (Nat.lt_of_lt_of_le (by have := World.block_lt_of_cell? _ _ hw553_1; first | rwa [add_block] at this | exact this) GW561.out) | (rw [add_block]; exact Nat.ne_of_lt (Nat.lt_of_lt_of_le (by have := World.block_lt_of_cell? _ _ hw553_1; first | rwa [add_block] at this | exact this) GW561.out)) | (show (Addr.add _ _).block ≠ _; rw [add_block]; exact Nat.ne_of_lt (Nat.lt_of_lt_of_le (by have := World.block_lt_of_cell? _ _ hw553_1; first | rwa [add_block] at this | exact this) GW561.out)) | (dsimp only; exact Nat.ne_of_lt (Nat.lt_of_lt_of_le (by have := World.block_lt_of_cell? _ _ hw553_1; first | rwa [add_block] at this | exact this) GW561.out))) _).trans (((cell_far (p := ⟨gb561, _, none⟩) (by first | exact Nat.ne_of_lt (Nat.lt_of_lt_of_le (by have := World.block_lt_of_cell? _ _ hw553_1; first | rwa [add_block] at this | exact this) GW561.out) | (rw [add_block]; exact Nat.ne_of_lt (Nat.lt_of_lt_of_le (by have := World.block_lt_of_cell? _ _ hw553_1; first | rwa [add_block] at this | exact this) GW561.out)) | (show (Addr.add _ _).block ≠ _; rw [add_block]; exact Nat.ne_of_lt (Nat.lt_of_lt_of_le (by have := World.block_lt_of_cell? _ _ hw553_1; first | rwa [add_block] at this | exact this) GW561.out)) | (dsimp only; exact Nat.ne_of_lt (Nat.lt_of_lt_of_le (by have := World.block_lt_of_cell? _ _ hw553_1; first | rwa [add_block] at this | exact this) GW561.out))) _).trans (((cell_far (p := ⟨gb561, _, none⟩) (by first | exact Nat.ne_of_lt (Nat.lt_of_lt_of_le (by have := World.block_lt_of_cell? _ _ hw553_1; first | rwa [add_block] at this | exact this) GW561.out) | (rw [add_block]; exact Nat.ne_of_lt (Nat.lt_of_lt_of_le (by have := World.block_lt_of_cell? _ _ hw553_1; first | rwa [add_block] at this | exact this) GW561.out)) | (show (Addr.add _ _).block ≠ _; rw [add_block]; exact Nat.ne_of_lt (Nat.lt_of_lt_of_le (by have := World.block_lt_of_cell? _ _ hw553_1; first | rwa [add_block] at this | exact this) GW561.out)) | (dsimp only; exact Nat.ne_of_lt (Nat.lt_of_lt_of_le (by have := World.block_lt_of_cell? _ _ hw553_1; first | rwa [add_block] at this | exact this) GW561.out))) _).trans (((cell_far (p := ⟨gb561, _, none⟩) (by first | exact Nat.ne_of_lt (Nat.lt_of_lt_of_le (by have := World.block_lt_of_cell? _ _ hw553_1; first | rwa [add_block] at this | exact this) GW561.out) | (rw [add_block]; exact Nat.ne_of_lt (Nat.lt_of_lt_of_le (by have := World.block_lt_of_cell? _ _ hw553_1; first | rwa [add_block] at this | exact this) GW561.out)) | (show (Addr.add _ _).block ≠ _; rw [add_block]; exact Nat.ne_of_lt (Nat.lt_of_lt_of_le (by have := World.block_lt_of_cell? _ _ hw553_1; first | rwa [add_block] at this | exact this) GW561.out)) | (dsimp only; exact Nat.ne_of_lt (Nat.lt_of_lt_of_le (by have := World.block_lt_of_cell? _ _ hw553_1; first | rwa [add_block] at this | exact this) GW561.out))) _).trans (hHeld.2.2.2.2.2.2.2.2.2.2.2.1)))))))))), ((cell_far (p := ⟨gb561, _, none⟩) (by first | exact Nat.ne_of_lt (Nat.lt_of_lt_of_le (by have := World.block_lt_of_cell? _ _ hw553_2; first | rwa [add_block] at this | exact this) GW561.out) | (rw [add_block]; exact Nat.ne_of_lt (Nat.lt_of_lt_of_le (by have := World.block_lt_of_cell? _ _ hw553_2; first | rwa [add_block] at this | exact this) GW561.out)) | (show (Addr.add _ _).block ≠ _; rw [add_block]; exact Nat.ne_of_lt (Nat.lt_of_lt_of_le (by have := World.block_lt_of_cell? _ _ hw553_2; first | rwa [add_block] at this | exact this) GW561.out)) | (dsimp only; exact Nat.ne_of_lt (Nat.lt_of_lt_of_le (by have := World.block_lt_of_cell? _ _ hw553_2; first | rwa [add_block] at this | exact this) GW561.out))) _).trans (((cell_far (p := ⟨gb561, _, none⟩) (by first | exact Nat.ne_of_lt (Nat.lt_of_lt_of_le (by have := World.block_lt_of_cell? _ _ hw553_2; first | rwa [add_block] at this | exact this) GW561.out) | (rw [add_block]; exact Nat.ne_of_lt (Nat.lt_of_lt_of_le (by have := World.block_lt_of_cell? _ _ hw553_2; first | rwa [add_block] at this | exact this) GW561.out)) | (show (Addr.add _ _).block ≠ _; rw [add_block]; exact Nat.ne_of_lt (Nat.lt_of_lt_of_le (by have := World.block_lt_of_cell? _ _ hw553_2; first | rwa [add_block] at this | exact this) GW561.out)) | (dsimp only; exact Nat.ne_of_lt (Nat.lt_of_lt_of_le (by have := World.block_lt_of_cell? _ _ hw553_2; first | rwa [add_block] at this | exact this) GW561.out))) _).trans (((cell_far (p := ⟨gb561, _, none⟩) (by first | exact Nat.ne_of_lt (Nat.lt_of_lt_of_le (by have := World.block_lt_of_cell? _ _ hw553_2; first | rwa [add_block] at this | exact this) GW561.out) | (rw [add_block]; exact Nat.ne_of_lt (Nat.lt_of_lt_of_le (by have := World.block_lt_of_cell? _ _ hw553_2; first | rwa [add_block] at this | exact this) GW561.out)) | (show (Addr.add _ _).block ≠ _; rw [add_block]; exact Nat.ne_of_lt (Nat.lt_of_lt_of_le (by have := World.block_lt_of_cell? _ _ hw553_2; first | rwa [add_block] at this | exact this) GW561.out)) | (dsimp only; exact Nat.ne_of_lt (Nat.lt_of_lt_of_le (by have := World.block_lt_of_cell? _ _ hw553_2; first | rwa [add_block] at this | exact this) GW561.out))) _).trans (((cell_far (p := ⟨gb561, _, none⟩) (by first | exact Nat.ne_of_lt (Nat.lt_of_lt_of_le (by have := World.block_lt_of_cell? _ _ hw553_2; first | rwa [add_block] at this | exact this) GW561.out) | (rw [add_block]; exact Nat.ne_of_lt (Nat.lt_of_lt_of_le (by have := World.block_lt_of_cell? _ _ hw553_2; first | rwa [add_block] at this | exact this) GW561.out)) | (show (Addr.add _ _).block ≠ _; rw [add_block]; exact Nat.ne_of_lt (Nat.lt_of_lt_of_le (by have := World.block_lt_of_cell? _ _ hw553_2; first | rwa [add_block] at this | exact this) GW561.out)) | (dsimp only; exact Nat.ne_of_lt (Nat.lt_of_lt_of_le (by have := World.block_lt_of_cell? _ _ hw553_2; first | rwa [add_block] at this | exact this) GW561.out))) _).trans (((cell_far (p := ⟨gb561, _, none⟩) (by first | exact Nat.ne_of_lt (Nat.lt_of_lt_of_le (by have := World.block_lt_of_cell? _ _ hw553_2; first | rwa [add_block] at this | exact this) GW561.out) | (rw [add_block]; exact Nat.ne_of_lt (Nat.lt_of_lt_of_le (by have := World.block_lt_of_cell? _ _ hw553_2; first | rwa [add_block] at this | exact this) GW561.out)) | (show (Addr.add _ _).block ≠ _; rw [add_block]; exact Nat.ne_of_lt (Nat.lt_of_lt_of_le (by have := World.block_lt_of_cell? _ _ hw553_2; first | rwa [add_block] at this | exact this) GW561.out)) | (dsimp only; exact Nat.ne_of_lt (Nat.lt_of_lt_of_le (by have := World.block_lt_of_cell? _ _ hw553_2; first | rwa [add_block] at this | exact this) GW561.out))) _).trans (hHeld.2.2.2.2.2.2.2.2.2.2.2.2.1)))))))))), ((cell_far (p := ⟨gb561, _, none⟩) (by first | exact Nat.ne_of_lt (Nat.lt_of_lt_of_le (by have := World.block_lt_of_cell? _ _ hw553_3; first | rwa [add_block] at this | exact this) GW561.out) | (rw [add_block]; exact Nat.ne_of_lt (Nat.lt_of_lt_of_le (by have := World.block_lt_of_cell? _ _ hw553_3; first | rwa [add_block] at this | exact this) GW561.out)) | (show (Addr.add _ _).block ≠ _; rw [add_block]; exact Nat.ne_of_lt (Nat.lt_of_lt_of_le (by have := World.block_lt_of_cell? _ _ hw553_3; first | rwa [add_block] at this | exact this) GW561.out)) | (dsimp only; exact Nat.ne_of_lt (Nat.lt_of_lt_of_le (by have := World.block_lt_of_cell? _ _ hw553_3; first | rwa [add_block] at this | exact this) GW561.out))) _).trans (((cell_far (p := ⟨gb561, _, none⟩) (by first | exact Nat.ne_of_lt (Nat.lt_of_lt_of_le (by have := World.block_lt_of_cell? _ _ hw553_3; first | rwa [add_block] at this | exact this) GW561.out) | (rw [add_block]; exact Nat.ne_of_lt (Nat.lt_of_lt_of_le (by have := World.block_lt_of_cell? _ _ hw553_3; first | rwa [add_block] at this | exact this) GW561.out)) | (show (Addr.add _ _).block ≠ _; rw [add_block]; exact Nat.ne_of_lt (Nat.lt_of_lt_of_le (by have := World.block_lt_of_cell? _ _ hw553_3; first | rwa [add_block] at this | exact this) GW561.out)) | (dsimp only; exact Nat.ne_of_lt (Nat.lt_of_lt_of_le (by have := World.block_lt_of_cell? _ _ hw553_3; first | rwa [add_block] at this | exact this) GW561.out))) _).trans (((cell_far (p := ⟨gb561, _, none⟩) (by first | exact Nat.ne_of_lt (Nat.lt_of_lt_of_le (by have := World.block_lt_of_cell? _ _ hw553_3; first | rwa [add_block] at this | exact this) GW561.out) | (rw [add_block]; exact Nat.ne_of_lt (Nat.lt_of_lt_of_le (by have := World.block_lt_of_cell? _ _ hw553_3; first | rwa [add_block] at this | exact this) GW561.out)) | (show (Addr.add _ _).block ≠ _; rw [add_block]; exact Nat.ne_of_lt (Nat.lt_of_lt_of_le (by have := World.block_lt_of_cell? _ _ hw553_3; first | rwa [add_block] at this | exact this) GW561.out)) | (dsimp only; exact Nat.ne_of_lt (Nat.lt_of_lt_of_le (by have := World.block_lt_of_cell? _ _ hw553_3; first | rwa [add_block] at this | exact this) GW561.out))) _).trans (((cell_far (p := ⟨gb561, _, none⟩) (by first | exact Nat.ne_of_lt (Nat.lt_of_lt_of_le (by have := World.block_lt_of_cell? _ _ hw553_3; first | rwa [add_block] at this | exact this) GW561.out) | (rw [add_block]; exact Nat.ne_of_lt (Nat.lt_of_lt_of_le (by have := World.block_lt_of_cell? _ _ hw553_3; first | rwa [add_block] at this | exact this) GW561.out)) | (show (Addr.add _ _).block ≠ _; rw [add_block]; exact Nat.ne_of_lt (Nat.lt_of_lt_of_le (by have := World.block_lt_of_cell? _ _ hw553_3; first | rwa [add_block] at this | exact this) GW561.out)) | (dsimp only; exact Nat.ne_of_lt (Nat.lt_of_lt_of_le (by have := World.block_lt_of_cell? _ _ hw553_3; first | rwa [add_block] at this | exact this) GW561.out))) _).trans (((cell_far (p := ⟨gb561, _, none⟩) (by first | exact Nat.ne_of_lt (Nat.lt_of_lt_of_le (by have := World.block_lt_of_cell? _ _ hw553_3; first | rwa [add_block] at this | exact this) GW561.out) | (rw [add_block]; exact Nat.ne_of_lt (Nat.lt_of_lt_of_le (by have := World.block_lt_of_cell? _ _ hw553_3; first | rwa [add_block] at this | exact this) GW561.out)) | (show (Addr.add _ _).block ≠ _; rw [add_block]; exact Nat.ne_of_lt (Nat.lt_of_lt_of_le (by have := World.block_lt_of_cell? _ _ hw553_3; first | rwa [add_block] at this | exact this) GW561.out)) | (dsimp only; exact Nat.ne_of_lt (Nat.lt_of_lt_of_le (by have := World.block_lt_of_cell? _ _ hw553_3; first | rwa [add_block] at this | exact this) GW561.out))) _).trans (hHeld.2.2.2.2.2.2.2.2.2.2.2.2.2.1)))))))))), ((cell_far (p := ⟨gb561, _, none⟩) (by first | exact Nat.ne_of_lt (Nat.lt_of_lt_of_le (by have := World.block_lt_of_cell? _ _ hw553_4; first | rwa [add_block] at this | exact this) GW561.out) | (rw [add_block]; exact Nat.ne_of_lt (Nat.lt_of_lt_of_le (by have := World.block_lt_of_cell? _ _ hw553_4; first | rwa [add_block] at this | exact this) GW561.out)) | (show (Addr.add _ _).block ≠ _; rw [add_block]; exact Nat.ne_of_lt (Nat.lt_of_lt_of_le (by have := World.block_lt_of_cell? _ _ hw553_4; first | rwa [add_block] at this | exact this) GW561.out)) | (dsimp only; exact Nat.ne_of_lt (Nat.lt_of_lt_of_le (by have := World.block_lt_of_cell? _ _ hw553_4; first | rwa [add_block] at this | exact this) GW561.out))) _).trans (((cell_far (p := ⟨gb561, _, none⟩) (by first | exact Nat.ne_of_lt (Nat.lt_of_lt_of_le (by have := World.block_lt_of_cell? _ _ hw553_4; first | rwa [add_block] at this | exact this) GW561.out) | (rw [add_block]; exact Nat.ne_of_lt (Nat.lt_of_lt_of_le (by have := World.block_lt_of_cell? _ _ hw553_4; first | rwa [add_block] at this | exact this) GW561.out)) | (show (Addr.add _ _).block ≠ _; rw [add_block]; exact Nat.ne_of_lt (Nat.lt_of_lt_of_le (by have := World.block_lt_of_cell? _ _ hw553_4; first | rwa [add_block] at this | exact this) GW561.out)) | (dsimp only; exact Nat.ne_of_lt (Nat.lt_of_lt_of_le (by have := World.block_lt_of_cell? _ _ hw553_4; first | rwa [add_block] at this | exact this) GW561.out))) _).trans (((cell_far (p := ⟨gb561, _, none⟩) (by first | exact Nat.ne_of_lt (Nat.lt_of_lt_of_le (by have := World.block_lt_of_cell? _ _ hw553_4; first | rwa [add_block] at this | exact this) GW561.out) | (rw [add_block]; exact Nat.ne_of_lt (Nat.lt_of_lt_of_le (by have := World.block_lt_of_cell? _ _ hw553_4; first | rwa [add_block] at this | exact this) GW561.out)) | (show (Addr.add _ _).block ≠ _; rw [add_block]; exact Nat.ne_of_lt (Nat.lt_of_lt_of_le (by have := World.block_lt_of_cell? _ _ hw553_4; first | rwa [add_block] at this | exact this) GW561.out)) | (dsimp only; exact Nat.ne_of_lt (Nat.lt_of_lt_of_le (by have := World.block_lt_of_cell? _ _ hw553_4; first | rwa [add_block] at this | exact this) GW561.out))) _).trans (((cell_far (p := ⟨gb561, _, none⟩) (by first | exact Nat.ne_of_lt (Nat.lt_of_lt_of_le (by have := World.block_lt_of_cell? _ _ hw553_4; first | rwa [add_block] at this | exact this) GW561.out) | (rw [add_block]; exact Nat.ne_of_lt (Nat.lt_of_lt_of_le (by have := World.block_lt_of_cell? _ _ hw553_4; first | rwa [add_block] at this | exact this) GW561.out)) | (show (Addr.add _ _).block ≠ _; rw [add_block]; exact Nat.ne_of_lt (Nat.lt_of_lt_of_le (by have := World.block_lt_of_cell? _ _ hw553_4; first | rwa [add_block] at this | exact this) GW561.out)) | (dsimp only; exact Nat.ne_of_lt (Nat.lt_of_lt_of_le (by have := World.block_lt_of_cell? _ _ hw553_4; first | rwa [add_block] at this | exact this) GW561.out))) _).trans (((cell_far (p := ⟨gb561, _, none⟩) (by first | exact Nat.ne_of_lt (Nat.lt_of_lt_of_le (by have := World.block_lt_of_cell? _ _ hw553_4; first | rwa [add_block] at this | exact this) GW561.out) | (rw [add_block]; exact Nat.ne_of_lt (Nat.lt_of_lt_of_le (by have := World.block_lt_of_cell? _ _ hw553_4; first | rwa [add_block] at this | exact this) GW561.out)) | (show (Addr.add _ _).block ≠ _; rw [add_block]; exact Nat.ne_of_lt (Nat.lt_of_lt_of_le (by have := World.block_lt_of_cell? _ _ hw553_4; first | rwa [add_block] at this | exact this) GW561.out)) | (dsimp only; exact Nat.ne_of_lt (Nat.lt_of_lt_of_le (by have := World.block_lt_of_cell? _ _ hw553_4; first | rwa [add_block] at this | exact this) GW561.out))) _).trans (hHeld.2.2.2.2.2.2.2.2.2.2.2.2.2.2.1)))))))))), ((cell_far (p := ⟨gb561, _, none⟩) (by first | exact Nat.ne_of_lt (Nat.lt_of_lt_of_le (by have := World.block_lt_of_cell? _ _ hw557_0; first | rwa [add_block] at this | exact this) GW561.out) | (rw [add_block]; exact Nat.ne_of_lt (Nat.lt_of_lt_of_le (by have := World.block_lt_of_cell? _ _ hw557_0; first | rwa [add_block] at this | exact this) GW561.out)) | (show (Addr.add _ _).block ≠ _; rw [add_block]; exact Nat.ne_of_lt (Nat.lt_of_lt_of_le (by have := World.block_lt_of_cell? _ _ hw557_0; first | rwa [add_block] at this | exact this) GW561.out)) | (dsimp only; exact Nat.ne_of_lt (Nat.lt_of_lt_of_le (by have := World.block_lt_of_cell? _ _ hw557_0; first | rwa [add_block] at this | exact this) GW561.out))) _).trans (((cell_far (p := ⟨gb561, _, none⟩) (by first | exact Nat.ne_of_lt (Nat.lt_of_lt_of_le (by have := World.block_lt_of_cell? _ _ hw557_0; first | rwa [add_block] at this | exact this) GW561.out) | (rw [add_block]; exact Nat.ne_of_lt (Nat.lt_of_lt_of_le (by have := World.block_lt_of_cell? _ _ hw557_0; first | rwa [add_block] at this | exact this) GW561.out)) | (show (Addr.add _ _).block ≠ _; rw [add_block]; exact Nat.ne_of_lt (Nat.lt_of_lt_of_le (by have := World.block_lt_of_cell? _ _ hw557_0; first | rwa [add_block] at this | exact this) GW561.out)) | (dsimp only; exact Nat.ne_of_lt (Nat.lt_of_lt_of_le (by have := World.block_lt_of_cell? _ _ hw557_0; first | rwa [add_block] at this | exact this) GW561.out))) _).trans (((cell_far (p := ⟨gb561, _, none⟩) (by first | exact Nat.ne_of_lt (Nat.lt_of_lt_of_le (by have := World.block_lt_of_cell? _ _ hw557_0; first | rwa [add_block] at this | exact this) GW561.out) | (rw [add_block]; exact Nat.ne_of_lt (Nat.lt_of_lt_of_le (by have := World.block_lt_of_cell? _ _ hw557_0; first | rwa [add_block] at this | exact this) GW561.out)) | (show (Addr.add _ _).block ≠ _; rw [add_block]; exact Nat.ne_of_lt (Nat.lt_of_lt_of_le (by have := World.block_lt_of_cell? _ _ hw557_0; first | rwa [add_block] at this | exact this) GW561.out)) | (dsimp only; exact Nat.ne_of_lt (Nat.lt_of_lt_of_le (by have := World.block_lt_of_cell? _ _ hw557_0; first | rwa [add_block] at this | exact this) GW561.out))) _).trans (((cell_far (p := ⟨gb561, _, none⟩) (by first | exact Nat.ne_of_lt (Nat.lt_of_lt_of_le (by have := World.block_lt_of_cell? _ _ hw557_0; first | rwa [add_block] at this | exact this) GW561.out) | (rw [add_block]; exact Nat.ne_of_lt (Nat.lt_of_lt_of_le (by have := World.block_lt_of_cell? _ _ hw557_0; first | rwa [add_block] at this | exact this) GW561.out)) | (show (Addr.add _ _).block ≠ _; rw [add_block]; exact Nat.ne_of_lt (Nat.lt_of_lt_of_le (by have := World.block_lt_of_cell? _ _ hw557_0; first | rwa [add_block] at this | exact this) GW561.out)) | (dsimp only; exact Nat.ne_of_lt (Nat.lt_of_lt_of_le (by have := World.block_lt_of_cell? _ _ hw557_0; first | rwa [add_block] at this | exact this) GW561.out))) _).trans (((cell_far (p := ⟨gb561, _, none⟩) (by first | exact Nat.ne_of_lt (Nat.lt_of_lt_of_le (by have := World.block_lt_of_cell? _ _ hw557_0; first | rwa [add_block] at this | exact this) GW561.out) | (rw [add_block]; exact Nat.ne_of_lt (Nat.lt_of_lt_of_le (by have := World.block_lt_of_cell? _ _ hw557_0; first | rwa [add_block] at this | exact this) GW561.out)) | (show (Addr.add _ _).block ≠ _; rw [add_block]; exact Nat.ne_of_lt (Nat.lt_of_lt_of_le (by have := World.block_lt_of_cell? _ _ hw557_0; first | rwa [add_block] at this | exact this) GW561.out)) | (dsimp only; exact Nat.ne_of_lt (Nat.lt_of_lt_of_le (by have := World.block_lt_of_cell? _ _ hw557_0; first | rwa [add_block] at this | exact this) GW561.out))) _).trans (hHeld.2.2.2.2.2.2.2.2.2.2.2.2.2.2.2.1)))))))))), ((cell_far (p := ⟨gb561, _, none⟩) (by first | exact Nat.ne_of_lt (Nat.lt_of_lt_of_le (by have := World.block_lt_of_cell? _ _ hw557_1; first | rwa [add_block] at this | exact this) GW561.out) | (rw [add_block]; exact Nat.ne_of_lt (Nat.lt_of_lt_of_le (by have := World.block_lt_of_cell? _ _ hw557_1; first | rwa [add_block] at this | exact this) GW561.out)) | (show (Addr.add _ _).block ≠ _; rw [add_block]; exact Nat.ne_of_lt (Nat.lt_of_lt_of_le (by have := World.block_lt_of_cell? _ _ hw557_1; first | rwa [add_block] at this | exact this) GW561.out)) | (dsimp only; exact Nat.ne_of_lt (Nat.lt_of_lt_of_le (by have := World.block_lt_of_cell? _ _ hw557_1; first | rwa [add_block] at this | exact this) GW561.out))) _).trans (((cell_far (p := ⟨gb561, _, none⟩) (by first | exact Nat.ne_of_lt (Nat.lt_of_lt_of_le (by have := World.block_lt_of_cell? _ _ hw557_1; first | rwa [add_block] at this | exact this) GW561.out) | (rw [add_block]; exact Nat.ne_of_lt (Nat.lt_of_lt_of_le (by have := World.block_lt_of_cell? _ _ hw557_1; first | rwa [add_block] at this | exact this) GW561.out)) | (show (Addr.add _ _).block ≠ _; rw [add_block]; exact Nat.ne_of_lt (Nat.lt_of_lt_of_le (by have := World.block_lt_of_cell? _ _ hw557_1; first | rwa [add_block] at this | exact this) GW561.out)) | (dsimp only; exact Nat.ne_of_lt (Nat.lt_of_lt_of_le (by have := World.block_lt_of_cell? _ _ hw557_1; first | rwa [add_block] at this | exact this) GW561.out))) _).trans (((cell_far (p := ⟨gb561, _, none⟩) (by first | exact Nat.ne_of_lt (Nat.lt_of_lt_of_le (by have := World.block_lt_of_cell? _ _ hw557_1; first | rwa [add_block] at this | exact this) GW561.out) | (rw [add_block]; exact Nat.ne_of_lt (Nat.lt_of_lt_of_le (by have := World.block_lt_of_cell? _ _ hw557_1; first | rwa [add_block] at this | exact this) GW561.out)) | (show (Addr.add _ _).block ≠ _; rw [add_block]; exact Nat.ne_of_lt (Nat.lt_of_lt_of_le (by have := World.block_lt_of_cell? _ _ hw557_1; first | rwa [add_block] at this | exact this) GW561.out)) | (dsimp only; exact Nat.ne_of_lt (Nat.lt_of_lt_of_le (by have := World.block_lt_of_cell? _ _ hw557_1; first | rwa [add_block] at this | exact this) GW561.out))) _).trans (((cell_far (p := ⟨gb561, _, none⟩) (by first | exact Nat.ne_of_lt (Nat.lt_of_lt_of_le (by have := World.block_lt_of_cell? _ _ hw557_1; first | rwa [add_block] at this | exact this) GW561.out) | (rw [add_block]; exact Nat.ne_of_lt (Nat.lt_of_lt_of_le (by have := World.block_lt_of_cell? _ _ hw557_1; first | rwa [add_block] at this | exact this) GW561.out)) | (show (Addr.add _ _).block ≠ _; rw [add_block]; exact Nat.ne_of_lt (Nat.lt_of_lt_of_le (by have := World.block_lt_of_cell? _ _ hw557_1; first | rwa [add_block] at this | exact this) GW561.out)) | (dsimp only; exact Nat.ne_of_lt (Nat.lt_of_lt_of_le (by have := World.block_lt_of_cell? _ _ hw557_1; first | rwa [add_block] at this | exact this) GW561.out))) _).trans (((cell_far (p := ⟨gb561, _, none⟩) (by first | exact Nat.ne_of_lt (Nat.lt_of_lt_of_le (by have := World.block_lt_of_cell? _ _ hw557_1; first | rwa [add_block] at this | exact this) GW561.out) | (rw [add_block]; exact Nat.ne_of_lt (Nat.lt_of_lt_of_le (by have := World.block_lt_of_cell? _ _ hw557_1; first | rwa [add_block] at this | exact this) GW561.out)) | (show (Addr.add _ _).block ≠ _; rw [add_block]; exact Nat.ne_of_lt (Nat.lt_of_lt_of_le (by have := World.block_lt_of_cell? _ _ hw557_1; first | rwa [add_block] at this | exact this) GW561.out)) | (dsimp only; exact Nat.ne_of_lt (Nat.lt_of_lt_of_le (by have := World.block_lt_of_cell? _ _ hw557_1; first | rwa [add_block] at this | exact this) GW561.out))) _).trans (hHeld.2.2.2.2.2.2.2.2.2.2.2.2.2.2.2.2.1)))))))))), ((cell_far (p := ⟨gb561, _, none⟩) (by first | exact Nat.ne_of_lt (Nat.lt_of_lt_of_le (by have := World.block_lt_of_cell? _ _ hw557_2; first | rwa [add_block] at this | exact this) GW561.out) | (rw [add_block]; exact Nat.ne_of_lt (Nat.lt_of_lt_of_le (by have := World.block_lt_of_cell? _ _ hw557_2; first | rwa [add_block] at this | exact this) GW561.out)) | (show (Addr.add _ _).block ≠ _; rw [add_block]; exact Nat.ne_of_lt (Nat.lt_of_lt_of_le (by have := World.block_lt_of_cell? _ _ hw557_2; first | rwa [add_block] at this | exact this) GW561.out)) | (dsimp only; exact Nat.ne_of_lt (Nat.lt_of_lt_of_le (by have := World.block_lt_of_cell? _ _ hw557_2; first | rwa [add_block] at this | exact this) GW561.out))) _).trans (((cell_far (p := ⟨gb561, _, none⟩) (by first | exact Nat.ne_of_lt (Nat.lt_of_lt_of_le (by have := World.block_lt_of_cell? _ _ hw557_2; first | rwa [add_block] at this | exact this) GW561.out) | (rw [add_block]; exact Nat.ne_of_lt (Nat.lt_of_lt_of_le (by have := World.block_lt_of_cell? _ _ hw557_2; first | rwa [add_block] at this | exact this) GW561.out)) | (show (Addr.add _ _).block ≠ _; rw [add_block]; exact Nat.ne_of_lt (Nat.lt_of_lt_of_le (by have := World.block_lt_of_cell? _ _ hw557_2; first | rwa [add_block] at this | exact this) GW561.out)) | (dsimp only; exact Nat.ne_of_lt (Nat.lt_of_lt_of_le (by have := World.block_lt_of_cell? _ _ hw557_2; first | rwa [add_block] at this | exact this) GW561.out))) _).trans (((cell_far (p := ⟨gb561, _, none⟩) (by first | exact Nat.ne_of_lt (Nat.lt_of_lt_of_le (by have := World.block_lt_of_cell? _ _ hw557_2; first | rwa [add_block] at this | exact this) GW561.out) | (rw [add_block]; exact Nat.ne_of_lt (Nat.lt_of_lt_of_le (by have := World.block_lt_of_cell? _ _ hw557_2; first | rwa [add_block] at this | exact this) GW561.out)) | (show (Addr.add _ _).block ≠ _; rw [add_block]; exact Nat.ne_of_lt (Nat.lt_of_lt_of_le (by have := World.block_lt_of_cell? _ _ hw557_2; first | rwa [add_block] at this | exact this) GW561.out)) | (dsimp only; exact Nat.ne_of_lt (Nat.lt_of_lt_of_le (by have := World.block_lt_of_cell? _ _ hw557_2; first | rwa [add_block] at this | exact this) GW561.out))) _).trans (((cell_far (p := ⟨gb561, _, none⟩) (by first | exact Nat.ne_of_lt (Nat.lt_of_lt_of_le (by have := World.block_lt_of_cell? _ _ hw557_2; first | rwa [add_block] at this | exact this) GW561.out) | (rw [add_block]; exact Nat.ne_of_lt (Nat.lt_of_lt_of_le (by have := World.block_lt_of_cell? _ _ hw557_2; first | rwa [add_block] at this | exact this) GW561.out)) | (show (Addr.add _ _).block ≠ _; rw [add_block]; exact Nat.ne_of_lt (Nat.lt_of_lt_of_le (by have := World.block_lt_of_cell? _ _ hw557_2; first | rwa [add_block] at this | exact this) GW561.out)) | (dsimp only; exact Nat.ne_of_lt (Nat.lt_of_lt_of_le (by have := World.block_lt_of_cell? _ _ hw557_2; first | rwa [add_block] at this | exact this) GW561.out))) _).trans (((cell_far (p := ⟨gb561, _, none⟩) (by first | exact Nat.ne_of_lt (Nat.lt_of_lt_of_le (by have := World.block_lt_of_cell? _ _ hw557_2; first | rwa [add_block] at this | exact this) GW561.out) | (rw [add_block]; exact Nat.ne_of_lt (Nat.lt_of_lt_of_le (by have := World.block_lt_of_cell? _ _ hw557_2; first | rwa [add_block] at this | exact this) GW561.out)) | (show (Addr.add _ _).block ≠ _; rw [add_block]; exact Nat.ne_of_lt (Nat.lt_of_lt_of_le (by have := World.block_lt_of_cell? _ _ hw557_2; first | rwa [add_block] at this | exact this) GW561.out)) | (dsimp only; exact Nat.ne_of_lt (Nat.lt_of_lt_of_le (by have := World.block_lt_of_cell? _ _ hw557_2; first | rwa [add_block] at this | exact this) GW561.out))) _).trans (hHeld.2.2.2.2.2.2.2.2.2.2.2.2.2.2.2.2.2.1)))))))))), ((cell_far (p := ⟨gb561, _, none⟩) (by first | exact Nat.ne_of_lt (Nat.lt_of_lt_of_le (by have := World.block_lt_of_cell? _ _ hw557_3; first | rwa [add_block] at this | exact this) GW561.out) | (rw [add_block]; exact Nat.ne_of_lt (Nat.lt_of_lt_of_le (by have := World.block_lt_of_cell? _ _ hw557_3; first | rwa [add_block] at this | exact this) GW561.out)) | (show (Addr.add _ _).block ≠ _; rw [add_block]; exact Nat.ne_of_lt (Nat.lt_of_lt_of_le (by have := World.block_lt_of_cell? _ _ hw557_3; first | rwa [add_block] at this | exact this) GW561.out)) | (dsimp only; exact Nat.ne_of_lt (Nat.lt_of_lt_of_le (by have := World.block_lt_of_cell? _ _ hw557_3; first | rwa [add_block] at this | exact this) GW561.out))) _).trans (((cell_far (p := ⟨gb561, _, none⟩) (by first | exact Nat.ne_of_lt (Nat.lt_of_lt_of_le (by have := World.block_lt_of_cell? _ _ hw557_3; first | rwa [add_block] at this | exact this) GW561.out) | (rw [add_block]; exact Nat.ne_of_lt (Nat.lt_of_lt_of_le (by have := World.block_lt_of_cell? _ _ hw557_3; first | rwa [add_block] at this | exact this) GW561.out)) | (show (Addr.add _ _).block ≠ _; rw [add_block]; exact Nat.ne_of_lt (Nat.lt_of_lt_of_le (by have := World.block_lt_of_cell? _ _ hw557_3; first | rwa [add_block] at this | exact this) GW561.out)) | (dsimp only; exact Nat.ne_of_lt (Nat.lt_of_lt_of_le (by have := World.block_lt_of_cell? _ _ hw557_3; first | rwa [add_block] at this | exact this) GW561.out))) _).trans (((cell_far (p := ⟨gb561, _, none⟩) (by first | exact Nat.ne_of_lt (Nat.lt_of_lt_of_le (by have := World.block_lt_of_cell? _ _ hw557_3; first | rwa [add_block] at this | exact this) GW561.out) | (rw [add_block]; exact Nat.ne_of_lt (Nat.lt_of_lt_of_le (by have := World.block_lt_of_cell? _ _ hw557_3; first | rwa [add_block] at this | exact this) GW561.out)) | (show (Addr.add _ _).block ≠ _; rw [add_block]; exact Nat.ne_of_lt (Nat.lt_of_lt_of_le (by have := World.block_lt_of_cell? _ _ hw557_3; first | rwa [add_block] at this | exact this) GW561.out)) | (dsimp only; exact Nat.ne_of_lt (Nat.lt_of_lt_of_le (by have := World.block_lt_of_cell? _ _ hw557_3; first | rwa [add_block] at this | exact this) GW561.out))) _).trans (((cell_far (p := ⟨gb561, _, none⟩) (by first | exact Nat.ne_of_lt (Nat.lt_of_lt_of_le (by have := World.block_lt_of_cell? _ _ hw557_3; first | rwa [add_block] at this | exact this) GW561.out) | (rw [add_block]; exact Nat.ne_of_lt (Nat.lt_of_lt_of_le (by have := World.block_lt_of_cell? _ _ hw557_3; first | rwa [add_block] at this | exact this) GW561.out)) | (show (Addr.add _ _).block ≠ _; rw [add_block]; exact Nat.ne_of_lt (Nat.lt_of_lt_of_le (by have := World.block_lt_of_cell? _ _ hw557_3; first | rwa [add_block] at this | exact this) GW561.out)) | (dsimp only; exact Nat.ne_of_lt (Nat.lt_of_lt_of_le (by have := World.block_lt_of_cell? _ _ hw557_3; first | rwa [add_block] at this | exact this) GW561.out))) _).trans (((cell_far (p := ⟨gb561, _, none⟩) (by first | exact Nat.ne_of_lt (Nat.lt_of_lt_of_le (by have := World.block_lt_of_cell? _ _ hw557_3; first | rwa [add_block] at this | exact this) GW561.out) | (rw [add_block]; exact Nat.ne_of_lt (Nat.lt_of_lt_of_le (by have := World.block_lt_of_cell? _ _ hw557_3; first | rwa [add_block] at this | exact this) GW561.out)) | (show (Addr.add _ _).block ≠ _; rw [add_block]; exact Nat.ne_of_lt (Nat.lt_of_lt_of_le (by have := World.block_lt_of_cell? _ _ hw557_3; first | rwa [add_block] at this | exact this) GW561.out)) | (dsimp only; exact Nat.ne_of_lt (Nat.lt_of_lt_of_le (by have := World.block_lt_of_cell? _ _ hw557_3; first | rwa [add_block] at this | exact this) GW561.out))) _).trans (hHeld.2.2.2.2.2.2.2.2.2.2.2.2.2.2.2.2.2.2.1)))))))))), ((cell_far (p := ⟨gb561, _, none⟩) (by first | exact Nat.ne_of_lt (Nat.lt_of_lt_of_le (by have := World.block_lt_of_cell? _ _ hw557_4; first | rwa [add_block] at this | exact this) GW561.out) | (rw [add_block]; exact Nat.ne_of_lt (Nat.lt_of_lt_of_le (by have := World.block_lt_of_cell? _ _ hw557_4; first | rwa [add_block] at this | exact this) GW561.out)) | (show (Addr.add _ _).block ≠ _; rw [add_block]; exact Nat.ne_of_lt (Nat.lt_of_lt_of_le (by have := World.block_lt_of_cell? _ _ hw557_4; first | rwa [add_block] at this | exact this) GW561.out)) | (dsimp only; exact Nat.ne_of_lt (Nat.lt_of_lt_of_le (by have := World.block_lt_of_cell? _ _ hw557_4; first | rwa [add_block] at this | exact this) GW561.out))) _).trans (((cell_far (p := ⟨gb561, _, none⟩) (by first | exact Nat.ne_of_lt (Nat.lt_of_lt_of_le (by have := World.block_lt_of_cell? _ _ hw557_4; first | rwa [add_block] at this | exact this) GW561.out) | (rw [add_block]; exact Nat.ne_of_lt (Nat.lt_of_lt_of_le (by have := World.block_lt_of_cell? _ _ hw557_4; first | rwa [add_block] at this | exact this) GW561.out)) | (show (Addr.add _ _).block ≠ _; rw [add_block]; exact Nat.ne_of_lt (Nat.lt_of_lt_of_le (by have := World.block_lt_of_cell? _ _ hw557_4; first | rwa [add_block] at this | exact this) GW561.out)) | (dsimp only; exact Nat.ne_of_lt (Nat.lt_of_lt_of_le (by have := World.block_lt_of_cell? _ _ hw557_4; first | rwa [add_block] at this | exact this) GW561.out))) _).trans (((cell_far (p := ⟨gb561, _, none⟩) (by first | exact Nat.ne_of_lt (Nat.lt_of_lt_of_le (by have := World.block_lt_of_cell? _ _ hw557_4; first | rwa [add_block] at this | exact this) GW561.out) | (rw [add_block]; exact Nat.ne_of_lt (Nat.lt_of_lt_of_le (by have := World.block_lt_of_cell? _ _ hw557_4; first | rwa [add_block] at this | exact this) GW561.out)) | (show (Addr.add _ _).block ≠ _; rw [add_block]; exact Nat.ne_of_lt (Nat.lt_of_lt_of_le (by have := World.block_lt_of_cell? _ _ hw557_4; first | rwa [add_block] at this | exact this) GW561.out)) | (dsimp only; exact Nat.ne_of_lt (Nat.lt_of_lt_of_le (by have := World.block_lt_of_cell? _ _ hw557_4; first | rwa [add_block] at this | exact this) GW561.out))) _).trans (((cell_far (p := ⟨gb561, _, none⟩) (by first | exact Nat.ne_of_lt (Nat.lt_of_lt_of_le (by have := World.block_lt_of_cell? _ _ hw557_4; first | rwa [add_block] at this | exact this) GW561.out) | (rw [add_block]; exact Nat.ne_of_lt (Nat.lt_of_lt_of_le (by have := World.block_lt_of_cell? _ _ hw557_4; first | rwa [add_block] at this | exact this) GW561.out)) | (show (Addr.add _ _).block ≠ _; rw [add_block]; exact Nat.ne_of_lt (Nat.lt_of_lt_of_le (by have := World.block_lt_of_cell? _ _ hw557_4; first | rwa [add_block] at this | exact this) GW561.out)) | (dsimp only; exact Nat.ne_of_lt (Nat.lt_of_lt_of_le (by have := World.block_lt_of_cell? _ _ hw557_4; first | rwa [add_block] at this | exact this) GW561.out))) _).trans (((cell_far (p := ⟨gb561, _, none⟩) (by first | exact Nat.ne_of_lt (Nat.lt_of_lt_of_le (by have := World.block_lt_of_cell? _ _ hw557_4; first | rwa [add_block] at this | exact this) GW561.out) | (rw [add_block]; exact Nat.ne_of_lt (Nat.lt_of_lt_of_le (by have := World.block_lt_of_cell? _ _ hw557_4; first | rwa [add_block] at this | exact this) GW561.out)) | (show (Addr.add _ _).block ≠ _; rw [add_block]; exact Nat.ne_of_lt (Nat.lt_of_lt_of_le (by have := World.block_lt_of_cell? _ _ hw557_4; first | rwa [add_block] at this | exact this) GW561.out)) | (dsimp only; exact Nat.ne_of_lt (Nat.lt_of_lt_of_le (by have := World.block_lt_of_cell? _ _ hw557_4; first | rwa [add_block] at this | exact this) GW561.out))) _).trans (hHeld.2.2.2.2.2.2.2.2.2.2.2.2.2.2.2.2.2.2.2))))))))))⟩ (fun hHeld => ?_)
   clear hK K
   refine done_ (done_of HT_.out (by kernel_rfl)) ?_
   try go_wp2
   go_loopg [6] k1 (fun kq v6 w' => ∃ (x6_2 : Int) (x562002_2 : List (S96)) (u562002 : Value), v6 = .int .i64 x6_2 ∧ Aside0 (r3_CopyRows.l1 kq l0 x3_1 x4_1 x6_2 ((rd_T47 l0 x4_1).f0) ((rd_T47 l0 x4_1).f1) x562002_2 t554 t558 = some r) ∧ Aside0 (kq ≤ k1) ∧ Aside0 (Kd.R k47 47 w' w.heap.size (fun k_ => some k_ ≠ (u562002 : Value).ownBlock ∧ some k_ ≠ ((.slice Ao14 t554.length co14) : Value).ownBlock ∧ some k_ ≠ ((.slice Ao13 t558.length co13) : Value).ownBlock ∧ k_ ≠ gb561) u3 x3_1) ∧ Aside0 (Kd.R k96 96 w' w.heap.size (fun _ => True) u562002 x562002_2) ∧ Aside0 (Kd.R k47 47 w' w.heap.size (fun k_ => some k_ ≠ (u3 : Value).ownBlock ∧ some k_ ≠ (u562002 : Value).ownBlock ∧ some k_ ≠ ((.slice Ao13 t558.length co13) : Value).ownBlock ∧ k_ ≠ gb561) (.slice Ao14 t554.length co14) t554) ∧ Aside0 (Kd.R k47 47 w' w.heap.size (fun k_ => some k_ ≠ (u3 : Value).ownBlock ∧ some k_ ≠ (u562002 : Value).ownBlock ∧ some k_ ≠ ((.slice Ao14 t554.length co14) : Value).ownBlock ∧ k_ ≠ gb561) (.slice Ao13 t558.length co13) t558) ∧ Aside0 (w'.heap[gb561]? = some (.cells #[.int .i64 ((rd_T47 l0 x4_1).f0), .int .i64 ((rd_T47 l0 x4_1).f1), u562002, (.slice Ao14 t554.length co14), (.slice Ao13 t558.length co13)] 47 (0, 0))) ∧ Aside0 (Below w.heap.size w w'))
   case atStart => exact ⟨(0), (([] : List (S96))), (.slice none 0 0), rs, H', ⟨Nat.le_refl _⟩, ⟨by (with_reducible repeat (first | apply Kd.R_alloc | apply Kd.R_drewN | apply Kd.R_drew)); exact Kd.R_mono (Kd.R_far (p := ⟨gb561, 4, none⟩) (Kd.R_far (p := ⟨gb561, 3, none⟩) (Kd.R_far (p := ⟨gb561, 2, none⟩) (Kd.R_far (p := ⟨gb561, 1, none⟩) (Kd.R_far (p := ⟨gb561, 0, none⟩) (Kd.R_mono HO_3.out (fun k_ hk => (⟨hk, hk.2.2⟩ : _ ∧ k_ ≠ gb561))) (fun _ hk => hk.2) (.int .i64 ((rd_T47 l0 x4_1).f0))) (fun _ hk => hk.2) (.int .i64 ((rd_T47 l0 x4_1).f1))) (fun _ hk => hk.2) (.slice none 0 0)) (fun _ hk => hk.2) (.slice Ao14 t554.length co14)) (fun _ hk => hk.2) (.slice Ao13 t558.length co13)) (fun _ hk => ⟨(by simp [Value.ownBlock]), ⟨hk.1.1, ⟨hk.1.2.1, hk.1.2.2⟩⟩⟩)⟩, ⟨by first | exact Kd.R_nil _ _ _ _ _ | exact Kd.N_nil _ _ _ _ _ | exact Kd.V_nil _ _ _ _ _ | exact Kd.Q_nil _ _ _ _ _ | exact Kd.S_nil _ _ _ _ _⟩, ⟨by (with_reducible repeat (first | apply Kd.R_alloc | apply Kd.R_drewN | apply Kd.R_drew)); exact Kd.R_mono (Kd.R_far (p := ⟨gb561, 4, none⟩) (Kd.R_far (p := ⟨gb561, 3, none⟩) (Kd.R_far (p := ⟨gb561, 2, none⟩) (Kd.R_far (p := ⟨gb561, 1, none⟩) (Kd.R_far (p := ⟨gb561, 0, none⟩) (Kd.R_mono HO556.out (fun k_ hk => (⟨hk, hk.2.2⟩ : _ ∧ k_ ≠ gb561))) (fun _ hk => hk.2) (.int .i64 ((rd_T47 l0 x4_1).f0))) (fun _ hk => hk.2) (.int .i64 ((rd_T47 l0 x4_1).f1))) (fun _ hk => hk.2) (.slice none 0 0)) (fun _ hk => hk.2) (.slice Ao14 t554.length co14)) (fun _ hk => hk.2) (.slice Ao13 t558.length co13)) (fun _ hk => ⟨hk.1.2.1, ⟨(by simp [Value.ownBlock]), ⟨hk.1.1, hk.1.2.2⟩⟩⟩)⟩, ⟨by (with_reducible repeat (first | apply Kd.R_alloc | apply Kd.R_drewN | apply Kd.R_drew)); exact Kd.R_mono (Kd.R_far (p := ⟨gb561, 4, none⟩) (Kd.R_far (p := ⟨gb561, 3, none⟩) (Kd.R_far (p := ⟨gb561, 2, none⟩) (Kd.R_far (p := ⟨gb561, 1, none⟩) (Kd.R_far (p := ⟨gb561, 0, none⟩) (Kd.R_mono HO560.out (fun k_ hk => (⟨hk, hk.2.2⟩ : _ ∧ k_ ≠ gb561))) (fun _ hk => hk.2) (.int .i64 ((rd_T47 l0 x4_1).f0))) (fun _ hk => hk.2) (.int .i64 ((rd_T47 l0 x4_1).f1))) (fun _ hk => hk.2) (.slice none 0 0)) (fun _ hk => hk.2) (.slice Ao14 t554.length co14)) (fun _ hk => hk.2) (.slice Ao13 t558.length co13)) (fun _ hk => ⟨hk.1.2.1, ⟨(by simp [Value.ownBlock]), ⟨hk.1.1, hk.1.2.2⟩⟩⟩)⟩, ⟨by (with_reducible repeat (first | refine kdN ?_ _ | refine kdr ?_ | refine kal ?_ _)); refine blk_put (cs := #[.int .i64 ((rd_T47 l0 x4_1).f0), .int .i64 ((rd_T47 l0 x4_1).f1), .slice none 0 0, .slice Ao14 t554.length co14, .slice none 0 0]) ?_ 4 _ rfl; (with_reducible repeat (first | refine kdN ?_ _ | refine kdr ?_ | refine kal ?_ _)); refine blk_put (cs := #[.int .i64 ((rd_T47 l0 x4_1).f0), .int .i64 ((rd_T47 l0 x4_1).f1), .slice none 0 0, .slice none 0 0, .slice none 0 0]) ?_ 3 _ rfl; (with_reducible repeat (first | refine kdN ?_ _ | refine kdr ?_ | refine kal ?_ _)); refine blk_put (cs := #[.int .i64 ((rd_T47 l0 x4_1).f0), .int .i64 ((rd_T47 l0 x4_1).f1), .slice none 0 0, .slice none 0 0, .slice none 0 0]) ?_ 2 _ rfl; (with_reducible repeat (first | refine kdN ?_ _ | refine kdr ?_ | refine kal ?_ _)); refine blk_put (cs := #[.int .i64 ((rd_T47 l0 x4_1).f0), .int .i64 0, .slice none 0 0, .slice none 0 0, .slice none 0 0]) ?_ 1 _ rfl; (with_reducible repeat (first | refine kdN ?_ _ | refine kdr ?_ | refine kal ?_ _)); refine blk_put (cs := #[.int .i64 0, .int .i64 0, .slice none 0 0, .slice none 0 0, .slice none 0 0]) ?_ 0 _ rfl; (with_reducible repeat (first | refine kdN ?_ _ | refine kdr ?_ | refine kal ?_ _)); exact BK561.out⟩, ⟨bb HB⟩⟩
   case round =>
    clear H'
    try clear p2
    try clear c5
    try clear p5
    try clear q5
    try clear hx5
    try clear c6
    try clear hx551_0
    try clear hx551_1
    try clear hx551_2
    try clear hx551_3
    try clear hx551_4
    try clear hx552_0
    try clear hx552_1
    try clear hx552_2
    try clear hx552_3
    try clear hx552_4
    try clear hx553_0
    try clear hx553_1
    try clear hx553_2
    try clear hx553_3
    try clear hx553_4
    try clear hx557_0
    try clear hx557_1
    try clear hx557_2
    try clear hx557_3
    try clear hx557_4
    try clear p552
    try clear p553
    try clear p557
    try clear q552
    try clear q553
    try clear q557
    obtain ⟨x6_2, x562002_2, u562002, rfl, HA, HK2, HO_3, HO_562002, HO_562003, HO_562004, BK561, HB⟩ := hrel
    cases gk with
    | zero => exact absurd HA.out (by simp [r3_CopyRows.l1])
    | succ k2 =>
     have H := HA.out
     clear HA
     simp only [r3_CopyRows.l1] at H
     by_cases c20 : 0 ≤ x4_1
     rotate_left
     ·rw [if_neg c20] at H
      exact absurd H (by simp)
     rw [if_pos c20] at H
     have c20b0 : decide (0 ≤ x4_1) = true := decide_eq_true c20
     clear c20
     by_cases c21 : x4_1 < (l0.length : Int)
     rotate_left
     ·rw [if_neg c21] at H
      exact absurd H (by simp)
     rw [if_pos c21] at H
     have c21b0 : decide (x4_1 < (l0.length : Int)) = true := decide_eq_true c21
     clear c21
     by_cases c22 : x6_2 < (((rd_T47 l0 x4_1).f2).length : Int)
     rotate_left
     ·rw [if_neg c22] at H
      have c22b0 : decide (x6_2 < (((rd_T47 l0 x4_1).f2).length : Int)) = false := decide_eq_false c22
      clear c22
      by_cases c32 : x3_1.length < 1599289640401
      rotate_left
      ·rw [if_neg c32] at H
       exact absurd H (by simp)
      rw [if_pos c32] at H
      have LMc32 := Aside0.mk c32
      clear c32
      obtain ⟨y574, hy574⟩ : ∃ y_ : List (S47), y_ = (x3_1 ++ [(⟨((rd_T47 l0 x4_1).f0), ((rd_T47 l0 x4_1).f1), x562002_2, t554, t558⟩ : S47)]) := ⟨_, rfl⟩
      replace H : (r3_CopyRows.l0 k2 l0 y574 (wrap64 (x4_1 + 1))) = some r := by first | (rw [hy574]; with_reducible exact H) | (have H2_ := (Option.bind_some _ _).symm.trans H; rw [hy574]; with_reducible exact H2_) | (have H2_ := (Option.bind_some _ _).symm.trans H; with_reducible exact H2_) | with_reducible exact H | (rw [hy574]; exact H) | exact H
      have Ny574 := Aside0.mk hy574
      clear hy574
      have H' := Aside0.mk H
      clear H
      have p562 : 0 ≤ (x4_1 : Int) := od
      have q562 : x4_1 < (l0.length : Int) := od
      obtain ⟨ad562, A562_2, c562_2, A562_3, c562_3, A562_4, c562_4, e562, hx562_0, hx562_1, hx562_2, hx562_3, hx562_4, hl562_2, hi562_2, hl562_3, hi562_3, hl562_4, hi562_4⟩ := at_T47 HR0.out x4_1 p562 q562
      obtain rfl : ad551 = ad562 := (by injection e562)
      replace hx562_0 := bcell HB.out hx562_0
      replace hx562_1 := bcell HB.out hx562_1
      replace hx562_2 := bcell HB.out hx562_2
      replace hx562_3 := bcell HB.out hx562_3
      replace hx562_4 := bcell HB.out hx562_4
      have HR562_2 := Aside0.mk hi562_2
      have HC562_2 := Aside0.mk hl562_2
      clear hi562_2 hl562_2
      have HR562_3 := Aside0.mk hi562_3
      have HC562_3 := Aside0.mk hl562_3
      clear hi562_3 hl562_3
      have HR562_4 := Aside0.mk hi562_4
      have HC562_4 := Aside0.mk hl562_4
      clear hi562_4 hl562_4
      replace p562 := eq_true p562
      replace q562 := eq_true q562
      obtain ⟨hcz33_0, hcz33_1, hcz33_2, hcz33_3, hcz33_4, hfz33_0, hfz33_1, hfz33_2, hfz33_3, hfz33_4⟩ := cf5 BK561.out
      obtain ⟨Ao35, co35, eo35⟩ := Kd.R_slice HO_562002.out
      subst eo35
      go_wp2_with (first | ((with_reducible refine gate_builtin (b := .append) (xs := #[.tmp 60, .tmp 62]) rfl ?_); at_builtin; refine Kd.R_append k47 (w0 := w) w.heap.size rfl (.tmp 60) (.tmp 62) 23 47 (.agg #[(.int .i64 0), (.int .i64 0), (.slice none 0 0), (.slice none 0 0), (.slice none 0 0)]) 88 rfl Try.underlying23 info47 rfl (by decide) (by omega) u3 x3_1 (⟨((rd_T47 l0 x4_1).f0), ((rd_T47 l0 x4_1).f1), x562002_2, t554, t558⟩ : S47) [.int .i64 ((rd_T47 l0 x4_1).f0), .int .i64 ((rd_T47 l0 x4_1).f1), .slice Ao35 x562002_2.length co35, .slice Ao14 t554.length co14, .slice Ao13 t558.length co13] (fun k_ => k_ ≠ gb561) (fun k_ => ((fun k_ => k_ ≠ gb561)) k_ ∧ some k_ ≠ (u3 : Value).ownBlock) rfl rfl ?aP (fun _ hk => hk) ?aF ?aO ?aB ?aS ?aL ?_; (case aP => exact k47_mkM _ _ _ (⟨((rd_T47 l0 x4_1).f0), ((rd_T47 l0 x4_1).f1), x562002_2, t554, t558⟩ : S47) (Kd.R_mono (Kd.R_types (Kd.R_apart' (HO_562002.out) (Kd.R_typed HO_3.out) (by decide)) BK561.out (by decide)) (fun k_ hk => ⟨hk.2, hk.1.2⟩)) (Kd.R_mono (HO_562003.out) (fun k_ hk => ⟨hk.2.2.2, hk.1⟩)) (Kd.R_mono (HO_562004.out) (fun k_ hk => ⟨hk.2.2.2, hk.1⟩))); (case aB => exact (bb HB)); (case aF => exact (fun k_ hk => Kd.freshB (kk BK561) k_ hk)); (case aO => exact (by (with_reducible repeat (first | apply Kd.R_alloc | apply Kd.R_drewN | apply Kd.R_drew)); exact Kd.R_mono HO_3.out (fun _ hk => hk.2.2.2))); (case aS => exact (bsz (bb HB))); (case aL => have := LMc32.out; omega); intro v575 w34 ho hb hg hat; rw [← Ny574.out] at ho; have HO576 := Aside0.mk (ho); replace BK561 := Aside0.mk (blk_grown (kk BK561) hg (Kd.R_away HO_3.out (fun _ hk => hk.2.2.2))); replace HB := Aside0.mk (hb); clear HO_3 HO_562002 HO_562003 HO_562004; clear ho hb hg hat))
      go_roundg k2
      case measure => have := HK1.out; have := HK2.out; omega
      case rel => exact ⟨(y574), (wrap64 (x4_1 + 1)), rs, H', ⟨by have := HK1.out; have := HK2.out; omega⟩, ⟨by (with_reducible repeat (first | apply Kd.R_alloc | apply Kd.R_drewN | apply Kd.R_drew)); exact Kd.R_mono HO576.out (fun _ hk => trivial)⟩, ⟨bb HB⟩⟩
     rw [if_pos c22] at H
     have c22b0 : decide (x6_2 < (((rd_T47 l0 x4_1).f2).length : Int)) = true := decide_eq_true c22
     clear c22
     by_cases c23 : 0 ≤ x6_2
     rotate_left
     ·rw [if_neg c23] at H
      exact absurd H (by simp)
     rw [if_pos c23] at H
     have c23b0 : decide (0 ≤ x6_2) = true := decide_eq_true c23
     clear c23
     replace H := Option.bind_eq_some_iff.mp H
     obtain ⟨⟨t565, t566, t567, t568⟩, A240, H⟩ := H
     replace H : (if x562002_2.length < 2932031007402 then (r3_CopyRows.l1 k2 l0 x3_1 x4_1 (wrap64 (x6_2 + 1)) ((rd_T47 l0 x4_1).f0) ((rd_T47 l0 x4_1).f1) (x562002_2 ++ [(⟨t565, t566, t567, t568⟩ : S96)]) t554 t558) else (none)) = some r := H
     have A24 := Aside0.mk A240
     clear A240
     by_cases c25 : x562002_2.length < 2932031007402
     rotate_left
     ·rw [if_neg c25] at H
      exact absurd H (by simp)
     rw [if_pos c25] at H
     have LMc25 := Aside0.mk c25
     clear c25
     obtain ⟨y571, hy571⟩ : ∃ y_ : List (S96), y_ = (x562002_2 ++ [(⟨t565, t566, t567, t568⟩ : S96)]) := ⟨_, rfl⟩
     replace H : (r3_CopyRows.l1 k2 l0 x3_1 x4_1 (wrap64 (x6_2 + 1)) ((rd_T47 l0 x4_1).f0) ((rd_T47 l0 x4_1).f1) y571 t554 t558) = some r := by first | (rw [hy571]; with_reducible exact H) | (have H2_ := (Option.bind_some _ _).symm.trans H; rw [hy571]; with_reducible exact H2_) | (have H2_ := (Option.bind_some _ _).symm.trans H; with_reducible exact H2_) | with_reducible exact H | (rw [hy571]; exact H) | exact H
     have Ny571 := Aside0.mk hy571
     clear hy571
     have H' := Aside0.mk H
     clear H
     have p562 : 0 ≤ (x4_1 : Int) := od
     have q562 : x4_1 < (l0.length : Int) := od
     obtain ⟨ad562, A562_2, c562_2, A562_3, c562_3, A562_4, c562_4, e562, hx562_0, hx562_1, hx562_2, hx562_3, hx562_4, hl562_2, hi562_2, hl562_3, hi562_3, hl562_4, hi562_4⟩ := at_T47 HR0.out x4_1 p562 q562
     obtain rfl : ad551 = ad562 := (by injection e562)
     replace hx562_0 := bcell HB.out hx562_0
     replace hx562_1 := bcell HB.out hx562_1
     replace hx562_2 := bcell HB.out hx562_2
     replace hx562_3 := bcell HB.out hx562_3
     replace hx562_4 := bcell HB.out hx562_4
     have HR562_2 := Aside0.mk hi562_2
     have HC562_2 := Aside0.mk hl562_2
     clear hi562_2 hl562_2
     have HR562_3 := Aside0.mk hi562_3
     have HC562_3 := Aside0.mk hl562_3
     clear hi562_3 hl562_3
     have HR562_4 := Aside0.mk hi562_4
     have HC562_4 := Aside0.mk hl562_4
     clear hi562_4 hl562_4
     replace p562 := eq_true p562
     replace q562 := eq_true q562
     try go_wp2
     replace HO_3 := Aside0.mk (Kd.R_drew HO_3.out)
     replace HO_562002 := Aside0.mk (Kd.R_drew HO_562002.out)
     replace HO_562003 := Aside0.mk (Kd.R_drew HO_562003.out)
     replace HO_562004 := Aside0.mk (Kd.R_drew HO_562004.out)
     replace BK561 := Aside0.mk (kdr BK561.out)
     replace HB := Aside0.mk (bd1 HB.out)
     have p563 : 0 ≤ (x4_1 : Int) := od
     have q563 : x4_1 < (l0.length : Int) := od
     obtain ⟨ad563, A563_2, c563_2, A563_3, c563_3, A563_4, c563_4, e563, hx563_0, hx563_1, hx563_2, hx563_3, hx563_4, hl563_2, hi563_2, hl563_3, hi563_3, hl563_4, hi563_4⟩ := at_T47 HR0.out x4_1 p563 q563
     have hw563_4 := hx563_4
     have hw563_3 := hx563_3
     have hw563_2 := hx563_2
     have hw563_1 := hx563_1
     have hw563_0 := hx563_0
     obtain rfl : ad551 = ad563 := (by injection e563)
     replace hx563_0 := bcell HB.out hx563_0
     replace hx563_1 := bcell HB.out hx563_1
     replace hx563_2 := bcell HB.out hx563_2
     replace hx563_3 := bcell HB.out hx563_3
     replace hx563_4 := bcell HB.out hx563_4
     have HR563_2 := Aside0.mk hi563_2
     have HC563_2 := Aside0.mk hl563_2
     clear hi563_2 hl563_2
     have HR563_3 := Aside0.mk hi563_3
     have HC563_3 := Aside0.mk hl563_3
     clear hi563_3 hl563_3
     have HR563_4 := Aside0.mk hi563_4
     have HC563_4 := Aside0.mk hl563_4
     clear hi563_4 hl563_4
     replace p563 := eq_true p563
     replace q563 := eq_true q563
     have p564 : 0 ≤ (x6_2 : Int) := od
     have q564 : x6_2 < (((rd_T47 l0 x4_1).f2).length : Int) := od
     obtain ⟨ad564, A564_3, c564_3, e564, hx564_0, hx564_1, hx564_2, hx564_3, hl564_3, hi564_3⟩ := at_T96 HR563_2.out x6_2 p564 q564
     have hw564_3 := hx564_3
     have hw564_2 := hx564_2
     have hw564_1 := hx564_1
     have hw564_0 := hx564_0
     cases e564
     replace hx564_0 := bcell HB.out hx564_0
     replace hx564_1 := bcell HB.out hx564_1
     replace hx564_2 := bcell HB.out hx564_2
     replace hx564_3 := bcell HB.out hx564_3
     have HR564_3 := Aside0.mk hi564_3
     have HC564_3 := Aside0.mk hl564_3
     clear hi564_3 hl564_3
     replace p564 := eq_true p564
     replace q564 := eq_true q564
     refine start_ (n := 15) (S := fun w' => w'.cell? ⟨gb561, 0, none⟩ = some (.int .i64 ((rd_T47 l0 x4_1).f0)) ∧ w'.cell? ⟨gb561, 1, none⟩ = some (.int .i64 ((rd_T47 l0 x4_1).f1)) ∧ w'.cell? ⟨gb561, 2, none⟩ = some (u562002) ∧ w'.cell? ⟨gb561, 3, none⟩ = some (.slice Ao14 t554.length co14) ∧ w'.cell? ⟨gb561, 4, none⟩ = some (.slice Ao13 t558.length co13) ∧ w'.cell? (ad551.add ((x4_1).toNat * 5)) = some (.int .i64 ((rd_T47 l0 x4_1).f0)) ∧ w'.cell? ⟨(ad551.add ((x4_1).toNat * 5)).block, (ad551.add ((x4_1).toNat * 5)).off + 1, none⟩ = some (.int .i64 ((rd_T47 l0 x4_1).f1)) ∧ w'.cell? ⟨(ad551.add ((x4_1).toNat * 5)).block, (ad551.add ((x4_1).toNat * 5)).off + 2, none⟩ = some (.slice (some ad564) ((rd_T47 l0 x4_1).f2).length c563_2) ∧ w'.cell? ⟨(ad551.add ((x4_1).toNat * 5)).block, (ad551.add ((x4_1).toNat * 5)).off + 3, none⟩ = some (.slice A563_3 ((rd_T47 l0 x4_1).f3).length c563_3) ∧ w'.cell? ⟨(ad551.add ((x4_1).toNat * 5)).block, (ad551.add ((x4_1).toNat * 5)).off + 4, none⟩ = some (.slice A563_4 ((rd_T47 l0 x4_1).f4).length c563_4) ∧ w'.cell? (ad564.add ((x6_2).toNat * 4)) = some (.int .i64 ((rd_T96 ((rd_T47 l0 x4_1).f2) x6_2).f0)) ∧ w'.cell? ⟨(ad564.add ((x6_2).toNat * 4)).block, (ad564.add ((x6_2).toNat * 4)).off + 1, none⟩ = some (.int .i64 ((rd_T96 ((rd_T47 l0 x4_1).f2) x6_2).f1)) ∧ w'.cell? ⟨(ad564.add ((x6_2).toNat * 4)).block, (ad564.add ((x6_2).toNat * 4)).off + 2, none⟩ = some (.int .i64 ((rd_T96 ((rd_T47 l0 x4_1).f2) x6_2).f2)) ∧ w'.cell? ⟨(ad564.add ((x6_2).toNat * 4)).block, (ad564.add ((x6_2).toNat * 4)).off + 3, none⟩ = some (.slice A564_3 ((rd_T96 ((rd_T47 l0 x4_1).f2) x6_2).f3).length c564_3)) (ds := [14]) #[false, false, false, false, false, false, false, false, false, false, false, false, false, false, false] (by kernel_rfl) rfl rfl ⟨(blk_cell BK561.out 0).trans rfl, (blk_cell BK561.out 1).trans rfl, (blk_cell BK561.out 2).trans rfl, (blk_cell BK561.out 3).trans rfl, (blk_cell BK561.out 4).trans rfl, (bcell HB.out hw563_0), (bcell HB.out hw563_1), (bcell HB.out hw563_2), (bcell HB.out hw563_3), (bcell HB.out hw563_4), (bcell HB.out hw564_0), (bcell HB.out hw564_1), (bcell HB.out hw564_2), (bcell HB.out hw564_3)⟩ (fun hHeld => ?_); refine with_tabW r3_CopyRows.tab9 r3_CopyRows.bits9 (fun HT_ HW_ => ?_)
     generalize wr.drew = w26 at HO_3 HO_562002 HO_562003 HO_562004 BK561 HB HR563_2 HR563_3 HR563_4 HR564_3 hx563_0 hx563_1 hx563_2 hx563_3 hx563_4 hx564_0 hx564_1 hx564_2 hx564_3 hHeld ⊢
     refine pT 0 46 (bl 15 1) HT_ rfl rfl ?_
     refine pT 2 48 (bl 15 5) HT_ rfl rfl ?_
     refine pT 3 49 (bl 15 13) HT_ rfl rfl ?_
     refine pT 4 50 (bl 15 29) HT_ rfl rfl ?_
     refine pT 5 51 (bl 15 61) HT_ rfl rfl ?_
     refine pT 7 53 (bl 15 189) HT_ rfl rfl ?_
     refine tk (i := 1) (N := some 47) (bl 15 191) rfl rfl (take_ofW HT_.out HW_.out (by kernel_rfl)) hHeld ?_
     refine tk (i := 6) (N := some 52) (bl 15 255) rfl rfl (take_ofW HT_.out HW_.out (by kernel_rfl)) hHeld ?_
     refine pT 8 54 (bl 15 511) HT_ rfl rfl ?_
     refine tk (i := 9) (N := some 55) (bl 15 1023) rfl rfl (take_ofW HT_.out HW_.out (by kernel_rfl)) hHeld ?_
     refine one_ (i := 10) (N := some 56) (bl 15 2047) rfl rfl (one_of HT_.out (by kernel_rfl)) (by decide) (fun K hK => ?_)
     refine gO Try.func82 #[.agg #[.int .i64 ((rd_T96 ((rd_T47 l0 x4_1).f2) x6_2).f0), .int .i64 ((rd_T96 ((rd_T47 l0 x4_1).f2) x6_2).f1), .int .i64 ((rd_T96 ((rd_T47 l0 x4_1).f2) x6_2).f2), .slice A564_3 ((rd_T96 ((rd_T47 l0 x4_1).f2) x6_2).f3).length c564_3]] (by rfl) rfl rfl ?_
     with_reducible refine (r2_Copy.calls k2 ((rd_T96 ((rd_T47 l0 x4_1).f2) x6_2).f0) ((rd_T96 ((rd_T47 l0 x4_1).f2) x6_2).f1) ((rd_T96 ((rd_T47 l0 x4_1).f2) x6_2).f2) _ _ ((rd_T96 ((rd_T47 l0 x4_1).f2) x6_2).f3) t565 t566 t567 t568 _ ?side1 ?side2 A24.out).mono ?_
     (case side1 => exact cb HR564_3 HB)
     (case side2 => exact HC564_3.out)
     rintro e w27 ⟨v569, rfl, ho0, hb⟩
     refine ⟨_, rfl, ?_⟩
     have HO570 := Aside0.mk (Kd.R_lower (Kd.R_new' ho0 (Kd.R_lt (iR HO_562002))) (bsz (bb HB)))
     replace HO_3 := Aside0.mk (Kd.R_elder' (iR HO_3) (Kd.R_base ho0) hb)
     replace HO_562002 := Aside0.mk (Kd.R_elder' (iR HO_562002) (Kd.R_base ho0) hb)
     replace HO_562003 := Aside0.mk (Kd.R_elder' (iR HO_562003) (Kd.R_base ho0) hb)
     replace HO_562004 := Aside0.mk (Kd.R_elder' (iR HO_562004) (Kd.R_base ho0) hb)
     replace BK561 := kb BK561 hb
     replace HB := sb HB hb
     (try clear hb)
     (try clear hb2)
     (try clear hk)
     (try clear hi)
     (try clear ho0)
     obtain ⟨Ao29, co29, eo29⟩ := Kd.R_slice HO570.out
     (first | subst eo29 | (injection eo29 with f1_ f2_ f3_; have f4_ := f1_.symm; have f5_ := f3_.symm; clear f1_ f2_ f3_; subst f4_; subst f5_))
     refine hK.out _ _ ⟨(blk_cell BK561.out 0).trans rfl, (blk_cell BK561.out 1).trans rfl, (blk_cell BK561.out 2).trans rfl, (blk_cell BK561.out 3).trans rfl, (blk_cell BK561.out 4).trans rfl, (bcell HB.out hw563_0), (bcell HB.out hw563_1), (bcell HB.out hw563_2), (bcell HB.out hw563_3), (bcell HB.out hw563_4), (bcell HB.out hw564_0), (bcell HB.out hw564_1), (bcell HB.out hw564_2), (bcell HB.out hw564_3)⟩ (fun hHeld => ?_)
     clear hK K
     refine nm 56 ?_
     refine one_ (i := 11) (N := some 57) (bl 15 4095) rfl rfl (one_of HT_.out (by kernel_rfl)) (by decide) (fun K hK => ?_)
     refine value_ (w1 := ?_) (v := ?_) (by rfl) rfl ?_ ?_
     rotate_left 2
     ·go_simp
      constructor
      ·rfl
      ·rfl
     refine hK.out _ _ ⟨(blk_cell (kal BK561.out _) 0).trans rfl, (blk_cell (kal BK561.out _) 1).trans rfl, (blk_cell (kal BK561.out _) 2).trans rfl, (blk_cell (kal BK561.out _) 3).trans rfl, (blk_cell (kal BK561.out _) 4).trans rfl, (World.cell?_alloc_lt _ _ _ (World.block_lt_of_cell? _ _ ((bcell HB.out hw563_0)))).trans ((bcell HB.out hw563_0)), (World.cell?_alloc_lt _ _ _ (World.block_lt_of_cell? _ _ ((bcell HB.out hw563_1)))).trans ((bcell HB.out hw563_1)), (World.cell?_alloc_lt _ _ _ (World.block_lt_of_cell? _ _ ((bcell HB.out hw563_2)))).trans ((bcell HB.out hw563_2)), (World.cell?_alloc_lt _ _ _ (World.block_lt_of_cell? _ _ ((bcell HB.out hw563_3)))).trans ((bcell HB.out hw563_3)), (World.cell?_alloc_lt _ _ _ (World.block_lt_of_cell? _ _ ((bcell HB.out hw563_4)))).trans ((bcell HB.out hw563_4)), (World.cell?_alloc_lt _ _ _ (World.block_lt_of_cell? _ _ ((bcell HB.out hw564_0)))).trans ((bcell HB.out hw564_0)), (World.cell?_alloc_lt _ _ _ (World.block_lt_of_cell? _ _ ((bcell HB.out hw564_1)))).trans ((bcell HB.out hw564_1)), (World.cell?_alloc_lt _ _ _ (World.block_lt_of_cell? _ _ ((bcell HB.out hw564_2)))).trans ((bcell HB.out hw564_2)), (World.cell?_alloc_lt _ _ _ (World.block_lt_of_cell? _ _ ((bcell HB.out hw564_3)))).trans ((bcell HB.out hw564_3))⟩ (fun hHeld => ?_)
     clear hK K
     refine nm 57 ?_
     refine one_ (i := 12) (N := some 58) (bl 15 8191) rfl rfl (one_of HT_.out (by kernel_rfl)) (by decide) (fun K hK => ?_)
     refine Kd.R_append_step k96 (w0 := w) w.heap.size (by rfl) (.tmp 47) (.tmp 57) 45 96 (.agg #[(.int .i64 0), (.int .i64 0), (.int .i64 0), (.slice none 0 0)]) 48 rfl Try.underlying45 info96 rfl (by decide) (by omega) u562002 x562002_2 (⟨t565, t566, t567, t568⟩ : S96) [.int .i64 t565, .int .i64 t566, .int .i64 t567, .slice Ao29 t568.length co29] (fun _ => True) (fun k_ => ((fun _ => True)) k_ ∧ some k_ ≠ (u562002 : Value).ownBlock) rfl rfl ?aP (fun _ hk => hk) ?aF ?aO ?aB ?aS ?aL ?_
     (case aP => exact k96_mkM _ _ _ (⟨t565, t566, t567, t568⟩ : S96) (Kd.R_mono (HO570.out) (fun k_ hk => ⟨trivial, hk.2⟩)))
     (case aB => exact (bb HB))
     (case aF => exact (fun _ _ => trivial))
     (case aO => exact (by (with_reducible repeat (first | apply Kd.R_alloc | apply Kd.R_drewN | apply Kd.R_drew)); exact Kd.R_mono HO_562002.out (fun _ hk => trivial)))
     (case aS => exact (bsz (bb HB)))
     (case aL => have := LMc25.out; omega)
     intro v572 w28 ho hb hg hat
     rw [← Ny571.out] at ho
     have HO573 := Aside0.mk (ho)
     replace HO_3 := Aside0.mk (Kd.R_after (ok := (fun k_ => some k_ ≠ (.slice Ao14 t554.length co14 : Value).ownBlock ∧ some k_ ≠ (.slice Ao13 t558.length co13 : Value).ownBlock ∧ some k_ ≠ (.slice Ao29 t568.length co29 : Value).ownBlock ∧ k_ ≠ gb561)) (by (with_reducible repeat (first | apply Kd.R_alloc | apply Kd.R_drewN | apply Kd.R_drew)); exact Kd.R_mono HO_3.out (fun _ hk => ⟨⟨hk.1.2.1, ⟨hk.1.2.2.1, ⟨hk.2, hk.1.2.2.2⟩⟩⟩, hk.1.1⟩)) hg hat)
     replace HO_562003 := Aside0.mk (Kd.R_after (ok := (fun k_ => some k_ ≠ (u3 : Value).ownBlock ∧ some k_ ≠ (.slice Ao13 t558.length co13 : Value).ownBlock ∧ some k_ ≠ (.slice Ao29 t568.length co29 : Value).ownBlock ∧ k_ ≠ gb561)) (by (with_reducible repeat (first | apply Kd.R_alloc | apply Kd.R_drewN | apply Kd.R_drew)); exact Kd.R_mono HO_562003.out (fun _ hk => ⟨⟨hk.1.1, ⟨hk.1.2.2.1, ⟨hk.2, hk.1.2.2.2⟩⟩⟩, hk.1.2.1⟩)) hg hat)
     replace HO_562004 := Aside0.mk (Kd.R_after (ok := (fun k_ => some k_ ≠ (u3 : Value).ownBlock ∧ some k_ ≠ (.slice Ao14 t554.length co14 : Value).ownBlock ∧ some k_ ≠ (.slice Ao29 t568.length co29 : Value).ownBlock ∧ k_ ≠ gb561)) (by (with_reducible repeat (first | apply Kd.R_alloc | apply Kd.R_drewN | apply Kd.R_drew)); exact Kd.R_mono HO_562004.out (fun _ hk => ⟨⟨hk.1.1, ⟨hk.1.2.2.1, ⟨hk.2, hk.1.2.2.2⟩⟩⟩, hk.1.2.1⟩)) hg hat)
     replace BK561 := Aside0.mk (blk_grown (kk BK561) hg (Kd.R_ne HO_562002.out BK561.out (by decide)))
     replace HB := Aside0.mk (hb)
     clear HO_562002 HO570
     clear ho hb hg hat
     obtain ⟨Ao30, co30, eo30⟩ := Kd.R_slice HO573.out
     (first | subst eo30 | (injection eo30 with f1_ f2_ f3_; have f4_ := f1_.symm; have f5_ := f3_.symm; clear f1_ f2_ f3_; subst f4_; subst f5_))
     refine hK.out _ _ ⟨(blk_cell BK561.out 0).trans rfl, (blk_cell BK561.out 1).trans rfl, (blk_cell BK561.out 2).trans rfl, (blk_cell BK561.out 3).trans rfl, (blk_cell BK561.out 4).trans rfl, (bcell HB.out hw563_0), (bcell HB.out hw563_1), (bcell HB.out hw563_2), (bcell HB.out hw563_3), (bcell HB.out hw563_4), (bcell HB.out hw564_0), (bcell HB.out hw564_1), (bcell HB.out hw564_2), (bcell HB.out hw564_3)⟩ (fun hHeld => ?_)
     clear hK K
     refine nm 58 ?_
     refine pT 13 59 (bl 15 16383) HT_ rfl rfl ?_
     refine last_ (i := 14) (N := none) (bl 15 32767) rfl rfl (one_of HT_.out (by kernel_rfl)) (by decide) (fun K hK => ?_)
     have hs31 : w28.cell? ⟨gb561, 2, none⟩ = some (u562002) := (blk_cell BK561.out 2).trans rfl
     have hfs31 := blk_frozen BK561.out 2
     refine skip_ (w1 := ?_) (by rfl) rfl ?_ ?_
     rotate_left
     ·go_simp
      rfl
     refine hK.out _ _ ?_
     clear hK K
     refine done_ (done_of HT_.out (by kernel_rfl)) ?_
     try go_wp2
     go_roundg k2
     case measure => have := HK1.out; have := HK2.out; omega
     case rel => exact ⟨(wrap64 (x6_2 + 1)), (y571), (.slice Ao30 y571.length co30), rs, H', ⟨by have := HK1.out; have := HK2.out; omega⟩, ⟨by (with_reducible repeat (first | apply Kd.R_alloc | apply Kd.R_drewN | apply Kd.R_drew)); exact Kd.R_mono (Kd.R_far (p := ⟨gb561, 2, none⟩) (Kd.R_mono HO_3.out (fun k_ hk => (⟨hk, hk.1.2.2.2⟩ : _ ∧ k_ ≠ gb561))) (fun _ hk => hk.2) (.slice Ao30 y571.length co30)) (fun _ hk => ⟨hk.1.2, ⟨hk.1.1.1, ⟨hk.1.1.2.1, hk.1.1.2.2.2⟩⟩⟩)⟩, ⟨by (with_reducible repeat (first | apply Kd.R_alloc | apply Kd.R_drewN | apply Kd.R_drew)); exact Kd.R_mono (Kd.R_far (p := ⟨gb561, 2, none⟩) (Kd.R_types HO573.out BK561.out (by decide)) (fun _ hk => hk.2) (.slice Ao30 y571.length co30)) (fun _ hk => trivial)⟩, ⟨by (with_reducible repeat (first | apply Kd.R_alloc | apply Kd.R_drewN | apply Kd.R_drew)); exact Kd.R_mono (Kd.R_far (p := ⟨gb561, 2, none⟩) (Kd.R_mono HO_562003.out (fun k_ hk => (⟨hk, hk.1.2.2.2⟩ : _ ∧ k_ ≠ gb561))) (fun _ hk => hk.2) (.slice Ao30 y571.length co30)) (fun _ hk => ⟨hk.1.1.1, ⟨hk.1.2, ⟨hk.1.1.2.1, hk.1.1.2.2.2⟩⟩⟩)⟩, ⟨by (with_reducible repeat (first | apply Kd.R_alloc | apply Kd.R_drewN | apply Kd.R_drew)); exact Kd.R_mono (Kd.R_far (p := ⟨gb561, 2, none⟩) (Kd.R_mono HO_562004.out (fun k_ hk => (⟨hk, hk.1.2.2.2⟩ : _ ∧ k_ ≠ gb561))) (fun _ hk => hk.2) (.slice Ao30 y571.length co30)) (fun _ hk => ⟨hk.1.1.1, ⟨hk.1.2, ⟨hk.1.1.2.1, hk.1.1.2.2.2⟩⟩⟩)⟩, ⟨by (with_reducible repeat (first | refine kdN ?_ _ | refine kdr ?_ | refine kal ?_ _)); refine blk_put (cs := #[.int .i64 ((rd_T47 l0 x4_1).f0), .int .i64 ((rd_T47 l0 x4_1).f1), u562002, .slice Ao14 t554.length co14, .slice Ao13 t558.length co13]) ?_ 2 _ rfl; (with_reducible repeat (first | refine kdN ?_ _ | refine kdr ?_ | refine kal ?_ _)); exact BK561.out⟩, ⟨bb HB⟩⟩
def r3_Copy.l0 : Nat → Int → Int → List (S82) → List (S47) → Int → List (S82) → List (S47) → Option (Int × (List (S82)) × (List (S47)))
 | 0, _, _, _, _, _, _, _ => none
 | k + 1, x4, x578000, x578001, x578002, x583000, x583001, x583002 => if x4 < (x578001.length : Int) then (if 0 ≤ x4 then (if x583001.length < 4398046511104 then (r3_Copy.l0 k (wrap64 (x4 + 1)) x578000 x578001 x578002 x583000 (x583001 ++ [(⟨(rd_T82 x578001 x4).f0, (rd_T82 x578001 x4).f1, (rd_T82 x578001 x4).f2⟩ : S82)]) x583002) else (none)) else (none)) else (some (x583000, x583001, x583002))
def r3_Copy.f (k : Nat) (a0_0 : Int) (l0_1 : List (S82)) (l0_2 : List (S47)) : Option (Int × (List (S82)) × (List (S47))) := (r3_CopyRows.f k l0_2).bind fun t579 => (r3_Copy.l0 k 0 a0_0 l0_1 l0_2 a0_0 ([] : List (S82)) t579)
def r3_Copy.T1 : Bool × List (List Nat × List Nat) := (true, [([], []), ([0], [0]), ([], []), ([2], [2]), ([3], [3]), ([1, 4], [1, 4]), ([], []), ([6, 5, 4, 0, 1, 2, 3, 4, 5, 6], [5, 6])])
def r3_Copy.B1 : List Nat := [0, 1, 0, 4, 12, 31, 0, 127]
theorem r3_Copy.tab1 : rtab .any (opsOf Try.f36 1) = r3_Copy.T1 := by kernel_rfl
theorem r3_Copy.bits1 : waitsOk r3_Copy.T1.2 r3_Copy.B1 = true := by kernel_rfl
def r3_Copy.T5 : Bool × List (List Nat × List Nat) := (true, [([], []), ([0], [0]), ([], []), ([2], [2]), ([], []), ([3, 4], [3, 4]), ([5], [5]), ([6], [6]), ([1, 7], [1, 7]), ([0, 1, 2, 3, 4, 5, 6, 7, 8], []), ([9, 8, 8, 0, 1, 2, 3, 4, 5, 6, 7, 8], [8, 9])])
def r3_Copy.B5 : List Nat := [0, 1, 0, 4, 0, 28, 60, 124, 255, 511, 1023]
theorem r3_Copy.tab5 : rtab .any (opsOf Try.f36 5) = r3_Copy.T5 := by kernel_rfl
theorem r3_Copy.bits5 : waitsOk r3_Copy.T5.2 r3_Copy.B5 = true := by kernel_rfl
theorem r3_Copy.calls (k : Nat) (a0_0 : Int) (A0_1 : Option Addr) (c0_1 : Nat) (l0_1 : List (S82)) (A0_2 : Option Addr) (c0_2 : Nat) (l0_2 : List (S47)) (r1 : Int) (r2 : List (S82)) (r3 : List (S47)) (w : World) (hr0_1 : Kd.C k82 w A0_1 l0_1.length l0_1) (hc0_1 : l0_1.length ≤ c0_1) (hr0_2 : Kd.C k47 w A0_2 l0_2.length l0_2) (hc0_2 : l0_2.length ≤ c0_2) (h : r3_Copy.f k a0_0 l0_1 l0_2 = some (r1, r2, r3)) :
  Calls Try.prog 36 #[.agg #[.int .i64 a0_0, .slice A0_1 l0_1.length c0_1, .slice A0_2 l0_2.length c0_2]] w fun e w' => ∃ v1_ v2_ : Value, e = .returned (.agg #[.int .i64 r1, v1_, v2_]) ∧ Kd.R k82 82 w' w.heap.size (fun _ => True) v1_ r2 ∧ Kd.R k47 47 w' w.heap.size (fun _ => True) v2_ r3 ∧ Below w.heap.size w w' := by
 have hu25 := Try.underlying25
 have hu82 := Try.underlying82
 have HR0_1 := Aside0.mk hr0_1
 have HC0_1 := Aside0.mk hc0_1
 clear hr0_1 hc0_1
 have HR0_2 := Aside0.mk hr0_2
 have HC0_2 := Aside0.mk hc0_2
 clear hr0_2 hc0_2
 have HB := Aside0.mk (Below.refl w.heap.size w)
 have H : ((r3_CopyRows.f k l0_2).bind fun t579 => (r3_Copy.l0 k 0 a0_0 l0_1 l0_2 a0_0 ([] : List (S82)) t579)) = some (r1, r2, r3) := h
 clear h
 obtain ⟨t579, A2, H⟩ := be H
 have H' := Aside0.mk H
 clear H
 go_enter Try.func36, Try.ntmps36
 try go_wp2_with (first | ((with_reducible refine gate_dst (N := 1) rfl ?_); refine bx 1 rfl rfl #[.int .i64 a0_0, .slice A0_1 l0_1.length c0_1, .slice A0_2 l0_2.length c0_2] 25 ?_; intro gb577 hg w3 hbox hb; have BK577 := Aside0.mk (hbox); have GE577 := ge HB hg; replace HB := sb HB hb; clear hb hbox hg) | ((with_reducible refine gate_dst (N := 2) rfl ?_); refine bx 2 rfl rfl #[.int .i64 0, .slice none 0 0, .slice none 0 0] 25 ?_; intro gb578 hg w4 hbox hb; have BK578 := Aside0.mk (hbox); have GE578 := ge HB hg; have NB577_578 := Aside0.mk ((by rw [hg]; exact Nat.ne_of_lt (blk_lt (kk BK577)) : gb577 ≠ gb578)); have NB578_577 := Aside0.mk ((by rw [hg]; exact Nat.ne_of_gt (blk_lt (kk BK577)) : gb578 ≠ gb577)); replace BK577 := kb BK577 hb; replace HB := sb HB hb; clear hb hbox hg))
 replace BK577 := Aside0.mk (kdr BK577.out)
 replace BK578 := Aside0.mk (kdr BK578.out)
 replace HB := Aside0.mk (bd1 HB.out)
 refine start_ (n := 8) (S := fun w' => w'.cell? ⟨gb577, 0, none⟩ = some (.int .i64 a0_0) ∧ w'.cell? ⟨gb577, 1, none⟩ = some (.slice A0_1 l0_1.length c0_1) ∧ w'.cell? ⟨gb577, 2, none⟩ = some (.slice A0_2 l0_2.length c0_2)) (ds := []) #[false, false, false, false, false, false, false, false] (by kernel_rfl) rfl rfl ⟨(blk_cell BK577.out 0).trans rfl, (blk_cell BK577.out 1).trans rfl, (blk_cell BK577.out 2).trans rfl⟩ (fun hHeld => ?_); refine with_tabW r3_Copy.tab1 r3_Copy.bits1 (fun HT_ HW_ => ?_)
 generalize w4.drew = w5 at BK577 BK578 HB hHeld ⊢
 refine pT 0 5 (bl 8 1) HT_ rfl rfl ?_
 refine pT 2 7 (bl 8 5) HT_ rfl rfl ?_
 refine tk (i := 1) (N := some 6) (bl 8 7) rfl rfl (take_ofW HT_.out HW_.out (by kernel_rfl)) hHeld ?_
 refine tk (i := 3) (N := some 8) (bl 8 15) rfl rfl (take_ofW HT_.out HW_.out (by kernel_rfl)) hHeld ?_
 refine join_ (σ := Value × Nat) 1 #[true, true, true, true, true, true, true, false] (fun s_ => [(9, s_.1), (3, .pointer (some ⟨s_.2, 0, none⟩)), (10, .agg #[.int .i64 a0_0, .slice none 0 0, s_.1])]) (fun s_ w' => (w'.cell? ⟨gb577, 0, none⟩ = some (.int .i64 a0_0) ∧ w'.cell? ⟨gb577, 1, none⟩ = some (.slice A0_1 l0_1.length c0_1) ∧ w'.cell? ⟨gb577, 2, none⟩ = some (.slice A0_2 l0_2.length c0_2)) ∧ (Kd.R k47 47 w' w.heap.size (fun _ => True) s_.1 t579) ∧ (w'.heap[gb577]? = some (.cells #[.int .i64 a0_0, .slice A0_1 l0_1.length c0_1, .slice A0_2 l0_2.length c0_2] 25 (0, 0))) ∧ (w'.heap[gb578]? = some (.cells #[.int .i64 0, .slice none 0 0, .slice none 0 0] 25 (0, 0))) ∧ (w'.heap[s_.2]? = some (.cells #[.int .i64 0, .slice none 0 0, .slice none 0 0] 25 (0, 0))) ∧ (w.heap.size ≤ s_.2) ∧ (w.heap.size ≤ s_.2) ∧ (gb577 ≠ s_.2) ∧ (s_.2 ≠ gb577) ∧ (gb578 ≠ s_.2) ∧ (s_.2 ≠ gb578) ∧ (Below w.heap.size w w')) ?_ ?_
 rotate_left
 ·intro hCont
  refine two_ (i := 4) (j := 6) (Ni := some 9) (Nj := some 3) #[true, true, true, true, true, false, false, false] #[true, true, true, true, false, false, true, false] rfl rfl rfl rfl (two_of HT_.out (by kernel_rfl)) (by decide) (by decide) (fun K hK => ?_) (fun K hK => ?_)
  ·skip
   refine gO Try.func63 #[.slice A0_2 l0_2.length c0_2] (by rfl) rfl rfl ?_
   with_reducible refine (r3_CopyRows.calls k _ _ l0_2 t579 _ ?side1 ?side2 A2.out).mono ?_
   (case side1 => exact cb HR0_2 HB)
   (case side2 => exact HC0_2.out)
   rintro e w6 ⟨v580, rfl, ho0, hb⟩
   refine ⟨_, rfl, ?_⟩
   have HO581 := Aside0.mk (Kd.R_lower ho0 (bsz (bb HB)))
   replace BK577 := kb BK577 hb
   replace BK578 := kb BK578 hb
   replace HB := sb HB hb
   (try clear hb)
   (try clear hb2)
   (try clear hk)
   (try clear hi)
   (try clear ho0)
   obtain ⟨Ao7, co7, eo7⟩ := Kd.R_slice HO581.out
   (first | subst eo7 | (injection eo7 with f1_ f2_ f3_; have f4_ := f1_.symm; have f5_ := f3_.symm; clear f1_ f2_ f3_; subst f4_; subst f5_))
   refine hK.out _ _ ⟨(blk_cell BK577.out 0).trans rfl, (blk_cell BK577.out 1).trans rfl, (blk_cell BK577.out 2).trans rfl⟩ (fun hHeld => ?_)
   clear hK K
   refine nm 9 ?_
   refine pT 5 10 (bl 8 63) HT_ rfl rfl ?_
   refine one_ (i := 6) (N := some 3) (bl 8 127) rfl rfl (one_of HT_.out (by kernel_rfl)) (by decide) (fun K hK => ?_)
   refine box_step ?hg (N := 3) ?hd (cs := #[.int .i64 0, .slice none 0 0, .slice none 0 0]) (t := 25) ?hr ?_; (case hd => rfl); (case hg => rfl); (case hr => first | (go_simp; done) | (go_simp; rfl))
   intro gb582 hg w8 hbox hb
   have BK582 := Aside0.mk (hbox)
   have GW582 := ge HB hg
   have GE582 := ge HB hg
   have NB577_582 := Aside0.mk ((by rw [hg]; exact Nat.ne_of_lt (blk_lt (kk BK577)) : gb577 ≠ gb582))
   have NB582_577 := Aside0.mk ((by rw [hg]; exact Nat.ne_of_gt (blk_lt (kk BK577)) : gb582 ≠ gb577))
   have NB578_582 := Aside0.mk ((by rw [hg]; exact Nat.ne_of_lt (blk_lt (kk BK578)) : gb578 ≠ gb582))
   have NB582_578 := Aside0.mk ((by rw [hg]; exact Nat.ne_of_gt (blk_lt (kk BK578)) : gb582 ≠ gb578))
   replace HO581 := Aside0.mk (Kd.R_below (iR HO581) hb)
   replace BK577 := kb BK577 hb
   replace BK578 := kb BK578 hb
   replace HB := sb HB hb
   clear hb hbox hg
   refine hK.out _ _ ⟨(blk_cell BK577.out 0).trans rfl, (blk_cell BK577.out 1).trans rfl, (blk_cell BK577.out 2).trans rfl⟩ (fun hHeld => ?_)
   clear hK K
   refine nm 3 ?_
   exact norm_ (by simp only [putAll, Act.put, List.setIfInBounds_toArray, List.set_cons_zero, List.set_cons_succ]) (hCont (.slice Ao7 t579.length co7, gb582) _ ⟨hHeld, (iR HO581), (kk BK577), (kk BK578), (kk BK582), GW582.out, GE582.out, NB577_582.out, NB582_577.out, NB578_582.out, NB582_578.out, (bb HB)⟩)
  ·skip
   refine box_step ?hg (N := 3) ?hd (cs := #[.int .i64 0, .slice none 0 0, .slice none 0 0]) (t := 25) ?hr ?_; (case hd => rfl); (case hg => rfl); (case hr => first | (go_simp; done) | (go_simp; rfl))
   intro gb582 hg w6 hbox hb
   have BK582 := Aside0.mk (hbox)
   have GW582 := ge HB hg
   have GE582 := ge HB hg
   have NB577_582 := Aside0.mk ((by rw [hg]; exact Nat.ne_of_lt (blk_lt (kk BK577)) : gb577 ≠ gb582))
   have NB582_577 := Aside0.mk ((by rw [hg]; exact Nat.ne_of_gt (blk_lt (kk BK577)) : gb582 ≠ gb577))
   have NB578_582 := Aside0.mk ((by rw [hg]; exact Nat.ne_of_lt (blk_lt (kk BK578)) : gb578 ≠ gb582))
   have NB582_578 := Aside0.mk ((by rw [hg]; exact Nat.ne_of_gt (blk_lt (kk BK578)) : gb582 ≠ gb578))
   replace BK577 := kb BK577 hb
   replace BK578 := kb BK578 hb
   replace HB := sb HB hb
   clear hb hbox hg
   refine hK.out _ _ ⟨(blk_cell BK577.out 0).trans rfl, (blk_cell BK577.out 1).trans rfl, (blk_cell BK577.out 2).trans rfl⟩ (fun hHeld => ?_)
   clear hK K
   refine nm 3 ?_
   refine one_ (i := 4) (N := some 9) (bl 8 95) rfl rfl (one_of HT_.out (by kernel_rfl)) (by decide) (fun K hK => ?_)
   refine gO Try.func63 #[.slice A0_2 l0_2.length c0_2] (by rfl) rfl rfl ?_
   with_reducible refine (r3_CopyRows.calls k _ _ l0_2 t579 _ ?side1 ?side2 A2.out).mono ?_
   (case side1 => exact cb HR0_2 HB)
   (case side2 => exact HC0_2.out)
   rintro e w7 ⟨v580, rfl, ho0, hb⟩
   refine ⟨_, rfl, ?_⟩
   have HO581 := Aside0.mk (Kd.R_lower ho0 (bsz (bb HB)))
   replace BK577 := kb BK577 hb
   replace BK578 := kb BK578 hb
   replace BK582 := kb BK582 hb
   replace HB := sb HB hb
   (try clear hb)
   (try clear hb2)
   (try clear hk)
   (try clear hi)
   (try clear ho0)
   obtain ⟨Ao8, co8, eo8⟩ := Kd.R_slice HO581.out
   (first | subst eo8 | (injection eo8 with f1_ f2_ f3_; have f4_ := f1_.symm; have f5_ := f3_.symm; clear f1_ f2_ f3_; subst f4_; subst f5_))
   refine hK.out _ _ ⟨(blk_cell BK577.out 0).trans rfl, (blk_cell BK577.out 1).trans rfl, (blk_cell BK577.out 2).trans rfl⟩ (fun hHeld => ?_)
   clear hK K
   refine nm 9 ?_
   refine pT 5 10 (bl 8 127) HT_ rfl rfl ?_
   exact norm_ (by simp only [putAll, Act.put, List.setIfInBounds_toArray, List.set_cons_zero, List.set_cons_succ]) (hCont (.slice Ao8 t579.length co8, gb582) _ ⟨hHeld, (iR HO581), (kk BK577), (kk BK578), (kk BK582), GW582.out, GE582.out, NB577_582.out, NB582_577.out, NB578_582.out, NB582_578.out, (bb HB)⟩)
 rintro ⟨v580, gb582⟩ w9 ⟨hS_, h0_, h1_, h2_, h3_, h4_, h5_, h6_, h7_, h8_, h9_, h10_⟩
 have n0_ : Aside0 (Kd.R k47 47 w9 w.heap.size (fun _ => True) v580 t579) := ⟨h0_⟩
 have n1_ : Aside0 (w9.heap[gb577]? = some (.cells #[.int .i64 a0_0, .slice A0_1 l0_1.length c0_1, .slice A0_2 l0_2.length c0_2] 25 (0, 0))) := ⟨h1_⟩
 have n2_ : Aside0 (w9.heap[gb578]? = some (.cells #[.int .i64 0, .slice none 0 0, .slice none 0 0] 25 (0, 0))) := ⟨h2_⟩
 have n3_ : Aside0 (w9.heap[gb582]? = some (.cells #[.int .i64 0, .slice none 0 0, .slice none 0 0] 25 (0, 0))) := ⟨h3_⟩
 have n4_ : Aside0 (w.heap.size ≤ gb582) := ⟨h4_⟩
 have n5_ : Aside0 (w.heap.size ≤ gb582) := ⟨h5_⟩
 have n6_ : Aside0 (gb577 ≠ gb582) := ⟨h6_⟩
 have n7_ : Aside0 (gb582 ≠ gb577) := ⟨h7_⟩
 have n8_ : Aside0 (gb578 ≠ gb582) := ⟨h8_⟩
 have n9_ : Aside0 (gb582 ≠ gb578) := ⟨h9_⟩
 have n10_ : Aside0 (Below w.heap.size w w9) := ⟨h10_⟩
 clear BK577
 clear BK578
 clear HB
 clear h0_ h1_ h2_ h3_ h4_ h5_ h6_ h7_ h8_ h9_ h10_
 have HO581 := n0_
 have BK577 := n1_
 have BK578 := n2_
 have BK582 := n3_
 have GW582 := n4_
 have GE582 := n5_
 have NB577_582 := n6_
 have NB582_577 := n7_
 have NB578_582 := n8_
 have NB582_578 := n9_
 have HB := n10_
 clear n0_ n1_ n2_ n3_ n4_ n5_ n6_ n7_ n8_ n9_ n10_
 have hHeld : w9.cell? ⟨gb577, 0, none⟩ = some (.int .i64 a0_0) ∧ w9.cell? ⟨gb577, 1, none⟩ = some (.slice A0_1 l0_1.length c0_1) ∧ w9.cell? ⟨gb577, 2, none⟩ = some (.slice A0_2 l0_2.length c0_2) := hS_
 obtain ⟨Ao10, co10, eo10⟩ := Kd.R_slice HO581.out
 (first | subst eo10 | (injection eo10 with f1_ f2_ f3_; have f4_ := f1_.symm; have f5_ := f3_.symm; clear f1_ f2_ f3_; subst f4_; subst f5_))
 refine norm_ (a' := ?_) ?_ ?_
 rotate_left
 ·simp only [putAll, Act.put, List.setIfInBounds_toArray, List.set_cons_zero, List.set_cons_succ]
  rfl
 refine one_ (i := 7) (N := none) (bl 8 255) rfl rfl (one_of HT_.out (by kernel_rfl)) (by decide) (fun K hK => ?_)
 have hs11 : w9.cell? ⟨gb582, 0, none⟩ = some (.int .i64 0) := (blk_cell BK582.out 0).trans rfl
 have hfs11 := blk_frozen BK582.out 0
 have hns11_0 := NB577_582.out
 have hns11_1 := NB578_582.out
 have hms11_0 := NB582_577.out
 have hms11_1 := NB582_578.out
 have hs12 : w9.cell? ⟨gb582, 1, none⟩ = some (.slice none 0 0) := (blk_cell BK582.out 1).trans rfl
 have hfs12 := blk_frozen BK582.out 1
 have hns12_0 := NB577_582.out
 have hns12_1 := NB578_582.out
 have hms12_0 := NB582_577.out
 have hms12_1 := NB582_578.out
 have hs13 : w9.cell? ⟨gb582, 2, none⟩ = some (.slice none 0 0) := (blk_cell BK582.out 2).trans rfl
 have hfs13 := blk_frozen BK582.out 2
 have hns13_0 := NB577_582.out
 have hns13_1 := NB578_582.out
 have hms13_0 := NB582_577.out
 have hms13_1 := NB582_578.out
 refine skip_ (w1 := ?_) (by rfl) rfl ?_ ?_
 rotate_left
 ·go_simp
  rfl
 refine hK.out _ _ ⟨((cell_far (p := ⟨gb582, _, none⟩) NB577_582.out _).trans (((cell_far (p := ⟨gb582, _, none⟩) NB577_582.out _).trans (((cell_far (p := ⟨gb582, _, none⟩) NB577_582.out _).trans (hHeld.1)))))), ((cell_far (p := ⟨gb582, _, none⟩) NB577_582.out _).trans (((cell_far (p := ⟨gb582, _, none⟩) NB577_582.out _).trans (((cell_far (p := ⟨gb582, _, none⟩) NB577_582.out _).trans (hHeld.2.1)))))), ((cell_far (p := ⟨gb582, _, none⟩) NB577_582.out _).trans (((cell_far (p := ⟨gb582, _, none⟩) NB577_582.out _).trans (((cell_far (p := ⟨gb582, _, none⟩) NB577_582.out _).trans (hHeld.2.2))))))⟩ (fun hHeld => ?_)
 clear hK K
 refine done_ (done_of HT_.out (by kernel_rfl)) ?_
 try go_wp2
 go_loopg [4] k (fun kq v4 w' => ∃ (x4_1 : Int) (x583001_1 : List (S82)) (u583001 : Value), v4 = .int .i64 x4_1 ∧ Aside0 (r3_Copy.l0 kq x4_1 a0_0 l0_1 l0_2 a0_0 x583001_1 t579 = some (r1, r2, r3)) ∧ Aside0 (kq ≤ k) ∧ Aside0 (Kd.R k82 82 w' w.heap.size (fun _ => True) u583001 x583001_1) ∧ Aside0 (Kd.R k47 47 w' w.heap.size (fun _ => True) (.slice Ao10 t579.length co10) t579) ∧ Aside0 (w'.heap[gb577]? = some (.cells #[.int .i64 a0_0, (.slice A0_1 l0_1.length c0_1), (.slice A0_2 l0_2.length c0_2)] 25 (0, 0))) ∧ Aside0 (w'.heap[gb578]? = some (.cells #[.int .i64 0, (.slice none 0 0), (.slice none 0 0)] 25 (0, 0))) ∧ Aside0 (w'.heap[gb582]? = some (.cells #[.int .i64 a0_0, u583001, (.slice Ao10 t579.length co10)] 25 (0, 0))) ∧ Aside0 (Below w.heap.size w w'))
 case atStart => exact ⟨(0), (([] : List (S82))), (.slice none 0 0), rs, H', ⟨Nat.le_refl _⟩, ⟨by first | exact Kd.R_nil _ _ _ _ _ | exact Kd.N_nil _ _ _ _ _ | exact Kd.V_nil _ _ _ _ _ | exact Kd.Q_nil _ _ _ _ _ | exact Kd.S_nil _ _ _ _ _⟩, ⟨by (with_reducible repeat (first | apply Kd.R_alloc | apply Kd.R_drewN | apply Kd.R_drew)); exact Kd.R_mono (Kd.R_far (p := ⟨gb582, 2, none⟩) (Kd.R_far (p := ⟨gb582, 1, none⟩) (Kd.R_far (p := ⟨gb582, 0, none⟩) (Kd.R_types HO581.out BK582.out (by decide)) (fun _ hk => hk.2) (.int .i64 a0_0)) (fun _ hk => hk.2) (.slice none 0 0)) (fun _ hk => hk.2) (.slice Ao10 t579.length co10)) (fun _ hk => trivial)⟩, ⟨kk BK577⟩, ⟨kk BK578⟩, ⟨by (with_reducible repeat (first | refine kdN ?_ _ | refine kdr ?_ | refine kal ?_ _)); refine blk_put (cs := #[.int .i64 a0_0, .slice none 0 0, .slice none 0 0]) ?_ 2 _ rfl; (with_reducible repeat (first | refine kdN ?_ _ | refine kdr ?_ | refine kal ?_ _)); refine blk_put (cs := #[.int .i64 a0_0, .slice none 0 0, .slice none 0 0]) ?_ 1 _ rfl; (with_reducible repeat (first | refine kdN ?_ _ | refine kdr ?_ | refine kal ?_ _)); refine blk_put (cs := #[.int .i64 0, .slice none 0 0, .slice none 0 0]) ?_ 0 _ rfl; (with_reducible repeat (first | refine kdN ?_ _ | refine kdr ?_ | refine kal ?_ _)); exact BK582.out⟩, ⟨bb HB⟩⟩
 case round =>
  clear H'
  try clear p2
  try clear c3
  try clear c6
  obtain ⟨x4_1, x583001_1, u583001, rfl, HA, HK1, HO_583001, HO_583002, BK577, BK578, BK582, HB⟩ := hrel
  cases gk with
  | zero => exact absurd HA.out (by simp [r3_Copy.l0])
  | succ k1 =>
   have H := HA.out
   clear HA
   simp only [r3_Copy.l0] at H
   by_cases c14 : x4_1 < (l0_1.length : Int)
   rotate_left
   ·rw [if_neg c14] at H
    have c14b0 : decide (x4_1 < (l0_1.length : Int)) = false := decide_eq_false c14
    clear c14
    simp only [Option.some.injEq, Prod.mk.injEq] at H
    obtain ⟨rfl, rfl, rfl⟩ := H
    have hnb24 := NB577_578.out
    have hnc24 := NB578_577.out
    have hnb25 := NB577_582.out
    have hnc25 := NB582_577.out
    obtain ⟨hcz26_0, hcz26_1, hcz26_2, hfz26_0, hfz26_1, hfz26_2⟩ := cf3 BK577.out
    have hnb27 := NB582_578.out
    have hnc27 := NB578_582.out
    obtain ⟨hcz28_0, hcz28_1, hcz28_2, hfz28_0, hfz28_1, hfz28_2⟩ := cf3 BK582.out
    obtain ⟨hcz29_0, hcz29_1, hcz29_2, hfz29_0, hfz29_1, hfz29_2⟩ := cf3 BK578.out
    obtain ⟨Ao30, co30, eo30⟩ := Kd.R_slice HO_583001.out
    subst eo30
    go_wp2
    refine bodyPost_ret (results_cell_row rfl _ _ gb578 25 #[.int .i64 a0_0, .slice Ao30 x583001_1.length co30, .slice Ao10 t579.length co10] (0, 0) _ rfl (by (with_reducible repeat (first | refine kdN ?_ _ | refine kdr ?_ | refine kal ?_ _)); refine blk_put (cs := #[.int .i64 a0_0, .slice Ao30 x583001_1.length co30, .slice none 0 0]) ?_ 2 _ rfl; (with_reducible repeat (first | refine kdN ?_ _ | refine kdr ?_ | refine kal ?_ _)); refine blk_put (cs := #[.int .i64 a0_0, .slice none 0 0, .slice none 0 0]) ?_ 1 _ rfl; (with_reducible repeat (first | refine kdN ?_ _ | refine kdr ?_ | refine kal ?_ _)); refine blk_put (cs := #[.int .i64 0, .slice none 0 0, .slice none 0 0]) ?_ 0 _ rfl; (with_reducible repeat (first | refine kdN ?_ _ | refine kdr ?_ | refine kal ?_ _)); exact BK578.out) Try.underlying25 rfl (by kernel_rfl)) rfl ?_
    exact ⟨_, _, rr, by (with_reducible repeat (first | apply Kd.R_alloc | apply Kd.R_drewN | apply Kd.R_drew)); exact Kd.R_mono (Kd.R_far (p := ⟨gb578, 2, none⟩) (Kd.R_far (p := ⟨gb578, 1, none⟩) (Kd.R_far (p := ⟨gb578, 0, none⟩) (Kd.R_types HO_583001.out BK578.out (by decide)) (fun _ hk => hk.2) (.int .i64 a0_0)) (fun _ hk => hk.2) (.slice Ao30 x583001_1.length co30)) (fun _ hk => hk.2) (.slice Ao10 t579.length co10)) (fun _ hk => trivial), by (with_reducible repeat (first | apply Kd.R_alloc | apply Kd.R_drewN | apply Kd.R_drew)); exact Kd.R_mono (Kd.R_far (p := ⟨gb578, 2, none⟩) (Kd.R_far (p := ⟨gb578, 1, none⟩) (Kd.R_far (p := ⟨gb578, 0, none⟩) (Kd.R_types HO_583002.out BK578.out (by decide)) (fun _ hk => hk.2) (.int .i64 a0_0)) (fun _ hk => hk.2) (.slice Ao30 x583001_1.length co30)) (fun _ hk => hk.2) (.slice Ao10 t579.length co10)) (fun _ hk => trivial), bb HB⟩
   rw [if_pos c14] at H
   have c14b0 : decide (x4_1 < (l0_1.length : Int)) = true := decide_eq_true c14
   clear c14
   by_cases c15 : 0 ≤ x4_1
   rotate_left
   ·rw [if_neg c15] at H
    exact absurd H (by simp)
   rw [if_pos c15] at H
   have c15b0 : decide (0 ≤ x4_1) = true := decide_eq_true c15
   clear c15
   by_cases c16 : x583001_1.length < 4398046511104
   rotate_left
   ·rw [if_neg c16] at H
    exact absurd H (by simp)
   rw [if_pos c16] at H
   have LMc16 := Aside0.mk c16
   clear c16
   obtain ⟨y584, hy584⟩ : ∃ y_ : List (S82), y_ = (x583001_1 ++ [(⟨(rd_T82 l0_1 x4_1).f0, (rd_T82 l0_1 x4_1).f1, (rd_T82 l0_1 x4_1).f2⟩ : S82)]) := ⟨_, rfl⟩
   replace H : (r3_Copy.l0 k1 (wrap64 (x4_1 + 1)) a0_0 l0_1 l0_2 a0_0 y584 t579) = some (r1, r2, r3) := by first | (rw [hy584]; with_reducible exact H) | (have H2_ := (Option.bind_some _ _).symm.trans H; rw [hy584]; with_reducible exact H2_) | (have H2_ := (Option.bind_some _ _).symm.trans H; with_reducible exact H2_) | with_reducible exact H | (rw [hy584]; exact H) | exact H
   have Ny584 := Aside0.mk hy584
   clear hy584
   have H' := Aside0.mk H
   clear H
   have hnb17 := NB577_578.out
   have hnc17 := NB578_577.out
   have hnb18 := NB577_582.out
   have hnc18 := NB582_577.out
   obtain ⟨hcz19_0, hcz19_1, hcz19_2, hfz19_0, hfz19_1, hfz19_2⟩ := cf3 BK577.out
   try go_wp2
   replace HO_583001 := Aside0.mk (Kd.R_drew HO_583001.out)
   replace HO_583002 := Aside0.mk (Kd.R_drew HO_583002.out)
   replace BK577 := Aside0.mk (kdr BK577.out)
   replace BK578 := Aside0.mk (kdr BK578.out)
   replace BK582 := Aside0.mk (kdr BK582.out)
   replace HB := Aside0.mk (bd1 HB.out)
   have p583 : 0 ≤ (x4_1 : Int) := od
   have q583 : x4_1 < (l0_1.length : Int) := od
   obtain ⟨ad583, e583, hx583_0, hx583_1, hx583_2⟩ := at_T82 HR0_1.out x4_1 p583 q583
   have hw583_2 := hx583_2
   have hw583_1 := hx583_1
   have hw583_0 := hx583_0
   cases e583
   replace hx583_0 := bcell HB.out hx583_0
   replace hx583_1 := bcell HB.out hx583_1
   replace hx583_2 := bcell HB.out hx583_2
   replace p583 := eq_true p583
   replace q583 := eq_true q583
   refine start_ (n := 11) (S := fun w' => w'.cell? ⟨gb582, 0, none⟩ = some (.int .i64 a0_0) ∧ w'.cell? ⟨gb582, 1, none⟩ = some (u583001) ∧ w'.cell? ⟨gb582, 2, none⟩ = some (.slice Ao10 t579.length co10) ∧ w'.cell? ⟨gb577, 0, none⟩ = some (.int .i64 a0_0) ∧ w'.cell? ⟨gb577, 1, none⟩ = some (.slice (some ad583) l0_1.length c0_1) ∧ w'.cell? ⟨gb577, 2, none⟩ = some (.slice A0_2 l0_2.length c0_2) ∧ w'.cell? (ad583.add ((x4_1).toNat * 3)) = some (.string ((rd_T82 l0_1 x4_1).f0)) ∧ w'.cell? ⟨(ad583.add ((x4_1).toNat * 3)).block, (ad583.add ((x4_1).toNat * 3)).off + 1, none⟩ = some (.int .i64 ((rd_T82 l0_1 x4_1).f1)) ∧ w'.cell? ⟨(ad583.add ((x4_1).toNat * 3)).block, (ad583.add ((x4_1).toNat * 3)).off + 2, none⟩ = some (.int .i64 ((rd_T82 l0_1 x4_1).f2))) (ds := [10]) #[false, false, false, false, false, false, false, false, false, false, false] (by kernel_rfl) rfl rfl ⟨(blk_cell BK582.out 0).trans rfl, (blk_cell BK582.out 1).trans rfl, (blk_cell BK582.out 2).trans rfl, (blk_cell BK577.out 0).trans rfl, (blk_cell BK577.out 1).trans rfl, (blk_cell BK577.out 2).trans rfl, (bcell HB.out hw583_0), (bcell HB.out hw583_1), (bcell HB.out hw583_2)⟩ (fun hHeld => ?_); refine with_tabW r3_Copy.tab5 r3_Copy.bits5 (fun HT_ HW_ => ?_)
   generalize wr.drew = w20 at HO_583001 HO_583002 BK577 BK578 BK582 HB hx583_0 hx583_1 hx583_2 hHeld ⊢
   refine pT 0 18 (bl 11 1) HT_ rfl rfl ?_
   refine pT 2 20 (bl 11 5) HT_ rfl rfl ?_
   refine pT 4 22 (bl 11 21) HT_ rfl rfl ?_
   refine tk (i := 1) (N := some 19) (bl 11 23) rfl rfl (take_ofW HT_.out HW_.out (by kernel_rfl)) hHeld ?_
   refine tk (i := 3) (N := some 21) (bl 11 31) rfl rfl (take_ofW HT_.out HW_.out (by kernel_rfl)) hHeld ?_
   refine pT 5 23 (bl 11 63) HT_ rfl rfl ?_
   refine tk (i := 6) (N := some 24) (bl 11 127) rfl rfl (take_ofW HT_.out HW_.out (by kernel_rfl)) hHeld ?_
   refine one_ (i := 7) (N := some 25) (bl 11 255) rfl rfl (one_of HT_.out (by kernel_rfl)) (by decide) (fun K hK => ?_)
   refine value_ (w1 := ?_) (v := ?_) (by rfl) rfl ?_ ?_
   rotate_left 2
   ·go_simp
    constructor
    ·rfl
    ·rfl
   refine hK.out _ _ ⟨(blk_cell (kal BK582.out _) 0).trans rfl, (blk_cell (kal BK582.out _) 1).trans rfl, (blk_cell (kal BK582.out _) 2).trans rfl, (blk_cell (kal BK577.out _) 0).trans rfl, (blk_cell (kal BK577.out _) 1).trans rfl, (blk_cell (kal BK577.out _) 2).trans rfl, (World.cell?_alloc_lt _ _ _ (World.block_lt_of_cell? _ _ ((bcell HB.out hw583_0)))).trans ((bcell HB.out hw583_0)), (World.cell?_alloc_lt _ _ _ (World.block_lt_of_cell? _ _ ((bcell HB.out hw583_1)))).trans ((bcell HB.out hw583_1)), (World.cell?_alloc_lt _ _ _ (World.block_lt_of_cell? _ _ ((bcell HB.out hw583_2)))).trans ((bcell HB.out hw583_2))⟩ (fun hHeld => ?_)
   clear hK K
   refine nm 25 ?_
   refine one_ (i := 8) (N := some 26) (bl 11 511) rfl rfl (one_of HT_.out (by kernel_rfl)) (by decide) (fun K hK => ?_)
   refine Kd.R_append_step k82 (w0 := w) w.heap.size (by rfl) (.tmp 19) (.tmp 25) 22 82 (.agg #[(.string ⟨#[]⟩), (.int .i64 0), (.int .i64 0)]) 32 rfl Try.underlying22 info82 rfl (by decide) (by omega) u583001 x583001_1 (⟨(rd_T82 l0_1 x4_1).f0, (rd_T82 l0_1 x4_1).f1, (rd_T82 l0_1 x4_1).f2⟩ : S82) [.string ((rd_T82 l0_1 x4_1).f0), .int .i64 ((rd_T82 l0_1 x4_1).f1), .int .i64 ((rd_T82 l0_1 x4_1).f2)] (fun _ => True) (fun _ => False) rfl rfl ?aP (fun _ hk => hk.elim) ?aF ?aO ?aB ?aS ?aL ?_
   (case aP => exact k82_mkM _ _ _ (⟨(rd_T82 l0_1 x4_1).f0, (rd_T82 l0_1 x4_1).f1, (rd_T82 l0_1 x4_1).f2⟩ : S82))
   (case aB => exact (bb HB))
   (case aF => exact (fun _ _ => trivial))
   (case aO => exact (iR HO_583001))
   (case aS => exact (bsz (bb HB)))
   (case aL => have := LMc16.out; omega)
   intro v585 w21 ho hb hg hat
   rw [← Ny584.out] at ho
   have HO586 := Aside0.mk (ho)
   replace HO_583002 := Aside0.mk (Kd.R_over' (iR HO_583002) (Kd.R_typed (iR HO_583001)) (by decide) hg)
   replace BK577 := Aside0.mk (blk_grown (kk BK577) hg (Kd.R_ne HO_583001.out BK577.out (by decide)))
   replace BK578 := Aside0.mk (blk_grown (kk BK578) hg (Kd.R_ne HO_583001.out BK578.out (by decide)))
   replace BK582 := Aside0.mk (blk_grown (kk BK582) hg (Kd.R_ne HO_583001.out BK582.out (by decide)))
   replace HB := Aside0.mk (hb)
   clear HO_583001
   clear ho hb hg hat
   obtain ⟨Ao22, co22, eo22⟩ := Kd.R_slice HO586.out
   (first | subst eo22 | (injection eo22 with f1_ f2_ f3_; have f4_ := f1_.symm; have f5_ := f3_.symm; clear f1_ f2_ f3_; subst f4_; subst f5_))
   refine hK.out _ _ ⟨(blk_cell BK582.out 0).trans rfl, (blk_cell BK582.out 1).trans rfl, (blk_cell BK582.out 2).trans rfl, (blk_cell BK577.out 0).trans rfl, (blk_cell BK577.out 1).trans rfl, (blk_cell BK577.out 2).trans rfl, (bcell HB.out hw583_0), (bcell HB.out hw583_1), (bcell HB.out hw583_2)⟩ (fun hHeld => ?_)
   clear hK K
   refine nm 26 ?_
   refine pT 9 27 (bl 11 1023) HT_ rfl rfl ?_
   refine last_ (i := 10) (N := none) (bl 11 2047) rfl rfl (one_of HT_.out (by kernel_rfl)) (by decide) (fun K hK => ?_)
   have hs23 : w21.cell? ⟨gb582, 1, none⟩ = some (u583001) := (blk_cell BK582.out 1).trans rfl
   have hfs23 := blk_frozen BK582.out 1
   have hns23_0 := NB577_582.out
   have hns23_1 := NB578_582.out
   have hms23_0 := NB582_577.out
   have hms23_1 := NB582_578.out
   refine skip_ (w1 := ?_) (by rfl) rfl ?_ ?_
   rotate_left
   ·go_simp
    rfl
   refine hK.out _ _ ?_
   clear hK K
   refine done_ (done_of HT_.out (by kernel_rfl)) ?_
   try go_wp2
   go_roundg k1
   case measure => have := HK1.out; omega
   case rel => exact ⟨(wrap64 (x4_1 + 1)), (y584), (.slice Ao22 y584.length co22), rs, H', ⟨by have := HK1.out; omega⟩, ⟨by (with_reducible repeat (first | apply Kd.R_alloc | apply Kd.R_drewN | apply Kd.R_drew)); exact Kd.R_mono (Kd.R_far (p := ⟨gb582, 1, none⟩) (Kd.R_types HO586.out BK582.out (by decide)) (fun _ hk => hk.2) (.slice Ao22 y584.length co22)) (fun _ hk => trivial)⟩, ⟨by (with_reducible repeat (first | apply Kd.R_alloc | apply Kd.R_drewN | apply Kd.R_drew)); exact Kd.R_mono (Kd.R_far (p := ⟨gb582, 1, none⟩) (Kd.R_types HO_583002.out BK582.out (by decide)) (fun _ hk => hk.2) (.slice Ao22 y584.length co22)) (fun _ hk => trivial)⟩, ⟨kk BK577⟩, ⟨kk BK578⟩, ⟨by (with_reducible repeat (first | refine kdN ?_ _ | refine kdr ?_ | refine kal ?_ _)); refine blk_put (cs := #[.int .i64 a0_0, u583001, .slice Ao10 t579.length co10]) ?_ 1 _ rfl; (with_reducible repeat (first | refine kdN ?_ _ | refine kdr ?_ | refine kal ?_ _)); exact BK582.out⟩, ⟨bb HB⟩⟩
theorem rcopyE : (∀ x, goodE x → eN x ≤ 1000 → Tells (fun k => r2_Copy.f k x.f0 x.f1 x.f2 x.f3) (x.f0, x.f1, x.f2, x.f3)) ∧
    (∀ suf, ∀ (pre acc : List S96) (a b c a' b' c' : Int), goodEs suf → (pre ++ suf).length ≤ 9223372036854775807 → eNs suf ≤ 1000 → acc.length + suf.length ≤ 1000 →
      Tells (fun k => r2_Copy.l0 k (pre.length : Int) a b c (pre ++ suf) a' b' c' acc) (a', b', c', acc ++ suf)) := by
  refine E_ind (fun a b c l ih => ?_) ?_ (fun x r ih1 ih2 => ?_)
  · intro hg hn
    simp only [eN] at hn
    have hle := eNs_len l
    refine Tells.succ ?_
    simp only [r2_Copy.f]
    exact ih [] [] a b c a b c hg.2 hg.1 (by omega) (by simp only [List.length_nil]; omega)
  · intro pre acc a b c a' b' c' _ _ _ _
    refine Tells.succ ?_
    simp only [r2_Copy.l0, pre_nlt, if_false]
    rw [List.append_nil]
    exact Tells.pure _
  · intro pre acc a b c a' b' c' hg hl hn ha
    simp only [eNs] at hn
    simp only [List.length_cons] at ha
    refine Tells.succ ?_
    simp only [r2_Copy.l0, pre_lt, pre_pos, if_true, rdE_mid]
    refine Tells.bind (ih1 hg.1 (by omega)) (Tells.ifT (by omega) ?_)
    rw [pre_next pre x r hl]
    have := ih2 (pre ++ [x]) (acc ++ [x]) a b c a' b' c' hg.2 (by rw [← pre_app]; exact hl) (by omega) (by simp only [List.length_append, List.length_cons, List.length_nil]; omega)
    rw [← pre_app, List.append_assoc, List.singleton_append] at this
    rw [E_eta]
    exact this
theorem rcopy_l1 (pre : List S47) (x : S47) (r acc : List S47) (op n : Int) (t e : List S47) (v : List S47) (ha : acc.length ≤ 1000) (hxl : x.f2.length ≤ 9223372036854775807) (hx1 : x.f2.length ≤ 1000) : ∀ (suf ap : List S96), x.f2 = ap ++ suf → goodEs suf → eNs suf ≤ 1000 →
    Tells (fun k => r3_CopyRows.l0 k (pre ++ x :: r) (acc ++ [⟨op, n, x.f2, t, e⟩]) (wrap64 ((pre.length : Int) + 1))) v →
    Tells (fun k => r3_CopyRows.l1 k (pre ++ x :: r) acc (pre.length : Int) (ap.length : Int) op n ap t e) v
  | [], ap, h, _, _, hv => by
    refine Tells.succ ?_
    have e1 : ¬ (ap.length : Int) < (x.f2.length : Int) := by rw [h, List.append_nil]; omega
    simp only [r3_CopyRows.l1, pre_lt, pre_pos, if_true, rdS_mid, e1, if_false]
    rw [h, List.append_nil] at hv
    exact Tells.ifT (by omega) hv
  | y :: q, ap, h, hg, hn, hv => by
    simp only [eNs] at hn
    refine Tells.succ ?_
    have e1 : (ap.length : Int) < (x.f2.length : Int) := by rw [h]; exact pre_lt ap y q
    have e2 : rd_T96 x.f2 (ap.length : Int) = y := by rw [h]; exact rdE_mid ap y q
    have hal : ap.length ≤ 1000 := by have := congrArg List.length h; rw [List.length_append] at this; omega
    simp only [r3_CopyRows.l1, pre_lt, pre_pos, if_true, rdS_mid, e1, e2]
    refine Tells.bind (rcopyE.1 y hg.1 (by omega)) (Tells.ifT (by omega) ?_)
    have e3 : wrap64 ((ap.length : Int) + 1) = ((ap ++ [y]).length : Int) := by
      rw [List.length_append, List.length_singleton, w64 (by omega) (by omega)]; omega
    rw [e3, E_eta]
    exact rcopy_l1 pre x r acc op n t e v ha hxl hx1 q (ap ++ [y]) (by rw [h]; simp) hg.2 (by omega) hv
theorem rcopyS : (∀ x, goodS x → sN x ≤ 1000 → Tells (fun k => r3_CopyRows.f k x.f3) x.f3 ∧ Tells (fun k => r3_CopyRows.f k x.f4) x.f4) ∧
    (∀ suf, goodSs suf → sNs suf ≤ 1000 → ∀ (pre acc : List S47), (pre ++ suf).length ≤ 9223372036854775807 → acc.length + suf.length ≤ 1000 → Tells (fun k => r3_CopyRows.l0 k (pre ++ suf) acc (pre.length : Int)) (acc ++ suf)) := by
  refine S_ind (fun a b l t e iht ihe => ?_) ?_ (fun x r ih1 ih2 => ?_)
  · intro hg hn
    rw [goodS_mk] at hg
    obtain ⟨⟨g1, g2⟩, ⟨g3, g4⟩, ⟨g5, g6⟩⟩ := hg
    rw [sN_eq] at hn
    have ht := sNs_len t
    have he := sNs_len e
    simp only at hn
    constructor
    · refine Tells.succ ?_
      simp only [r3_CopyRows.f]
      exact iht g4 (by omega) [] [] g3 (by simp only [List.length_nil]; omega)
    · refine Tells.succ ?_
      simp only [r3_CopyRows.f]
      exact ihe g6 (by omega) [] [] g5 (by simp only [List.length_nil]; omega)
  · intro _ _ pre acc _ _
    refine Tells.succ ?_
    simp only [r3_CopyRows.l0, pre_nlt, if_false]
    rw [List.append_nil]
    exact Tells.pure _
  · intro hg hn pre acc hl ha
    rw [sNs_cons] at hn
    rw [List.length_cons] at ha
    have gx : goodS x := hg.1
    rw [goodS_eq] at gx
    have hx := sN_eq x
    have hle := eNs_len x.f2
    refine Tells.succ ?_
    simp only [r3_CopyRows.l0, pre_lt, pre_pos, if_true, rdS_mid]
    obtain ⟨t3, t4⟩ := ih1 hg.1 (by omega)
    refine Tells.bind t3 (Tells.bind t4 ?_)
    refine rcopy_l1 pre x r acc x.f0 x.f1 x.f3 x.f4 _ (by omega) gx.1.1 (by omega) x.f2 [] rfl gx.1.2 (by omega) ?_
    rw [pre_next pre x r hl, S_eta]
    have := ih2 hg.2 (by omega) (pre ++ [x]) (acc ++ [x]) (by rw [← pre_app]; exact hl) (by simp only [List.length_append, List.length_cons, List.length_nil]; omega)
    rw [← pre_app, List.append_assoc, List.singleton_append] at this
    exact this
theorem rcopyV (w w' : Int) (body b' : List S47) : ∀ (suf pre acc : List S82), (pre ++ suf).length ≤ 1000 → acc.length + suf.length ≤ 1000 → Tells (fun k => r3_Copy.l0 k (pre.length : Int) w (pre ++ suf) body w' acc b') (w', acc ++ suf, b')
  | [], pre, acc, _, _ => by
    refine Tells.succ ?_
    simp only [r3_Copy.l0, pre_nlt, if_false]
    rw [List.append_nil]
    exact Tells.pure _
  | v :: r, pre, acc, hl, ha => by
    rw [List.length_cons] at ha
    refine Tells.succ ?_
    simp only [r3_Copy.l0, pre_lt, pre_pos, if_true, rdV_mid]
    refine Tells.ifT (by omega) ?_
    rw [pre_next pre v r (by omega)]
    have := rcopyV w w' body b' r (pre ++ [v]) (acc ++ [v]) (by rw [← pre_app]; exact hl) (by simp only [List.length_append, List.length_cons, List.length_nil]; omega)
    rw [← pre_app, List.append_assoc, List.singleton_append] at this
    exact this
theorem rcopyP (w : Int) (vars : List S82) (body : List S47) (hl : body.length ≤ 9223372036854775807) (hg : goodSs body) (hn : sNs body ≤ 1000) (hv : vars.length ≤ 1000) : Tells (fun k => r3_Copy.f k w vars body) (w, vars, body) := by
  unfold r3_Copy.f
  have hb := sNs_len body
  have t : Tells (fun k => r3_CopyRows.f k body) body := by
    refine Tells.succ ?_
    simp only [r3_CopyRows.f]
    exact rcopyS.2 body hg hn [] [] hl (by simp only [List.length_nil]; omega)
  exact Tells.bind t (rcopyV w w body body vars [] [] hv (by simp only [List.length_nil]; omega))
end Go.Proofs.Ytffcpbgbhkbplaa.Print
namespace Go.Proofs.Ytffcpbgbhkbplaa.Print
open Go.RowKit Go.Proofs.YtffcpbgbhkbplaaW.PrintWords Go.Proofs.YtffcpbgbhkbplaaW.PrintLast Go.Proofs.YtffcpbgbhkbplaaW.PrintMore
attribute [local go_sem] max2_int min2_int max_two min_two max_three min_three max_four min_four
set_option linter.unusedVariables false
set_option linter.unusedSimpArgs false
open Go.Shelf Go.RowKit
def SeqW {α : Type} (P : Program) (gf : Nat) (lb : Array Value) (E : α → Array Value → World → Prop) (its : List α) (w0 : World) (Pre : World → Prop) : Prop :=
  ∀ (m l : Nat) (J Jx : List α → World → Prop) (go : List α → α → Bool) (W : World), Below w0.heap.size w0 W → Pre W →
    (∀ pre A B, J pre A → Below W.heap.size A B → J pre B) →
    (∀ pre A (j : Nat) (o o' : Obj), W.heap.size ≤ j → Jx pre A → A.heap[j]? = some o → o.isCells = false → Jx pre (A.putObj j o')) →
    (∀ pre x av A, J pre A → E x av A → Below w0.heap.size w0 A → W.heap.size ≤ A.heap.size → (pre ++ [x]) <+: its → YieldAt Fence.wide m P l av A fun e B =>
      e = .returned (.bool (go pre x)) ∧ (go pre x = true → J (pre ++ [x]) B ∧ Keeps W.heap.size none A B ∧ Below w0.heap.size w0 B) ∧ (go pre x = false → Jx (pre ++ [x]) B ∧ ∀ k, W.heap.size ≤ k → k < A.heap.size → B.heap[k]? = A.heap[k]?)) →
    J [] W →
    CallsIn Fence.wide m P gf (#[.func (.yield l) #[] #[]] ++ lb) W fun e W' => (∃ v, e = .returned v) ∧
      ((stopAt go [] its = none ∧ J its W' ∧ Below w0.heap.size w0 W') ∨ (∃ q, stopAt go [] its = some q ∧ Jx q W'))
theorem wpIn_rangeW {α : Type} {n : Nat} {P : Program} {g : Operand} {ps : Array Tmp} {assign body : Code} {Q : Exit → Act → World → Prop} {a : Act} {w : World} {gf : Nat} {lb : Array Value}
    (hg : a.eval g = .func (.func gf) #[] lb) (eg : ∀ args w, (callFunc gf args).run P w = .ok (.enter gf args) w)
    {E : α → Array Value → World → Prop} {its : List α} {w0 : World} {Pre : World → Prop} (hseq : SeqW P gf lb E its w0 Pre) (hpre : ∀ W1, Below w.heap.size w W1 → Pre W1) (hb0 : Below w0.heap.size w0 w) (hps : ∀ x av A, E x av A → av.size = ps.size)
    (go : List α → α → Bool) (I : List α → World → Prop) (Ix : Code → List α → World → Prop)
    (hI : ∀ pre A B, I pre A → Below w.heap.size A B → I pre B) (hIx : ∀ c pre A (j : Nat) (o o' : Obj), w.heap.size ≤ j → Ix c pre A → A.heap[j]? = some o → o.isCells = false → Ix c pre (A.putObj j o')) (h0 : I [] w)
    (hround : ∀ l pre x av W, I pre W → E x av W → (pre ++ [x]) <+: its → Below w0.heap.size w0 W → w.heap.size + 2 ≤ W.heap.size →
      assign.wpIn (Fence.wide.inRound l) n P (Exit.then (fun a1 W1 => W.grownBy W1 none ∧ ∀ W2, W1.grownBy W2 (some (w.heap.size + 1)) → W2.heap.size = W1.heap.size → I pre W2 → Below w0.heap.size w0 W2 →
        body.wpIn (Fence.wide.inRound l) n P (roundBy w.heap.size w0 I Ix go pre x W W2) a1 W2) (fun _ _ _ => False)) { tmps := (ps.zip av).foldl (fun t (p, v) => t.setIfInBounds p v) a.tmps, defers := [] } W)
    (hdone : ∀ W, stopAt go [] its = none → I its W → Below w0.heap.size w0 W → W.heap[w.heap.size]? = some (.deferred (some [])) → Q .normal { a with defers := { target := .collected w.heap.size, args := #[] } :: a.defers } W)
    (hstop : ∀ c q W, stopAt go [] its = some q → Ix c q W → W.heap[w.heap.size]? = some (.deferred (some [])) → c.wpIn Fence.wide n P Q { a with defers := { target := .collected w.heap.size, args := #[] } :: a.defers } W) :
    (Code.rangeFunc g ps assign body).wpIn Fence.wide n P Q a w := by
  refine wpIn_rangeFunc ?_
  intro fn hfn
  obtain ⟨rec, hrec⟩ : ∃ rec : LoopState → Option Code → Loop, rec = fun st pe => { state := st, pending := pe, fn, tmps := a.tmps, params := ps, assign, body, defers := w.heap.size } := ⟨_, rfl⟩
  obtain ⟨W1, hW1⟩ : ∃ W1, (w.alloc (.deferred (some []))).alloc (.loop (rec .ready none)) = W1 := ⟨_, rfl⟩
  have hL1 : W1.heap[w.heap.size + 1]? = some (.loop (rec .ready none)) := by
    rw [← hW1]; have := World.alloc_heap_new (w.alloc (.deferred (some []))) (.loop (rec .ready none)); rwa [World.size_alloc] at this
  have hK1 : W1.heap[w.heap.size]? = some (.deferred (some [])) := by
    rw [← hW1]; exact (Below.heap_alloc _ _ _ (by simp)).trans (World.alloc_heap_new w _)
  have hS1 : W1.heap.size = w.heap.size + 2 := by rw [← hW1]; simp
  have hw1 : Below w.heap.size w W1 := by
    rw [← hW1]; exact ((Below.refl _ w).alloc (Nat.le_refl _) _).alloc (by simp) _
  have hI1 : I [] W1 := hI _ _ _ h0 hw1
  have hb1 : Below w0.heap.size w0 W1 := hb0.trans (hw1.mono hb0.size)
  have hB0 : w0.heap.size ≤ w.heap.size := hb0.size
  refine ⟨w.heap.size + 1, [{ target := .collected w.heap.size, args := #[] }], W1, { target := .fn (.func gf) lb, args := #[.func (.yield (w.heap.size + 1)) #[] #[]] }, W1, gf,
    #[.func (.yield (w.heap.size + 1)) #[] #[]] ++ lb, W1, ?_, ?_, ?_, ?_, wide_depth, ?_⟩
  · rw [← hW1, hrec]; exact run_enterLoop_outer _ _ _ _ _
  · simp only [resolve, hg]
    simp [go_sem]
  · intro f' hf'; trivial
  · simp [invoke, go_sem, eg]
  refine (hseq (n - 1) (w.heap.size + 1)
    (fun pre W => I pre W ∧ W.heap[w.heap.size + 1]? = some (.loop (rec .ready none)) ∧ W.heap[w.heap.size]? = some (.deferred (some [])))
    (fun pre W => ∃ c, Ix c pre W ∧ W.heap[w.heap.size + 1]? = some (.loop (rec .done (some c))) ∧ W.heap[w.heap.size]? = some (.deferred (some [])))
    go W1 hb1 (hpre W1 hw1)
    (fun pre A B hs hb => ⟨hI _ _ _ hs.1 (hb.mono (by omega)), (hb.block _ (by omega)).trans hs.2.1, (hb.block _ (by omega)).trans hs.2.2⟩)
    (fun pre A j o o' hj hs hA ho => by
      obtain ⟨c, h1, h2, h3⟩ := hs
      exact ⟨c, hIx _ _ _ _ _ _ (by omega) h1 hA ho, (World.putObj_heap_other (by omega)).trans h2, (World.putObj_heap_other (by omega)).trans h3⟩)
    ?_ ⟨hI1, hL1, hK1⟩).mono ?_
  · rintro pre x av W ⟨hi, hl, hk⟩ hE hbW hsz hpre
    have hlt : w.heap.size + 1 < W.heap.size := (Array.getElem?_eq_some_iff.1 hl).1
    have hy := run_yield (P := P) (args := av) hl (by rw [hrec]; exact hps x av W hE)
    rw [hrec] at hy
    refine ⟨fn, _, assign, body, hy, round_any (roundIn_of_wpIn (n := n) trivial ?_)⟩
    refine wpIn_mono (hround (w.heap.size + 1) pre x av W hi hE hpre hbW (by omega)) ?_
    rintro e a1 Wa hp
    cases e with
    | normal =>
      obtain ⟨hga, hbd⟩ := hp
      have hla := (hga.block _ hlt (by simp)).trans hl
      have hka := (hga.block _ (by omega : w.heap.size < W.heap.size) (by simp)).trans hk
      have hgs := hga.size
      have hlta : w.heap.size + 1 < Wa.heap.size := by omega
      refine ⟨_, run_beginRound hla (by rw [hrec]), ?_⟩
      have hg2 := grownBy_putObj' Wa (w.heap.size + 1) (.loop { rec .ready none with state := .busy })
      have hl2 : (Wa.putObj (w.heap.size + 1) (.loop { rec .ready none with state := .busy })).heap[w.heap.size + 1]? = some (.loop { rec .ready none with state := .busy }) := World.putObj_heap_same hlta
      have hk2 : (Wa.putObj (w.heap.size + 1) (.loop { rec .ready none with state := .busy })).heap[w.heap.size]? = some (.deferred (some [])) := (World.putObj_heap_other (by omega)).trans hka
      have hs2 : (Wa.putObj (w.heap.size + 1) (.loop { rec .ready none with state := .busy })).heap.size = Wa.heap.size := by simp
      have hba : Below w.heap.size W Wa := ⟨hga.os, hga.tape, hga.output, hga.size, fun k hk => hga.block k (by omega) (by simp)⟩
      have hb2 : Below w.heap.size W (Wa.putObj (w.heap.size + 1) (.loop { rec .ready none with state := .busy })) := hba.trans (below_put _ _ _ (by omega))
      generalize Wa.putObj (w.heap.size + 1) (.loop { rec .ready none with state := .busy }) = W2 at hg2 hl2 hk2 hs2 hb2 ⊢
      refine wpIn_mono (hbd W2 hg2 hs2 (hI _ _ _ hi hb2) (hbW.trans (hb2.mono hB0))) ?_
      have fin : ∀ (jump : Option Code) (W3 : World), (∀ k, w.heap.size ≤ k → k < W.heap.size → W3.heap[k]? = W2.heap[k]?) →
          (Instr.endRound (w.heap.size + 1) jump).run P W3 = .ok (.bool jump.isNone) (W3.putObj (w.heap.size + 1) (.loop (rec (if jump.isNone then .ready else .done) jump))) ∧
          (W3.putObj (w.heap.size + 1) (.loop (rec (if jump.isNone then .ready else .done) jump))).heap[w.heap.size + 1]? = some (.loop (rec (if jump.isNone then .ready else .done) jump)) ∧
          (W3.putObj (w.heap.size + 1) (.loop (rec (if jump.isNone then .ready else .done) jump))).heap[w.heap.size]? = some (.deferred (some [])) ∧ W3.heap[w.heap.size + 1]? = some (.loop { rec .ready none with state := .busy }) := fun jump W3 hk3 => by
        have hl3 := (hk3 _ (by omega) hlt).trans hl2
        have := run_endRound (P := P) jump hl3
        rw [hrec] at this ⊢
        exact ⟨this, World.putObj_heap_same (Array.getElem?_eq_some_iff.1 hl3).1, (World.putObj_heap_other (by omega)).trans ((hk3 _ (Nat.le_refl _) (by omega)).trans hk2), by rw [hrec] at hl3; exact hl3⟩
      rintro e3 a3 W3 hq
      cases e3 with
      | normal =>
        obtain ⟨hgo, hsz3, hk3, hb3, hi3⟩ := hq
        obtain ⟨hr, hl4, hk4, hl3⟩ := fin none W3 hk3
        have hp3 := below_put w.heap.size W3 (.loop (rec .ready none)) (by omega : w.heap.size ≤ w.heap.size + 1)
        have hg3 := grownBy_putObj' W3 (w.heap.size + 1) (.loop (rec .ready none))
        refine ⟨_, _, hr, by rw [hgo]; rfl, fun _ => ⟨⟨hI _ _ _ hi3 hp3, hl4, hk4⟩, ⟨?_, ?_⟩, hb3.trans (hp3.mono hB0)⟩, fun h => by rw [hgo] at h; cases h⟩
        · have := hg3.size; simp only [Option.isNone_none, if_true]; omega
        · intro k h1 h2 _
          simp only [Option.isNone_none, if_true]
          rw [World.putObj_heap_other (by omega), hk3 k (by omega) h2, hg2.block k (by omega) (by intro e; injection e with e; omega)]
          exact hga.block k h2 (by simp)
      | ret =>
        obtain ⟨hgo, hk3, hi3⟩ := hq
        obtain ⟨hr, hl4, hk4, hl3⟩ := fin (some .ret) W3 hk3
        exact ⟨_, _, hr, by rw [hgo]; rfl, fun h => (by rw [hgo] at h; cases h), fun _ => ⟨⟨.ret, hIx _ _ _ _ _ _ (by omega) hi3 hl3 rfl, hl4, hk4⟩, fun k h1 h2 => by
          rw [World.putObj_heap_other (by omega), hk3 k (by omega) h2, hg2.block k (by omega) (by intro e; injection e with e; omega)]
          exact hga.block k h2 (by simp)⟩⟩
      | exit id =>
        obtain ⟨hgo, hk3, hi3⟩ := hq
        obtain ⟨hr, hl4, hk4, hl3⟩ := fin (some (.exit id)) W3 hk3
        exact ⟨_, _, hr, by rw [hgo]; rfl, fun h => (by rw [hgo] at h; cases h), fun _ => ⟨⟨.exit id, hIx _ _ _ _ _ _ (by omega) hi3 hl3 rfl, hl4, hk4⟩, fun k h1 h2 => by
          rw [World.putObj_heap_other (by omega), hk3 k (by omega) h2, hg2.block k (by omega) (by intro e; injection e with e; omega)]
          exact hga.block k h2 (by simp)⟩⟩
      | goto t => exact hq.elim
      | panic ch => exact hq.elim
      | outgrown => exact hq.elim
    | ret => exact hp.elim
    | exit id => exact hp.elim
    | goto t => exact hp.elim
    | panic ch => exact hp.elim
    | outgrown => exact hp.elim
  · rintro e W2 ⟨⟨v, rfl⟩, (⟨hS, ⟨hi, hl, hk⟩, hb2⟩ | ⟨q, hS, c, hi, hl, hk⟩)⟩
    · have hp3 := below_put w.heap.size W2 (.loop (rec .exhausted none)) (by omega : w.heap.size ≤ w.heap.size + 1)
      exact ⟨none, _, by have := run_endLoop (P := P) hl (by rw [hrec]; simp); rw [hrec] at this; exact this, hdone _ hS (hI _ _ _ hi (below_put _ _ _ (by omega))) (hb2.trans ((below_put _ _ _ (by omega)).mono hB0)) ((World.putObj_heap_other (by omega)).trans hk)⟩
    · exact ⟨some c, _, by have := run_endLoop (P := P) hl (by rw [hrec]; simp); rw [hrec] at this; exact this, hstop c q _ hS (hIx _ _ _ _ _ _ (by omega) hi hl rfl) ((World.putObj_heap_other (by omega)).trans hk)⟩
end Go.Proofs.Ytffcpbgbhkbplaa.Print
namespace Go.Proofs.Ytffcpbgbhkbplaa.Print
open Go.RowKit Go.Proofs.YtffcpbgbhkbplaaW.PrintWords Go.Proofs.YtffcpbgbhkbplaaW.PrintLast Go.Proofs.YtffcpbgbhkbplaaW.PrintMore
attribute [local go_sem] max2_int min2_int max_two min_two max_three min_three max_four min_four
set_option linter.unusedVariables false
set_option linter.unusedSimpArgs false
open Go.Shelf Go.RowKit
attribute [local go_sem] Oper.semAt_some
theorem prog_All.fn (a b c : Value) (w : World) :
    Calls Try.prog 34 #[.agg #[a, b, c]] w fun e w' => e = .returned (.func (.func 62) #[] #[.pointer (some ⟨w.heap.size, 0, none⟩)]) ∧ Below w.heap.size w w' ∧ w'.heap[w.heap.size]? = some (.cells #[a, b, c] 25 (0, 0)) := by
  have huP := Try.underlying25
  refine calls_of_wp Try.func34 rfl ?_
  simp only [Try.ntmps34, List.size_toArray, List.length_cons, List.length_nil, Nat.reduceAdd, Nat.reduceSub, Array.replicate_succ, Array.replicate_zero, List.push_toArray, List.append_toArray, List.nil_append, List.cons_append]
  go_wp2
  go_ret
  exact ⟨rfl, (Below.refl _ _).alloc (Nat.le_refl _) _, heap_alloc_new _ _⟩
theorem prog_each.seqW (w0 : World) (bp : Nat) (A : Option Addr) (c : Nat) (l : List S47) (its : List (Int × S47)) (n' : Int) (k : Nat)
    (hr : Kd.C k47 w0 A l.length l) (hc : l.length ≤ c) (h : prog_walk.f k l 0 = some (its, n')) :
    SeqW Try.prog 76 #[.pointer (some ⟨bp, 0, none⟩)] (fun x av _ => itemAt w0 x av) its w0 (fun W => W.cell? ⟨bp, 2, none⟩ = some (.slice A l.length c)) := by
  intro m rl J Jx go W hb hcw hJ _ hY hJ0
  refine callsIn_of_wp Try.func76 rfl trivial ?_ rfl
  simp only [Try.ntmps76, List.size_toArray, List.length_cons, List.length_nil, Nat.reduceAdd, Nat.reduceSub, Array.replicate_succ, Array.replicate_zero, List.push_toArray, List.append_toArray, List.nil_append, List.cons_append]
  have hlt := World.block_lt_of_cell? W _ hcw
  have hS := hb.size
  have key : ∀ W2 : World, Below W.heap.size W W2 → W2.heap[W.heap.size]? = some (.cells #[.int .i64 0] 3 (0, 0)) →
      CallsIn Fence.wide m Try.prog 77 #[.slice A l.length c, .pointer (some ⟨W.heap.size, 0, none⟩), .func (.yield rl) #[] #[]] W2 (fun e W' => ∃ b, e = .returned (.bool b) ∧ ((stopAt go [] its = none ∧ J its W' ∧ Below w0.heap.size w0 W') ∨ (∃ q, stopAt go [] its = some q ∧ Jx q W'))) := by
    intro W2 h1 h2
    refine (prog_walk.walkIn w0 rl W.heap.size m J Jx go its hS hJ ?_ k l 0 its n' [] W2 W.heap.size A c h hr hc (hb.trans (h1.mono hS)) h2 (Nat.le_refl _) (hJ _ _ _ hJ0 h1) (by simp)).mono ?post
    case post =>
      rintro e W3 (⟨h0, rfl, hj, _, _, hb3⟩ | ⟨q, h0, rfl, hx⟩)
      · exact ⟨_, rfl, .inl ⟨h0, by simpa using hj, hb3⟩⟩
      · exact ⟨_, rfl, .inr ⟨q, h0, by simpa using hx⟩⟩
    intro pre x v A1 hj hv hb1 hsz hp
    obtain ⟨fn, tmps, assign, body, y1, y2⟩ := hY pre x _ A1 hj ⟨v, rfl, hv⟩ hb1 hsz hp
    exact ⟨fn, tmps, assign, body, y1, y2.mono (fun e B h => ⟨h.1, h.2.1, fun g => (h.2.2 g).1⟩)⟩
  gi_wp2_with (first | (refine ⟨trivial, wide_depth, ?_⟩; refine (calls_any (m' := m - 1) (key _ ?k1 ?k2)).mono ?_; (case k1 => exact (Below.refl _ _).alloc (Nat.le_refl _) _); (case k2 => exact heap_alloc_new _ _); rintro e W3 ⟨b, rfl, hw⟩))
  go_end0
  exact ⟨⟨_, rfl⟩, hw⟩
end Go.Proofs.Ytffcpbgbhkbplaa.Print
namespace Go.Proofs.Ytffcpbgbhkbplaa.Print
open Go.RowKit Go.Proofs.YtffcpbgbhkbplaaW.PrintWords Go.Proofs.YtffcpbgbhkbplaaW.PrintLast Go.Proofs.YtffcpbgbhkbplaaW.PrintMore
attribute [local go_sem] max2_int min2_int max_two min_two max_three min_three max_four min_four
set_option linter.unusedVariables false
set_option linter.unusedSimpArgs false
open Go.RowKit
def Wr (W : World) (B sz : Nat) (A : Option Addr) (n : Nat) : Prop := n ≤ 9223372036854775807 ∧ (0 < n → ∃ (b : Nat) (t : TypeId) (cur : Array Value), A = some ⟨b, 0, none⟩ ∧ B ≤ b ∧ W.heap[b]? = some (.cells cur t (0, 0)) ∧ n * sz ≤ cur.size)
theorem Wr.move {W W1 : World} {B sz : Nat} {A : Option Addr} {n : Nat} (h : Wr W B sz A n) (hm : ∀ (b : Nat) (t : TypeId) (cur : Array Value), W.heap[b]? = some (.cells cur t (0, 0)) → ∃ cur' : Array Value, W1.heap[b]? = some (.cells cur' t (0, 0)) ∧ cur'.size = cur.size) : Wr W1 B sz A n :=
  ⟨h.1, fun hn => by
    obtain ⟨b, t, cur, h1, h2, h3, h4⟩ := h.2 hn
    obtain ⟨cur', h5, h6⟩ := hm b t cur h3
    exact ⟨b, t, cur', h1, h2, h5, by rw [h6]; exact h4⟩⟩
theorem Wr.moveB {W W1 : World} {B sz : Nat} {A : Option Addr} {n : Nat} (h : Wr W B sz A n) (hm : ∀ (b : Nat), B ≤ b → b < W.heap.size → W1.heap[b]? = W.heap[b]?) : Wr W1 B sz A n :=
  ⟨h.1, fun hn => by
    obtain ⟨b, t, cur, h1, h2, h3, h4⟩ := h.2 hn
    exact ⟨b, t, cur, h1, h2, (hm b h2 (blk_lt h3)).trans h3, h4⟩⟩
theorem Wr.below {W W1 : World} {B sz : Nat} {A : Option Addr} {n : Nat} (h : Wr W B sz A n) (hb : Below W.heap.size W W1) : Wr W1 B sz A n := h.move fun b _ cur hc => ⟨cur, (hb.block _ (blk_lt hc)).trans hc, rfl⟩
theorem Wr.lower {W : World} {B B' sz : Nat} {A : Option Addr} {n : Nat} (h : Wr W B sz A n) (hB : B' ≤ B) : Wr W B' sz A n := ⟨h.1, fun hn => by
  obtain ⟨b, t, cur, h1, h2, h3, h4⟩ := h.2 hn
  exact ⟨b, t, cur, h1, Nat.le_trans hB h2, h3, h4⟩⟩
theorem wr_of_R {α : Type} {d : Kd α} {e : Nat} {W : World} {B : Nat} {ok : Nat → Prop} {A : Option Addr} {n c : Nat} {xs : List α} {sz : Nat} (h : d.R e W B ok (.slice A n c) xs) (hs : d.sz = sz) : Wr W B sz A n := by
  obtain ⟨_, inner, ⟨_, ho⟩, _⟩ := h
  rcases ho with ⟨hv, _⟩ | ⟨g, cap, cur, hv, h1, h2, h3, h4, h5, _⟩
  · injection hv with e1 e2 e3
    subst e2
    exact ⟨Nat.zero_le _, fun hn => absurd hn (by omega)⟩
  · injection hv with e1 e2 e3
    subst e1
    subst e2
    subst e3
    unfold maxLen at h4
    refine ⟨by omega, fun _ => ⟨g, e, cur, rfl, h1, h2, ?_⟩⟩
    rw [h5, hs]
    exact Nat.mul_le_mul h3 (Nat.le_refl _)
theorem sized_set (W : World) (p : Addr) (v : Value) (hp : p.spot = none) : ∀ (b : Nat) (t : TypeId) (cur : Array Value), W.heap[b]? = some (.cells cur t (0, 0)) → ∃ cur' : Array Value, (W.setCell p v).heap[b]? = some (.cells cur' t (0, 0)) ∧ cur'.size = cur.size := by
  intro b t cur h
  by_cases e : b = p.block
  · obtain ⟨pb, po, pp⟩ := p
    simp only at hp e
    subst hp
    subst e
    exact ⟨_, blk_set h po v, by simp⟩
  · exact ⟨cur, (Below.heap_setCell _ _ _ _ e).trans h, rfl⟩
def Sp (w : World) (B : Nat) (x0 x1 : Int) (A2 : Option Addr) (n2 c2 : Nat) (A3 : Option Addr) (n3 c3 : Nat) (A4 : Option Addr) (n4 c4 : Nat) (W : World) : Prop :=
  W.heap[w.heap.size]? = some (.cells #[.int .i64 x0, .int .i64 x1, .slice A2 n2 c2, .slice A3 n3 c3, .slice A4 n4 c4] 47 (0, 0)) ∧ Wr W B 4 A2 n2 ∧ Wr W B 5 A3 n3 ∧ Wr W B 5 A4 n4 ∧ Below B w W ∧
  (∀ (b : Nat) (t : TypeId) (cur : Array Value), w.heap[b]? = some (.cells cur t (0, 0)) → ∃ cur' : Array Value, W.heap[b]? = some (.cells cur' t (0, 0)) ∧ cur'.size = cur.size) ∧ (∀ (k : Nat) (o : Obj), w.heap[k]? = some o → o.isCells = false → W.heap[k]? = some o)
theorem Sp.set {w : World} {B : Nat} {x0 x1 : Int} {A2 : Option Addr} {n2 c2 : Nat} {A3 : Option Addr} {n3 c3 : Nat} {A4 : Option Addr} {n4 c4 : Nat} {W : World} {b : Nat}
    (h : Sp w B x0 x1 A2 n2 c2 A3 n3 c3 A4 n4 c4 W ∧ ∃ (t : TypeId) (cur : Array Value), W.heap[b]? = some (.cells cur t (0, 0))) (hB : B ≤ b) (hne : b ≠ w.heap.size) (i : Nat) (v : Value) :
    Sp w B x0 x1 A2 n2 c2 A3 n3 c3 A4 n4 c4 (W.setCell ⟨b, i, none⟩ v) ∧ ∃ (t : TypeId) (cur : Array Value), (W.setCell ⟨b, i, none⟩ v).heap[b]? = some (.cells cur t (0, 0)) := by
  obtain ⟨⟨h1, h2, h3, h4, h5, h6, h7⟩, tq, curq, hq⟩ := h
  have hm := sized_set W ⟨b, i, none⟩ v rfl
  refine ⟨⟨(Below.heap_setCell _ _ _ _ (fun e => hne e.symm)).trans h1, h2.move hm, h3.move hm, h4.move hm, h5.trans ((Below.refl _ _).setCell hB _), fun b' t cur hc => ?_, fun k o hk ho => ?_⟩, ?_⟩
  · obtain ⟨cur', q1, q2⟩ := h6 b' t cur hc
    obtain ⟨cur2, q3, q4⟩ := hm b' t cur' q1
    exact ⟨cur2, q3, q4.trans q2⟩
  · have := h7 k o hk ho
    refine (Below.heap_setCell _ _ _ _ (fun e => ?_)).trans this
    simp only at e
    subst e
    rw [hq] at this
    cases this
    cases ho
  · exact ⟨_, _, blk_set hq i v⟩
theorem some_cell {W : World} {b : Nat} {t : TypeId} {cur : Array Value} (h : W.heap[b]? = some (.cells cur t (0, 0))) {i : Nat} (hi : i < cur.size) : ∃ v, W.cell? ⟨b, i, none⟩ = some v := ⟨cur[i], (blk_cell h i).trans (Array.getElem?_eq_getElem hi)⟩
theorem w3_spoil.calls (B : Nat) (x0 x1 : Int) (A2 : Option Addr) (n2 c2 : Nat) (A3 : Option Addr) (n3 c3 : Nat) (A4 : Option Addr) (n4 c4 : Nat) (w : World) (hB : B ≤ w.heap.size) (h2 : Wr w B 4 A2 n2) (h3 : Wr w B 5 A3 n3) (h4 : Wr w B 5 A4 n4) :
    Calls Try.prog 37 #[.agg #[.int .i64 x0, .int .i64 x1, .slice A2 n2 c2, .slice A3 n3 c3, .slice A4 n4 c4]] w fun e W => (∃ v, e = .returned v) ∧ Below B w W ∧ ∀ (k : Nat) (o : Obj), w.heap[k]? = some o → o.isCells = false → W.heap[k]? = some o := by
  have hu := Try.underlying47
  have hal : Sp w B x0 x1 A2 n2 c2 A3 n3 c3 A4 n4 c4 (w.alloc (.cells #[.int .i64 x0, .int .i64 x1, .slice A2 n2 c2, .slice A3 n3 c3, .slice A4 n4 c4] 47)) :=
    have hb := (Below.refl w.heap.size w).alloc (Nat.le_refl _) (.cells #[.int .i64 x0, .int .i64 x1, .slice A2 n2 c2, .slice A3 n3 c3, .slice A4 n4 c4] 47)
    ⟨blk_new w _, h2.below hb, h3.below hb, h4.below hb, (Below.refl _ _).alloc hB _, fun (b : Nat) (t : TypeId) (cur : Array Value) hc => ⟨cur, (hb.block _ (blk_lt hc)).trans hc, rfl⟩, fun k o hk _ => (hb.block _ (blk_lt hk)).trans hk⟩
  have l2 := h2.1
  have l3 := h3.1
  have l4 := h4.1
  have S0 := Aside0.mk hal
  have hne : ∀ (b : Nat) (t : TypeId) (cur : Array Value), w.heap[b]? = some (.cells cur t (0, 0)) → b ≠ w.heap.size := fun b t cur h => Nat.ne_of_lt (blk_lt h)
  have B2 : 0 < n2 → ∃ b, A2 = some ⟨b, 0, none⟩ ∧ b ≠ w.heap.size := fun h => by obtain ⟨b, t, cur, e1, e2, e3, _⟩ := h2.2 h; exact ⟨b, e1, hne b t cur e3⟩
  have B3 : 0 < n3 → ∃ b, A3 = some ⟨b, 0, none⟩ ∧ b ≠ w.heap.size := fun h => by obtain ⟨b, t, cur, e1, e2, e3, _⟩ := h3.2 h; exact ⟨b, e1, hne b t cur e3⟩
  have B4 : 0 < n4 → ∃ b, A4 = some ⟨b, 0, none⟩ ∧ b ≠ w.heap.size := fun h => by obtain ⟨b, t, cur, e1, e2, e3, _⟩ := h4.2 h; exact ⟨b, e1, hne b t cur e3⟩
  have K2 := Aside0.mk B2
  have K3 := Aside0.mk B3
  have K4 := Aside0.mk B4
  clear h2 h3 h4 hal hne B2 B3 B4
  go_enter Try.func37, Try.ntmps37
  have y0 := blk_cell S0.out.1
  have y2 : (w.alloc (.cells #[.int .i64 x0, .int .i64 x1, .slice A2 n2 c2, .slice A3 n3 c3, .slice A4 n4 c4] 47)).cell? ⟨w.heap.size, 2, none⟩ = some (.slice A2 n2 c2) := (y0 2).trans rfl
  clear y0
  go_wp2
  generalize w.alloc (.cells #[.int .i64 x0, .int .i64 x1, .slice A2 n2 c2, .slice A3 n3 c3, .slice A4 n4 c4] 47) = W0 at S0 y2 ⊢
  clear y2
  go_loopw [8] (fun i W => ∃ k : Nat, i = .int .i64 k ∧ k ≤ n2 ∧ Aside0 (Sp w B x0 x1 A2 n2 c2 A3 n3 c3 A4 n4 c4 W)) (fun i _ => n2 - (intOf i).toNat)
  case atStart => exact ⟨0, rfl, Nat.zero_le _, S0⟩
  case round =>
    obtain ⟨k, rfl, hk, S1⟩ := hrel
    have y0 : wr.cell? ⟨w.heap.size, 2, none⟩ = some (.slice A2 n2 c2) := (blk_cell S1.out.1 2).trans rfl
    by_cases hlt : k < n2
    · have l0 : k < 9223372036854775807 := by omega
      obtain ⟨b, rfl, hbn⟩ := K2.out (by omega)
      obtain ⟨b', t, cur, e, hBb, hcur, hsz⟩ := S1.out.2.1.2 (by omega)
      obtain rfl : b = b' := by injection e with e; injection e
      clear e
      have hk1 : (k + 1) * 4 ≤ n2 * 4 := Nat.mul_le_mul hlt (Nat.le_refl _)
      obtain ⟨v0, q0⟩ := some_cell hcur (i := k * 4) (by omega)
      obtain ⟨v1, q1⟩ := some_cell hcur (i := k * 4 + 1) (by omega)
      obtain ⟨v2, q2⟩ := some_cell hcur (i := k * 4 + 2) (by omega)
      obtain ⟨v3, q3⟩ := some_cell hcur (i := k * 4 + 3) (by omega)
      have f0 := blk_frozen hcur (k * 4)
      have f1 := blk_frozen hcur (k * 4 + 1)
      have f2 := blk_frozen hcur (k * 4 + 2)
      have f3 := blk_frozen hcur (k * 4 + 3)
      have hlt' : ((k : Nat) : Int) < (n2 : Int) := by omega
      have HQ := Aside0.mk (⟨_, _, hcur⟩ : ∃ (t : TypeId) (cur : Array Value), wr.heap[b]? = some (.cells cur t (0, 0)))
      clear hcur hsz
      go_wp2
      exact ⟨⟨k + 1, by go_num, by omega, ⟨(Sp.set (Sp.set (Sp.set (Sp.set ⟨S1.out, HQ.out⟩ hBb hbn _ _) hBb hbn _ _) hBb hbn _ _) hBb hbn _ _).1⟩⟩, by simp [intOf]; omega⟩
    · have hge : ¬ ((k : Nat) : Int) < (n2 : Int) := by omega
      obtain ⟨wo3, rfl⟩ : ∃ wo : World, wo = wr := ⟨_, rfl⟩
      have S3 := S1
      have z0 : wo3.cell? ⟨w.heap.size, 3, none⟩ = some (.slice A3 n3 c3) := (blk_cell S1.out.1 3).trans rfl
      clear S1 y0 hk hlt
      go_wp2
      clear z0 hge
      go_loopw [20] (fun i W => ∃ k : Nat, i = .int .i64 k ∧ k ≤ n3 ∧ Aside0 (Sp w B x0 x1 A2 n2 c2 A3 n3 c3 A4 n4 c4 W)) (fun i _ => n3 - (intOf i).toNat)
      case atStart => exact ⟨0, rfl, Nat.zero_le _, S3⟩
      case round =>
        obtain ⟨k, rfl, hk, S1⟩ := hrel
        have y0 : wr.cell? ⟨w.heap.size, 3, none⟩ = some (.slice A3 n3 c3) := (blk_cell S1.out.1 3).trans rfl
        by_cases hlt : k < n3
        · have l0 : k < 9223372036854775807 := by omega
          obtain ⟨b, rfl, hbn⟩ := K3.out (by omega)
          obtain ⟨b', t, cur, e, hBb, hcur, hsz⟩ := S1.out.2.2.1.2 (by omega)
          obtain rfl : b = b' := by injection e with e; injection e
          clear e
          obtain ⟨v0, q0⟩ := some_cell hcur (i := k * 5) (by omega)
          obtain ⟨v1, q1⟩ := some_cell hcur (i := k * 5 + 1) (by omega)
          obtain ⟨v2, q2⟩ := some_cell hcur (i := k * 5 + 2) (by omega)
          obtain ⟨v3, q3⟩ := some_cell hcur (i := k * 5 + 3) (by omega)
          obtain ⟨v4, q4⟩ := some_cell hcur (i := k * 5 + 4) (by omega)
          have f0 := blk_frozen hcur (k * 5)
          have f1 := blk_frozen hcur (k * 5 + 1)
          have f2 := blk_frozen hcur (k * 5 + 2)
          have f3 := blk_frozen hcur (k * 5 + 3)
          have f4 := blk_frozen hcur (k * 5 + 4)
          have hlt' : ((k : Nat) : Int) < (n3 : Int) := by omega
          have HQ := Aside0.mk (⟨_, _, hcur⟩ : ∃ (t : TypeId) (cur : Array Value), wr.heap[b]? = some (.cells cur t (0, 0)))
          clear hcur hsz
          go_wp2
          exact ⟨⟨k + 1, by go_num, by omega, ⟨(Sp.set (Sp.set (Sp.set (Sp.set (Sp.set ⟨S1.out, HQ.out⟩ hBb hbn _ _) hBb hbn _ _) hBb hbn _ _) hBb hbn _ _) hBb hbn _ _).1⟩⟩, by simp [intOf]; omega⟩
        · have hge : ¬ ((k : Nat) : Int) < (n3 : Int) := by omega
          obtain ⟨wo4, rfl⟩ : ∃ wo : World, wo = wr := ⟨_, rfl⟩
          have S4 := S1
          have z0 : wo4.cell? ⟨w.heap.size, 4, none⟩ = some (.slice A4 n4 c4) := (blk_cell S1.out.1 4).trans rfl
          clear S1 y0 hk hlt
          go_wp2
          clear z0 hge
          go_loopw [32] (fun i W => ∃ k : Nat, i = .int .i64 k ∧ k ≤ n4 ∧ Aside0 (Sp w B x0 x1 A2 n2 c2 A3 n3 c3 A4 n4 c4 W)) (fun i _ => n4 - (intOf i).toNat)
          case atStart => exact ⟨0, rfl, Nat.zero_le _, S4⟩
          case round =>
            obtain ⟨k, rfl, hk, S1⟩ := hrel
            have y0 : wr.cell? ⟨w.heap.size, 4, none⟩ = some (.slice A4 n4 c4) := (blk_cell S1.out.1 4).trans rfl
            by_cases hlt : k < n4
            · have l0 : k < 9223372036854775807 := by omega
              obtain ⟨b, rfl, hbn⟩ := K4.out (by omega)
              obtain ⟨b', t, cur, e, hBb, hcur, hsz⟩ := S1.out.2.2.2.1.2 (by omega)
              obtain rfl : b = b' := by injection e with e; injection e
              clear e
              obtain ⟨v0, q0⟩ := some_cell hcur (i := k * 5) (by omega)
              obtain ⟨v1, q1⟩ := some_cell hcur (i := k * 5 + 1) (by omega)
              obtain ⟨v2, q2⟩ := some_cell hcur (i := k * 5 + 2) (by omega)
              obtain ⟨v3, q3⟩ := some_cell hcur (i := k * 5 + 3) (by omega)
              obtain ⟨v4, q4⟩ := some_cell hcur (i := k * 5 + 4) (by omega)
              have f0 := blk_frozen hcur (k * 5)
              have f1 := blk_frozen hcur (k * 5 + 1)
              have f2 := blk_frozen hcur (k * 5 + 2)
              have f3 := blk_frozen hcur (k * 5 + 3)
              have f4 := blk_frozen hcur (k * 5 + 4)
              have hlt' : ((k : Nat) : Int) < (n4 : Int) := by omega
              have HQ := Aside0.mk (⟨_, _, hcur⟩ : ∃ (t : TypeId) (cur : Array Value), wr.heap[b]? = some (.cells cur t (0, 0)))
              clear hcur hsz
              go_wp2
              exact ⟨⟨k + 1, by go_num, by omega, ⟨(Sp.set (Sp.set (Sp.set (Sp.set (Sp.set ⟨S1.out, HQ.out⟩ hBb hbn _ _) hBb hbn _ _) hBb hbn _ _) hBb hbn _ _) hBb hbn _ _).1⟩⟩, by simp [intOf]; omega⟩
            · have hge : ¬ ((k : Nat) : Int) < (n4 : Int) := by omega
              go_wp2
              go_end0
              exact ⟨⟨_, rfl⟩, S1.out.2.2.2.2.1, S1.out.2.2.2.2.2.2⟩
end Go.Proofs.Ytffcpbgbhkbplaa.Print
namespace Go.Proofs.Ytffcpbgbhkbplaa.Print
open Go.RowKit Go.Proofs.YtffcpbgbhkbplaaW.PrintWords Go.Proofs.YtffcpbgbhkbplaaW.PrintLast Go.Proofs.YtffcpbgbhkbplaaW.PrintMore
attribute [local go_sem] max2_int min2_int max_two min_two max_three min_three max_four min_four
set_option linter.unusedVariables false
set_option linter.unusedSimpArgs false
open Go.Shelf Go.RowKit
def roundM {α : Type} (S0 : Nat) (w0 : World) (I : List α → World → Prop) (Ix : Code → List α → World → Prop) (go : List α → α → Bool) (pre : List α) (x : α) (M : Nat) (W2 : World) : Exit → Act → World → Prop
  | .normal, _, W3 => go pre x = true ∧ W2.heap.size ≤ W3.heap.size ∧ (∀ k, S0 ≤ k → k < M → W3.heap[k]? = W2.heap[k]?) ∧ Below w0.heap.size w0 W3 ∧ I (pre ++ [x]) W3
  | .ret, _, W3 => go pre x = false ∧ (∀ k, S0 ≤ k → k < M → W3.heap[k]? = W2.heap[k]?) ∧ Ix .ret (pre ++ [x]) W3
  | .exit id, _, W3 => go pre x = false ∧ (∀ k, S0 ≤ k → k < M → W3.heap[k]? = W2.heap[k]?) ∧ Ix (.exit id) (pre ++ [x]) W3
  | _, _, _ => False
def SeqM {α : Type} (P : Program) (gf : Nat) (lb : Array Value) (E : α → Array Value → World → Nat → Prop) (its : List α) (w0 : World) (Pre : World → Prop) : Prop :=
  ∀ (m l : Nat) (J Jx : List α → World → Prop) (go : List α → α → Bool) (W : World), Below w0.heap.size w0 W → Pre W →
    (∀ pre A B, J pre A → Below W.heap.size A B → J pre B) →
    (∀ pre A (j : Nat) (o o' : Obj), W.heap.size ≤ j → Jx pre A → A.heap[j]? = some o → o.isCells = false → Jx pre (A.putObj j o')) →
    (∀ pre x av A M, J pre A → E x av A M → Below w0.heap.size w0 A → W.heap.size ≤ M → M ≤ A.heap.size → (pre ++ [x]) <+: its → YieldAt Fence.wide m P l av A fun e B =>
      e = .returned (.bool (go pre x)) ∧ (go pre x = true → J (pre ++ [x]) B ∧ (A.heap.size ≤ B.heap.size ∧ ∀ k, W.heap.size ≤ k → k < M → B.heap[k]? = A.heap[k]?) ∧ Below w0.heap.size w0 B) ∧ (go pre x = false → Jx (pre ++ [x]) B ∧ ∀ k, W.heap.size ≤ k → k < M → B.heap[k]? = A.heap[k]?)) →
    J [] W →
    CallsIn Fence.wide m P gf (#[.func (.yield l) #[] #[]] ++ lb) W fun e W' => (∃ v, e = .returned v) ∧
      ((stopAt go [] its = none ∧ J its W' ∧ Below w0.heap.size w0 W') ∨ (∃ q, stopAt go [] its = some q ∧ Jx q W'))
theorem wpIn_rangeM {α : Type} {n : Nat} {P : Program} {g : Operand} {ps : Array Tmp} {assign body : Code} {Q : Exit → Act → World → Prop} {a : Act} {w : World} {gf : Nat} {lb : Array Value}
    (hg : a.eval g = .func (.func gf) #[] lb) (eg : ∀ args w, (callFunc gf args).run P w = .ok (.enter gf args) w)
    {E : α → Array Value → World → Nat → Prop} {its : List α} {w0 : World} {Pre : World → Prop} (hseq : SeqM P gf lb E its w0 Pre) (hpre : ∀ W1, Below w.heap.size w W1 → Pre W1) (hb0 : Below w0.heap.size w0 w) (hps : ∀ x av A M, E x av A M → av.size = ps.size)
    (go : List α → α → Bool) (I : List α → World → Prop) (Ix : Code → List α → World → Prop)
    (hI : ∀ pre A B, I pre A → Below w.heap.size A B → I pre B) (hIx : ∀ c pre A (j : Nat) (o o' : Obj), w.heap.size ≤ j → Ix c pre A → A.heap[j]? = some o → o.isCells = false → Ix c pre (A.putObj j o')) (h0 : I [] w)
    (hround : ∀ l pre x av W M, I pre W → E x av W M → (pre ++ [x]) <+: its → Below w0.heap.size w0 W → w.heap.size + 2 ≤ M → M ≤ W.heap.size →
      assign.wpIn (Fence.wide.inRound l) n P (Exit.then (fun a1 W1 => W.grownBy W1 none ∧ ∀ W2, W1.grownBy W2 (some (w.heap.size + 1)) → W2.heap.size = W1.heap.size → I pre W2 → Below w0.heap.size w0 W2 →
        body.wpIn (Fence.wide.inRound l) n P (roundM w.heap.size w0 I Ix go pre x M W2) a1 W2) (fun _ _ _ => False)) { tmps := (ps.zip av).foldl (fun t (p, v) => t.setIfInBounds p v) a.tmps, defers := [] } W)
    (hdone : ∀ W, stopAt go [] its = none → I its W → Below w0.heap.size w0 W → W.heap[w.heap.size]? = some (.deferred (some [])) → Q .normal { a with defers := { target := .collected w.heap.size, args := #[] } :: a.defers } W)
    (hstop : ∀ c q W, stopAt go [] its = some q → Ix c q W → W.heap[w.heap.size]? = some (.deferred (some [])) → c.wpIn Fence.wide n P Q { a with defers := { target := .collected w.heap.size, args := #[] } :: a.defers } W) :
    (Code.rangeFunc g ps assign body).wpIn Fence.wide n P Q a w := by
  refine wpIn_rangeFunc ?_
  intro fn hfn
  obtain ⟨rec, hrec⟩ : ∃ rec : LoopState → Option Code → Loop, rec = fun st pe => { state := st, pending := pe, fn, tmps := a.tmps, params := ps, assign, body, defers := w.heap.size } := ⟨_, rfl⟩
  obtain ⟨W1, hW1⟩ : ∃ W1, (w.alloc (.deferred (some []))).alloc (.loop (rec .ready none)) = W1 := ⟨_, rfl⟩
  have hL1 : W1.heap[w.heap.size + 1]? = some (.loop (rec .ready none)) := by
    rw [← hW1]; have := World.alloc_heap_new (w.alloc (.deferred (some []))) (.loop (rec .ready none)); rwa [World.size_alloc] at this
  have hK1 : W1.heap[w.heap.size]? = some (.deferred (some [])) := by
    rw [← hW1]; exact (Below.heap_alloc _ _ _ (by simp)).trans (World.alloc_heap_new w _)
  have hS1 : W1.heap.size = w.heap.size + 2 := by rw [← hW1]; simp
  have hw1 : Below w.heap.size w W1 := by
    rw [← hW1]; exact ((Below.refl _ w).alloc (Nat.le_refl _) _).alloc (by simp) _
  have hI1 : I [] W1 := hI _ _ _ h0 hw1
  have hb1 : Below w0.heap.size w0 W1 := hb0.trans (hw1.mono hb0.size)
  have hB0 : w0.heap.size ≤ w.heap.size := hb0.size
  refine ⟨w.heap.size + 1, [{ target := .collected w.heap.size, args := #[] }], W1, { target := .fn (.func gf) lb, args := #[.func (.yield (w.heap.size + 1)) #[] #[]] }, W1, gf,
    #[.func (.yield (w.heap.size + 1)) #[] #[]] ++ lb, W1, ?_, ?_, ?_, ?_, wide_depth, ?_⟩
  · rw [← hW1, hrec]; exact run_enterLoop_outer _ _ _ _ _
  · simp only [resolve, hg]
    simp [go_sem]
  · intro f' hf'; trivial
  · simp [invoke, go_sem, eg]
  refine (hseq (n - 1) (w.heap.size + 1)
    (fun pre W => I pre W ∧ W.heap[w.heap.size + 1]? = some (.loop (rec .ready none)) ∧ W.heap[w.heap.size]? = some (.deferred (some [])))
    (fun pre W => ∃ c, Ix c pre W ∧ W.heap[w.heap.size + 1]? = some (.loop (rec .done (some c))) ∧ W.heap[w.heap.size]? = some (.deferred (some [])))
    go W1 hb1 (hpre W1 hw1)
    (fun pre A B hs hb => ⟨hI _ _ _ hs.1 (hb.mono (by omega)), (hb.block _ (by omega)).trans hs.2.1, (hb.block _ (by omega)).trans hs.2.2⟩)
    (fun pre A j o o' hj hs hA ho => by
      obtain ⟨c, h1, h2, h3⟩ := hs
      exact ⟨c, hIx _ _ _ _ _ _ (by omega) h1 hA ho, (World.putObj_heap_other (by omega)).trans h2, (World.putObj_heap_other (by omega)).trans h3⟩)
    ?_ ⟨hI1, hL1, hK1⟩).mono ?_
  · rintro pre x av W M ⟨hi, hl, hk⟩ hE hbW hM1 hM2 hpre
    have hlt : w.heap.size + 1 < W.heap.size := (Array.getElem?_eq_some_iff.1 hl).1
    have hy := run_yield (P := P) (args := av) hl (by rw [hrec]; exact hps x av W M hE)
    rw [hrec] at hy
    refine ⟨fn, _, assign, body, hy, round_any (roundIn_of_wpIn (n := n) trivial ?_)⟩
    refine wpIn_mono (hround (w.heap.size + 1) pre x av W M hi hE hpre hbW (by omega) hM2) ?_
    rintro e a1 Wa hp
    cases e with
    | normal =>
      obtain ⟨hga, hbd⟩ := hp
      have hla := (hga.block _ hlt (by simp)).trans hl
      have hka := (hga.block _ (by omega : w.heap.size < W.heap.size) (by simp)).trans hk
      have hgs := hga.size
      have hlta : w.heap.size + 1 < Wa.heap.size := by omega
      refine ⟨_, run_beginRound hla (by rw [hrec]), ?_⟩
      have hg2 := grownBy_putObj' Wa (w.heap.size + 1) (.loop { rec .ready none with state := .busy })
      have hl2 : (Wa.putObj (w.heap.size + 1) (.loop { rec .ready none with state := .busy })).heap[w.heap.size + 1]? = some (.loop { rec .ready none with state := .busy }) := World.putObj_heap_same hlta
      have hk2 : (Wa.putObj (w.heap.size + 1) (.loop { rec .ready none with state := .busy })).heap[w.heap.size]? = some (.deferred (some [])) := (World.putObj_heap_other (by omega)).trans hka
      have hs2 : (Wa.putObj (w.heap.size + 1) (.loop { rec .ready none with state := .busy })).heap.size = Wa.heap.size := by simp
      have hba : Below w.heap.size W Wa := ⟨hga.os, hga.tape, hga.output, hga.size, fun k hk => hga.block k (by omega) (by simp)⟩
      have hb2 : Below w.heap.size W (Wa.putObj (w.heap.size + 1) (.loop { rec .ready none with state := .busy })) := hba.trans (below_put _ _ _ (by omega))
      generalize Wa.putObj (w.heap.size + 1) (.loop { rec .ready none with state := .busy }) = W2 at hg2 hl2 hk2 hs2 hb2 ⊢
      refine wpIn_mono (hbd W2 hg2 hs2 (hI _ _ _ hi hb2) (hbW.trans (hb2.mono hB0))) ?_
      have fin : ∀ (jump : Option Code) (W3 : World), (∀ k, w.heap.size ≤ k → k < M → W3.heap[k]? = W2.heap[k]?) →
          (Instr.endRound (w.heap.size + 1) jump).run P W3 = .ok (.bool jump.isNone) (W3.putObj (w.heap.size + 1) (.loop (rec (if jump.isNone then .ready else .done) jump))) ∧
          (W3.putObj (w.heap.size + 1) (.loop (rec (if jump.isNone then .ready else .done) jump))).heap[w.heap.size + 1]? = some (.loop (rec (if jump.isNone then .ready else .done) jump)) ∧
          (W3.putObj (w.heap.size + 1) (.loop (rec (if jump.isNone then .ready else .done) jump))).heap[w.heap.size]? = some (.deferred (some [])) ∧ W3.heap[w.heap.size + 1]? = some (.loop { rec .ready none with state := .busy }) := fun jump W3 hk3 => by
        have hl3 := (hk3 _ (by omega) (by omega)).trans hl2
        have := run_endRound (P := P) jump hl3
        rw [hrec] at this ⊢
        exact ⟨this, World.putObj_heap_same (Array.getElem?_eq_some_iff.1 hl3).1, (World.putObj_heap_other (by omega)).trans ((hk3 _ (Nat.le_refl _) (by omega)).trans hk2), by rw [hrec] at hl3; exact hl3⟩
      rintro e3 a3 W3 hq
      cases e3 with
      | normal =>
        obtain ⟨hgo, hsz3, hk3, hb3, hi3⟩ := hq
        obtain ⟨hr, hl4, hk4, hl3⟩ := fin none W3 hk3
        have hp3 := below_put w.heap.size W3 (.loop (rec .ready none)) (by omega : w.heap.size ≤ w.heap.size + 1)
        have hg3 := grownBy_putObj' W3 (w.heap.size + 1) (.loop (rec .ready none))
        refine ⟨_, _, hr, by rw [hgo]; rfl, fun _ => ⟨⟨hI _ _ _ hi3 hp3, hl4, hk4⟩, ⟨?_, ?_⟩, hb3.trans (hp3.mono hB0)⟩, fun h => by rw [hgo] at h; cases h⟩
        · have := hg3.size; simp only [Option.isNone_none, if_true]; omega
        · intro k h1 h2
          simp only [Option.isNone_none, if_true]
          rw [World.putObj_heap_other (by omega), hk3 k (by omega) h2, hg2.block k (by omega) (by intro e; injection e with e; omega)]
          exact hga.block k (by omega) (by simp)
      | ret =>
        obtain ⟨hgo, hk3, hi3⟩ := hq
        obtain ⟨hr, hl4, hk4, hl3⟩ := fin (some .ret) W3 hk3
        exact ⟨_, _, hr, by rw [hgo]; rfl, fun h => (by rw [hgo] at h; cases h), fun _ => ⟨⟨.ret, hIx _ _ _ _ _ _ (by omega) hi3 hl3 rfl, hl4, hk4⟩, fun k h1 h2 => by
          rw [World.putObj_heap_other (by omega), hk3 k (by omega) h2, hg2.block k (by omega) (by intro e; injection e with e; omega)]
          exact hga.block k (by omega) (by simp)⟩⟩
      | exit id =>
        obtain ⟨hgo, hk3, hi3⟩ := hq
        obtain ⟨hr, hl4, hk4, hl3⟩ := fin (some (.exit id)) W3 hk3
        exact ⟨_, _, hr, by rw [hgo]; rfl, fun h => (by rw [hgo] at h; cases h), fun _ => ⟨⟨.exit id, hIx _ _ _ _ _ _ (by omega) hi3 hl3 rfl, hl4, hk4⟩, fun k h1 h2 => by
          rw [World.putObj_heap_other (by omega), hk3 k (by omega) h2, hg2.block k (by omega) (by intro e; injection e with e; omega)]
          exact hga.block k (by omega) (by simp)⟩⟩
      | goto t => exact hq.elim
      | panic ch => exact hq.elim
      | outgrown => exact hq.elim
    | ret => exact hp.elim
    | exit id => exact hp.elim
    | goto t => exact hp.elim
    | panic ch => exact hp.elim
    | outgrown => exact hp.elim
  · rintro e W2 ⟨⟨v, rfl⟩, (⟨hS, ⟨hi, hl, hk⟩, hb2⟩ | ⟨q, hS, c, hi, hl, hk⟩)⟩
    · have hp3 := below_put w.heap.size W2 (.loop (rec .exhausted none)) (by omega : w.heap.size ≤ w.heap.size + 1)
      exact ⟨none, _, by have := run_endLoop (P := P) hl (by rw [hrec]; simp); rw [hrec] at this; exact this, hdone _ hS (hI _ _ _ hi (below_put _ _ _ (by omega))) (hb2.trans ((below_put _ _ _ (by omega)).mono hB0)) ((World.putObj_heap_other (by omega)).trans hk)⟩
    · exact ⟨some c, _, by have := run_endLoop (P := P) hl (by rw [hrec]; simp); rw [hrec] at this; exact this, hstop c q _ hS (hIx _ _ _ _ _ _ (by omega) hi hl rfl) ((World.putObj_heap_other (by omega)).trans hk)⟩
end Go.Proofs.Ytffcpbgbhkbplaa.Print
namespace Go.Proofs.Ytffcpbgbhkbplaa.Print
open Go.RowKit Go.Proofs.YtffcpbgbhkbplaaW.PrintWords Go.Proofs.YtffcpbgbhkbplaaW.PrintLast Go.Proofs.YtffcpbgbhkbplaaW.PrintMore
attribute [local go_sem] max2_int min2_int max_two min_two max_three min_three max_four min_four
set_option linter.unusedVariables false
set_option linter.unusedSimpArgs false
open Go.Shelf Go.RowKit
attribute [local go_sem] Oper.semAt_some
def copyOwn (k : Nat) (x : Int × S47) (av : Array Value) (A : World) (M : Nat) : Prop := ∃ (r1 r2 : Int) (r3 : List S96) (r4 r5 : List S47) (A3 : Option Addr) (c3 : Nat) (A4 : Option Addr) (c4 : Nat) (A5 : Option Addr) (c5 : Nat),
  prog_Copied.f k x.2.f0 x.2.f1 x.2.f2 x.2.f3 x.2.f4 = some (r1, r2, r3, r4, r5) ∧ av = #[.int .i64 x.1, .agg #[.int .i64 r1, .int .i64 r2, .slice A3 r3.length c3, .slice A4 r4.length c4, .slice A5 r5.length c5]] ∧
  Wr A M 4 A3 r3.length ∧ Wr A M 5 A4 r4.length ∧ Wr A M 5 A5 r5.length
theorem prog_All.seqOwn (w0 : World) (bp : Nat) (a0 : Int) (A1 : Option Addr) (c1 : Nat) (l1 : List S82) (A2 : Option Addr) (c2 : Nat) (l2 : List S47) (tc : Int) (its : List (Int × S47)) (n' : Int) (k : Nat)
    (hr1 : Kd.C k82 w0 A1 l1.length l1) (hc1 : l1.length ≤ c1) (hr2 : Kd.C k47 w0 A2 l2.length l2) (hc2 : l2.length ≤ c2) (hch : prog_Check.f k a0 l1 l2 = some tc) (hw : prog_walk.f k l2 0 = some (its, n'))
    (hcp : ∀ x ∈ its, ∃ r, prog_Copied.f k x.2.f0 x.2.f1 x.2.f2 x.2.f3 x.2.f4 = some r) :
    SeqM Try.prog 62 #[.pointer (some ⟨bp, 0, none⟩)] (copyOwn k) (if tc = 0 then its else []) w0 (fun W => W.heap[bp]? = some (.cells #[.int .i64 a0, .slice A1 l1.length c1, .slice A2 l2.length c2] 25 (0, 0))) := by
  intro m rl J Jx go W hb hp hJ hJx hY hJ0
  have huP := Try.underlying25
  refine callsIn_of_wp_marks Try.func62 rfl trivial ?_ rfl
  simp only [Try.ntmps62, List.size_toArray, List.length_cons, List.length_nil, Nat.reduceAdd, Nat.reduceSub, Array.replicate_succ, Array.replicate_zero, List.push_toArray, List.append_toArray, List.nil_append, List.cons_append]
  obtain ⟨q0, q1, q2⟩ := cells3 hp
  have hlt := blk_lt hp
  have HY := Aside0.mk hY
  have HJ := Aside0.mk hJ
  have HJX := Aside0.mk hJx
  have HB := Aside0.mk hb
  have HP := Aside0.mk hp
  clear hY hJ hJx hb hp
  have y1 := heap_alloc_new W (.cells #[.func (.yield rl) #[] #[]] 93)
  have b1 : Below W.heap.size W (W.alloc (.cells #[.func (.yield rl) #[] #[]] 93)) := (Below.refl _ _).alloc (Nat.le_refl _) _
  gi_wp2
  generalize W.alloc (.cells #[.func (.yield rl) #[] #[]] 93) = W1 at y1 b1 ⊢
  have B1 := HB.out.trans (b1.mono HB.out.size)
  refine ⟨trivial, wide_depth, ?_⟩
  refine (callsIn_wide.2 (prog_Check.calls k a0 _ _ l1 _ _ l2 tc W1 (Kd.C_below hr1 B1) hc1 (Kd.C_below hr2 B1) hc2 hch)).mono ?_
  rintro e W2 ⟨rfl, hb2⟩
  have b2 := b1.trans (hb2.mono b1.size)
  have y2 := (hb2.block _ (blk_lt y1)).trans y1
  have p2 := (b2.block _ (blk_lt HP.out)).trans HP.out
  clear y1 q0 q1 q2 hb2
  by_cases htc : tc = 0
  case neg =>
    have g1 : (tc == 0) = false := beq_eq_false_iff_ne.mpr htc
    have g2 : (tc != 0) = true := bne_iff_ne.mpr htc
    gi_wp2
    exact ⟨_, results_none rfl _ _ _, ⟨_, rfl⟩, .inl ⟨rfl, HJ.out _ _ _ hJ0 b2, HB.out.trans (b2.mono HB.out.size)⟩⟩
  case pos =>
    subst htc
    obtain ⟨q0, q1, q2⟩ := cells3 p2
    gi_wp2_with (first | (refine ⟨trivial, wide_depth, ?_⟩; refine (callsIn_wide.2 (prog_each.fn _ _ _ W2)).mono ?_; rintro e W3 ⟨rfl, hb3, q3⟩))
    have b3 := b2.trans (hb3.mono b2.size)
    have y3 := (hb3.block _ (blk_lt y2)).trans y2
    have B3 := HB.out.trans (b3.mono HB.out.size)
    have hS2 := blk_lt y2
    have hS3 := blk_lt q3
    clear q0 q1 q2 y2 p2
    refine wpIn_rangeW (gf := 76) (lb := #[.pointer (some ⟨W2.heap.size, 0, none⟩)]) rfl (enters_of Try.func76 (by kernel_rfl) rfl)
      (prog_each.seqW w0 W2.heap.size A2 c2 l2 its n' k hr2 hc2 hw) (fun W4 h4 => (blk_cell ((h4.block _ hS3).trans q3) 2).trans rfl) B3 (by rintro x av A ⟨v, rfl, _⟩; rfl)
      go
      (fun pre A => J pre A ∧ A.heap[W.heap.size]? = some (.cells #[.func (.yield rl) #[] #[]] 93 (0, 0)))
      (fun c pre A => c = .ret ∧ Jx pre A)
      (fun pre A B h hb => ⟨HJ.out _ _ _ h.1 (hb.mono b3.size), (hb.block _ (by omega)).trans h.2⟩)
      (fun c pre A j o o' hj h hA ho => ⟨h.1, HJX.out _ _ _ _ _ (by have := b3.size; omega) h.2 hA ho⟩)
      ⟨HJ.out _ _ _ hJ0 b3, y3⟩ ?round ?done ?stop
    case done =>
      rintro A hst ⟨hj, hy⟩ hb4 hD
      gi_wp2
      refine ⟨by simp, .inl ⟨_, _, rfl, run_takeDeferred hD, ?_⟩⟩
      exact ⟨_, results_none rfl _ _ _, ⟨_, rfl⟩, HJ.out _ _ _ hj (below_put _ _ _ (by omega)), hb4.trans (below_put _ _ _ (by have := B3.size; omega))⟩
    case stop =>
      rintro c q A hst ⟨rfl, hx⟩ hD
      gi_wp2
      refine ⟨by simp, .inl ⟨_, _, rfl, run_takeDeferred hD, ?_⟩⟩
      exact ⟨_, results_none rfl _ _ _, ⟨_, rfl⟩, HJX.out _ _ _ _ _ (by omega) hx hD rfl⟩
    case round =>
      rintro l pre x av A ⟨hj, hy⟩ ⟨v, rfl, hv⟩ hpre hbA hsz
      obtain ⟨A2', z2, A3', z3, A4', z4, rfl, ql2, qr2, ql3, qr3, ql4, qr4⟩ := hv
      gi_wp2
      refine ⟨World.grownBy_alloc _ _ _, ?_⟩
      intro A4w hg4 hs4 hi4 hb4
      have x4 : A4w.heap[A.heap.size]? = some (.cells #[.int .i64 x.2.f0, .int .i64 x.2.f1, .slice A2' x.2.f2.length z2, .slice A3' x.2.f3.length z3, .slice A4' x.2.f4.length z4] 47 (0, 0)) :=
        (hg4.block A.heap.size (by simp) (by intro e; injection e with e; omega)).trans (heap_alloc_new _ _)
      obtain ⟨m0, m1, m2, m3, m4⟩ := cells5 x4
      have hsW : A4w.heap.size = A.heap.size + 1 := by rw [hs4]; simp
      have yq : A4w.cell? ⟨W.heap.size, 0, none⟩ = some (.func (.yield rl) #[] #[]) := (blk_cell hi4.2 0).trans rfl
      obtain ⟨⟨r1, r2, r3, r4, r5⟩, CP⟩ := hcp x (hpre.subset (by simp))
      have BD : Below w0.heap.size w0 A4w.drew := bd1 hb4
      gi_wp2
      refine wpIn_region_any (by kernel_rfl) ?_
      change wpAnyIn _ _ _ _ _ _ _ _ _ (World.drew _)
      refine (fun (key : ?KeyT) => ?main) ?key
      case main =>
        skip
        refine wpAnyIn_ready (rs := [0, 1, 2]) (by kernel_rfl) (by simp) ?_
        refine (AllReadyIn.cons rfl (fun K hK => ?_) (AllReadyIn.cons rfl (fun K hK => ?_) (AllReadyIn.cons rfl (fun K hK => ?_) AllReadyIn.nil)))
        · go_simp
          refine hK _ _ ?_
          clear hK K
          refine wpAnyIn_ready (rs := [1, 2]) (by kernel_rfl) (by simp) ?_
          refine (AllReadyIn.cons rfl (fun K hK => ?_) (AllReadyIn.cons rfl (fun K hK => ?_) AllReadyIn.nil))
          · go_simp
            refine hK _ _ ?_
            clear hK K
            refine wpAnyIn_ready (rs := [2]) (by kernel_rfl) (by simp) (AllReadyIn.cons rfl (fun K hK => ?_) AllReadyIn.nil)
            go_simp
            refine hK _ _ ?_
            clear hK K
            refine wpAnyIn_ready (rs := [3]) (by kernel_rfl) (by simp) (AllReadyIn.cons rfl (fun K hK => ?_) AllReadyIn.nil)
            go_simp
            refine ⟨trivial, wide_depth, ?_⟩
            refine CallsIn.inRound l ((callsIn_wide.2 (prog_Copied.calls k x.2.f0 x.2.f1 A2' z2 x.2.f2 A3' z3 x.2.f3 A4' z4 x.2.f4 _ _ _ _ _ A4w.drew (Kd.C_below qr2 BD) ql2 (Kd.C_below qr3 BD) ql3 (Kd.C_below qr4 BD) ql4 CP)).mono ?_)
            rintro e W5 ⟨v3, v4, v5, rfl, o3, o4, o5, hb5⟩
            obtain ⟨D3, d3, ev3, el3, oc3⟩ := Kd.R_reads o3
            obtain ⟨D4, d4, ev4, el4, oc4⟩ := Kd.R_reads o4
            obtain ⟨D5, d5, ev5, el5, oc5⟩ := Kd.R_reads o5
            subst ev3 ev4 ev5
            have wr3 := (wr_of_R (sz := 4) o3 rfl).lower (B' := A4w.heap.size) (Nat.le_refl _)
            have wr4 := (wr_of_R (sz := 5) o4 rfl).lower (B' := A4w.heap.size) (Nat.le_refl _)
            have wr5 := (wr_of_R (sz := 5) o5 rfl).lower (B' := A4w.heap.size) (Nat.le_refl _)
            clear o3 o4 o5
            have hb5' : Below A4w.heap.size A4w W5 := (bd1 (Below.refl _ _)).trans hb5
            clear hb5
            refine hK _ _ ?_
            clear hK K
            revert wr5 wr4 wr3 hb5' oc5 el5 oc4 el4 oc3 el3
            revert D3 d3 D4 d4 D5 d5 W5
            exact key
          · go_simp
            refine hK _ _ ?_
            clear hK K
            refine wpAnyIn_ready (rs := [1, 3]) (by kernel_rfl) (by simp) ?_
            refine (AllReadyIn.cons rfl (fun K hK => ?_) (AllReadyIn.cons rfl (fun K hK => ?_) AllReadyIn.nil))
            · go_simp
              refine hK _ _ ?_
              clear hK K
              refine wpAnyIn_ready (rs := [3]) (by kernel_rfl) (by simp) (AllReadyIn.cons rfl (fun K hK => ?_) AllReadyIn.nil)
              go_simp
              refine ⟨trivial, wide_depth, ?_⟩
              refine CallsIn.inRound l ((callsIn_wide.2 (prog_Copied.calls k x.2.f0 x.2.f1 A2' z2 x.2.f2 A3' z3 x.2.f3 A4' z4 x.2.f4 _ _ _ _ _ A4w.drew (Kd.C_below qr2 BD) ql2 (Kd.C_below qr3 BD) ql3 (Kd.C_below qr4 BD) ql4 CP)).mono ?_)
              rintro e W5 ⟨v3, v4, v5, rfl, o3, o4, o5, hb5⟩
              obtain ⟨D3, d3, ev3, el3, oc3⟩ := Kd.R_reads o3
              obtain ⟨D4, d4, ev4, el4, oc4⟩ := Kd.R_reads o4
              obtain ⟨D5, d5, ev5, el5, oc5⟩ := Kd.R_reads o5
              subst ev3 ev4 ev5
              have wr3 := (wr_of_R (sz := 4) o3 rfl).lower (B' := A4w.heap.size) (Nat.le_refl _)
              have wr4 := (wr_of_R (sz := 5) o4 rfl).lower (B' := A4w.heap.size) (Nat.le_refl _)
              have wr5 := (wr_of_R (sz := 5) o5 rfl).lower (B' := A4w.heap.size) (Nat.le_refl _)
              clear o3 o4 o5
              have hb5' : Below A4w.heap.size A4w W5 := (bd1 (Below.refl _ _)).trans hb5
              clear hb5
              refine hK _ _ ?_
              clear hK K
              revert wr5 wr4 wr3 hb5' oc5 el5 oc4 el4 oc3 el3
              revert D3 d3 D4 d4 D5 d5 W5
              exact key
            · go_simp
              refine ⟨trivial, wide_depth, ?_⟩
              refine CallsIn.inRound l ((callsIn_wide.2 (prog_Copied.calls k x.2.f0 x.2.f1 A2' z2 x.2.f2 A3' z3 x.2.f3 A4' z4 x.2.f4 _ _ _ _ _ A4w.drew (Kd.C_below qr2 BD) ql2 (Kd.C_below qr3 BD) ql3 (Kd.C_below qr4 BD) ql4 CP)).mono ?_)
              rintro e W5 ⟨v3, v4, v5, rfl, o3, o4, o5, hb5⟩
              obtain ⟨D3, d3, ev3, el3, oc3⟩ := Kd.R_reads o3
              obtain ⟨D4, d4, ev4, el4, oc4⟩ := Kd.R_reads o4
              obtain ⟨D5, d5, ev5, el5, oc5⟩ := Kd.R_reads o5
              subst ev3 ev4 ev5
              have wr3 := (wr_of_R (sz := 4) o3 rfl).lower (B' := A4w.heap.size) (Nat.le_refl _)
              have wr4 := (wr_of_R (sz := 5) o4 rfl).lower (B' := A4w.heap.size) (Nat.le_refl _)
              have wr5 := (wr_of_R (sz := 5) o5 rfl).lower (B' := A4w.heap.size) (Nat.le_refl _)
              clear o3 o4 o5
              have hb5' : Below A4w.heap.size A4w W5 := (bd1 (Below.refl _ _)).trans hb5
              clear hb5
              refine hK _ _ ?_
              clear hK K
              refine wpAnyIn_ready (rs := [1]) (by kernel_rfl) (by simp) (AllReadyIn.cons rfl (fun K hK => ?_) AllReadyIn.nil)
              go_simp
              refine hK _ _ ?_
              clear hK K
              revert wr5 wr4 wr3 hb5' oc5 el5 oc4 el4 oc3 el3
              revert D3 d3 D4 d4 D5 d5 W5
              exact key
        · go_simp
          refine hK _ _ ?_
          clear hK K
          refine wpAnyIn_ready (rs := [0, 2]) (by kernel_rfl) (by simp) ?_
          refine (AllReadyIn.cons rfl (fun K hK => ?_) (AllReadyIn.cons rfl (fun K hK => ?_) AllReadyIn.nil))
          · go_simp
            refine hK _ _ ?_
            clear hK K
            refine wpAnyIn_ready (rs := [2]) (by kernel_rfl) (by simp) (AllReadyIn.cons rfl (fun K hK => ?_) AllReadyIn.nil)
            go_simp
            refine hK _ _ ?_
            clear hK K
            refine wpAnyIn_ready (rs := [3]) (by kernel_rfl) (by simp) (AllReadyIn.cons rfl (fun K hK => ?_) AllReadyIn.nil)
            go_simp
            refine ⟨trivial, wide_depth, ?_⟩
            refine CallsIn.inRound l ((callsIn_wide.2 (prog_Copied.calls k x.2.f0 x.2.f1 A2' z2 x.2.f2 A3' z3 x.2.f3 A4' z4 x.2.f4 _ _ _ _ _ A4w.drew (Kd.C_below qr2 BD) ql2 (Kd.C_below qr3 BD) ql3 (Kd.C_below qr4 BD) ql4 CP)).mono ?_)
            rintro e W5 ⟨v3, v4, v5, rfl, o3, o4, o5, hb5⟩
            obtain ⟨D3, d3, ev3, el3, oc3⟩ := Kd.R_reads o3
            obtain ⟨D4, d4, ev4, el4, oc4⟩ := Kd.R_reads o4
            obtain ⟨D5, d5, ev5, el5, oc5⟩ := Kd.R_reads o5
            subst ev3 ev4 ev5
            have wr3 := (wr_of_R (sz := 4) o3 rfl).lower (B' := A4w.heap.size) (Nat.le_refl _)
            have wr4 := (wr_of_R (sz := 5) o4 rfl).lower (B' := A4w.heap.size) (Nat.le_refl _)
            have wr5 := (wr_of_R (sz := 5) o5 rfl).lower (B' := A4w.heap.size) (Nat.le_refl _)
            clear o3 o4 o5
            have hb5' : Below A4w.heap.size A4w W5 := (bd1 (Below.refl _ _)).trans hb5
            clear hb5
            refine hK _ _ ?_
            clear hK K
            revert wr5 wr4 wr3 hb5' oc5 el5 oc4 el4 oc3 el3
            revert D3 d3 D4 d4 D5 d5 W5
            exact key
          · go_simp
            refine hK _ _ ?_
            clear hK K
            refine wpAnyIn_ready (rs := [0, 3]) (by kernel_rfl) (by simp) ?_
            refine (AllReadyIn.cons rfl (fun K hK => ?_) (AllReadyIn.cons rfl (fun K hK => ?_) AllReadyIn.nil))
            · go_simp
              refine hK _ _ ?_
              clear hK K
              refine wpAnyIn_ready (rs := [3]) (by kernel_rfl) (by simp) (AllReadyIn.cons rfl (fun K hK => ?_) AllReadyIn.nil)
              go_simp
              refine ⟨trivial, wide_depth, ?_⟩
              refine CallsIn.inRound l ((callsIn_wide.2 (prog_Copied.calls k x.2.f0 x.2.f1 A2' z2 x.2.f2 A3' z3 x.2.f3 A4' z4 x.2.f4 _ _ _ _ _ A4w.drew (Kd.C_below qr2 BD) ql2 (Kd.C_below qr3 BD) ql3 (Kd.C_below qr4 BD) ql4 CP)).mono ?_)
              rintro e W5 ⟨v3, v4, v5, rfl, o3, o4, o5, hb5⟩
              obtain ⟨D3, d3, ev3, el3, oc3⟩ := Kd.R_reads o3
              obtain ⟨D4, d4, ev4, el4, oc4⟩ := Kd.R_reads o4
              obtain ⟨D5, d5, ev5, el5, oc5⟩ := Kd.R_reads o5
              subst ev3 ev4 ev5
              have wr3 := (wr_of_R (sz := 4) o3 rfl).lower (B' := A4w.heap.size) (Nat.le_refl _)
              have wr4 := (wr_of_R (sz := 5) o4 rfl).lower (B' := A4w.heap.size) (Nat.le_refl _)
              have wr5 := (wr_of_R (sz := 5) o5 rfl).lower (B' := A4w.heap.size) (Nat.le_refl _)
              clear o3 o4 o5
              have hb5' : Below A4w.heap.size A4w W5 := (bd1 (Below.refl _ _)).trans hb5
              clear hb5
              refine hK _ _ ?_
              clear hK K
              revert wr5 wr4 wr3 hb5' oc5 el5 oc4 el4 oc3 el3
              revert D3 d3 D4 d4 D5 d5 W5
              exact key
            · go_simp
              refine ⟨trivial, wide_depth, ?_⟩
              refine CallsIn.inRound l ((callsIn_wide.2 (prog_Copied.calls k x.2.f0 x.2.f1 A2' z2 x.2.f2 A3' z3 x.2.f3 A4' z4 x.2.f4 _ _ _ _ _ A4w.drew (Kd.C_below qr2 BD) ql2 (Kd.C_below qr3 BD) ql3 (Kd.C_below qr4 BD) ql4 CP)).mono ?_)
              rintro e W5 ⟨v3, v4, v5, rfl, o3, o4, o5, hb5⟩
              obtain ⟨D3, d3, ev3, el3, oc3⟩ := Kd.R_reads o3
              obtain ⟨D4, d4, ev4, el4, oc4⟩ := Kd.R_reads o4
              obtain ⟨D5, d5, ev5, el5, oc5⟩ := Kd.R_reads o5
              subst ev3 ev4 ev5
              have wr3 := (wr_of_R (sz := 4) o3 rfl).lower (B' := A4w.heap.size) (Nat.le_refl _)
              have wr4 := (wr_of_R (sz := 5) o4 rfl).lower (B' := A4w.heap.size) (Nat.le_refl _)
              have wr5 := (wr_of_R (sz := 5) o5 rfl).lower (B' := A4w.heap.size) (Nat.le_refl _)
              clear o3 o4 o5
              have hb5' : Below A4w.heap.size A4w W5 := (bd1 (Below.refl _ _)).trans hb5
              clear hb5
              refine hK _ _ ?_
              clear hK K
              have y5 := (hb5'.block _ (blk_lt hi4.2)).trans hi4.2
              have yc : W5.cell? ⟨W.heap.size, 0, none⟩ = some (.func (.yield rl) #[] #[]) := (blk_cell y5 0).trans rfl
              refine wpAnyIn_ready (rs := [0]) (by kernel_rfl) (by simp) (AllReadyIn.cons rfl (fun K hK => ?_) AllReadyIn.nil)
              go_simp
              refine hK _ _ ?_
              clear hK K
              clear yc y5
              revert wr5 wr4 wr3 hb5' oc5 el5 oc4 el4 oc3 el3
              revert D3 d3 D4 d4 D5 d5 W5
              exact key
        · go_simp
          refine hK _ _ ?_
          clear hK K
          refine wpAnyIn_ready (rs := [0, 1, 3]) (by kernel_rfl) (by simp) ?_
          refine (AllReadyIn.cons rfl (fun K hK => ?_) (AllReadyIn.cons rfl (fun K hK => ?_) (AllReadyIn.cons rfl (fun K hK => ?_) AllReadyIn.nil)))
          · go_simp
            refine hK _ _ ?_
            clear hK K
            refine wpAnyIn_ready (rs := [1, 3]) (by kernel_rfl) (by simp) ?_
            refine (AllReadyIn.cons rfl (fun K hK => ?_) (AllReadyIn.cons rfl (fun K hK => ?_) AllReadyIn.nil))
            · go_simp
              refine hK _ _ ?_
              clear hK K
              refine wpAnyIn_ready (rs := [3]) (by kernel_rfl) (by simp) (AllReadyIn.cons rfl (fun K hK => ?_) AllReadyIn.nil)
              go_simp
              refine ⟨trivial, wide_depth, ?_⟩
              refine CallsIn.inRound l ((callsIn_wide.2 (prog_Copied.calls k x.2.f0 x.2.f1 A2' z2 x.2.f2 A3' z3 x.2.f3 A4' z4 x.2.f4 _ _ _ _ _ A4w.drew (Kd.C_below qr2 BD) ql2 (Kd.C_below qr3 BD) ql3 (Kd.C_below qr4 BD) ql4 CP)).mono ?_)
              rintro e W5 ⟨v3, v4, v5, rfl, o3, o4, o5, hb5⟩
              obtain ⟨D3, d3, ev3, el3, oc3⟩ := Kd.R_reads o3
              obtain ⟨D4, d4, ev4, el4, oc4⟩ := Kd.R_reads o4
              obtain ⟨D5, d5, ev5, el5, oc5⟩ := Kd.R_reads o5
              subst ev3 ev4 ev5
              have wr3 := (wr_of_R (sz := 4) o3 rfl).lower (B' := A4w.heap.size) (Nat.le_refl _)
              have wr4 := (wr_of_R (sz := 5) o4 rfl).lower (B' := A4w.heap.size) (Nat.le_refl _)
              have wr5 := (wr_of_R (sz := 5) o5 rfl).lower (B' := A4w.heap.size) (Nat.le_refl _)
              clear o3 o4 o5
              have hb5' : Below A4w.heap.size A4w W5 := (bd1 (Below.refl _ _)).trans hb5
              clear hb5
              refine hK _ _ ?_
              clear hK K
              revert wr5 wr4 wr3 hb5' oc5 el5 oc4 el4 oc3 el3
              revert D3 d3 D4 d4 D5 d5 W5
              exact key
            · go_simp
              refine ⟨trivial, wide_depth, ?_⟩
              refine CallsIn.inRound l ((callsIn_wide.2 (prog_Copied.calls k x.2.f0 x.2.f1 A2' z2 x.2.f2 A3' z3 x.2.f3 A4' z4 x.2.f4 _ _ _ _ _ A4w.drew (Kd.C_below qr2 BD) ql2 (Kd.C_below qr3 BD) ql3 (Kd.C_below qr4 BD) ql4 CP)).mono ?_)
              rintro e W5 ⟨v3, v4, v5, rfl, o3, o4, o5, hb5⟩
              obtain ⟨D3, d3, ev3, el3, oc3⟩ := Kd.R_reads o3
              obtain ⟨D4, d4, ev4, el4, oc4⟩ := Kd.R_reads o4
              obtain ⟨D5, d5, ev5, el5, oc5⟩ := Kd.R_reads o5
              subst ev3 ev4 ev5
              have wr3 := (wr_of_R (sz := 4) o3 rfl).lower (B' := A4w.heap.size) (Nat.le_refl _)
              have wr4 := (wr_of_R (sz := 5) o4 rfl).lower (B' := A4w.heap.size) (Nat.le_refl _)
              have wr5 := (wr_of_R (sz := 5) o5 rfl).lower (B' := A4w.heap.size) (Nat.le_refl _)
              clear o3 o4 o5
              have hb5' : Below A4w.heap.size A4w W5 := (bd1 (Below.refl _ _)).trans hb5
              clear hb5
              refine hK _ _ ?_
              clear hK K
              refine wpAnyIn_ready (rs := [1]) (by kernel_rfl) (by simp) (AllReadyIn.cons rfl (fun K hK => ?_) AllReadyIn.nil)
              go_simp
              refine hK _ _ ?_
              clear hK K
              revert wr5 wr4 wr3 hb5' oc5 el5 oc4 el4 oc3 el3
              revert D3 d3 D4 d4 D5 d5 W5
              exact key
          · go_simp
            refine hK _ _ ?_
            clear hK K
            refine wpAnyIn_ready (rs := [0, 3]) (by kernel_rfl) (by simp) ?_
            refine (AllReadyIn.cons rfl (fun K hK => ?_) (AllReadyIn.cons rfl (fun K hK => ?_) AllReadyIn.nil))
            · go_simp
              refine hK _ _ ?_
              clear hK K
              refine wpAnyIn_ready (rs := [3]) (by kernel_rfl) (by simp) (AllReadyIn.cons rfl (fun K hK => ?_) AllReadyIn.nil)
              go_simp
              refine ⟨trivial, wide_depth, ?_⟩
              refine CallsIn.inRound l ((callsIn_wide.2 (prog_Copied.calls k x.2.f0 x.2.f1 A2' z2 x.2.f2 A3' z3 x.2.f3 A4' z4 x.2.f4 _ _ _ _ _ A4w.drew (Kd.C_below qr2 BD) ql2 (Kd.C_below qr3 BD) ql3 (Kd.C_below qr4 BD) ql4 CP)).mono ?_)
              rintro e W5 ⟨v3, v4, v5, rfl, o3, o4, o5, hb5⟩
              obtain ⟨D3, d3, ev3, el3, oc3⟩ := Kd.R_reads o3
              obtain ⟨D4, d4, ev4, el4, oc4⟩ := Kd.R_reads o4
              obtain ⟨D5, d5, ev5, el5, oc5⟩ := Kd.R_reads o5
              subst ev3 ev4 ev5
              have wr3 := (wr_of_R (sz := 4) o3 rfl).lower (B' := A4w.heap.size) (Nat.le_refl _)
              have wr4 := (wr_of_R (sz := 5) o4 rfl).lower (B' := A4w.heap.size) (Nat.le_refl _)
              have wr5 := (wr_of_R (sz := 5) o5 rfl).lower (B' := A4w.heap.size) (Nat.le_refl _)
              clear o3 o4 o5
              have hb5' : Below A4w.heap.size A4w W5 := (bd1 (Below.refl _ _)).trans hb5
              clear hb5
              refine hK _ _ ?_
              clear hK K
              revert wr5 wr4 wr3 hb5' oc5 el5 oc4 el4 oc3 el3
              revert D3 d3 D4 d4 D5 d5 W5
              exact key
            · go_simp
              refine ⟨trivial, wide_depth, ?_⟩
              refine CallsIn.inRound l ((callsIn_wide.2 (prog_Copied.calls k x.2.f0 x.2.f1 A2' z2 x.2.f2 A3' z3 x.2.f3 A4' z4 x.2.f4 _ _ _ _ _ A4w.drew (Kd.C_below qr2 BD) ql2 (Kd.C_below qr3 BD) ql3 (Kd.C_below qr4 BD) ql4 CP)).mono ?_)
              rintro e W5 ⟨v3, v4, v5, rfl, o3, o4, o5, hb5⟩
              obtain ⟨D3, d3, ev3, el3, oc3⟩ := Kd.R_reads o3
              obtain ⟨D4, d4, ev4, el4, oc4⟩ := Kd.R_reads o4
              obtain ⟨D5, d5, ev5, el5, oc5⟩ := Kd.R_reads o5
              subst ev3 ev4 ev5
              have wr3 := (wr_of_R (sz := 4) o3 rfl).lower (B' := A4w.heap.size) (Nat.le_refl _)
              have wr4 := (wr_of_R (sz := 5) o4 rfl).lower (B' := A4w.heap.size) (Nat.le_refl _)
              have wr5 := (wr_of_R (sz := 5) o5 rfl).lower (B' := A4w.heap.size) (Nat.le_refl _)
              clear o3 o4 o5
              have hb5' : Below A4w.heap.size A4w W5 := (bd1 (Below.refl _ _)).trans hb5
              clear hb5
              refine hK _ _ ?_
              clear hK K
              have y5 := (hb5'.block _ (blk_lt hi4.2)).trans hi4.2
              have yc : W5.cell? ⟨W.heap.size, 0, none⟩ = some (.func (.yield rl) #[] #[]) := (blk_cell y5 0).trans rfl
              refine wpAnyIn_ready (rs := [0]) (by kernel_rfl) (by simp) (AllReadyIn.cons rfl (fun K hK => ?_) AllReadyIn.nil)
              go_simp
              refine hK _ _ ?_
              clear hK K
              clear yc y5
              revert wr5 wr4 wr3 hb5' oc5 el5 oc4 el4 oc3 el3
              revert D3 d3 D4 d4 D5 d5 W5
              exact key
          · go_simp
            refine ⟨trivial, wide_depth, ?_⟩
            refine CallsIn.inRound l ((callsIn_wide.2 (prog_Copied.calls k x.2.f0 x.2.f1 A2' z2 x.2.f2 A3' z3 x.2.f3 A4' z4 x.2.f4 _ _ _ _ _ A4w.drew (Kd.C_below qr2 BD) ql2 (Kd.C_below qr3 BD) ql3 (Kd.C_below qr4 BD) ql4 CP)).mono ?_)
            rintro e W5 ⟨v3, v4, v5, rfl, o3, o4, o5, hb5⟩
            obtain ⟨D3, d3, ev3, el3, oc3⟩ := Kd.R_reads o3
            obtain ⟨D4, d4, ev4, el4, oc4⟩ := Kd.R_reads o4
            obtain ⟨D5, d5, ev5, el5, oc5⟩ := Kd.R_reads o5
            subst ev3 ev4 ev5
            have wr3 := (wr_of_R (sz := 4) o3 rfl).lower (B' := A4w.heap.size) (Nat.le_refl _)
            have wr4 := (wr_of_R (sz := 5) o4 rfl).lower (B' := A4w.heap.size) (Nat.le_refl _)
            have wr5 := (wr_of_R (sz := 5) o5 rfl).lower (B' := A4w.heap.size) (Nat.le_refl _)
            clear o3 o4 o5
            have hb5' : Below A4w.heap.size A4w W5 := (bd1 (Below.refl _ _)).trans hb5
            clear hb5
            refine hK _ _ ?_
            clear hK K
            have y5 := (hb5'.block _ (blk_lt hi4.2)).trans hi4.2
            have yc : W5.cell? ⟨W.heap.size, 0, none⟩ = some (.func (.yield rl) #[] #[]) := (blk_cell y5 0).trans rfl
            refine wpAnyIn_ready (rs := [0, 1]) (by kernel_rfl) (by simp) ?_
            refine (AllReadyIn.cons rfl (fun K hK => ?_) (AllReadyIn.cons rfl (fun K hK => ?_) AllReadyIn.nil))
            · go_simp
              refine hK _ _ ?_
              clear hK K
              refine wpAnyIn_ready (rs := [1]) (by kernel_rfl) (by simp) (AllReadyIn.cons rfl (fun K hK => ?_) AllReadyIn.nil)
              go_simp
              refine hK _ _ ?_
              clear hK K
              clear yc y5
              revert wr5 wr4 wr3 hb5' oc5 el5 oc4 el4 oc3 el3
              revert D3 d3 D4 d4 D5 d5 W5
              exact key
            · go_simp
              refine hK _ _ ?_
              clear hK K
              refine wpAnyIn_ready (rs := [0]) (by kernel_rfl) (by simp) (AllReadyIn.cons rfl (fun K hK => ?_) AllReadyIn.nil)
              go_simp
              refine hK _ _ ?_
              clear hK K
              clear yc y5
              revert wr5 wr4 wr3 hb5' oc5 el5 oc4 el4 oc3 el3
              revert D3 d3 D4 d4 D5 d5 W5
              exact key
      intro W5 D3 d3 D4 d4 D5 d5 el3 oc3 el4 oc4 el5 oc5 wr3 wr4 wr5 hb5'
      have hJ5 := HJ.out _ _ _ hi4.1 (hb5'.mono (by have := b3.size; omega))
      have hyl := HY.out pre x _ W5 A4w.heap.size hJ5 ⟨r1, r2, r3, r4, r5, D3, d3, D4, d4, D5, d5, CP, rfl, wr3, wr4, wr5⟩ (hb4.trans (hb5'.mono (by have := hb4.size; omega))) (by have := b3.size; omega) hb5'.size (by simpa using hpre)
      obtain ⟨fn, tmps, assign, body, hyd, hR0⟩ := hyl
      refine wpAnyIn_ready (rs := [4]) (by kernel_rfl) (by simp) (AllReadyIn.cons rfl (fun K hK => ?_) AllReadyIn.nil)
      go_simp
      gi_wp2_with (first | (refine ⟨wide_depth, ?_⟩; refine (round_any hR0).mono ?_; rintro e W6 ⟨rfl, hx, hx2⟩))
      have hs5 := hb5'.size
      have hs3 := b3.size
      cases hgo : go pre x with
      | false =>
        replace hx2 := hx2 hgo
        clear hx
        refine wpAnyIn_ready (rs := [5]) (by kernel_rfl) (by simp) (AllReadyIn.cons rfl (fun K hK => ?_) AllReadyIn.nil)
        go_simp
        refine hK _ _ ?_
        clear hK K
        refine wpAnyIn_done (by kernel_rfl) ?_ _
        gi_wp2
        exact ⟨hgo, fun k h1 h2 => (hx2.2 k (by omega) (by omega)).trans (hb5'.block k (by omega)), rfl, hx2.1⟩
      | true =>
        obtain ⟨j6, k6, b6⟩ := hx hgo
        clear hx hx2
        refine wpAnyIn_ready (rs := [5]) (by kernel_rfl) (by simp) (AllReadyIn.cons rfl (fun K hK => ?_) AllReadyIn.nil)
        go_simp
        refine hK _ _ ?_
        clear hK K
        refine wpAnyIn_done (by kernel_rfl) ?_ _
        gi_wp2
        have hk6 := k6.1
        refine ⟨hgo, by omega, fun k h1 h2 => (k6.2 k (by omega) (by omega)).trans (hb5'.block k (by omega)), b6, j6, ?_⟩
        exact (k6.2 _ (Nat.le_refl _) (by omega)).trans ((hb5'.block _ (blk_lt hi4.2)).trans hi4.2)
end Go.Proofs.Ytffcpbgbhkbplaa.Print
namespace Go.Proofs.Ytffcpbgbhkbplaa.Print
open Go.RowKit Go.Proofs.YtffcpbgbhkbplaaW.PrintWords Go.Proofs.YtffcpbgbhkbplaaW.PrintLast Go.Proofs.YtffcpbgbhkbplaaW.PrintMore
attribute [local go_sem] max2_int min2_int max_two min_two max_three min_three max_four min_four
set_option linter.unusedVariables false
set_option linter.unusedSimpArgs false
def unlisted (n : Nat) (listed : Array Bool) : Nat := ((List.range n).filter fun j => !listed.getD j true).length
theorem unlisted_set {n i : Nat} {listed : Array Bool} (hi : i < n) (h : listed.getD i true = false) : unlisted n (listed.setIfInBounds i true) < unlisted n listed := by
  have hsz : i < listed.size := by
    rcases Nat.lt_or_ge i listed.size with h' | h'
    · exact h'
    · simp [Array.getD, Nat.not_lt.mpr h'] at h
  unfold unlisted
  have key : ∀ l : List Nat, (l.filter fun j => !(listed.setIfInBounds i true).getD j true).length + (l.filter fun j => decide (j = i)).length = (l.filter fun j => !listed.getD j true).length := by
    intro l
    induction l with
    | nil => rfl
    | cons x r ih =>
      by_cases hx : x = i
      · subst hx
        have e1 : (listed.setIfInBounds x true).getD x true = true := by simp [Array.getD, hsz]
        simp only [List.filter_cons, e1, h, decide_true, Bool.not_true, Bool.not_false, if_true, Bool.false_eq_true, if_false, List.length_cons]
        omega
      · have e1 : (listed.setIfInBounds i true).getD x true = listed.getD x true := getD_set_ne true (Ne.symm hx)
        have e2 : ((!(listed.setIfInBounds i true).getD x true) = true) = ((!listed.getD x true) = true) := by rw [e1]
        simp only [List.filter_cons, e2, decide_eq_false hx, Bool.false_eq_true, if_false]
        by_cases hh : (!listed.getD x true) = true
        · rw [if_pos hh, if_pos hh, List.length_cons, List.length_cons]; omega
        · rw [if_neg hh, if_neg hh]; exact ih
  have h1 := key (List.range n)
  have h2 : 0 < ((List.range n).filter fun j => decide (j = i)).length := by
    rw [List.length_pos_iff_exists_mem]
    exact ⟨i, by simp [hi]⟩
  omega
section
variable {P : Program} {ops : Array Oper} {Q : Exit → Act → World → Prop} {md : Region.Mode}
def backward (ops : Array Oper) : Bool := (List.range ops.size).all fun j => match ops[j]? with | none => true | some o => o.after.all fun e => decide (e.on < j)
theorem all_listed (hb : backward ops = true) {listed : Array Bool} (hr : Region.ready md ops listed = []) : ∀ j, j < ops.size → listed.getD j true = true := by
  intro j
  induction j using Nat.strongRecOn with
  | _ j ih =>
  intro hj
  rcases hl : listed.getD j true with _ | _
  · exfalso
    have hm : j ∈ Region.ready md ops listed := by
      rw [mem_ready]
      refine ⟨hl, ops[j], Array.getElem?_eq_getElem hj, fun e he _ => ?_⟩
      have h1 := List.all_eq_true.1 hb j (List.mem_range.2 hj)
      rw [Array.getElem?_eq_getElem hj] at h1
      have h2 := Array.all_eq_true'.1 h1 e he
      have h3 : e.on < j := of_decide_eq_true h2
      have h4 := ih e.on h3 (by omega)
      rcases Nat.lt_or_ge e.on listed.size with h' | h'
      · simp [Array.getD, h'] at h4 ⊢
        exact h4
      · have : listed.getD j true = true := by
          have : ¬ j < listed.size := by omega
          simp [Array.getD, this]
        rw [hl] at this
        cases this
    rw [hr] at hm
    cases hm
  · rfl
theorem wpAny_inv (hb : backward ops = true) (Inv : Array Bool → Act → World → Prop)
    (hend : ∀ listed a w, Inv listed a w → (∀ j, j < ops.size → listed.getD j true = true) → Q .normal a w)
    (step : ∀ listed a w i o, Inv listed a w → ops[i]? = some o → listed.getD i true = false → (∀ e ∈ o.after, Region.binds md e = true → listed.getD e.on false = true) →
      wpOp P ops Q i (fun a' w' => Inv (listed.setIfInBounds i true) a' w') a w) :
    ∀ (fuel : Nat) (listed : Array Bool) (a : Act) (w : World), unlisted ops.size listed ≤ fuel → Inv listed a w → wpAny P md ops Q fuel listed a w := by
  intro fuel
  induction fuel with
  | zero =>
    intro listed a w hu hI
    have hr : Region.ready md ops listed = [] := by
      rw [List.eq_nil_iff_forall_not_mem]
      intro j hj
      obtain ⟨h0, o, ho, _⟩ := mem_ready.1 hj
      have hlt := (Array.getElem?_eq_some_iff.1 ho).1
      have := unlisted_set hlt h0
      omega
    exact ⟨hr, hend _ _ _ hI (all_listed hb hr)⟩
  | succ fuel ih =>
    intro listed a w hu hI
    refine ⟨fun hr => hend _ _ _ hI (all_listed hb hr), fun i hi => ?_⟩
    obtain ⟨h0, o, ho, hall⟩ := mem_ready.1 hi
    have hlt := (Array.getElem?_eq_some_iff.1 ho).1
    have hu2 := unlisted_set hlt h0
    exact wpOp_mono (fun a' w' h' => ih _ a' w' (by omega) h') (step listed a w i o hI ho h0 hall)
end
end Go.Proofs.Ytffcpbgbhkbplaa.Print
namespace Go.Proofs.Ytffcpbgbhkbplaa.Print
open Go.RowKit Go.Proofs.YtffcpbgbhkbplaaW.PrintWords Go.Proofs.YtffcpbgbhkbplaaW.PrintLast Go.Proofs.YtffcpbgbhkbplaaW.PrintMore
attribute [local go_sem] max2_int min2_int max_two min_two max_three min_three max_four min_four
set_option linter.unusedVariables false
set_option linter.unusedSimpArgs false
open Go.RowKit
section
variable {α : Type} {d : Kd α} {e : Nat} {W W1 : World} {v : Value}
theorem flatten_get {sz : Nat} : ∀ (css : List (List Value)) (j : Nat) (c : List Value) (i : Nat), (∀ c ∈ css, c.length = sz) → css[j]? = some c → i < sz → css.flatten[j * sz + i]? = c[i]?
  | [], j, c, i, _, h, _ => by simp at h
  | x :: r, 0, c, i, hl, h, hi => by
    obtain rfl : x = c := by simpa using h
    have := hl x (by simp)
    simp only [List.flatten_cons, Nat.zero_mul, Nat.zero_add]
    rw [List.getElem?_append_left (by omega)]
  | x :: r, j + 1, c, i, hl, h, hi => by
    have h1 := hl x (by simp)
    have h2 : r[j]? = some c := by simpa using h
    simp only [List.flatten_cons]
    have e1 : (j + 1) * sz + i = x.length + (j * sz + i) := by rw [h1, Nat.succ_mul]; omega
    rw [e1, List.getElem?_append_right (by omega), Nat.add_sub_cancel_left]
    exact flatten_get r j c i (fun c hc => hl c (by simp [hc])) h2 hi
def Is (d : Kd α) (B : Nat) (W : World) (v : Value) (x : α) : Prop := ∃ cs : List Value, v = .agg cs.toArray ∧ Kd.FK d W (fun k => B ≤ k ∧ k < W.heap.size) x cs
def IsRow (d : Kd α) (B : Nat) (e : Nat) (W : World) (v : Value) (l : List α) : Prop :=
  ∃ (b : Nat) (css : List (List Value)), v = .slice (some ⟨b, 0, none⟩) l.length l.length ∧ W.heap[b]? = some (.cells css.flatten.toArray e (0, 0)) ∧ B ≤ b ∧ css.length = l.length ∧ l.length ≤ 9223372036854775807 ∧
    ∀ (j : Nat) (x : α) (c : List Value), l[j]? = some x → css[j]? = some c → Kd.FK d W (fun k => B ≤ k ∧ k < b) x c
variable {B : Nat}
theorem Is.below {x : α} (h : Is d B W v x) (hb : Below W.heap.size W W1) : Is d B W1 v x := by
  obtain ⟨cs, e1, h⟩ := h
  exact ⟨cs, e1, Kd.FK_mono (Kd.FK_below h hb) (fun k hk => ⟨hk.1, Nat.lt_of_lt_of_le hk.2 hb.size⟩)⟩
theorem IsRow.below {l : List α} (h : IsRow d B e W v l) (hb : Below W.heap.size W W1) : IsRow d B e W1 v l := by
  obtain ⟨b, css, e1, h1, h0, h2, h3, h4⟩ := h
  exact ⟨b, css, e1, (hb.block _ (blk_lt h1)).trans h1, h0, h2, h3, fun j x c hj hc => Kd.FK_below (h4 j x c hj hc) hb⟩
theorem IsRow.far {l : List α} (h : IsRow d B e W v l) {p : Addr} (hp : p.block < B) (u : Value) : IsRow d B e (W.setCell p u) v l := by
  obtain ⟨b, css, e1, h1, h0, h2, h3, h4⟩ := h
  exact ⟨b, css, e1, (Below.heap_setCell _ _ _ _ (by omega)).trans h1, h0, h2, h3, fun j x c hj hc => Kd.FK_step (h4 j x c hj hc) (fun k hk _ => Below.heap_setCell _ _ _ _ (by have := hk.1; omega))⟩
theorem IsRow.F {l : List α} {b : Nat} {css : List (List Value)} (h1 : W.heap[b]? = some (.cells css.flatten.toArray e (0, 0))) (h0 : B ≤ b) (h2 : css.length = l.length) (h3 : l.length ≤ 9223372036854775807)
    (h4 : ∀ (j : Nat) (x : α) (c : List Value), l[j]? = some x → css[j]? = some c → Kd.FK d W (fun k => B ≤ k ∧ k < b) x c) : Kd.F d W (fun k => B ≤ k ∧ k < W.heap.size) (some ⟨b, 0, none⟩) l.length l := by
  intro W' hW'
  have hb := blk_lt h1
  have hlen : ∀ c ∈ css, c.length = d.sz := by
    intro c hc
    obtain ⟨j, hj, e2⟩ := List.mem_iff_getElem.1 hc
    have hj2 : j < l.length := by omega
    exact d.K_len (Kd.FK_now (h4 j l[j] c (List.getElem?_eq_getElem hj2) (by rw [List.getElem?_eq_getElem hj, e2])))
  refine ⟨rfl, h3, fun _ => ⟨_, rfl, fun j x hj => ?_⟩⟩
  have hj2 : j < css.length := by have := (List.getElem?_eq_some_iff.1 hj).1; omega
  have hc := List.getElem?_eq_getElem hj2
  have hk := h4 j x _ hj hc
  refine ⟨css[j], hlen _ (List.getElem_mem hj2), hk W' (fun k hk' hk2 => hW' k ⟨hk'.1, hk2⟩ hk2), fun i u hu => ?_⟩
  have hi : i < d.sz := by have := (List.getElem?_eq_some_iff.1 hu).1; rw [hlen _ (List.getElem_mem hj2)] at this; exact this
  have hg := flatten_get css j _ i hlen hc hi
  have hB := (hW' b ⟨h0, hb⟩ hb).trans h1
  have : (⟨b, 0, none⟩ : Addr).add (j * d.sz + i) = ⟨b, j * d.sz + i, none⟩ := by unfold Addr.add; split <;> simp_all
  rw [this, blk_cell hB (j * d.sz + i)]
  simpa [hg] using hu
theorem IsRow.foot {l : List α} (h : IsRow d B e W v l) : ∃ A, v = .slice A l.length l.length ∧ Kd.F d W (fun k => B ≤ k ∧ k < W.heap.size) A l.length l := by
  obtain ⟨b, css, e1, h1, h0, h2, h3, h4⟩ := h
  exact ⟨_, e1, IsRow.F h1 h0 h2 h3 h4⟩
theorem IsRow.C {l : List α} (h : IsRow d B e W v l) : ∃ A, v = .slice A l.length l.length ∧ d.C W A l.length l := by
  obtain ⟨A, e1, h1⟩ := h.foot
  exact ⟨A, e1, Kd.F_now h1⟩
theorem IsRow.new {l : List α} (hB : B ≤ W.heap.size) (css : List (List Value)) {cs : Array Value} (hcs : cs = css.flatten.toArray) (h2 : css.length = l.length) (h3 : l.length ≤ 9223372036854775807) (h4 : ∀ (j : Nat) (x : α) (c : List Value), l[j]? = some x → css[j]? = some c → Kd.FK d W (fun k => B ≤ k ∧ k < W.heap.size) x c) :
    IsRow d B e (W.alloc (.cells cs e)) (.slice (some ⟨W.heap.size, 0, none⟩) l.length l.length) l := by
  subst hcs
  exact ⟨_, css, rfl, heap_alloc_new _ _, hB, h2, h3, fun j x c hj hc => Kd.FK_below (h4 j x c hj hc) (bal (Below.refl _ _) _)⟩
theorem F_zero (A : Option Addr) (ok : Nat → Prop) : Kd.F d W ok A ([] : List α).length [] := fun W' _ => ⟨rfl, by simp, fun h => by simp at h⟩
end
end Go.Proofs.Ytffcpbgbhkbplaa.Print
namespace Go.Proofs.Ytffcpbgbhkbplaa.Print
open Go.RowKit Go.Proofs.YtffcpbgbhkbplaaW.PrintWords Go.Proofs.YtffcpbgbhkbplaaW.PrintLast Go.Proofs.YtffcpbgbhkbplaaW.PrintMore
attribute [local go_sem] max2_int min2_int max_two min_two max_three min_three max_four min_four
set_option linter.unusedVariables false
set_option linter.unusedSimpArgs false
def r2_Const.f (a0 : Int) : Option (Int × Int × Int × (List (S96))) := some (0, a0, 0, ([] : List (S96)))
theorem r2_Const.calls (a0 : Int) (r1 : Int) (r2 : Int) (r3 : Int) (r4 : List (S96)) (w : World) (h : r2_Const.f a0 = some (r1, r2, r3, r4)) :
  Calls Try.prog 69 #[.int .i64 a0] w fun e w' => ∃ v3_ : Value, e = .returned (.agg #[.int .i64 r1, .int .i64 r2, .int .i64 r3, v3_]) ∧ Kd.R k96 96 w' w.heap.size (fun _ => True) v3_ r4 ∧ Below w.heap.size w w' := by
 have hu96 := Try.underlying96
 have HB := Aside0.mk (Below.refl w.heap.size w)
 have H : (some (0, a0, 0, ([] : List (S96)))) = some (r1, r2, r3, r4) := h
 clear h
 simp only [Option.some.injEq, Prod.mk.injEq] at H
 obtain ⟨rfl, rfl, rfl, rfl⟩ := H
 go_enter Try.func69, Try.ntmps69
 go_wp2_with (first | ((with_reducible refine gate_dst (N := 2) rfl ?_); refine bx 2 rfl rfl #[.int .i64 0, .int .i64 0, .int .i64 0, .slice none 0 0] 96 ?_; intro gb248 hg w2 hbox hb; have BK248 := Aside0.mk (hbox); have GE248 := ge HB hg; replace HB := sb HB hb; clear hb hbox hg; obtain ⟨hcz3_0, hcz3_1, hcz3_2, hcz3_3, hfz3_0, hfz3_1, hfz3_2, hfz3_3⟩ := cf4 BK248.out))
 refine bodyPost_ret (results_cell_row rfl _ _ gb248 96 #[.int .i64 0, .int .i64 a0, .int .i64 0, .slice none 0 0] (0, 0) _ rfl (by (with_reducible repeat (first | refine kdN ?_ _ | refine kdr ?_ | refine kal ?_ _)); refine blk_put (cs := #[.int .i64 0, .int .i64 a0, .int .i64 0, .slice none 0 0]) ?_ 3 _ rfl; (with_reducible repeat (first | refine kdN ?_ _ | refine kdr ?_ | refine kal ?_ _)); refine blk_put (cs := #[.int .i64 0, .int .i64 a0, .int .i64 0, .slice none 0 0]) ?_ 2 _ rfl; (with_reducible repeat (first | refine kdN ?_ _ | refine kdr ?_ | refine kal ?_ _)); refine blk_put (cs := #[.int .i64 0, .int .i64 0, .int .i64 0, .slice none 0 0]) ?_ 1 _ rfl; (with_reducible repeat (first | refine kdN ?_ _ | refine kdr ?_ | refine kal ?_ _)); refine blk_put (cs := #[.int .i64 0, .int .i64 0, .int .i64 0, .slice none 0 0]) ?_ 0 _ rfl; (with_reducible repeat (first | refine kdN ?_ _ | refine kdr ?_ | refine kal ?_ _)); exact BK248.out) Try.underlying96 rfl (by kernel_rfl)) rfl ?_
 exact ⟨_, rr, by first | exact Kd.R_nil _ _ _ _ _ | exact Kd.N_nil _ _ _ _ _ | exact Kd.V_nil _ _ _ _ _ | exact Kd.Q_nil _ _ _ _ _ | exact Kd.S_nil _ _ _ _ _, bb HB⟩
def r2_Read.f (a0 : Int) (a1 : Int) : Option (Int × Int × Int × (List (S96))) := some (1, a0, a1, ([] : List (S96)))
theorem r2_Read.calls (a0 : Int) (a1 : Int) (r1 : Int) (r2 : Int) (r3 : Int) (r4 : List (S96)) (w : World) (h : r2_Read.f a0 a1 = some (r1, r2, r3, r4)) :
  Calls Try.prog 68 #[.int .i64 a0, .int .i64 a1] w fun e w' => ∃ v3_ : Value, e = .returned (.agg #[.int .i64 r1, .int .i64 r2, .int .i64 r3, v3_]) ∧ Kd.R k96 96 w' w.heap.size (fun _ => True) v3_ r4 ∧ Below w.heap.size w w' := by
 have hu96 := Try.underlying96
 have HB := Aside0.mk (Below.refl w.heap.size w)
 have H : (some (1, a0, a1, ([] : List (S96)))) = some (r1, r2, r3, r4) := h
 clear h
 simp only [Option.some.injEq, Prod.mk.injEq] at H
 obtain ⟨rfl, rfl, rfl, rfl⟩ := H
 go_enter Try.func68, Try.ntmps68
 go_wp2_with (first | ((with_reducible refine gate_dst (N := 4) rfl ?_); refine bx 4 rfl rfl #[.int .i64 0, .int .i64 0, .int .i64 0, .slice none 0 0] 96 ?_; intro gb247 hg w3 hbox hb; have BK247 := Aside0.mk (hbox); have GE247 := ge HB hg; replace HB := sb HB hb; clear hb hbox hg; obtain ⟨hcz4_0, hcz4_1, hcz4_2, hcz4_3, hfz4_0, hfz4_1, hfz4_2, hfz4_3⟩ := cf4 BK247.out))
 refine bodyPost_ret (results_cell_row rfl _ _ gb247 96 #[.int .i64 1, .int .i64 a0, .int .i64 a1, .slice none 0 0] (0, 0) _ rfl (by (with_reducible repeat (first | refine kdN ?_ _ | refine kdr ?_ | refine kal ?_ _)); refine blk_put (cs := #[.int .i64 1, .int .i64 a0, .int .i64 a1, .slice none 0 0]) ?_ 3 _ rfl; (with_reducible repeat (first | refine kdN ?_ _ | refine kdr ?_ | refine kal ?_ _)); refine blk_put (cs := #[.int .i64 1, .int .i64 a0, .int .i64 0, .slice none 0 0]) ?_ 2 _ rfl; (with_reducible repeat (first | refine kdN ?_ _ | refine kdr ?_ | refine kal ?_ _)); refine blk_put (cs := #[.int .i64 1, .int .i64 0, .int .i64 0, .slice none 0 0]) ?_ 1 _ rfl; (with_reducible repeat (first | refine kdN ?_ _ | refine kdr ?_ | refine kal ?_ _)); refine blk_put (cs := #[.int .i64 0, .int .i64 0, .int .i64 0, .slice none 0 0]) ?_ 0 _ rfl; (with_reducible repeat (first | refine kdN ?_ _ | refine kdr ?_ | refine kal ?_ _)); exact BK247.out) Try.underlying96 rfl (by kernel_rfl)) rfl ?_
 exact ⟨_, rr, by first | exact Kd.R_nil _ _ _ _ _ | exact Kd.N_nil _ _ _ _ _ | exact Kd.V_nil _ _ _ _ _ | exact Kd.Q_nil _ _ _ _ _ | exact Kd.S_nil _ _ _ _ _, bb HB⟩
end Go.Proofs.Ytffcpbgbhkbplaa.Print
