/- For every program and number the law ProgStops returns true, and what came in reads as before. No condition. -/
import Derived.Test.YtffcpbgbhkbplaaB6
import Derived.LoopNIn
namespace Go.Proofs.YtffcpbgbhkbplaaW.PrintMore
open Go.RowKit Go.Proofs.YtffcpbgbhkbplaaW.PrintWords
namespace Kd
open Go.Proofs.YtffcpbgbhkbplaaW.PrintWords.Kd
end Kd
namespace Kd
open Go.Proofs.YtffcpbgbhkbplaaW.PrintWords.Kd
section
variable {α : Type} {d : Kd α} {e base g N : Nat} {ok : Nat → Prop} {W w1 : World} {u v : Value} {xs : List α}
end
end Kd
end Go.Proofs.YtffcpbgbhkbplaaW.PrintMore
namespace Go.Proofs.YtffcpbgbhkbplaaW.PrintWords
open Go.RowKit
section
variable {P : Program} {ops : Array Oper} {rest : List Oper} {o : Oper} {a : Act} {Q : Exit → Act → World → Prop} {W : World}
end
def mn (a b : Int) : Int := if b < a then b else a
namespace Kd
section
variable {α : Type} {d : Kd α} {e base : Nat} {ok : Nat → Prop} {W w1 : World} {v : Value} {xs : List α}
end
section
variable {α : Type} {d : Kd α} {e base g n cap : Nat} {ok oki okp : Nat → Prop} {W : World} {xs : List α} {i : Int} {c : List Value}
end
section
variable {α : Type} {d : Kd α} {e base b b' g N : Nat} {ok ok1 : Nat → Prop} {W W2 w1 : World} {u v : Value} {xs ys : List α} {S : Nat → Prop}
end
end Kd
end Go.Proofs.YtffcpbgbhkbplaaW.PrintWords
namespace Go.Proofs.YtffcpbgbhkbplaaW.PrintWords
open Go.RowKit
namespace Kd
section
variable {α β : Type} {d : Kd α} {e base base' n m c g N' lo hi : Nat} {ok ok' S : Nat → Prop} {w W w1 : World} {A : Option Addr} {ad : Addr} {u v v1 : Value} {xs : List α}
end
end Kd
end Go.Proofs.YtffcpbgbhkbplaaW.PrintWords
namespace Go.Proofs.Ytffcpbgbhkbplaa.Print
open Go.RowKit Go.Proofs.YtffcpbgbhkbplaaW.PrintWords Go.Proofs.YtffcpbgbhkbplaaW.PrintLast Go.Proofs.YtffcpbgbhkbplaaW.PrintMore
attribute [local go_sem] max2_int min2_int max_two min_two max_three min_three max_four min_four
set_option linter.unusedVariables false
set_option linter.unusedSimpArgs false
theorem goodE_mk (a b c : Int) (l : List S96) : goodE ⟨a, b, c, l⟩ = (l.length ≤ 9223372036854775807 ∧ goodEs l) := rfl
theorem eN_pos : ∀ x, 1 ≤ eN x
  | ⟨_, _, _, _⟩ => by simp only [eN]; omega
mutual
def r3_Count.l0 : Nat → List (S47) → Int → Int → Option (Int)
 | 0, _, _, _ => none
 | k + 1, x0, x3, x4 => if x4 < (x0.length : Int) then (if 0 ≤ x4 then ((r3_Count.f k ((rd_T47 x0 x4).f3)).bind fun t403 => ((r3_Count.f k ((rd_T47 x0 x4).f4)).bind fun t405 => (r3_Count.l0 k x0 (wrap64 ((wrap64 ((wrap64 (x3 + 1)) + t403)) + t405)) (wrap64 (x4 + 1))))) else (none)) else (some x3)
def r3_Count.f : Nat → List (S47) → Option (Int)
 | 0, _ => none
 | k + 1, l0 => r3_Count.l0 k l0 0 0
end
def r3_Count.T5 : Bool × List (List Nat × List Nat) := (true, [([], []), ([0], [0]), ([], []), ([], []), ([2, 3], [2, 3]), ([4], [4]), ([5], [5]), ([6], [6]), ([1, 7], [1, 7]), ([], []), ([], []), ([9, 10], [9, 10]), ([11], [11]), ([12], [12]), ([13, 7], [13]), ([8, 14], [8, 14]), ([15, 14, 0, 1, 2, 3, 4, 5, 6, 7, 8, 9, 10, 11, 12, 13, 14, 15], [0, 15])])
def r3_Count.B5 : List Nat := [0, 1, 0, 0, 12, 28, 60, 124, 255, 0, 0, 1536, 3584, 7680, 16124, 32767, 65535]
theorem r3_Count.tab5 : rtab .any (opsOf Try.f35 5) = r3_Count.T5 := by kernel_rfl
theorem r3_Count.bits5 : waitsOk r3_Count.T5.2 r3_Count.B5 = true := by kernel_rfl
set_option maxHeartbeats 8000000 in
set_option maxRecDepth 100000 in
theorem r3_Count.calls (k : Nat) : ∀ (A0 : Option Addr) (c0 : Nat) (l0 : List (S47)) (r : Int) (w : World) (hr0 : Kd.C k47 w A0 l0.length l0) (hc0 : l0.length ≤ c0) (h : r3_Count.f k l0 = some r),
  Calls Try.prog 35 #[.slice A0 l0.length c0] w fun e w' => e = .returned (.int .i64 r) ∧ Below w.heap.size w w' := by
 induction k using Nat.strongRecOn with
 | _ k ih =>
 intro A0 c0 l0 r w hr0 hc0 h
 cases k with
 | zero => exact absurd h (by simp [r3_Count.f])
 | succ k =>
 simp only [r3_Count.f] at h
 have HR0 := Aside0.mk hr0
 have HC0 := Aside0.mk hc0
 clear hr0 hc0
 have HB := Aside0.mk (Below.refl w.heap.size w)
 have H : (r3_Count.l0 k l0 0 0) = some r := h
 clear h
 have H' := Aside0.mk H
 clear H
 go_enter Try.func35, Try.ntmps35
 go_wp2
 go_loopg [3, 4] k (fun kq v3 v4 w' => ∃ (x3_1 : Int) (x4_1 : Int), v3 = .int .i64 x3_1 ∧ v4 = .int .i64 x4_1 ∧ Aside0 (r3_Count.l0 kq l0 x3_1 x4_1 = some r) ∧ Aside0 (kq ≤ k) ∧ Aside0 (Below w.heap.size w w'))
 case atStart => exact ⟨(0), (0), (by first | rfl | (simp; done) | (simp [*]; done)), (by first | rfl | (simp; done) | (simp [*]; done)), H', ⟨Nat.le_refl _⟩, ⟨by repeat (first | (with_reducible first | exact HB.out | apply bal | apply bdN | apply bd1) | exact HB.out)⟩⟩
 case round =>
  clear H'
  obtain ⟨x3_1, x4_1, rfl, rfl, HA, HK1, HB⟩ := hrel
  cases gk with
  | zero => exact absurd HA.out (by simp [r3_Count.l0])
  | succ k1 =>
   have H := HA.out
   clear HA
   simp only [r3_Count.l0] at H
   by_cases c2 : x4_1 < (l0.length : Int)
   ·rw [if_pos c2] at H
    have c2b0 : decide (x4_1 < (l0.length : Int)) = true := decide_eq_true c2
    clear c2
    by_cases c3 : 0 ≤ x4_1
    ·rw [if_pos c3] at H
     have c3b0 : decide (0 ≤ x4_1) = true := decide_eq_true c3
     clear c3
     replace H := Option.bind_eq_some_iff.mp H
     obtain ⟨t403, A40, H⟩ := H
     replace H : ((r3_Count.f k1 ((rd_T47 l0 x4_1).f4)).bind fun t405 => (r3_Count.l0 k1 l0 (wrap64 ((wrap64 ((wrap64 (x3_1 + 1)) + t403)) + t405)) (wrap64 (x4_1 + 1)))) = some r := H
     have A4 := Aside0.mk A40
     clear A40
     replace H := Option.bind_eq_some_iff.mp H
     obtain ⟨t405, A50, H⟩ := H
     replace H : (r3_Count.l0 k1 l0 (wrap64 ((wrap64 ((wrap64 (x3_1 + 1)) + t403)) + t405)) (wrap64 (x4_1 + 1))) = some r := H
     have A5 := Aside0.mk A50
     clear A50
     have H' := Aside0.mk H
     clear H
     try go_wp2
     have n0_ := Aside0.mk (bd1 HB.out)
     clear HB
     have HB := n0_
     clear n0_
     have p402 : 0 ≤ (x4_1 : Int) := of_decide_eq_true (by first | (with_reducible assumption) | assumption)
     have q402 : x4_1 < (l0.length : Int) := of_decide_eq_true (by first | (with_reducible assumption) | assumption)
     obtain ⟨ad402, A402_2, c402_2, A402_3, c402_3, A402_4, c402_4, e402, hx402_0, hx402_1, hx402_2, hx402_3, hx402_4, hl402_2, hi402_2, hl402_3, hi402_3, hl402_4, hi402_4⟩ := at_T47 HR0.out x4_1 p402 q402
     have hw402_4 := hx402_4
     have hw402_3 := hx402_3
     have hw402_2 := hx402_2
     have hw402_1 := hx402_1
     have hw402_0 := hx402_0
     cases e402
     replace hx402_0 := bcell HB.out hx402_0
     replace hx402_1 := bcell HB.out hx402_1
     replace hx402_2 := bcell HB.out hx402_2
     replace hx402_3 := bcell HB.out hx402_3
     replace hx402_4 := bcell HB.out hx402_4
     have HR402_2 := Aside0.mk hi402_2
     have HC402_2 := Aside0.mk hl402_2
     clear hi402_2 hl402_2
     have HR402_3 := Aside0.mk hi402_3
     have HC402_3 := Aside0.mk hl402_3
     clear hi402_3 hl402_3
     have HR402_4 := Aside0.mk hi402_4
     have HC402_4 := Aside0.mk hl402_4
     clear hi402_4 hl402_4
     replace p402 := eq_true p402
     replace q402 := eq_true q402
     have p404 : 0 ≤ (x4_1 : Int) := of_decide_eq_true (by first | (with_reducible assumption) | assumption)
     have q404 : x4_1 < (l0.length : Int) := of_decide_eq_true (by first | (with_reducible assumption) | assumption)
     obtain ⟨ad404, A404_2, c404_2, A404_3, c404_3, A404_4, c404_4, e404, hx404_0, hx404_1, hx404_2, hx404_3, hx404_4, hl404_2, hi404_2, hl404_3, hi404_3, hl404_4, hi404_4⟩ := at_T47 HR0.out x4_1 p404 q404
     have hw404_4 := hx404_4
     have hw404_3 := hx404_3
     have hw404_2 := hx404_2
     have hw404_1 := hx404_1
     have hw404_0 := hx404_0
     obtain rfl : ad402 = ad404 := (by injection e404)
     replace hx404_0 := bcell HB.out hx404_0
     replace hx404_1 := bcell HB.out hx404_1
     replace hx404_2 := bcell HB.out hx404_2
     replace hx404_3 := bcell HB.out hx404_3
     replace hx404_4 := bcell HB.out hx404_4
     have HR404_2 := Aside0.mk hi404_2
     have HC404_2 := Aside0.mk hl404_2
     clear hi404_2 hl404_2
     have HR404_3 := Aside0.mk hi404_3
     have HC404_3 := Aside0.mk hl404_3
     clear hi404_3 hl404_3
     have HR404_4 := Aside0.mk hi404_4
     have HC404_4 := Aside0.mk hl404_4
     clear hi404_4 hl404_4
     replace p404 := eq_true p404
     replace q404 := eq_true q404
     have ea_ := Option.some.inj (hx402_2.symm.trans hx404_2)
     injection ea_ with ea_ en_ ec_
     subst ea_
     subst ec_
     clear en_
     have ea_ := Option.some.inj (hx402_3.symm.trans hx404_3)
     injection ea_ with ea_ en_ ec_
     subst ea_
     subst ec_
     clear en_
     have ea_ := Option.some.inj (hx402_4.symm.trans hx404_4)
     injection ea_ with ea_ en_ ec_
     subst ea_
     subst ec_
     clear en_
     refine start_ (n := 17) (S := fun w' => w'.cell? (ad402.add ((x4_1).toNat * 5)) = some (.int .i64 ((rd_T47 l0 x4_1).f0)) ∧ w'.cell? ⟨(ad402.add ((x4_1).toNat * 5)).block, (ad402.add ((x4_1).toNat * 5)).off + 1, none⟩ = some (.int .i64 ((rd_T47 l0 x4_1).f1)) ∧ w'.cell? ⟨(ad402.add ((x4_1).toNat * 5)).block, (ad402.add ((x4_1).toNat * 5)).off + 2, none⟩ = some (.slice A402_2 ((rd_T47 l0 x4_1).f2).length c402_2) ∧ w'.cell? ⟨(ad402.add ((x4_1).toNat * 5)).block, (ad402.add ((x4_1).toNat * 5)).off + 3, none⟩ = some (.slice A402_3 ((rd_T47 l0 x4_1).f3).length c402_3) ∧ w'.cell? ⟨(ad402.add ((x4_1).toNat * 5)).block, (ad402.add ((x4_1).toNat * 5)).off + 4, none⟩ = some (.slice A402_4 ((rd_T47 l0 x4_1).f4).length c402_4) ∧ w'.cell? (ad402.add ((x4_1).toNat * 5)) = some (.int .i64 ((rd_T47 l0 x4_1).f0)) ∧ w'.cell? ⟨(ad402.add ((x4_1).toNat * 5)).block, (ad402.add ((x4_1).toNat * 5)).off + 1, none⟩ = some (.int .i64 ((rd_T47 l0 x4_1).f1)) ∧ w'.cell? ⟨(ad402.add ((x4_1).toNat * 5)).block, (ad402.add ((x4_1).toNat * 5)).off + 2, none⟩ = some (.slice A402_2 ((rd_T47 l0 x4_1).f2).length c402_2) ∧ w'.cell? ⟨(ad402.add ((x4_1).toNat * 5)).block, (ad402.add ((x4_1).toNat * 5)).off + 3, none⟩ = some (.slice A402_3 ((rd_T47 l0 x4_1).f3).length c402_3) ∧ w'.cell? ⟨(ad402.add ((x4_1).toNat * 5)).block, (ad402.add ((x4_1).toNat * 5)).off + 4, none⟩ = some (.slice A402_4 ((rd_T47 l0 x4_1).f4).length c402_4)) (ds := []) #[false, false, false, false, false, false, false, false, false, false, false, false, false, false, false, false, false] (by kernel_rfl) rfl rfl ⟨(bcell HB.out hw402_0), (bcell HB.out hw402_1), (bcell HB.out hw402_2), (bcell HB.out hw402_3), (bcell HB.out hw402_4), (bcell HB.out hw404_0), (bcell HB.out hw404_1), (bcell HB.out hw404_2), (bcell HB.out hw404_3), (bcell HB.out hw404_4)⟩ (fun hHeld => ?_); refine with_tabW r3_Count.tab5 r3_Count.bits5 (fun HT_ HW_ => ?_)
     generalize wr.drew = w6 at HB HR402_2 HR402_3 HR402_4 HR404_2 HR404_3 HR404_4 hx402_0 hx402_1 hx402_2 hx402_3 hx402_4 hx404_0 hx404_1 hx404_2 hx404_3 hx404_4 hHeld ⊢
     refine pure_ (i := 0) (N := some 11) (v := ?_) (a' := ?_) #[true, false, false, false, false, false, false, false, false, false, false, false, false, false, false, false, false] rfl rfl (any_of HT_.out (by kernel_rfl)) (fun _ _ _ h => h) (Or.inl ⟨by rfl, ?_⟩) ?_ ?_
     rotate_left
     ·intro w'
      go_simp
      with_reducible rfl
     rotate_left
     ·simp only [Act.put, List.setIfInBounds_toArray, List.set_cons_zero, List.set_cons_succ, i64_w, i32_w]
      rfl
     refine pure_ (i := 1) (N := some 12) (v := ?_) (a' := ?_) #[true, true, false, false, false, false, false, false, false, false, false, false, false, false, false, false, false] rfl rfl (any_of HT_.out (by kernel_rfl)) (fun _ _ _ h => h) (Or.inl ⟨by rfl, ?_⟩) ?_ ?_
     rotate_left
     ·intro w'
      go_simp
      with_reducible rfl
     rotate_left
     ·simp only [Act.put, List.setIfInBounds_toArray, List.set_cons_zero, List.set_cons_succ, i64_w, i32_w]
      rfl
     refine pure_ (i := 2) (N := some 13) (v := ?_) (a' := ?_) #[true, true, true, false, false, false, false, false, false, false, false, false, false, false, false, false, false] rfl rfl (any_of HT_.out (by kernel_rfl)) (fun _ _ _ h => h) (Or.inl ⟨by rfl, ?_⟩) ?_ ?_
     rotate_left
     ·intro w'
      go_simp
      with_reducible rfl
     rotate_left
     ·simp only [Act.put, List.setIfInBounds_toArray, List.set_cons_zero, List.set_cons_succ, i64_w, i32_w]
      rfl
     refine pure_ (i := 3) (N := some 14) (v := ?_) (a' := ?_) #[true, true, true, true, false, false, false, false, false, false, false, false, false, false, false, false, false] rfl rfl (any_of HT_.out (by kernel_rfl)) (fun _ _ _ h => h) (Or.inl ⟨by rfl, ?_⟩) ?_ ?_
     rotate_left
     ·intro w'
      go_simp
      with_reducible rfl
     rotate_left
     ·simp only [Act.put, List.setIfInBounds_toArray, List.set_cons_zero, List.set_cons_succ, i64_w, i32_w]
      rfl
     refine pure_ (i := 4) (N := some 15) (v := ?_) (a' := ?_) #[true, true, true, true, true, false, false, false, false, false, false, false, false, false, false, false, false] rfl rfl (any_of HT_.out (by kernel_rfl)) (fun _ _ _ h => h) (Or.inl ⟨by rfl, ?_⟩) ?_ ?_
     rotate_left
     ·intro w'
      go_simp
      with_reducible rfl
     rotate_left
     ·simp only [Act.put, List.setIfInBounds_toArray, List.set_cons_zero, List.set_cons_succ, i64_w, i32_w]
      rfl
     refine pure_ (i := 5) (N := some 16) (v := ?_) (a' := ?_) #[true, true, true, true, true, true, false, false, false, false, false, false, false, false, false, false, false] rfl rfl (any_of HT_.out (by kernel_rfl)) (fun _ _ _ h => h) (Or.inl ⟨by rfl, ?_⟩) ?_ ?_
     rotate_left
     ·intro w'
      go_simp
      with_reducible rfl
     rotate_left
     ·simp only [Act.put, List.setIfInBounds_toArray, List.set_cons_zero, List.set_cons_succ, i64_w, i32_w]
      rfl
     refine pure_ (i := 9) (N := some 20) (v := ?_) (a' := ?_) #[true, true, true, true, true, true, false, false, false, true, false, false, false, false, false, false, false] rfl rfl (any_of HT_.out (by kernel_rfl)) (fun _ _ _ h => h) (Or.inl ⟨by rfl, ?_⟩) ?_ ?_
     rotate_left
     ·intro w'
      go_simp
      with_reducible rfl
     rotate_left
     ·simp only [Act.put, List.setIfInBounds_toArray, List.set_cons_zero, List.set_cons_succ, i64_w, i32_w]
      rfl
     refine pure_ (i := 10) (N := some 21) (v := ?_) (a' := ?_) #[true, true, true, true, true, true, false, false, false, true, true, false, false, false, false, false, false] rfl rfl (any_of HT_.out (by kernel_rfl)) (fun _ _ _ h => h) (Or.inl ⟨by rfl, ?_⟩) ?_ ?_
     rotate_left
     ·intro w'
      go_simp
      with_reducible rfl
     rotate_left
     ·simp only [Act.put, List.setIfInBounds_toArray, List.set_cons_zero, List.set_cons_succ, i64_w, i32_w]
      rfl
     refine pure_ (i := 11) (N := some 22) (v := ?_) (a' := ?_) #[true, true, true, true, true, true, false, false, false, true, true, true, false, false, false, false, false] rfl rfl (any_of HT_.out (by kernel_rfl)) (fun _ _ _ h => h) (Or.inl ⟨by rfl, ?_⟩) ?_ ?_
     rotate_left
     ·intro w'
      go_simp
      with_reducible rfl
     rotate_left
     ·simp only [Act.put, List.setIfInBounds_toArray, List.set_cons_zero, List.set_cons_succ, i64_w, i32_w]
      rfl
     refine pure_ (i := 12) (N := some 23) (v := ?_) (a' := ?_) #[true, true, true, true, true, true, false, false, false, true, true, true, true, false, false, false, false] rfl rfl (any_of HT_.out (by kernel_rfl)) (fun _ _ _ h => h) (Or.inl ⟨by rfl, ?_⟩) ?_ ?_
     rotate_left
     ·intro w'
      go_simp
      with_reducible rfl
     rotate_left
     ·simp only [Act.put, List.setIfInBounds_toArray, List.set_cons_zero, List.set_cons_succ, i64_w, i32_w]
      rfl
     refine take_ (i := 6) (N := some 17) (v := ?_) (a' := ?_) #[true, true, true, true, true, true, true, false, false, true, true, true, true, false, false, false, false] rfl rfl (take_ofW HT_.out HW_.out (by kernel_rfl)) (fun _ _ _ h => h) (Or.inl ⟨by rfl, ?_⟩) hHeld ?_ ?_
     rotate_left
     ·rintro w' ⟨s0, s1, s2, s3, s4, s5, s6, s7, s8, s9⟩
      go_simp
      with_reducible rfl
     rotate_left
     ·simp only [Act.put, List.setIfInBounds_toArray, List.set_cons_zero, List.set_cons_succ, i64_w, i32_w]
      rfl
     refine take_ (i := 13) (N := some 24) (v := ?_) (a' := ?_) #[true, true, true, true, true, true, true, false, false, true, true, true, true, true, false, false, false] rfl rfl (take_ofW HT_.out HW_.out (by kernel_rfl)) (fun _ _ _ h => h) (Or.inl ⟨by rfl, ?_⟩) hHeld ?_ ?_
     rotate_left
     ·rintro w' ⟨s0, s1, s2, s3, s4, s5, s6, s7, s8, s9⟩
      go_simp
      with_reducible rfl
     rotate_left
     ·simp only [Act.put, List.setIfInBounds_toArray, List.set_cons_zero, List.set_cons_succ, i64_w, i32_w]
      rfl
     refine one_ (i := 7) (N := some 18) #[true, true, true, true, true, true, true, true, false, true, true, true, true, true, false, false, false] rfl rfl (one_of HT_.out (by kernel_rfl)) (by decide) (fun K hK => ?_)
     refine goes_ Try.func35 (by kernel_rfl) rfl #[.slice A402_3 ((rd_T47 l0 x4_1).f3).length c402_3] (by rfl) rfl rfl (by (try simp only [List.map_toArray, List.map_cons, List.map_nil]); first | done | rfl | (simp only [List.length_drop, List.length_take]; rfl)) ?_
     with_reducible refine (ih k1 (by have := HK1.out; omega) _ _ ((rd_T47 l0 x4_1).f3) t403 _ ?side1 ?side2 A4.out).mono ?_
     (case side1 => repeat (first | exact (Kd.C_below HR402_3.out HB.out) | with_reducible first | apply Kd.C_alloc | apply Kd.C_drewN | apply Kd.C_drew))
     (case side2 => exact HC402_3.out)
     rintro e w7 ⟨rfl, hb⟩
     refine ⟨_, rfl, ?_⟩
     have n0_ := Aside0.mk (bsp (by repeat (first | (with_reducible first | exact HB.out | apply bal | apply bdN | apply bd1) | exact HB.out)) hb)
     clear HB
     have HB := n0_
     clear n0_
     (try clear hb)
     (try clear hb2)
     (try clear hk)
     (try clear hi)
     refine hK.out _ _ ⟨(bcell HB.out hw402_0), (bcell HB.out hw402_1), (bcell HB.out hw402_2), (bcell HB.out hw402_3), (bcell HB.out hw402_4), (bcell HB.out hw404_0), (bcell HB.out hw404_1), (bcell HB.out hw404_2), (bcell HB.out hw404_3), (bcell HB.out hw404_4)⟩ (fun hHeld => ?_)
     clear hK K
     refine norm_ (a' := ?_) ?_ ?_
     rotate_left
     ·show Act.put _ (some 18) _ = _
      simp only [Act.put, List.setIfInBounds_toArray, List.set_cons_zero, List.set_cons_succ, i64_w, i32_w]
      rfl
     refine pure_ (i := 8) (N := some 19) (v := ?_) (a' := ?_) #[true, true, true, true, true, true, true, true, true, true, true, true, true, true, false, false, false] rfl rfl (any_of HT_.out (by kernel_rfl)) (fun _ _ _ h => h) (Or.inl ⟨by rfl, ?_⟩) ?_ ?_
     rotate_left
     ·intro w'
      go_simp
      with_reducible rfl
     rotate_left
     ·simp only [Act.put, List.setIfInBounds_toArray, List.set_cons_zero, List.set_cons_succ, i64_w, i32_w]
      rfl
     refine one_ (i := 14) (N := some 25) #[true, true, true, true, true, true, true, true, true, true, true, true, true, true, true, false, false] rfl rfl (one_of HT_.out (by kernel_rfl)) (by decide) (fun K hK => ?_)
     refine goes_ Try.func35 (by kernel_rfl) rfl #[.slice A402_4 ((rd_T47 l0 x4_1).f4).length c402_4] (by rfl) rfl rfl (by (try simp only [List.map_toArray, List.map_cons, List.map_nil]); first | done | rfl | (simp only [List.length_drop, List.length_take]; rfl)) ?_
     with_reducible refine (ih k1 (by have := HK1.out; omega) _ _ ((rd_T47 l0 x4_1).f4) t405 _ ?side1 ?side2 A5.out).mono ?_
     (case side1 => repeat (first | exact (Kd.C_below HR404_4.out HB.out) | with_reducible first | apply Kd.C_alloc | apply Kd.C_drewN | apply Kd.C_drew))
     (case side2 => exact HC404_4.out)
     rintro e w8 ⟨rfl, hb⟩
     refine ⟨_, rfl, ?_⟩
     have n0_ := Aside0.mk (bsp (by repeat (first | (with_reducible first | exact HB.out | apply bal | apply bdN | apply bd1) | exact HB.out)) hb)
     clear HB
     have HB := n0_
     clear n0_
     (try clear hb)
     (try clear hb2)
     (try clear hk)
     (try clear hi)
     refine hK.out _ _ ⟨(bcell HB.out hw402_0), (bcell HB.out hw402_1), (bcell HB.out hw402_2), (bcell HB.out hw402_3), (bcell HB.out hw402_4), (bcell HB.out hw404_0), (bcell HB.out hw404_1), (bcell HB.out hw404_2), (bcell HB.out hw404_3), (bcell HB.out hw404_4)⟩ (fun hHeld => ?_)
     clear hK K
     refine norm_ (a' := ?_) ?_ ?_
     rotate_left
     ·show Act.put _ (some 25) _ = _
      simp only [Act.put, List.setIfInBounds_toArray, List.set_cons_zero, List.set_cons_succ, i64_w, i32_w]
      rfl
     refine pure_ (i := 15) (N := some 26) (v := ?_) (a' := ?_) #[true, true, true, true, true, true, true, true, true, true, true, true, true, true, true, true, false] rfl rfl (any_of HT_.out (by kernel_rfl)) (fun _ _ _ h => h) (Or.inl ⟨by rfl, ?_⟩) ?_ ?_
     rotate_left
     ·intro w'
      go_simp
      with_reducible rfl
     rotate_left
     ·simp only [Act.put, List.setIfInBounds_toArray, List.set_cons_zero, List.set_cons_succ, i64_w, i32_w]
      rfl
     refine pure_ (i := 16) (N := some 3) (v := ?_) (a' := ?_) #[true, true, true, true, true, true, true, true, true, true, true, true, true, true, true, true, true] rfl rfl (any_of HT_.out (by kernel_rfl)) (fun _ _ _ h => h) (Or.inl ⟨by rfl, ?_⟩) ?_ ?_
     rotate_left
     ·intro w'
      go_simp
      with_reducible rfl
     rotate_left
     ·simp only [Act.put, List.setIfInBounds_toArray, List.set_cons_zero, List.set_cons_succ, i64_w, i32_w]
      rfl
     refine done_ (done_of HT_.out (by kernel_rfl)) ?_
     try go_wp2
     go_roundg k1
     case measure => have := HK1.out; omega
     case rel => exact ⟨(wrap64 ((wrap64 ((wrap64 (x3_1 + 1)) + t403)) + t405)), (wrap64 (x4_1 + 1)), (by first | rfl | (simp; done) | (simp [*]; done)), (by first | rfl | (simp; done) | (simp [*]; done)), H', ⟨by have := HK1.out; omega⟩, ⟨by repeat (first | (with_reducible first | exact HB.out | apply bal | apply bdN | apply bd1) | exact HB.out)⟩⟩
    ·rw [if_neg c3] at H
     exact absurd H (by simp)
   ·rw [if_neg c2] at H
    have c2b0 : decide (x4_1 < (l0.length : Int)) = false := decide_eq_false c2
    clear c2
    obtain rfl := Option.some.inj H
    go_wp2
    go_ret
    exact ⟨by first | rfl | (simp [*] <;> rfl), by repeat (first | (with_reducible first | exact HB.out | apply bal | apply bdN | apply bd1) | exact HB.out)⟩
theorem rcount_tells : (∀ x, goodS x → sN x ≤ 1000000 → Tells (fun k => r3_Count.f k x.f3) (sCs x.f3 : Int) ∧ Tells (fun k => r3_Count.f k x.f4) (sCs x.f4 : Int)) ∧
    (∀ suf, ∀ (pre : List S47) (n : Nat), goodSs suf → (pre ++ suf).length ≤ 9223372036854775807 → n + sNs suf ≤ 1000000 → Tells (fun k => r3_Count.l0 k (pre ++ suf) (n : Int) (pre.length : Int)) ((n + sCs suf : Nat) : Int)) := by
  refine S_ind (fun a b l t e h1 h2 => ?_) ?_ (fun x r ih1 ih2 => ?_)
  · intro hg hn
    rw [goodS_mk] at hg
    rw [sN_eq] at hn
    simp only at hn
    constructor
    · refine Tells.succ ?_
      simp only [r3_Count.f]
      have := h1 [] 0 hg.2.1.2 hg.2.1.1 (by omega)
      rw [Nat.zero_add] at this
      exact this
    · refine Tells.succ ?_
      simp only [r3_Count.f]
      have := h2 [] 0 hg.2.2.2 hg.2.2.1 (by omega)
      rw [Nat.zero_add] at this
      exact this
  · intro pre n _ _ _
    refine Tells.succ ?_
    simp only [r3_Count.l0, pre_nlt, if_false]
    rw [sCs_nil, Nat.add_zero]
    exact Tells.pure _
  · intro pre n hg hl hn
    rw [goodSs_cons] at hg
    rw [sNs_cons] at hn
    have hle := (s_le.1 x).1
    rw [sC_eq] at hle
    refine Tells.succ ?_
    simp only [r3_Count.l0, pre_lt, pre_pos, if_true, rdS_mid]
    obtain ⟨t1, t2⟩ := ih1 hg.1 (by omega)
    refine Tells.bind t1 (Tells.bind t2 ?_)
    have t3 := ih2 (pre ++ [x]) (n + (1 + sCs x.f3 + sCs x.f4)) hg.2 (by rw [← pre_app]; exact hl) (by omega)
    rw [← pre_app] at t3
    rw [pre_next pre x r hl, w64 (n := (n : Int) + 1) (by omega) (by omega), w64 (n := (n : Int) + 1 + (sCs x.f3 : Int)) (by omega) (by omega), w64 (n := (n : Int) + 1 + (sCs x.f3 : Int) + (sCs x.f4 : Int)) (by omega) (by omega),
      show (n : Int) + 1 + (sCs x.f3 : Int) + (sCs x.f4 : Int) = ((n + (1 + sCs x.f3 + sCs x.f4) : Nat) : Int) by omega]
    rw [sCs_cons, sC_eq, show n + (1 + sCs x.f3 + sCs x.f4 + sCs r) = n + (1 + sCs x.f3 + sCs x.f4) + sCs r by omega]
    exact t3
theorem Count_tells (l : List S47) (hl : l.length ≤ 9223372036854775807) (hg : goodSs l) (hn : sNs l ≤ 1000000) : Tells (fun k => r3_Count.f k l) (sCs l : Int) := by
  refine Tells.succ ?_
  simp only [r3_Count.f]
  have := rcount_tells.2 l [] 0 hg hl (by omega)
  rw [Nat.zero_add] at this
  exact this
mutual
def wkS (n : Int) : S47 → List (Int × S47)
  | ⟨op, m, a, t, e⟩ => (n, ⟨op, m, a, t, e⟩) :: (wks (n + 1) t ++ wks (n + 1 + sCs t) e)
def wks (n : Int) : List S47 → List (Int × S47)
  | [] => []
  | x :: r => wkS n x ++ wks (n + sC x) r
end
theorem wkS_eq (n : Int) (x : S47) : wkS n x = (n, x) :: (wks (n + 1) x.f3 ++ wks (n + 1 + sCs x.f3) x.f4) := by cases x; simp only [wkS]
theorem wks_nil (n : Int) : wks n [] = [] := by simp only [wks]
theorem wks_cons (n : Int) (x : S47) (r : List S47) : wks n (x :: r) = wkS n x ++ wks (n + sC x) r := by simp only [wks]
theorem walk_tells : (∀ x, goodS x → ∀ n : Int, 0 ≤ n → n + sC x ≤ 1000000 → Tells (fun k => prog_walk.f k x.f3 (n + 1)) (wks (n + 1) x.f3, n + 1 + sCs x.f3) ∧ Tells (fun k => prog_walk.f k x.f4 (n + 1 + sCs x.f3)) (wks (n + 1 + sCs x.f3) x.f4, n + 1 + sCs x.f3 + sCs x.f4)) ∧
    (∀ suf, ∀ (pre : List S47), goodSs suf → (pre ++ suf).length ≤ 9223372036854775807 → ∀ n : Int, 0 ≤ n → n + sCs suf ≤ 1000000 → Tells (fun k => prog_walk.l0 k (pre ++ suf) (pre.length : Int) n) (wks n suf, n + sCs suf)) := by
  refine S_ind (fun a b l t e h1 h2 => ?_) ?_ (fun x r ih1 ih2 => ?_)
  · intro hg n h0 hn
    rw [goodS_mk] at hg
    rw [sC_eq] at hn
    simp only at hn ⊢
    constructor
    · refine Tells.succ ?_
      simp only [prog_walk.f]
      exact h1 [] hg.2.1.2 hg.2.1.1 (n + 1) (by omega) (by omega)
    · refine Tells.succ ?_
      simp only [prog_walk.f]
      exact h2 [] hg.2.2.2 hg.2.2.1 (n + 1 + sCs t) (by omega) (by omega)
  · intro pre _ _ n _ _
    refine Tells.succ ?_
    simp only [prog_walk.l0, pre_nlt, if_false]
    rw [sCs_nil, wks_nil, show n + ((0 : Nat) : Int) = n by omega]
    exact Tells.pure _
  · intro pre hg hl n h0 hn
    rw [goodSs_cons] at hg
    rw [sCs_cons] at hn
    obtain ⟨t1, t2⟩ := ih1 hg.1 n h0 (by omega)
    have t3 := ih2 (pre ++ [x]) hg.2 (by rw [← pre_app]; exact hl) (n + sC x) (by omega) (by omega)
    rw [← pre_app] at t3
    have e : (sC x : Int) = 1 + sCs x.f3 + sCs x.f4 := by rw [sC_eq]; omega
    have hb := sC_eq x
    refine Tells.succ ?_
    simp only [prog_walk.l0, pre_lt, pre_pos, if_true, rdS_mid]
    rw [pre_next pre x r hl, w64 (n := n + 1) (by omega) (by omega), show n + 1 - 1 = n by omega, w64 (n := n) (by omega) (by omega)]
    rw [show n + ((sCs (x :: r) : Nat) : Int) = n + sC x + sCs r by rw [sCs_cons]; omega, wks_cons, wkS_eq, List.cons_append, List.append_assoc]
    refine Tells.bind t1 (Tells.bind t2 ?_)
    rw [show n + 1 + (sCs x.f3 : Int) + (sCs x.f4 : Int) = n + sC x by omega]
    exact Tells.bind t3 (Tells.pure _)
theorem eNs_len : ∀ l : List S96, l.length ≤ eNs l
  | [] => Nat.zero_le _
  | x :: r => by
    have := eNs_len r
    have := eN_pos x
    rw [eNs_cons, List.length_cons]
    omega
theorem E_eta (x : S96) : (⟨x.f0, x.f1, x.f2, x.f3⟩ : S96) = x := by cases x; rfl
theorem S_eta (x : S47) : (⟨x.f0, x.f1, x.f2, x.f3, x.f4⟩ : S47) = x := by cases x; rfl
theorem sN_pos (x : S47) : 1 ≤ sN x := by rw [sN_eq]; omega
theorem sNs_len : ∀ l : List S47, l.length ≤ sNs l
  | [] => Nat.zero_le _
  | x :: r => by
    have := sNs_len r
    have := sN_pos x
    rw [sNs_cons, List.length_cons]
    omega
theorem copyE : (∀ x, goodE x → eN x ≤ 1000 → Tells (fun k => prog_copiedExprs.f k x.f3) x.f3) ∧
    (∀ suf, ∀ (pre acc : List S96), goodEs suf → (pre ++ suf).length ≤ 9223372036854775807 → eNs suf ≤ 1000 → acc.length + suf.length ≤ 1000 → Tells (fun k => prog_copiedExprs.l0 k acc (pre ++ suf) ((pre ++ suf).length : Int) (pre.length : Int)) (acc ++ suf)) := by
  refine E_ind (fun a b c l ih => ?_) ?_ (fun x r ih1 ih2 => ?_)
  · intro hg hn
    rw [goodE_mk] at hg
    simp only [eN] at hn
    have := eNs_len l
    refine Tells.succ ?_
    simp only [prog_copiedExprs.f]
    exact ih [] [] hg.2 hg.1 (by omega) (by simp only [List.length_nil]; omega)
  · intro pre acc _ _ _ _
    refine Tells.succ ?_
    simp only [prog_copiedExprs.l0, pre_nlt, if_false]
    rw [List.append_nil]
    exact Tells.pure _
  · intro pre acc hg hl hn ha
    rw [eNs_cons] at hn
    rw [List.length_cons] at ha
    refine Tells.succ ?_
    simp only [prog_copiedExprs.l0, pre_lt, pre_pos, if_true, rdE_mid]
    refine Tells.bind (ih1 hg.1 (by omega)) (Tells.ifT (by omega) ?_)
    have := ih2 (pre ++ [x]) (acc ++ [x]) hg.2 (by rw [← pre_app]; exact hl) (by omega) (by rw [List.length_append, List.length_singleton]; omega)
    rw [← pre_app, ← pre_app] at this
    simp only [E_eta]
    rw [pre_next pre x r hl]
    exact this
theorem copyEs (l : List S96) (hg : goodEs l) (hl : l.length ≤ 9223372036854775807) (hn : eNs l ≤ 1000) : Tells (fun k => prog_copiedExprs.f k l) l := by
  have := eNs_len l
  refine Tells.succ ?_
  simp only [prog_copiedExprs.f]
  exact copyE.2 l [] [] hg hl hn (by simp only [List.length_nil]; omega)
theorem copyS : (∀ x, goodS x → sN x ≤ 1000 → Tells (fun k => prog_Copied.f k x.f0 x.f1 x.f2 x.f3 x.f4) (x.f0, x.f1, x.f2, x.f3, x.f4)) ∧
    (∀ suf, goodSs suf → sNs suf ≤ 1000 → ∀ (pre acc : List S47), (pre ++ suf).length ≤ 9223372036854775807 → acc.length + suf.length ≤ 1000 →
      (∀ (x3 : List S47) (op n : Int) (a : List S96) (t e : List S47), Tells (fun k => prog_Copied.l1 k x3 acc (pre ++ suf) ((pre ++ suf).length : Int) (pre.length : Int) op n a t e) (op, n, a, x3, acc ++ suf)) ∧
      (∀ (op n : Int) (a : List S96) (t e : List S47) v, Tells (fun k => prog_Copied.l1 k (acc ++ suf) [] e (e.length : Int) 0 op n a t e) v → Tells (fun k => prog_Copied.l0 k acc (pre ++ suf) ((pre ++ suf).length : Int) (pre.length : Int) op n a t e) v)) := by
  refine S_ind (fun a b l t e h1 h2 => ?_) ?_ (fun x r ih1 ih2 => ?_)
  · intro hg hn
    rw [goodS_mk] at hg
    rw [sN_eq] at hn
    simp only at hn ⊢
    have n1 := sNs_len t
    have n2 := sNs_len e
    refine Tells.succ ?_
    simp only [prog_Copied.f]
    refine Tells.bind (copyEs l hg.1.2 hg.1.1 (by omega)) ?_
    refine (h1 hg.2.1.2 (by omega) [] [] hg.2.1.1 (by simp only [List.length_nil]; omega)).2 a b l t e _ ?_
    exact (h2 hg.2.2.2 (by omega) [] [] hg.2.2.1 (by simp only [List.length_nil]; omega)).1 ([] ++ t) a b l t e
  · intro _ _ pre acc _ _
    constructor
    · intro x3 op n a t e
      refine Tells.succ ?_
      simp only [prog_Copied.l1, pre_nlt, if_false]
      rw [List.append_nil]
      exact Tells.pure _
    · intro op n a t e v h
      refine Tells.succ ?_
      simp only [prog_Copied.l0, pre_nlt, if_false]
      rw [List.append_nil] at h
      exact h
  · intro hg hn pre acc hl ha
    rw [goodSs_cons] at hg
    rw [sNs_cons] at hn
    rw [List.length_cons] at ha
    obtain ⟨q1, q2⟩ := ih2 hg.2 (by omega) (pre ++ [x]) (acc ++ [x]) (by rw [← pre_app]; exact hl) (by rw [List.length_append, List.length_singleton]; omega)
    constructor
    · intro x3 op n a t e
      refine Tells.succ ?_
      simp only [prog_Copied.l1, pre_lt, pre_pos, if_true, rdS_mid]
      refine Tells.bind (ih1 hg.1 (by omega)) (Tells.ifT (by omega) ?_)
      have := q1 x3 op n a t e
      rw [← pre_app, ← pre_app] at this
      simp only [S_eta]
      rw [pre_next pre x r hl]
      exact this
    · intro op n a t e v h
      refine Tells.succ ?_
      simp only [prog_Copied.l0, pre_lt, pre_pos, if_true, rdS_mid]
      refine Tells.bind (ih1 hg.1 (by omega)) (Tells.ifT (by omega) ?_)
      have := q2 op n a t e v (by rw [← pre_app]; exact h)
      rw [← pre_app] at this
      simp only [S_eta]
      rw [pre_next pre x r hl]
      exact this
def NumFrom (n : Int) (its : List (Int × S47)) : Prop := ∀ (i : Nat) x, its[i]? = some x → x.1 = n + (i : Int)
theorem num_app {n : Int} {a b : List (Int × S47)} (ha : NumFrom n a) (hb : NumFrom (n + a.length) b) : NumFrom n (a ++ b) := by
  intro i x h
  rcases Nat.lt_or_ge i a.length with hi | hi
  · rw [List.getElem?_append_left hi] at h
    exact ha i x h
  · rw [List.getElem?_append_right hi] at h
    have := hb _ x h
    omega
theorem num_cons {n : Int} {x : S47} {b : List (Int × S47)} (hb : NumFrom (n + 1) b) : NumFrom n ((n, x) :: b) := by
  intro i y h
  cases i with
  | zero =>
    have : (n, x) = y := by simpa using h
    rw [← this]
    simp
  | succ i =>
    rw [List.getElem?_cons_succ] at h
    have := hb i y h
    push_cast
    omega
theorem wks_len : (∀ x : S47, (∀ n, (wks n x.f3).length = sCs x.f3) ∧ (∀ n, (wks n x.f4).length = sCs x.f4)) ∧ (∀ l n, (wks n l).length = sCs l) := by
  refine S_ind (fun a b l t e h1 h2 => ⟨h1, h2⟩) (fun n => by rw [wks_nil, sCs_nil]; rfl) (fun x r ih1 ih2 => ?_)
  intro n
  rw [wks_cons, wkS_eq, sCs_cons, sC_eq, List.length_append, List.length_cons, List.length_append, ih1.1, ih1.2, ih2]
  omega
theorem wks_num : (∀ x : S47, (∀ n, NumFrom n (wks n x.f3)) ∧ (∀ n, NumFrom n (wks n x.f4))) ∧ (∀ l n, NumFrom n (wks n l)) := by
  refine S_ind (fun a b l t e h1 h2 => ⟨h1, h2⟩) (fun n => by rw [wks_nil]; intro i x h; simp at h) (fun x r ih1 ih2 => ?_)
  intro n
  have hl : (wkS n x).length = sC x := by rw [wkS_eq, sC_eq, List.length_cons, List.length_append, (wks_len.1 x).1, (wks_len.1 x).2]; omega
  rw [wks_cons]
  refine num_app ?_ (by rw [hl]; exact ih2 _)
  rw [wkS_eq]
  refine num_cons (num_app (ih1.1 _) ?_)
  rw [(wks_len.1 x).1]
  exact ih1.2 _
theorem wks_good : (∀ x : S47, goodS x → (∀ n, ∀ y ∈ wks n x.f3, goodS y.2 ∧ sN y.2 ≤ sNs x.f3) ∧ (∀ n, ∀ y ∈ wks n x.f4, goodS y.2 ∧ sN y.2 ≤ sNs x.f4)) ∧ (∀ l, goodSs l → ∀ n, ∀ y ∈ wks n l, goodS y.2 ∧ sN y.2 ≤ sNs l) := by
  refine S_ind (fun a b l t e h1 h2 hg => ?_) (fun _ n y hy => by rw [wks_nil] at hy; cases hy) (fun x r ih1 ih2 => ?_)
  · rw [goodS_mk] at hg
    exact ⟨h1 hg.2.1.2, h2 hg.2.2.2⟩
  · intro hg n y hy
    rw [goodSs_cons] at hg
    rw [wks_cons, wkS_eq, List.mem_append, List.mem_cons, List.mem_append] at hy
    have e := sN_eq x
    rw [sNs_cons]
    rcases hy with (rfl | hy | hy) | hy
    · exact ⟨hg.1, by simp only; omega⟩
    · have := (ih1 hg.1).1 _ y hy
      exact ⟨this.1, by omega⟩
    · have := (ih1 hg.1).2 _ y hy
      exact ⟨this.1, by omega⟩
    · have := ih2 hg.2 _ y hy
      exact ⟨this.1, by omega⟩
theorem Tells.all {α β : Type} {g : α → Nat → Option β} {v : α → β} : ∀ (l : List α), (∀ x ∈ l, Tells (g x) (v x)) → ∃ k0, ∀ k, k0 ≤ k → ∀ x ∈ l, g x k = some (v x)
  | [], _ => ⟨0, fun _ _ x hx => by cases hx⟩
  | x :: r, h => by
    obtain ⟨a, ha⟩ := h x (by simp)
    obtain ⟨b, hb⟩ := Tells.all r (fun y hy => h y (by simp [hy]))
    refine ⟨max a b, fun k hk y hy => ?_⟩
    rcases List.mem_cons.1 hy with rfl | hy
    · exact ha k (by omega)
    · exact hb k (by omega) y hy
end Go.Proofs.Ytffcpbgbhkbplaa.Print
namespace Go.Proofs.Ytffcpbgbhkbplaa.Print
open Go.RowKit Go.Proofs.YtffcpbgbhkbplaaW.PrintWords Go.Proofs.YtffcpbgbhkbplaaW.PrintLast Go.Proofs.YtffcpbgbhkbplaaW.PrintMore
attribute [local go_sem] max2_int min2_int max_two min_two max_three min_three max_four min_four
set_option linter.unusedVariables false
set_option linter.unusedSimpArgs false
open Go.Shelf Go.RowKit
def SeqW {α : Type} (P : Program) (gf : Nat) (lb : Array Value) (E : α → Array Value → World → Prop) (its : List α) (w0 : World) (Pre : World → Prop) : Prop :=
  ∀ (m l : Nat) (J Jx : List α → World → Prop) (go : List α → α → Bool) (W : World), Below w0.heap.size w0 W → Pre W →
    (∀ pre A B, J pre A → Below W.heap.size A B → J pre B) →
    (∀ pre A (j : Nat) (o o' : Obj), W.heap.size ≤ j → Jx pre A → A.heap[j]? = some o → o.isCells = false → Jx pre (A.putObj j o')) →
    (∀ pre x av A, J pre A → E x av A → Below w0.heap.size w0 A → W.heap.size ≤ A.heap.size → (pre ++ [x]) <+: its → YieldAt Fence.wide m P l av A fun e B =>
      e = .returned (.bool (go pre x)) ∧ (go pre x = true → J (pre ++ [x]) B ∧ Keeps W.heap.size none A B ∧ Below w0.heap.size w0 B) ∧ (go pre x = false → Jx (pre ++ [x]) B ∧ ∀ k, W.heap.size ≤ k → k < A.heap.size → B.heap[k]? = A.heap[k]?)) →
    J [] W →
    CallsIn Fence.wide m P gf (#[.func (.yield l) #[] #[]] ++ lb) W fun e W' => (∃ v, e = .returned v) ∧
      ((stopAt go [] its = none ∧ J its W' ∧ Below w0.heap.size w0 W') ∨ (∃ q, stopAt go [] its = some q ∧ Jx q W'))
set_option maxHeartbeats 2000000 in
theorem wpIn_rangeW {α : Type} {n : Nat} {P : Program} {g : Operand} {ps : Array Tmp} {assign body : Code} {Q : Exit → Act → World → Prop} {a : Act} {w : World} {gf : Nat} {lb : Array Value}
    (hg : a.eval g = .func (.func gf) #[] lb) (eg : ∀ args w, (callFunc gf args).run P w = .ok (.enter gf args) w)
    {E : α → Array Value → World → Prop} {its : List α} {w0 : World} {Pre : World → Prop} (hseq : SeqW P gf lb E its w0 Pre) (hpre : ∀ W1, Below w.heap.size w W1 → Pre W1) (hb0 : Below w0.heap.size w0 w) (hps : ∀ x av A, E x av A → av.size = ps.size)
    (go : List α → α → Bool) (I : List α → World → Prop) (Ix : Code → List α → World → Prop)
    (hI : ∀ pre A B, I pre A → Below w.heap.size A B → I pre B) (hIx : ∀ c pre A (j : Nat) (o o' : Obj), w.heap.size ≤ j → Ix c pre A → A.heap[j]? = some o → o.isCells = false → Ix c pre (A.putObj j o')) (h0 : I [] w)
    (hround : ∀ l pre x av W, I pre W → E x av W → (pre ++ [x]) <+: its → Below w0.heap.size w0 W → w.heap.size + 2 ≤ W.heap.size →
      assign.wpIn (Fence.wide.inRound l) n P (Exit.then (fun a1 W1 => W.grownBy W1 none ∧ ∀ W2, W1.grownBy W2 (some (w.heap.size + 1)) → W2.heap.size = W1.heap.size → I pre W2 → Below w0.heap.size w0 W2 →
        body.wpIn (Fence.wide.inRound l) n P (roundBy w.heap.size w0 I Ix go pre x W W2) a1 W2) (fun _ _ _ => False)) { tmps := (ps.zip av).foldl (fun t (p, v) => t.setIfInBounds p v) a.tmps, defers := [] } W)
    (hdone : ∀ W, stopAt go [] its = none → I its W → Below w0.heap.size w0 W → W.heap[w.heap.size]? = some (.deferred (some [])) → Q .normal { a with defers := { target := .collected w.heap.size, args := #[] } :: a.defers } W)
    (hstop : ∀ c q W, stopAt go [] its = some q → Ix c q W → W.heap[w.heap.size]? = some (.deferred (some [])) → c.wpIn Fence.wide n P Q { a with defers := { target := .collected w.heap.size, args := #[] } :: a.defers } W) :
    (Code.rangeFunc g ps assign body).wpIn Fence.wide n P Q a w := by
  refine wpIn_rangeFunc ?_
  intro fn hfn
  obtain ⟨rec, hrec⟩ : ∃ rec : LoopState → Option Code → Loop, rec = fun st pe => { state := st, pending := pe, fn, tmps := a.tmps, params := ps, assign, body, defers := w.heap.size } := ⟨_, rfl⟩
  obtain ⟨W1, hW1⟩ : ∃ W1, (w.alloc (.deferred (some []))).alloc (.loop (rec .ready none)) = W1 := ⟨_, rfl⟩
  have hL1 : W1.heap[w.heap.size + 1]? = some (.loop (rec .ready none)) := by
    rw [← hW1]; have := World.alloc_heap_new (w.alloc (.deferred (some []))) (.loop (rec .ready none)); rwa [World.size_alloc] at this
  have hK1 : W1.heap[w.heap.size]? = some (.deferred (some [])) := by
    rw [← hW1]; exact (Below.heap_alloc _ _ _ (by simp)).trans (World.alloc_heap_new w _)
  have hS1 : W1.heap.size = w.heap.size + 2 := by rw [← hW1]; simp
  have hw1 : Below w.heap.size w W1 := by
    rw [← hW1]; exact ((Below.refl _ w).alloc (Nat.le_refl _) _).alloc (by simp) _
  have hI1 : I [] W1 := hI _ _ _ h0 hw1
  have hb1 : Below w0.heap.size w0 W1 := hb0.trans (hw1.mono hb0.size)
  have hB0 : w0.heap.size ≤ w.heap.size := hb0.size
  refine ⟨w.heap.size + 1, [{ target := .collected w.heap.size, args := #[] }], W1, { target := .fn (.func gf) lb, args := #[.func (.yield (w.heap.size + 1)) #[] #[]] }, W1, gf,
    #[.func (.yield (w.heap.size + 1)) #[] #[]] ++ lb, W1, ?_, ?_, ?_, ?_, wide_depth, ?_⟩
  · rw [← hW1, hrec]; exact run_enterLoop_outer _ _ _ _ _
  · simp only [resolve, hg]
    simp [go_sem]
  · intro f' hf'; trivial
  · simp [invoke, go_sem, eg]
  refine (hseq (n - 1) (w.heap.size + 1)
    (fun pre W => I pre W ∧ W.heap[w.heap.size + 1]? = some (.loop (rec .ready none)) ∧ W.heap[w.heap.size]? = some (.deferred (some [])))
    (fun pre W => ∃ c, Ix c pre W ∧ W.heap[w.heap.size + 1]? = some (.loop (rec .done (some c))) ∧ W.heap[w.heap.size]? = some (.deferred (some [])))
    go W1 hb1 (hpre W1 hw1)
    (fun pre A B hs hb => ⟨hI _ _ _ hs.1 (hb.mono (by omega)), (hb.block _ (by omega)).trans hs.2.1, (hb.block _ (by omega)).trans hs.2.2⟩)
    (fun pre A j o o' hj hs hA ho => by
      obtain ⟨c, h1, h2, h3⟩ := hs
      exact ⟨c, hIx _ _ _ _ _ _ (by omega) h1 hA ho, (World.putObj_heap_other (by omega)).trans h2, (World.putObj_heap_other (by omega)).trans h3⟩)
    ?_ ⟨hI1, hL1, hK1⟩).mono ?_
  · rintro pre x av W ⟨hi, hl, hk⟩ hE hbW hsz hpre
    have hlt : w.heap.size + 1 < W.heap.size := (Array.getElem?_eq_some_iff.1 hl).1
    have hy := run_yield (P := P) (args := av) hl (by rw [hrec]; exact hps x av W hE)
    rw [hrec] at hy
    refine ⟨fn, _, assign, body, hy, round_any (roundIn_of_wpIn (n := n) trivial ?_)⟩
    refine wpIn_mono (hround (w.heap.size + 1) pre x av W hi hE hpre hbW (by omega)) ?_
    rintro e a1 Wa hp
    cases e with
    | normal =>
      obtain ⟨hga, hbd⟩ := hp
      have hla := (hga.block _ hlt (by simp)).trans hl
      have hka := (hga.block _ (by omega : w.heap.size < W.heap.size) (by simp)).trans hk
      have hgs := hga.size
      have hlta : w.heap.size + 1 < Wa.heap.size := by omega
      refine ⟨_, run_beginRound hla (by rw [hrec]), ?_⟩
      have hg2 := grownBy_putObj' Wa (w.heap.size + 1) (.loop { rec .ready none with state := .busy })
      have hl2 : (Wa.putObj (w.heap.size + 1) (.loop { rec .ready none with state := .busy })).heap[w.heap.size + 1]? = some (.loop { rec .ready none with state := .busy }) := World.putObj_heap_same hlta
      have hk2 : (Wa.putObj (w.heap.size + 1) (.loop { rec .ready none with state := .busy })).heap[w.heap.size]? = some (.deferred (some [])) := (World.putObj_heap_other (by omega)).trans hka
      have hs2 : (Wa.putObj (w.heap.size + 1) (.loop { rec .ready none with state := .busy })).heap.size = Wa.heap.size := by simp
      have hba : Below w.heap.size W Wa := ⟨hga.os, hga.tape, hga.output, hga.size, fun k hk => hga.block k (by omega) (by simp)⟩
      have hb2 : Below w.heap.size W (Wa.putObj (w.heap.size + 1) (.loop { rec .ready none with state := .busy })) := hba.trans (below_put _ _ _ (by omega))
      generalize Wa.putObj (w.heap.size + 1) (.loop { rec .ready none with state := .busy }) = W2 at hg2 hl2 hk2 hs2 hb2 ⊢
      refine wpIn_mono (hbd W2 hg2 hs2 (hI _ _ _ hi hb2) (hbW.trans (hb2.mono hB0))) ?_
      have fin : ∀ (jump : Option Code) (W3 : World), (∀ k, w.heap.size ≤ k → k < W.heap.size → W3.heap[k]? = W2.heap[k]?) →
          (Instr.endRound (w.heap.size + 1) jump).run P W3 = .ok (.bool jump.isNone) (W3.putObj (w.heap.size + 1) (.loop (rec (if jump.isNone then .ready else .done) jump))) ∧
          (W3.putObj (w.heap.size + 1) (.loop (rec (if jump.isNone then .ready else .done) jump))).heap[w.heap.size + 1]? = some (.loop (rec (if jump.isNone then .ready else .done) jump)) ∧
          (W3.putObj (w.heap.size + 1) (.loop (rec (if jump.isNone then .ready else .done) jump))).heap[w.heap.size]? = some (.deferred (some [])) ∧ W3.heap[w.heap.size + 1]? = some (.loop { rec .ready none with state := .busy }) := fun jump W3 hk3 => by
        have hl3 := (hk3 _ (by omega) hlt).trans hl2
        have := run_endRound (P := P) jump hl3
        rw [hrec] at this ⊢
        exact ⟨this, World.putObj_heap_same (Array.getElem?_eq_some_iff.1 hl3).1, (World.putObj_heap_other (by omega)).trans ((hk3 _ (Nat.le_refl _) (by omega)).trans hk2), by rw [hrec] at hl3; exact hl3⟩
      rintro e3 a3 W3 hq
      cases e3 with
      | normal =>
        obtain ⟨hgo, hsz3, hk3, hb3, hi3⟩ := hq
        obtain ⟨hr, hl4, hk4, hl3⟩ := fin none W3 hk3
        have hp3 := below_put w.heap.size W3 (.loop (rec .ready none)) (by omega : w.heap.size ≤ w.heap.size + 1)
        have hg3 := grownBy_putObj' W3 (w.heap.size + 1) (.loop (rec .ready none))
        refine ⟨_, _, hr, by rw [hgo]; rfl, fun _ => ⟨⟨hI _ _ _ hi3 hp3, hl4, hk4⟩, ⟨?_, ?_⟩, hb3.trans (hp3.mono hB0)⟩, fun h => by rw [hgo] at h; cases h⟩
        · have := hg3.size; simp only [Option.isNone_none, if_true]; omega
        · intro k h1 h2 _
          simp only [Option.isNone_none, if_true]
          rw [World.putObj_heap_other (by omega), hk3 k (by omega) h2, hg2.block k (by omega) (by intro e; injection e with e; omega)]
          exact hga.block k h2 (by simp)
      | ret =>
        obtain ⟨hgo, hk3, hi3⟩ := hq
        obtain ⟨hr, hl4, hk4, hl3⟩ := fin (some .ret) W3 hk3
        exact ⟨_, _, hr, by rw [hgo]; rfl, fun h => (by rw [hgo] at h; cases h), fun _ => ⟨⟨.ret, hIx _ _ _ _ _ _ (by omega) hi3 hl3 rfl, hl4, hk4⟩, fun k h1 h2 => by
          rw [World.putObj_heap_other (by omega), hk3 k (by omega) h2, hg2.block k (by omega) (by intro e; injection e with e; omega)]
          exact hga.block k h2 (by simp)⟩⟩
      | exit id =>
        obtain ⟨hgo, hk3, hi3⟩ := hq
        obtain ⟨hr, hl4, hk4, hl3⟩ := fin (some (.exit id)) W3 hk3
        exact ⟨_, _, hr, by rw [hgo]; rfl, fun h => (by rw [hgo] at h; cases h), fun _ => ⟨⟨.exit id, hIx _ _ _ _ _ _ (by omega) hi3 hl3 rfl, hl4, hk4⟩, fun k h1 h2 => by
          rw [World.putObj_heap_other (by omega), hk3 k (by omega) h2, hg2.block k (by omega) (by intro e; injection e with e; omega)]
          exact hga.block k h2 (by simp)⟩⟩
      | goto t => exact hq.elim
      | panic ch => exact hq.elim
      | outgrown => exact hq.elim
    | ret => exact hp.elim
    | exit id => exact hp.elim
    | goto t => exact hp.elim
    | panic ch => exact hp.elim
    | outgrown => exact hp.elim
  · rintro e W2 ⟨⟨v, rfl⟩, (⟨hS, ⟨hi, hl, hk⟩, hb2⟩ | ⟨q, hS, c, hi, hl, hk⟩)⟩
    · have hp3 := below_put w.heap.size W2 (.loop (rec .exhausted none)) (by omega : w.heap.size ≤ w.heap.size + 1)
      exact ⟨none, _, by have := run_endLoop (P := P) hl (by rw [hrec]; simp); rw [hrec] at this; exact this, hdone _ hS (hI _ _ _ hi (below_put _ _ _ (by omega))) (hb2.trans ((below_put _ _ _ (by omega)).mono hB0)) ((World.putObj_heap_other (by omega)).trans hk)⟩
    · exact ⟨some c, _, by have := run_endLoop (P := P) hl (by rw [hrec]; simp); rw [hrec] at this; exact this, hstop c q _ hS (hIx _ _ _ _ _ _ (by omega) hi hl rfl) ((World.putObj_heap_other (by omega)).trans hk)⟩
end Go.Proofs.Ytffcpbgbhkbplaa.Print
namespace Go.Proofs.Ytffcpbgbhkbplaa.Print
open Go.RowKit Go.Proofs.YtffcpbgbhkbplaaW.PrintWords Go.Proofs.YtffcpbgbhkbplaaW.PrintLast Go.Proofs.YtffcpbgbhkbplaaW.PrintMore
attribute [local go_sem] max2_int min2_int max_two min_two max_three min_three max_four min_four
set_option linter.unusedVariables false
set_option linter.unusedSimpArgs false
open Go.Shelf Go.RowKit
attribute [local go_sem] Oper.semAt_some
set_option maxHeartbeats 2000000 in
set_option maxRecDepth 100000 in
theorem prog_All.fn (a b c : Value) (w : World) :
    Calls Try.prog 34 #[.agg #[a, b, c]] w fun e w' => e = .returned (.func (.func 62) #[] #[.pointer (some ⟨w.heap.size, 0, none⟩)]) ∧ Below w.heap.size w w' ∧ w'.heap[w.heap.size]? = some (.cells #[a, b, c] 25 (0, 0)) := by
  have huP := Try.underlying25
  refine calls_of_wp Try.func34 rfl ?_
  simp only [Try.ntmps34, List.size_toArray, List.length_cons, List.length_nil, Nat.reduceAdd, Nat.reduceSub, Array.replicate_succ, Array.replicate_zero, List.push_toArray, List.append_toArray, List.nil_append, List.cons_append]
  go_wp2
  go_ret
  exact ⟨rfl, (Below.refl _ _).alloc (Nat.le_refl _) _, heap_alloc_new _ _⟩
set_option maxHeartbeats 2000000 in
set_option maxRecDepth 100000 in
theorem prog_each.seqW (w0 : World) (bp : Nat) (A : Option Addr) (c : Nat) (l : List S47) (its : List (Int × S47)) (n' : Int) (k : Nat)
    (hr : Kd.C k47 w0 A l.length l) (hc : l.length ≤ c) (h : prog_walk.f k l 0 = some (its, n')) :
    SeqW Try.prog 76 #[.pointer (some ⟨bp, 0, none⟩)] (fun x av _ => itemAt w0 x av) its w0 (fun W => W.cell? ⟨bp, 2, none⟩ = some (.slice A l.length c)) := by
  intro m rl J Jx go W hb hcw hJ _ hY hJ0
  refine callsIn_of_wp Try.func76 rfl trivial ?_ rfl
  simp only [Try.ntmps76, List.size_toArray, List.length_cons, List.length_nil, Nat.reduceAdd, Nat.reduceSub, Array.replicate_succ, Array.replicate_zero, List.push_toArray, List.append_toArray, List.nil_append, List.cons_append]
  have hlt := World.block_lt_of_cell? W _ hcw
  have hS := hb.size
  have key : ∀ W2 : World, Below W.heap.size W W2 → W2.heap[W.heap.size]? = some (.cells #[.int .i64 0] 3 (0, 0)) →
      CallsIn Fence.wide m Try.prog 77 #[.slice A l.length c, .pointer (some ⟨W.heap.size, 0, none⟩), .func (.yield rl) #[] #[]] W2 (fun e W' => ∃ b, e = .returned (.bool b) ∧ ((stopAt go [] its = none ∧ J its W' ∧ Below w0.heap.size w0 W') ∨ (∃ q, stopAt go [] its = some q ∧ Jx q W'))) := by
    intro W2 h1 h2
    refine (prog_walk.walkIn w0 rl W.heap.size m J Jx go its hS hJ ?_ k l 0 its n' [] W2 W.heap.size A c h hr hc (hb.trans (h1.mono hS)) h2 (Nat.le_refl _) (hJ _ _ _ hJ0 h1) (by simp)).mono ?post
    case post =>
      rintro e W3 (⟨h0, rfl, hj, _, _, hb3⟩ | ⟨q, h0, rfl, hx⟩)
      · exact ⟨_, rfl, .inl ⟨h0, by simpa using hj, hb3⟩⟩
      · exact ⟨_, rfl, .inr ⟨q, h0, by simpa using hx⟩⟩
    intro pre x v A1 hj hv hb1 hsz hp
    obtain ⟨fn, tmps, assign, body, y1, y2⟩ := hY pre x _ A1 hj ⟨v, rfl, hv⟩ hb1 hsz hp
    exact ⟨fn, tmps, assign, body, y1, y2.mono (fun e B h => ⟨h.1, h.2.1, fun g => (h.2.2 g).1⟩)⟩
  gi_wp2_with (first | (refine ⟨trivial, wide_depth, ?_⟩; refine (calls_any (m' := m - 1) (key _ ?k1 ?k2)).mono ?_; (case k1 => exact (Below.refl _ _).alloc (Nat.le_refl _) _); (case k2 => exact heap_alloc_new _ _); rintro e W3 ⟨b, rfl, hw⟩))
  go_end0
  exact ⟨⟨_, rfl⟩, hw⟩
def copyAt (k : Nat) (x : Int × S47) (av : Array Value) (A : World) : Prop := ∃ (r1 r2 : Int) (r3 : List S96) (r4 r5 : List S47) (A3 : Option Addr) (c3 : Nat) (A4 : Option Addr) (c4 : Nat) (A5 : Option Addr) (c5 : Nat),
  prog_Copied.f k x.2.f0 x.2.f1 x.2.f2 x.2.f3 x.2.f4 = some (r1, r2, r3, r4, r5) ∧ av = #[.int .i64 x.1, .agg #[.int .i64 r1, .int .i64 r2, .slice A3 r3.length c3, .slice A4 r4.length c4, .slice A5 r5.length c5]] ∧
  r3.length ≤ c3 ∧ Kd.C k96 A A3 r3.length r3 ∧ r4.length ≤ c4 ∧ Kd.C k47 A A4 r4.length r4 ∧ r5.length ≤ c5 ∧ Kd.C k47 A A5 r5.length r5
set_option maxHeartbeats 8000000 in
set_option maxRecDepth 100000 in
theorem prog_All.seq (w0 : World) (bp : Nat) (a0 : Int) (A1 : Option Addr) (c1 : Nat) (l1 : List S82) (A2 : Option Addr) (c2 : Nat) (l2 : List S47) (tc : Int) (its : List (Int × S47)) (n' : Int) (k : Nat)
    (hr1 : Kd.C k82 w0 A1 l1.length l1) (hc1 : l1.length ≤ c1) (hr2 : Kd.C k47 w0 A2 l2.length l2) (hc2 : l2.length ≤ c2) (hch : prog_Check.f k a0 l1 l2 = some tc) (hw : prog_walk.f k l2 0 = some (its, n'))
    (hcp : ∀ x ∈ its, ∃ r, prog_Copied.f k x.2.f0 x.2.f1 x.2.f2 x.2.f3 x.2.f4 = some r) :
    SeqW Try.prog 62 #[.pointer (some ⟨bp, 0, none⟩)] (copyAt k) (if tc = 0 then its else []) w0 (fun W => W.heap[bp]? = some (.cells #[.int .i64 a0, .slice A1 l1.length c1, .slice A2 l2.length c2] 25 (0, 0))) := by
  intro m rl J Jx go W hb hp hJ hJx hY hJ0
  have huP := Try.underlying25
  refine callsIn_of_wp_marks Try.func62 rfl trivial ?_ rfl
  simp only [Try.ntmps62, List.size_toArray, List.length_cons, List.length_nil, Nat.reduceAdd, Nat.reduceSub, Array.replicate_succ, Array.replicate_zero, List.push_toArray, List.append_toArray, List.nil_append, List.cons_append]
  obtain ⟨q0, q1, q2⟩ := cells3 hp
  have hlt := blk_lt hp
  have HY := Aside0.mk hY
  have HJ := Aside0.mk hJ
  have HJX := Aside0.mk hJx
  have HB := Aside0.mk hb
  have HP := Aside0.mk hp
  clear hY hJ hJx hb hp
  have y1 := heap_alloc_new W (.cells #[.func (.yield rl) #[] #[]] 93)
  have b1 : Below W.heap.size W (W.alloc (.cells #[.func (.yield rl) #[] #[]] 93)) := (Below.refl _ _).alloc (Nat.le_refl _) _
  gi_wp2
  generalize W.alloc (.cells #[.func (.yield rl) #[] #[]] 93) = W1 at y1 b1 ⊢
  have B1 := HB.out.trans (b1.mono HB.out.size)
  refine ⟨trivial, wide_depth, ?_⟩
  refine (callsIn_wide.2 (prog_Check.calls k a0 _ _ l1 _ _ l2 tc W1 (Kd.C_below hr1 B1) hc1 (Kd.C_below hr2 B1) hc2 hch)).mono ?_
  rintro e W2 ⟨rfl, hb2⟩
  have b2 := b1.trans (hb2.mono b1.size)
  have y2 := (hb2.block _ (blk_lt y1)).trans y1
  have p2 := (b2.block _ (blk_lt HP.out)).trans HP.out
  clear y1 q0 q1 q2 hb2
  by_cases htc : tc = 0
  case neg =>
    have g1 : (tc == 0) = false := beq_eq_false_iff_ne.mpr htc
    have g2 : (tc != 0) = true := bne_iff_ne.mpr htc
    gi_wp2
    exact ⟨_, results_none rfl _ _ _, ⟨_, rfl⟩, .inl ⟨rfl, HJ.out _ _ _ hJ0 b2, HB.out.trans (b2.mono HB.out.size)⟩⟩
  case pos =>
    subst htc
    obtain ⟨q0, q1, q2⟩ := cells3 p2
    gi_wp2_with (first | (refine ⟨trivial, wide_depth, ?_⟩; refine (callsIn_wide.2 (prog_each.fn _ _ _ W2)).mono ?_; rintro e W3 ⟨rfl, hb3, q3⟩))
    have b3 := b2.trans (hb3.mono b2.size)
    have y3 := (hb3.block _ (blk_lt y2)).trans y2
    have B3 := HB.out.trans (b3.mono HB.out.size)
    have hS2 := blk_lt y2
    have hS3 := blk_lt q3
    clear q0 q1 q2 y2 p2
    refine wpIn_rangeW (gf := 76) (lb := #[.pointer (some ⟨W2.heap.size, 0, none⟩)]) rfl (enters_of Try.func76 (by kernel_rfl) rfl)
      (prog_each.seqW w0 W2.heap.size A2 c2 l2 its n' k hr2 hc2 hw) (fun W4 h4 => (blk_cell ((h4.block _ hS3).trans q3) 2).trans rfl) B3 (by rintro x av A ⟨v, rfl, _⟩; rfl)
      go
      (fun pre A => J pre A ∧ A.heap[W.heap.size]? = some (.cells #[.func (.yield rl) #[] #[]] 93 (0, 0)))
      (fun c pre A => c = .ret ∧ Jx pre A)
      (fun pre A B h hb => ⟨HJ.out _ _ _ h.1 (hb.mono b3.size), (hb.block _ (by omega)).trans h.2⟩)
      (fun c pre A j o o' hj h hA ho => ⟨h.1, HJX.out _ _ _ _ _ (by have := b3.size; omega) h.2 hA ho⟩)
      ⟨HJ.out _ _ _ hJ0 b3, y3⟩ ?round ?done ?stop
    case done =>
      rintro A hst ⟨hj, hy⟩ hb4 hD
      gi_wp2
      refine ⟨by simp, .inl ⟨_, _, rfl, run_takeDeferred hD, ?_⟩⟩
      exact ⟨_, results_none rfl _ _ _, ⟨_, rfl⟩, HJ.out _ _ _ hj (below_put _ _ _ (by omega)), hb4.trans (below_put _ _ _ (by have := B3.size; omega))⟩
    case stop =>
      rintro c q A hst ⟨rfl, hx⟩ hD
      gi_wp2
      refine ⟨by simp, .inl ⟨_, _, rfl, run_takeDeferred hD, ?_⟩⟩
      exact ⟨_, results_none rfl _ _ _, ⟨_, rfl⟩, HJX.out _ _ _ _ _ (by omega) hx hD rfl⟩
    case round =>
      rintro l pre x av A ⟨hj, hy⟩ ⟨v, rfl, hv⟩ hpre hbA hsz
      obtain ⟨A2', z2, A3', z3, A4', z4, rfl, ql2, qr2, ql3, qr3, ql4, qr4⟩ := hv
      gi_wp2
      refine ⟨World.grownBy_alloc _ _ _, ?_⟩
      intro A4w hg4 hs4 hi4 hb4
      have x4 : A4w.heap[A.heap.size]? = some (.cells #[.int .i64 x.2.f0, .int .i64 x.2.f1, .slice A2' x.2.f2.length z2, .slice A3' x.2.f3.length z3, .slice A4' x.2.f4.length z4] 47 (0, 0)) :=
        (hg4.block A.heap.size (by simp) (by intro e; injection e with e; omega)).trans (heap_alloc_new _ _)
      obtain ⟨m0, m1, m2, m3, m4⟩ := cells5 x4
      have hsW : A4w.heap.size = A.heap.size + 1 := by rw [hs4]; simp
      have yq : A4w.cell? ⟨W.heap.size, 0, none⟩ = some (.func (.yield rl) #[] #[]) := (blk_cell hi4.2 0).trans rfl
      obtain ⟨⟨r1, r2, r3, r4, r5⟩, CP⟩ := hcp x (hpre.subset (by simp))
      have BD : Below w0.heap.size w0 A4w.drew := bd1 hb4
      gi_wp2
      refine wpIn_region_any (by kernel_rfl) ?_
      change wpAnyIn _ _ _ _ _ _ _ _ _ (World.drew _)
      refine (fun (key : ?KeyT) => ?main) ?key
      case main =>
        skip
        refine wpAnyIn_ready (rs := [0, 1, 2]) (by kernel_rfl) (by simp) ?_
        refine (AllReadyIn.cons rfl (fun K hK => ?_) (AllReadyIn.cons rfl (fun K hK => ?_) (AllReadyIn.cons rfl (fun K hK => ?_) AllReadyIn.nil)))
        · go_simp
          refine hK _ _ ?_
          clear hK K
          refine wpAnyIn_ready (rs := [1, 2]) (by kernel_rfl) (by simp) ?_
          refine (AllReadyIn.cons rfl (fun K hK => ?_) (AllReadyIn.cons rfl (fun K hK => ?_) AllReadyIn.nil))
          · go_simp
            refine hK _ _ ?_
            clear hK K
            refine wpAnyIn_ready (rs := [2]) (by kernel_rfl) (by simp) (AllReadyIn.cons rfl (fun K hK => ?_) AllReadyIn.nil)
            go_simp
            refine hK _ _ ?_
            clear hK K
            refine wpAnyIn_ready (rs := [3]) (by kernel_rfl) (by simp) (AllReadyIn.cons rfl (fun K hK => ?_) AllReadyIn.nil)
            go_simp
            refine ⟨trivial, wide_depth, ?_⟩
            refine CallsIn.inRound l ((callsIn_wide.2 (prog_Copied.calls k x.2.f0 x.2.f1 A2' z2 x.2.f2 A3' z3 x.2.f3 A4' z4 x.2.f4 _ _ _ _ _ A4w.drew (Kd.C_below qr2 BD) ql2 (Kd.C_below qr3 BD) ql3 (Kd.C_below qr4 BD) ql4 CP)).mono ?_)
            rintro e W5 ⟨v3, v4, v5, rfl, o3, o4, o5, hb5⟩
            obtain ⟨D3, d3, ev3, el3, oc3⟩ := Kd.R_reads o3
            obtain ⟨D4, d4, ev4, el4, oc4⟩ := Kd.R_reads o4
            obtain ⟨D5, d5, ev5, el5, oc5⟩ := Kd.R_reads o5
            subst ev3 ev4 ev5
            clear o3 o4 o5
            have hb5' : Below A4w.heap.size A4w W5 := (bd1 (Below.refl _ _)).trans hb5
            clear hb5
            refine hK _ _ ?_
            clear hK K
            revert hb5' oc5 el5 oc4 el4 oc3 el3
            revert D3 d3 D4 d4 D5 d5 W5
            exact key
          · go_simp
            refine hK _ _ ?_
            clear hK K
            refine wpAnyIn_ready (rs := [1, 3]) (by kernel_rfl) (by simp) ?_
            refine (AllReadyIn.cons rfl (fun K hK => ?_) (AllReadyIn.cons rfl (fun K hK => ?_) AllReadyIn.nil))
            · go_simp
              refine hK _ _ ?_
              clear hK K
              refine wpAnyIn_ready (rs := [3]) (by kernel_rfl) (by simp) (AllReadyIn.cons rfl (fun K hK => ?_) AllReadyIn.nil)
              go_simp
              refine ⟨trivial, wide_depth, ?_⟩
              refine CallsIn.inRound l ((callsIn_wide.2 (prog_Copied.calls k x.2.f0 x.2.f1 A2' z2 x.2.f2 A3' z3 x.2.f3 A4' z4 x.2.f4 _ _ _ _ _ A4w.drew (Kd.C_below qr2 BD) ql2 (Kd.C_below qr3 BD) ql3 (Kd.C_below qr4 BD) ql4 CP)).mono ?_)
              rintro e W5 ⟨v3, v4, v5, rfl, o3, o4, o5, hb5⟩
              obtain ⟨D3, d3, ev3, el3, oc3⟩ := Kd.R_reads o3
              obtain ⟨D4, d4, ev4, el4, oc4⟩ := Kd.R_reads o4
              obtain ⟨D5, d5, ev5, el5, oc5⟩ := Kd.R_reads o5
              subst ev3 ev4 ev5
              clear o3 o4 o5
              have hb5' : Below A4w.heap.size A4w W5 := (bd1 (Below.refl _ _)).trans hb5
              clear hb5
              refine hK _ _ ?_
              clear hK K
              revert hb5' oc5 el5 oc4 el4 oc3 el3
              revert D3 d3 D4 d4 D5 d5 W5
              exact key
            · go_simp
              refine ⟨trivial, wide_depth, ?_⟩
              refine CallsIn.inRound l ((callsIn_wide.2 (prog_Copied.calls k x.2.f0 x.2.f1 A2' z2 x.2.f2 A3' z3 x.2.f3 A4' z4 x.2.f4 _ _ _ _ _ A4w.drew (Kd.C_below qr2 BD) ql2 (Kd.C_below qr3 BD) ql3 (Kd.C_below qr4 BD) ql4 CP)).mono ?_)
              rintro e W5 ⟨v3, v4, v5, rfl, o3, o4, o5, hb5⟩
              obtain ⟨D3, d3, ev3, el3, oc3⟩ := Kd.R_reads o3
              obtain ⟨D4, d4, ev4, el4, oc4⟩ := Kd.R_reads o4
              obtain ⟨D5, d5, ev5, el5, oc5⟩ := Kd.R_reads o5
              subst ev3 ev4 ev5
              clear o3 o4 o5
              have hb5' : Below A4w.heap.size A4w W5 := (bd1 (Below.refl _ _)).trans hb5
              clear hb5
              refine hK _ _ ?_
              clear hK K
              refine wpAnyIn_ready (rs := [1]) (by kernel_rfl) (by simp) (AllReadyIn.cons rfl (fun K hK => ?_) AllReadyIn.nil)
              go_simp
              refine hK _ _ ?_
              clear hK K
              revert hb5' oc5 el5 oc4 el4 oc3 el3
              revert D3 d3 D4 d4 D5 d5 W5
              exact key
        · go_simp
          refine hK _ _ ?_
          clear hK K
          refine wpAnyIn_ready (rs := [0, 2]) (by kernel_rfl) (by simp) ?_
          refine (AllReadyIn.cons rfl (fun K hK => ?_) (AllReadyIn.cons rfl (fun K hK => ?_) AllReadyIn.nil))
          · go_simp
            refine hK _ _ ?_
            clear hK K
            refine wpAnyIn_ready (rs := [2]) (by kernel_rfl) (by simp) (AllReadyIn.cons rfl (fun K hK => ?_) AllReadyIn.nil)
            go_simp
            refine hK _ _ ?_
            clear hK K
            refine wpAnyIn_ready (rs := [3]) (by kernel_rfl) (by simp) (AllReadyIn.cons rfl (fun K hK => ?_) AllReadyIn.nil)
            go_simp
            refine ⟨trivial, wide_depth, ?_⟩
            refine CallsIn.inRound l ((callsIn_wide.2 (prog_Copied.calls k x.2.f0 x.2.f1 A2' z2 x.2.f2 A3' z3 x.2.f3 A4' z4 x.2.f4 _ _ _ _ _ A4w.drew (Kd.C_below qr2 BD) ql2 (Kd.C_below qr3 BD) ql3 (Kd.C_below qr4 BD) ql4 CP)).mono ?_)
            rintro e W5 ⟨v3, v4, v5, rfl, o3, o4, o5, hb5⟩
            obtain ⟨D3, d3, ev3, el3, oc3⟩ := Kd.R_reads o3
            obtain ⟨D4, d4, ev4, el4, oc4⟩ := Kd.R_reads o4
            obtain ⟨D5, d5, ev5, el5, oc5⟩ := Kd.R_reads o5
            subst ev3 ev4 ev5
            clear o3 o4 o5
            have hb5' : Below A4w.heap.size A4w W5 := (bd1 (Below.refl _ _)).trans hb5
            clear hb5
            refine hK _ _ ?_
            clear hK K
            revert hb5' oc5 el5 oc4 el4 oc3 el3
            revert D3 d3 D4 d4 D5 d5 W5
            exact key
          · go_simp
            refine hK _ _ ?_
            clear hK K
            refine wpAnyIn_ready (rs := [0, 3]) (by kernel_rfl) (by simp) ?_
            refine (AllReadyIn.cons rfl (fun K hK => ?_) (AllReadyIn.cons rfl (fun K hK => ?_) AllReadyIn.nil))
            · go_simp
              refine hK _ _ ?_
              clear hK K
              refine wpAnyIn_ready (rs := [3]) (by kernel_rfl) (by simp) (AllReadyIn.cons rfl (fun K hK => ?_) AllReadyIn.nil)
              go_simp
              refine ⟨trivial, wide_depth, ?_⟩
              refine CallsIn.inRound l ((callsIn_wide.2 (prog_Copied.calls k x.2.f0 x.2.f1 A2' z2 x.2.f2 A3' z3 x.2.f3 A4' z4 x.2.f4 _ _ _ _ _ A4w.drew (Kd.C_below qr2 BD) ql2 (Kd.C_below qr3 BD) ql3 (Kd.C_below qr4 BD) ql4 CP)).mono ?_)
              rintro e W5 ⟨v3, v4, v5, rfl, o3, o4, o5, hb5⟩
              obtain ⟨D3, d3, ev3, el3, oc3⟩ := Kd.R_reads o3
              obtain ⟨D4, d4, ev4, el4, oc4⟩ := Kd.R_reads o4
              obtain ⟨D5, d5, ev5, el5, oc5⟩ := Kd.R_reads o5
              subst ev3 ev4 ev5
              clear o3 o4 o5
              have hb5' : Below A4w.heap.size A4w W5 := (bd1 (Below.refl _ _)).trans hb5
              clear hb5
              refine hK _ _ ?_
              clear hK K
              revert hb5' oc5 el5 oc4 el4 oc3 el3
              revert D3 d3 D4 d4 D5 d5 W5
              exact key
            · go_simp
              refine ⟨trivial, wide_depth, ?_⟩
              refine CallsIn.inRound l ((callsIn_wide.2 (prog_Copied.calls k x.2.f0 x.2.f1 A2' z2 x.2.f2 A3' z3 x.2.f3 A4' z4 x.2.f4 _ _ _ _ _ A4w.drew (Kd.C_below qr2 BD) ql2 (Kd.C_below qr3 BD) ql3 (Kd.C_below qr4 BD) ql4 CP)).mono ?_)
              rintro e W5 ⟨v3, v4, v5, rfl, o3, o4, o5, hb5⟩
              obtain ⟨D3, d3, ev3, el3, oc3⟩ := Kd.R_reads o3
              obtain ⟨D4, d4, ev4, el4, oc4⟩ := Kd.R_reads o4
              obtain ⟨D5, d5, ev5, el5, oc5⟩ := Kd.R_reads o5
              subst ev3 ev4 ev5
              clear o3 o4 o5
              have hb5' : Below A4w.heap.size A4w W5 := (bd1 (Below.refl _ _)).trans hb5
              clear hb5
              refine hK _ _ ?_
              clear hK K
              have y5 := (hb5'.block _ (blk_lt hi4.2)).trans hi4.2
              have yc : W5.cell? ⟨W.heap.size, 0, none⟩ = some (.func (.yield rl) #[] #[]) := (blk_cell y5 0).trans rfl
              refine wpAnyIn_ready (rs := [0]) (by kernel_rfl) (by simp) (AllReadyIn.cons rfl (fun K hK => ?_) AllReadyIn.nil)
              go_simp
              refine hK _ _ ?_
              clear hK K
              clear yc y5
              revert hb5' oc5 el5 oc4 el4 oc3 el3
              revert D3 d3 D4 d4 D5 d5 W5
              exact key
        · go_simp
          refine hK _ _ ?_
          clear hK K
          refine wpAnyIn_ready (rs := [0, 1, 3]) (by kernel_rfl) (by simp) ?_
          refine (AllReadyIn.cons rfl (fun K hK => ?_) (AllReadyIn.cons rfl (fun K hK => ?_) (AllReadyIn.cons rfl (fun K hK => ?_) AllReadyIn.nil)))
          · go_simp
            refine hK _ _ ?_
            clear hK K
            refine wpAnyIn_ready (rs := [1, 3]) (by kernel_rfl) (by simp) ?_
            refine (AllReadyIn.cons rfl (fun K hK => ?_) (AllReadyIn.cons rfl (fun K hK => ?_) AllReadyIn.nil))
            · go_simp
              refine hK _ _ ?_
              clear hK K
              refine wpAnyIn_ready (rs := [3]) (by kernel_rfl) (by simp) (AllReadyIn.cons rfl (fun K hK => ?_) AllReadyIn.nil)
              go_simp
              refine ⟨trivial, wide_depth, ?_⟩
              refine CallsIn.inRound l ((callsIn_wide.2 (prog_Copied.calls k x.2.f0 x.2.f1 A2' z2 x.2.f2 A3' z3 x.2.f3 A4' z4 x.2.f4 _ _ _ _ _ A4w.drew (Kd.C_below qr2 BD) ql2 (Kd.C_below qr3 BD) ql3 (Kd.C_below qr4 BD) ql4 CP)).mono ?_)
              rintro e W5 ⟨v3, v4, v5, rfl, o3, o4, o5, hb5⟩
              obtain ⟨D3, d3, ev3, el3, oc3⟩ := Kd.R_reads o3
              obtain ⟨D4, d4, ev4, el4, oc4⟩ := Kd.R_reads o4
              obtain ⟨D5, d5, ev5, el5, oc5⟩ := Kd.R_reads o5
              subst ev3 ev4 ev5
              clear o3 o4 o5
              have hb5' : Below A4w.heap.size A4w W5 := (bd1 (Below.refl _ _)).trans hb5
              clear hb5
              refine hK _ _ ?_
              clear hK K
              revert hb5' oc5 el5 oc4 el4 oc3 el3
              revert D3 d3 D4 d4 D5 d5 W5
              exact key
            · go_simp
              refine ⟨trivial, wide_depth, ?_⟩
              refine CallsIn.inRound l ((callsIn_wide.2 (prog_Copied.calls k x.2.f0 x.2.f1 A2' z2 x.2.f2 A3' z3 x.2.f3 A4' z4 x.2.f4 _ _ _ _ _ A4w.drew (Kd.C_below qr2 BD) ql2 (Kd.C_below qr3 BD) ql3 (Kd.C_below qr4 BD) ql4 CP)).mono ?_)
              rintro e W5 ⟨v3, v4, v5, rfl, o3, o4, o5, hb5⟩
              obtain ⟨D3, d3, ev3, el3, oc3⟩ := Kd.R_reads o3
              obtain ⟨D4, d4, ev4, el4, oc4⟩ := Kd.R_reads o4
              obtain ⟨D5, d5, ev5, el5, oc5⟩ := Kd.R_reads o5
              subst ev3 ev4 ev5
              clear o3 o4 o5
              have hb5' : Below A4w.heap.size A4w W5 := (bd1 (Below.refl _ _)).trans hb5
              clear hb5
              refine hK _ _ ?_
              clear hK K
              refine wpAnyIn_ready (rs := [1]) (by kernel_rfl) (by simp) (AllReadyIn.cons rfl (fun K hK => ?_) AllReadyIn.nil)
              go_simp
              refine hK _ _ ?_
              clear hK K
              revert hb5' oc5 el5 oc4 el4 oc3 el3
              revert D3 d3 D4 d4 D5 d5 W5
              exact key
          · go_simp
            refine hK _ _ ?_
            clear hK K
            refine wpAnyIn_ready (rs := [0, 3]) (by kernel_rfl) (by simp) ?_
            refine (AllReadyIn.cons rfl (fun K hK => ?_) (AllReadyIn.cons rfl (fun K hK => ?_) AllReadyIn.nil))
            · go_simp
              refine hK _ _ ?_
              clear hK K
              refine wpAnyIn_ready (rs := [3]) (by kernel_rfl) (by simp) (AllReadyIn.cons rfl (fun K hK => ?_) AllReadyIn.nil)
              go_simp
              refine ⟨trivial, wide_depth, ?_⟩
              refine CallsIn.inRound l ((callsIn_wide.2 (prog_Copied.calls k x.2.f0 x.2.f1 A2' z2 x.2.f2 A3' z3 x.2.f3 A4' z4 x.2.f4 _ _ _ _ _ A4w.drew (Kd.C_below qr2 BD) ql2 (Kd.C_below qr3 BD) ql3 (Kd.C_below qr4 BD) ql4 CP)).mono ?_)
              rintro e W5 ⟨v3, v4, v5, rfl, o3, o4, o5, hb5⟩
              obtain ⟨D3, d3, ev3, el3, oc3⟩ := Kd.R_reads o3
              obtain ⟨D4, d4, ev4, el4, oc4⟩ := Kd.R_reads o4
              obtain ⟨D5, d5, ev5, el5, oc5⟩ := Kd.R_reads o5
              subst ev3 ev4 ev5
              clear o3 o4 o5
              have hb5' : Below A4w.heap.size A4w W5 := (bd1 (Below.refl _ _)).trans hb5
              clear hb5
              refine hK _ _ ?_
              clear hK K
              revert hb5' oc5 el5 oc4 el4 oc3 el3
              revert D3 d3 D4 d4 D5 d5 W5
              exact key
            · go_simp
              refine ⟨trivial, wide_depth, ?_⟩
              refine CallsIn.inRound l ((callsIn_wide.2 (prog_Copied.calls k x.2.f0 x.2.f1 A2' z2 x.2.f2 A3' z3 x.2.f3 A4' z4 x.2.f4 _ _ _ _ _ A4w.drew (Kd.C_below qr2 BD) ql2 (Kd.C_below qr3 BD) ql3 (Kd.C_below qr4 BD) ql4 CP)).mono ?_)
              rintro e W5 ⟨v3, v4, v5, rfl, o3, o4, o5, hb5⟩
              obtain ⟨D3, d3, ev3, el3, oc3⟩ := Kd.R_reads o3
              obtain ⟨D4, d4, ev4, el4, oc4⟩ := Kd.R_reads o4
              obtain ⟨D5, d5, ev5, el5, oc5⟩ := Kd.R_reads o5
              subst ev3 ev4 ev5
              clear o3 o4 o5
              have hb5' : Below A4w.heap.size A4w W5 := (bd1 (Below.refl _ _)).trans hb5
              clear hb5
              refine hK _ _ ?_
              clear hK K
              have y5 := (hb5'.block _ (blk_lt hi4.2)).trans hi4.2
              have yc : W5.cell? ⟨W.heap.size, 0, none⟩ = some (.func (.yield rl) #[] #[]) := (blk_cell y5 0).trans rfl
              refine wpAnyIn_ready (rs := [0]) (by kernel_rfl) (by simp) (AllReadyIn.cons rfl (fun K hK => ?_) AllReadyIn.nil)
              go_simp
              refine hK _ _ ?_
              clear hK K
              clear yc y5
              revert hb5' oc5 el5 oc4 el4 oc3 el3
              revert D3 d3 D4 d4 D5 d5 W5
              exact key
          · go_simp
            refine ⟨trivial, wide_depth, ?_⟩
            refine CallsIn.inRound l ((callsIn_wide.2 (prog_Copied.calls k x.2.f0 x.2.f1 A2' z2 x.2.f2 A3' z3 x.2.f3 A4' z4 x.2.f4 _ _ _ _ _ A4w.drew (Kd.C_below qr2 BD) ql2 (Kd.C_below qr3 BD) ql3 (Kd.C_below qr4 BD) ql4 CP)).mono ?_)
            rintro e W5 ⟨v3, v4, v5, rfl, o3, o4, o5, hb5⟩
            obtain ⟨D3, d3, ev3, el3, oc3⟩ := Kd.R_reads o3
            obtain ⟨D4, d4, ev4, el4, oc4⟩ := Kd.R_reads o4
            obtain ⟨D5, d5, ev5, el5, oc5⟩ := Kd.R_reads o5
            subst ev3 ev4 ev5
            clear o3 o4 o5
            have hb5' : Below A4w.heap.size A4w W5 := (bd1 (Below.refl _ _)).trans hb5
            clear hb5
            refine hK _ _ ?_
            clear hK K
            have y5 := (hb5'.block _ (blk_lt hi4.2)).trans hi4.2
            have yc : W5.cell? ⟨W.heap.size, 0, none⟩ = some (.func (.yield rl) #[] #[]) := (blk_cell y5 0).trans rfl
            refine wpAnyIn_ready (rs := [0, 1]) (by kernel_rfl) (by simp) ?_
            refine (AllReadyIn.cons rfl (fun K hK => ?_) (AllReadyIn.cons rfl (fun K hK => ?_) AllReadyIn.nil))
            · go_simp
              refine hK _ _ ?_
              clear hK K
              refine wpAnyIn_ready (rs := [1]) (by kernel_rfl) (by simp) (AllReadyIn.cons rfl (fun K hK => ?_) AllReadyIn.nil)
              go_simp
              refine hK _ _ ?_
              clear hK K
              clear yc y5
              revert hb5' oc5 el5 oc4 el4 oc3 el3
              revert D3 d3 D4 d4 D5 d5 W5
              exact key
            · go_simp
              refine hK _ _ ?_
              clear hK K
              refine wpAnyIn_ready (rs := [0]) (by kernel_rfl) (by simp) (AllReadyIn.cons rfl (fun K hK => ?_) AllReadyIn.nil)
              go_simp
              refine hK _ _ ?_
              clear hK K
              clear yc y5
              revert hb5' oc5 el5 oc4 el4 oc3 el3
              revert D3 d3 D4 d4 D5 d5 W5
              exact key
      intro W5 D3 d3 D4 d4 D5 d5 el3 oc3 el4 oc4 el5 oc5 hb5'
      have hJ5 := HJ.out _ _ _ hi4.1 (hb5'.mono (by have := b3.size; omega))
      have hyl := HY.out pre x _ W5 hJ5 ⟨r1, r2, r3, r4, r5, D3, d3, D4, d4, D5, d5, CP, rfl, el3, oc3, el4, oc4, el5, oc5⟩ (hb4.trans (hb5'.mono (by have := hb4.size; omega))) (by have := hb5'.size; have := b3.size; omega) (by simpa using hpre)
      obtain ⟨fn, tmps, assign, body, hyd, hR0⟩ := hyl
      refine wpAnyIn_ready (rs := [4]) (by kernel_rfl) (by simp) (AllReadyIn.cons rfl (fun K hK => ?_) AllReadyIn.nil)
      go_simp
      gi_wp2_with (first | (refine ⟨wide_depth, ?_⟩; refine (round_any hR0).mono ?_; rintro e W6 ⟨rfl, hx, hx2⟩))
      have hs5 := hb5'.size
      have hs3 := b3.size
      cases hgo : go pre x with
      | false =>
        replace hx2 := hx2 hgo
        clear hx
        refine wpAnyIn_ready (rs := [5]) (by kernel_rfl) (by simp) (AllReadyIn.cons rfl (fun K hK => ?_) AllReadyIn.nil)
        go_simp
        refine hK _ _ ?_
        clear hK K
        refine wpAnyIn_done (by kernel_rfl) ?_ _
        gi_wp2
        exact ⟨hgo, fun k h1 h2 => (hx2.2 k (by omega) (by omega)).trans (hb5'.block k (by omega)), rfl, hx2.1⟩
      | true =>
        obtain ⟨j6, k6, b6⟩ := hx hgo
        clear hx hx2
        refine wpAnyIn_ready (rs := [5]) (by kernel_rfl) (by simp) (AllReadyIn.cons rfl (fun K hK => ?_) AllReadyIn.nil)
        go_simp
        refine hK _ _ ?_
        clear hK K
        refine wpAnyIn_done (by kernel_rfl) ?_ _
        gi_wp2
        have hk6 := k6.1
        refine ⟨hgo, by omega, fun k h1 h2 => (k6.2 k (by omega) (by omega) (by simp)).trans (hb5'.block k (by omega)), b6, j6, ?_⟩
        exact (k6.2 _ (Nat.le_refl _) (by omega) (by simp)).trans ((hb5'.block _ (blk_lt hi4.2)).trans hi4.2)
def Numbered (its : List (Int × S47)) : Prop := ∀ pre x, (pre ++ [x]) <+: its → x.1 = (pre.length : Int)
theorem three_boxes (w : World) (a b c : Obj) : Below w.heap.size w (((w.alloc a).alloc b).alloc c) ∧ (((w.alloc a).alloc b).alloc c).heap[w.heap.size]? = some a ∧ (((w.alloc a).alloc b).alloc c).heap[w.heap.size + 1]? = some b ∧
    (((w.alloc a).alloc b).alloc c).heap[w.heap.size + 1 + 1]? = some c ∧ (((w.alloc a).alloc b).alloc c).heap.size = w.heap.size + 1 + 1 + 1 := by
  refine ⟨bal (bal (bal (Below.refl _ _) _) _) _, kal (kal (blk_new _ _) _) _, ?_, ?_, by simp⟩
  · have := blk_new (w.alloc a) b
    exact kal (by simpa using this) _
  · have := blk_new ((w.alloc a).alloc b) c
    simpa using this
theorem results_bool {P : Program} {fn : Func} {p : Tmp} {tB : TypeId} (h : fn.results = #[.cell p tB]) (tmps : Array Value) (w : World) (g : Nat) (v : Bool) (hp : tmps.getD p undef = .pointer (some ⟨g, 0, none⟩))
    (hg : w.heap[g]? = some (.cells #[.bool v] tB (0, 0))) (hu : P.underlying tB = some .bool) : (results fn tmps).run P w = .ok (.bool v) w := by
  have hp' : tmps[p]?.getD undef = .pointer (some ⟨g, 0, none⟩) := by simpa using hp
  have hc : w.cell? ⟨g, 0, none⟩ = some (.bool v) := (blk_cell hg 0).trans rfl
  have hagg : (isAgg tB).run P w = .ok false w := by
    unfold isAgg
    rw [Sem.run_bind, run_underlying hu w]
    simp
  have h2 : (loadVar tB ⟨g, 0, none⟩).run P w = .ok (.bool v) w := by simp [loadVar, Sem.run_bind, hagg, go_sem, hc, Result.andThen]
  generalize hL2 : loadVar tB ⟨g, 0, none⟩ = L2 at h2
  simp [results, h, Sem.run_bind, hp', asAddr, Result.andThen, hL2, h2]
theorem stop_len {α : Type} {a : Int} : ∀ (its pre : List α), (stopAt (fun p _ => decide (¬ (p.length : Int) + 1 ≥ a)) pre its = none → its = [] ∨ (pre.length : Int) + its.length < a) ∧
    (∀ q, stopAt (fun p _ => decide (¬ (p.length : Int) + 1 ≥ a)) pre its = some q → (pre.length : Int) + q.length = max a (pre.length + 1) ∧ q.length ≤ its.length)
  | [], pre => ⟨fun _ => .inl rfl, fun q h => by simp [stopAt] at h⟩
  | x :: r, pre => by
    obtain ⟨h1, h2⟩ := stop_len r (pre ++ [x])
    rw [stopAt]
    by_cases hd : ¬ (pre.length : Int) + 1 ≥ a
    · rw [if_pos (decide_eq_true hd)]
      constructor
      · intro h
        right
        rw [List.length_cons]
        rcases h1 (by simpa using h) with rfl | h3
        · simp; omega
        · rw [List.length_append, List.length_singleton] at h3; omega
      · intro q h
        cases hs : stopAt (fun p _ => decide (¬ (p.length : Int) + 1 ≥ a)) (pre ++ [x]) r with
        | none => rw [hs] at h; simp at h
        | some q' =>
          rw [hs] at h
          have hq : x :: q' = q := by simpa using h
          obtain ⟨h3, h4⟩ := h2 q' hs
          rw [List.length_append, List.length_singleton] at h3
          subst hq
          rw [List.length_cons, List.length_cons]
          omega
    · rw [if_neg (by rw [decide_eq_true_eq]; exact hd)]
      constructor
      · intro h; cases h
      · intro q h
        have hq : [x] = q := by simpa using h
        subst hq
        rw [List.length_cons, List.length_cons, List.length_nil]
        omega
set_option maxHeartbeats 8000000 in
set_option maxRecDepth 100000 in
theorem w3_ProgStops.calls (k : Nat) (a0 : Int) (A1 : Option Addr) (c1 : Nat) (l1 : List S82) (A2 : Option Addr) (c2 : Nat) (l2 : List S47) (a1 : Int) (b : Bool) (its : List (Int × S47)) (n' : Int) (w : World)
    (hr1 : Kd.C k82 w A1 l1.length l1) (hc1 : l1.length ≤ c1) (hr2 : Kd.C k47 w A2 l2.length l2) (hc2 : l2.length ≤ c2) (hIs : r3_Is.f k a0 l1 l2 = some b)
    (hb : b = true → prog_Check.f k a0 l1 l2 = some 0 ∧ prog_walk.f k l2 0 = some (its, n') ∧ (∀ x ∈ its, ∃ r, prog_Copied.f k x.2.f0 x.2.f1 x.2.f2 x.2.f3 x.2.f4 = some r) ∧ r3_Count.f k l2 = some (its.length : Int) ∧ Numbered its ∧ its.length ≤ 1000) :
    Calls Try.prog 8 #[.agg #[.int .i64 a0, .slice A1 l1.length c1, .slice A2 l2.length c2], .int .i64 a1] w fun e w' => e = .returned (.bool true) ∧ Below w.heap.size w w' := by
  refine callsIn_wide.1 (?_ : CallsIn Fence.wide 9 _ _ _ _ _)
  have huP := Try.underlying25
  refine callsIn_of_wp_marks Try.func8 rfl trivial ?_ rfl
  simp only [Try.ntmps8, List.size_toArray, List.length_cons, List.length_nil, Nat.reduceAdd, Nat.reduceSub, Array.replicate_succ, Array.replicate_zero, List.push_toArray, List.append_toArray, List.nil_append, List.cons_append]
  have HR1 := Aside0.mk hr1
  have HC1 := Aside0.mk hc1
  have HR2 := Aside0.mk hr2
  have HC2 := Aside0.mk hc2
  clear hr1 hc1 hr2 hc2
  have FB := three_boxes w (.cells #[.int .i64 a0, .slice A1 l1.length c1, .slice A2 l2.length c2] 25) (.cells #[.int .i64 a1] 3) (.cells #[.bool false] 4)
  gi_wp2
  generalize (((w.alloc (.cells #[.int .i64 a0, .slice A1 l1.length c1, .slice A2 l2.length c2] 25)).alloc (.cells #[.int .i64 a1] 3)).alloc (.cells #[.bool false] 4)) = W1 at FB ⊢
  obtain ⟨b1, p1, m1, t1, s1⟩ := FB
  refine ⟨trivial, ?_⟩
  refine (callsIn_wide.2 (r3_Is.calls k a0 _ _ l1 _ _ l2 b W1 (Kd.C_below HR1.out b1) HC1.out (Kd.C_below HR2.out b1) HC2.out hIs)).mono ?_
  rintro e W2 ⟨rfl, hb2⟩
  have b2 := b1.trans (hb2.mono b1.size)
  have hs2 := hb2.size
  have p2 := (hb2.block _ (blk_lt p1)).trans p1
  have m2 := (hb2.block _ (blk_lt m1)).trans m1
  have t2 := (hb2.block _ (blk_lt t1)).trans t1
  clear p1 m1 t1 hb2 b1
  cases b with
  | false =>
    have f0 := blk_frozen t2 0
    have d0 : W2.cell? ⟨w.heap.size + 1 + 1, 0, none⟩ = some (.bool false) := (blk_cell t2 0).trans rfl
    gi_wp2_with (first | (refine ⟨trivial, ?_⟩; refine (callsIn_wide.2 (w3_awake.calls k true W2 rfl)).mono ?_; rintro e W3 ⟨rfl, hb3⟩; have t3 := (hb3.block _ (blk_lt t2)).trans t2; have g0 := blk_frozen t3 0; have e0 : W3.cell? ⟨w.heap.size + 1 + 1, 0, none⟩ = some (.bool false) := (blk_cell t3 0).trans rfl))
    exact ⟨_, results_bool rfl _ _ (w.heap.size + 1 + 1) true rfl (blk_put t3 0 _ rfl) Try.underlying4, rfl, (b2.trans (hb3.mono b2.size)).trans (below_cell _ _ (by omega))⟩
  | true =>
    obtain ⟨hck, hwk, hcp, hct, hnum, hlen⟩ := hb rfl
    clear hb
    have HCP := Aside0.mk hcp
    have HNUM := Aside0.mk hnum
    clear hcp hnum
    obtain ⟨q0, q1, q2⟩ := cells3 p2
    have hl2 := blk_lt p2
    have hl2' := blk_lt t2
    have FB3 : Below W2.heap.size W2 (W2.alloc (.cells #[.int .i64 0] 3)) ∧ (W2.alloc (.cells #[.int .i64 0] 3)).heap[W2.heap.size]? = some (.cells #[.int .i64 0] 3 (0, 0)) := ⟨(Below.refl _ _).alloc (Nat.le_refl _) _, heap_alloc_new _ _⟩
    gi_wp2
    generalize W2.alloc (.cells #[.int .i64 0] 3) = W3 at FB3 ⊢
    obtain ⟨hb3, s3⟩ := FB3
    refine ⟨trivial, ?_⟩
    refine (callsIn_wide.2 (prog_All.fn _ _ _ W3)).mono ?_
    rintro e W4 ⟨rfl, hb4, q4⟩
    have hs3 := hb3.size
    have hs4 := hb4.size
    have b4 := b2.trans ((hb3.mono b2.size).trans (hb4.mono (by have := b2.size; omega)))
    have p4 := (hb4.block _ (by omega)).trans ((hb3.block _ (blk_lt p2)).trans p2)
    have m4 := (hb4.block _ (by have := blk_lt m2; omega)).trans ((hb3.block _ (blk_lt m2)).trans m2)
    have t4 := (hb4.block _ (by omega)).trans ((hb3.block _ (blk_lt t2)).trans t2)
    have s4 := (hb4.block _ (blk_lt s3)).trans s3
    have hls := blk_lt s4
    have hlq := blk_lt q4
    clear p2 m2 t2 s3 hb3 hb4 q0 q1 q2
    gi_wp2
    refine (fun (key : Unit → ?KeyT) => ?main) (fun _ => ?key)
    case main =>
      refine wpIn_rangeW (gf := 62) (lb := #[.pointer (some ⟨W3.heap.size, 0, none⟩)]) rfl (enters_of Try.func62 (by kernel_rfl) rfl)
        (prog_All.seq w W3.heap.size a0 A1 c1 l1 A2 c2 l2 0 its n' k HR1.out HC1.out HR2.out HC2.out hck hwk HCP.out) (fun W5 h5 => (h5.block _ hlq).trans q4) b4 (by rintro x av A ⟨_, _, _, _, _, _, _, _, _, _, _, _, rfl, _⟩; rfl)
        (fun pre _ => decide (¬ (pre.length : Int) + 1 ≥ a1))
        (fun pre A => A.heap[w.heap.size]? = some (.cells #[.int .i64 a0, .slice A1 l1.length c1, .slice A2 l2.length c2] 25 (0, 0)) ∧ A.heap[w.heap.size + 1]? = some (.cells #[.int .i64 a1] 3 (0, 0)) ∧ A.heap[w.heap.size + 1 + 1]? = some (.cells #[.bool false] 4 (0, 0)) ∧ A.heap[W2.heap.size]? = some (.cells #[.int .i64 (pre.length : Int)] 3 (0, 0)))
        (fun c pre A => c = .exit 0 ∧ A.heap[w.heap.size]? = some (.cells #[.int .i64 a0, .slice A1 l1.length c1, .slice A2 l2.length c2] 25 (0, 0)) ∧ A.heap[w.heap.size + 1]? = some (.cells #[.int .i64 a1] 3 (0, 0)) ∧ A.heap[w.heap.size + 1 + 1]? = some (.cells #[.bool false] 4 (0, 0)) ∧ A.heap[W2.heap.size]? = some (.cells #[.int .i64 (pre.length : Int)] 3 (0, 0)) ∧ Below w.heap.size w A)
        (fun pre A B h hb => ⟨(hb.block _ (by omega)).trans h.1, (hb.block _ (by omega)).trans h.2.1, (hb.block _ (by omega)).trans h.2.2.1, (hb.block _ (by omega)).trans h.2.2.2⟩)
        (fun c pre A j o o' hj h hA ho => ⟨h.1, (World.putObj_heap_other (by omega)).trans h.2.1, (World.putObj_heap_other (by omega)).trans h.2.2.1, (World.putObj_heap_other (by omega)).trans h.2.2.2.1, (World.putObj_heap_other (by omega)).trans h.2.2.2.2.1, h.2.2.2.2.2.trans (below_put _ _ _ (by omega))⟩)
        ⟨p4, m4, t4, s4⟩ ?round ?done ?stop
      case done =>
        rintro A hst ⟨p5, m5, t5, s5⟩ b5 hD
        rw [if_pos rfl] at hst s5
        have hsv : (its.length : Int) = min (max a1 1) its.length := by
          rcases (stop_len (a := a1) its []).1 hst with rfl | h
          · simp; omega
          · simp at h; omega
        rw [hsv] at s5
        clear hst hsv
        simp only [Exit.inBlock, Exit.then]
        revert hD b5 s5 t5 m5 p5 A
        exact key ()
      case stop =>
        rintro c q A hst ⟨rfl, p5, m5, t5, s5, b5⟩ hD
        rw [if_pos rfl] at hst
        have hsv : (q.length : Int) = min (max a1 1) its.length := by
          obtain ⟨h1, h2⟩ := (stop_len (a := a1) its []).2 q hst
          simp only [List.length_nil] at h1
          omega
        rw [hsv] at s5
        clear hst hsv
        refine wpIn_exit ?_
        simp only [Exit.inBlock, Exit.then, if_true]
        revert hD b5 s5 t5 m5 p5 A
        exact key ()
      case round =>
        rintro l pre x av A ⟨p5, m5, t5, s5⟩ ⟨r1, r2, r3, r4, r5, D3, d3, D4, d4, D5, d5, _, rfl, _⟩ hpre hbA hsz
        rw [if_pos rfl] at hpre
        have hx := HNUM.out pre x hpre
        have hpl := hpre.length_le
        rw [List.length_append, List.length_singleton] at hpl
        gi_wp2
        refine ⟨⟨rfl, rfl, rfl, Nat.le_refl _, fun _ _ _ => rfl⟩, ?_⟩
        intro W6 hg6 hs6 p6 m6 t6 s6 hb6
        have hw6 : IntKind.i64.wrap ((pre.length : Int) + 1) = (pre.length : Int) + 1 := by rw [i64_w]; unfold wrap64; omega
        have e0 : W6.cell? ⟨W2.heap.size, 0, none⟩ = some (.int .i64 (pre.length : Int)) := (blk_cell s6 0).trans rfl
        have e1 : W6.cell? ⟨w.heap.size + 1, 0, none⟩ = some (.int .i64 a1) := (blk_cell m6 0).trans rfl
        have e2 := blk_frozen s6 0
        have hx1 : (x.1 != (pre.length : Int)) = false := by rw [hx]; exact bne_self_eq_false _
        have s7 := blk_put s6 0 (.int .i64 ((pre.length : Int) + 1)) (cs' := #[.int .i64 ((pre.length : Int) + 1)]) rfl
        by_cases hd : (pre.length : Int) + 1 ≥ a1
        · have hd1 : decide (a1 ≤ (pre.length : Int) + 1) = true := decide_eq_true hd
          have hd2 : decide ((pre.length : Int) + 1 ≥ a1) = true := decide_eq_true hd
          gi_wp2
          exact ⟨by simpa using hd, fun k h1 h2 => Below.heap_setCell _ _ _ _ (by simp; omega), rfl, blk_far p6 (by simp; omega) _, blk_far m6 (by simp; omega) _, blk_far t6 (by simp; omega) _, by rw [List.length_append, List.length_singleton]; exact s7, hb6.trans (below_cell _ _ (by omega))⟩
        · have hd1 : decide (a1 ≤ (pre.length : Int) + 1) = false := decide_eq_false hd
          have hd2 : decide ((pre.length : Int) + 1 ≥ a1) = false := decide_eq_false hd
          gi_wp2
          exact ⟨by simpa using hd, by simp, fun k h1 h2 => Below.heap_setCell _ _ _ _ (by simp; omega), hb6.trans (below_cell _ _ (by omega)), blk_far p6 (by simp; omega) _, blk_far m6 (by simp; omega) _, blk_far t6 (by simp; omega) _, by rw [List.length_append, List.length_singleton]; exact s7⟩
    intro A p5 m5 t5 s5 b5 hD
    clear p4 m4 t4 s4
    have hbA := b5.size
    obtain ⟨q0, q1, q2⟩ := cells3 p5
    gi_wp2
    refine ⟨trivial, ?_⟩
    refine (callsIn_wide.2 (prog_All.fn _ _ _ A)).mono ?_
    rintro e A6 ⟨rfl, hb6, q6⟩
    have hA6 := hb6.size
    have hlq' := blk_lt q6
    have b6 := b5.trans (hb6.mono hbA)
    have hlD := blk_lt hD
    have p6 := (hb6.block _ (by omega)).trans p5
    have m6 := (hb6.block _ (by omega)).trans m5
    have t6 := (hb6.block _ (by omega)).trans t5
    have s6 := (hb6.block _ (by omega)).trans s5
    have D6 := (hb6.block _ hlD).trans hD
    have FB7 : Below A6.heap.size A6 (A6.alloc (.cells #[.int .i64 0] 3)) ∧ (A6.alloc (.cells #[.int .i64 0] 3)).heap[A6.heap.size]? = some (.cells #[.int .i64 0] 3 (0, 0)) := ⟨(Below.refl _ _).alloc (Nat.le_refl _) _, heap_alloc_new _ _⟩
    clear p5 m5 t5 s5 hD q0 q1 q2
    gi_wp2
    generalize A6.alloc (.cells #[.int .i64 0] 3) = A7 at FB7 ⊢
    obtain ⟨hb7, u7⟩ := FB7
    have hA7 := hb7.size
    have hlu := blk_lt u7
    have hgA : W4.heap.size < A.heap.size := hlD
    have B7 := b6.trans (hb7.mono b6.size)
    have hq7 := (hb7.block _ (by omega)).trans q6
    have p7 := (hb7.block _ (by omega)).trans p6
    have m7 := (hb7.block _ (by omega)).trans m6
    have t7 := (hb7.block _ (by omega)).trans t6
    have s7 := (hb7.block _ (by omega)).trans s6
    have D7 := (hb7.block _ (by omega)).trans D6
    clear p6 m6 t6 s6 D6 q6
    refine wpIn_loop_rounds 3 ?_
    rw [roundsIn_succ]
    have hsz0 := B7.size
    gi_wp2
    refine wpIn_rangeW (gf := 62) (lb := #[.pointer (some ⟨A.heap.size, 0, none⟩)]) rfl (enters_of Try.func62 (by kernel_rfl) rfl)
      (prog_All.seq w A.heap.size a0 A1 c1 l1 A2 c2 l2 0 its n' k HR1.out HC1.out HR2.out HC2.out hck hwk HCP.out) (fun W5 h5 => (h5.block _ (by omega)).trans hq7) B7 (by rintro x av A ⟨_, _, _, _, _, _, _, _, _, _, _, _, rfl, _⟩; rfl)
      (fun _ _ => true)
      (fun pre X => X.heap[w.heap.size]? = some (.cells #[.int .i64 a0, .slice A1 l1.length c1, .slice A2 l2.length c2] 25 (0, 0)) ∧ X.heap[w.heap.size + 1]? = some (.cells #[.int .i64 a1] 3 (0, 0)) ∧ X.heap[w.heap.size + 1 + 1]? = some (.cells #[.bool false] 4 (0, 0)) ∧ X.heap[W2.heap.size]? = some (.cells #[.int .i64 (min (max a1 1) (its.length : Int))] 3 (0, 0)) ∧ X.heap[A.heap.size]? = some (.cells #[.int .i64 a0, .slice A1 l1.length c1, .slice A2 l2.length c2] 25 (0, 0)) ∧ X.heap[W4.heap.size]? = some (.deferred (some [])) ∧ X.heap[A6.heap.size]? = some (.cells #[.int .i64 (0 * (its.length : Int) + (pre.length : Int))] 3 (0, 0)))
      (fun _ _ _ => False)
      (fun pre X Y h hb => ⟨(hb.block _ (by omega)).trans h.1, (hb.block _ (by omega)).trans h.2.1, (hb.block _ (by omega)).trans h.2.2.1, (hb.block _ (by omega)).trans h.2.2.2.1, (hb.block _ (by omega)).trans h.2.2.2.2.1, (hb.block _ (by omega)).trans h.2.2.2.2.2.1, (hb.block _ (by omega)).trans h.2.2.2.2.2.2⟩)
      (fun c pre X j o o' hj h hA ho => h.elim)
      ⟨p7, m7, t7, s7, hq7, D7, (by simpa using u7)⟩ ?round0 ?done0 (fun c q X hst h => h.elim)
    case round0 =>
      rintro l pre x av X ⟨pa, ma, ta, sa, qa, D0a, ua⟩ ⟨r1, r2, r3, r4, r5, E3, e3, E4, e4, E5, e5, _, rfl, _⟩ hpre hbX hsz
      rw [if_pos rfl] at hpre
      have hpl := hpre.length_le
      rw [List.length_append, List.length_singleton] at hpl
      gi_wp2
      refine ⟨⟨rfl, rfl, rfl, Nat.le_refl _, fun _ _ _ => rfl⟩, ?_⟩
      intro W6 hg6 hs6 hi6 hb6
      obtain ⟨pb, mb, tb, sb, qb, D0b, ub⟩ := hi6
      have hw6 : IntKind.i64.wrap ((0 * (its.length : Int) + (pre.length : Int)) + 1) = (0 * (its.length : Int) + (pre.length : Int)) + 1 := by rw [i64_w]; unfold wrap64; omega
      have e0 : W6.cell? ⟨A6.heap.size, 0, none⟩ = some (.int .i64 (0 * (its.length : Int) + (pre.length : Int))) := (blk_cell ub 0).trans rfl
      have e2 := blk_frozen ub 0
      have u8 := blk_put ub 0 (.int .i64 ((0 * (its.length : Int) + (pre.length : Int)) + 1)) (cs' := #[.int .i64 ((0 * (its.length : Int) + (pre.length : Int)) + 1)]) rfl
      generalize hcv : (0 * (its.length : Int) + (pre.length : Int)) = cv at hw6 e0 u8 ub
      gi_wp2
      exact ⟨rfl, by simp, fun k h1 h2 => Below.heap_setCell _ _ _ _ (by simp; omega), hb6.trans (below_cell _ _ (by omega)), blk_far pb (by simp; omega) _, blk_far mb (by simp; omega) _, blk_far tb (by simp; omega) _, blk_far sb (by simp; omega) _, blk_far qb (by simp; omega) _, (Below.heap_setCell _ _ _ _ (by simp; omega)).trans D0b, by rw [List.length_append, List.length_singleton, show (0 * (its.length : Int) + ((pre.length + 1 : Nat) : Int)) = cv + 1 by rw [← hcv]; push_cast; omega]; exact u8⟩
    rintro Z0 hst ⟨p0c, m0c, t0c, s0c, q0c, D00c, u0c⟩ BZ0 hDn0
    clear hst
    rw [if_pos rfl] at u0c
    have hu0 : Z0.heap[A6.heap.size]? = some (.cells #[.int .i64 (1 * (its.length : Int) + ((([] : List (Int × S47)).length : Nat) : Int))] 3 (0, 0)) := by rw [u0c]; simp
    clear u0c
    have hlD0 := blk_lt hDn0
    have hlA0 := blk_lt q0c
    gi_wp2
    rw [roundsIn_succ]
    have hsz1 := BZ0.size
    gi_wp2
    refine wpIn_rangeW (gf := 62) (lb := #[.pointer (some ⟨A.heap.size, 0, none⟩)]) rfl (enters_of Try.func62 (by kernel_rfl) rfl)
      (prog_All.seq w A.heap.size a0 A1 c1 l1 A2 c2 l2 0 its n' k HR1.out HC1.out HR2.out HC2.out hck hwk HCP.out) (fun W5 h5 => (h5.block _ (by omega)).trans q0c) BZ0 (by rintro x av A ⟨_, _, _, _, _, _, _, _, _, _, _, _, rfl, _⟩; rfl)
      (fun _ _ => true)
      (fun pre X => X.heap[w.heap.size]? = some (.cells #[.int .i64 a0, .slice A1 l1.length c1, .slice A2 l2.length c2] 25 (0, 0)) ∧ X.heap[w.heap.size + 1]? = some (.cells #[.int .i64 a1] 3 (0, 0)) ∧ X.heap[w.heap.size + 1 + 1]? = some (.cells #[.bool false] 4 (0, 0)) ∧ X.heap[W2.heap.size]? = some (.cells #[.int .i64 (min (max a1 1) (its.length : Int))] 3 (0, 0)) ∧ X.heap[A.heap.size]? = some (.cells #[.int .i64 a0, .slice A1 l1.length c1, .slice A2 l2.length c2] 25 (0, 0)) ∧ X.heap[W4.heap.size]? = some (.deferred (some [])) ∧ X.heap[A7.heap.size]? = some (.deferred (some [])) ∧ X.heap[A6.heap.size]? = some (.cells #[.int .i64 (1 * (its.length : Int) + (pre.length : Int))] 3 (0, 0)))
      (fun _ _ _ => False)
      (fun pre X Y h hb => ⟨(hb.block _ (by omega)).trans h.1, (hb.block _ (by omega)).trans h.2.1, (hb.block _ (by omega)).trans h.2.2.1, (hb.block _ (by omega)).trans h.2.2.2.1, (hb.block _ (by omega)).trans h.2.2.2.2.1, (hb.block _ (by omega)).trans h.2.2.2.2.2.1, (hb.block _ (by omega)).trans h.2.2.2.2.2.2.1, (hb.block _ (by omega)).trans h.2.2.2.2.2.2.2⟩)
      (fun c pre X j o o' hj h hA ho => h.elim)
      ⟨p0c, m0c, t0c, s0c, q0c, D00c, hDn0, (by simpa using hu0)⟩ ?round1 ?done1 (fun c q X hst h => h.elim)
    case round1 =>
      rintro l pre x av X ⟨pa, ma, ta, sa, qa, D0a, D1a, ua⟩ ⟨r1, r2, r3, r4, r5, E3, e3, E4, e4, E5, e5, _, rfl, _⟩ hpre hbX hsz
      rw [if_pos rfl] at hpre
      have hpl := hpre.length_le
      rw [List.length_append, List.length_singleton] at hpl
      gi_wp2
      refine ⟨⟨rfl, rfl, rfl, Nat.le_refl _, fun _ _ _ => rfl⟩, ?_⟩
      intro W6 hg6 hs6 hi6 hb6
      obtain ⟨pb, mb, tb, sb, qb, D0b, D1b, ub⟩ := hi6
      have hw6 : IntKind.i64.wrap ((1 * (its.length : Int) + (pre.length : Int)) + 1) = (1 * (its.length : Int) + (pre.length : Int)) + 1 := by rw [i64_w]; unfold wrap64; omega
      have e0 : W6.cell? ⟨A6.heap.size, 0, none⟩ = some (.int .i64 (1 * (its.length : Int) + (pre.length : Int))) := (blk_cell ub 0).trans rfl
      have e2 := blk_frozen ub 0
      have u8 := blk_put ub 0 (.int .i64 ((1 * (its.length : Int) + (pre.length : Int)) + 1)) (cs' := #[.int .i64 ((1 * (its.length : Int) + (pre.length : Int)) + 1)]) rfl
      generalize hcv : (1 * (its.length : Int) + (pre.length : Int)) = cv at hw6 e0 u8 ub
      gi_wp2
      exact ⟨rfl, by simp, fun k h1 h2 => Below.heap_setCell _ _ _ _ (by simp; omega), hb6.trans (below_cell _ _ (by omega)), blk_far pb (by simp; omega) _, blk_far mb (by simp; omega) _, blk_far tb (by simp; omega) _, blk_far sb (by simp; omega) _, blk_far qb (by simp; omega) _, (Below.heap_setCell _ _ _ _ (by simp; omega)).trans D0b, (Below.heap_setCell _ _ _ _ (by simp; omega)).trans D1b, by rw [List.length_append, List.length_singleton, show (1 * (its.length : Int) + ((pre.length + 1 : Nat) : Int)) = cv + 1 by rw [← hcv]; push_cast; omega]; exact u8⟩
    rintro Z1 hst ⟨p1c, m1c, t1c, s1c, q1c, D01c, D11c, u1c⟩ BZ1 hDn1
    clear hst
    rw [if_pos rfl] at u1c
    gi_wp2
    rw [roundsIn_succ]
    have hz1 := BZ1.size
    have hlD1 := blk_lt hDn1
    have hlA1 := blk_lt q1c
    have u2 : Z1.heap[A6.heap.size]? = some (.cells #[.int .i64 (2 * (its.length : Int))] 3 (0, 0)) := by rw [u1c, show (1 * (its.length : Int) + (its.length : Int)) = 2 * (its.length : Int) by omega]
    clear u1c
    obtain ⟨q0, q1, q2⟩ := cells3 p1c
    have hfin : (min (max a1 1) (its.length : Int) == mn (mx a1 1) (its.length : Int)) = true := by
      rw [beq_iff_eq]
      unfold mn mx
      split <;> split <;> omega
    have hw2 : IntKind.i64.wrap (2 * (its.length : Int)) = 2 * (its.length : Int) := by rw [i64_w]; unfold wrap64; omega
    gi_wp2_with (first | (refine ⟨trivial, ?_⟩; refine (callsIn_wide.2 (r3_Count.calls k A2 c2 l2 _ Z1 (Kd.C_below HR2.out BZ1) HC2.out hct)).mono ?_; rintro e Z2 ⟨rfl, hbz⟩; have hzs := hbz.size; have x0 : Z2.cell? ⟨W2.heap.size, 0, none⟩ = some (.int .i64 (min (max a1 1) (its.length : Int))) := (blk_cell ((hbz.block _ (by omega)).trans s1c) 0).trans rfl; have x1 : Z2.cell? ⟨w.heap.size + 1, 0, none⟩ = some (.int .i64 a1) := (blk_cell ((hbz.block _ (by omega)).trans m1c) 0).trans rfl; have x2 : Z2.cell? ⟨A6.heap.size, 0, none⟩ = some (.int .i64 (2 * (its.length : Int))) := (blk_cell ((hbz.block _ (by omega)).trans u2) 0).trans rfl) | (refine ⟨trivial, ?_⟩; refine (callsIn_wide.2 (w3_awake.calls k true Z2 rfl)).mono ?_; rintro e Z3 ⟨rfl, hbz2⟩; have hzs2 := hbz2.size; have tz := (hbz2.block _ (by omega)).trans ((hbz.block _ (by omega)).trans t1c); have z0 : Z3.cell? ⟨w.heap.size + 1 + 1, 0, none⟩ = some (.bool false) := (blk_cell tz 0).trans rfl; have z1 := blk_frozen tz 0))
    all_goals
      have y1 := (Below.heap_setCell Z3 ⟨w.heap.size + 1 + 1, 0, none⟩ (.bool true) Z0.heap.size (by simp; omega)).trans ((hbz2.block _ (by omega)).trans ((hbz.block _ hlD1).trans hDn1))
      have y2 := (Below.heap_setCell Z3 ⟨w.heap.size + 1 + 1, 0, none⟩ (.bool true) A7.heap.size (by simp; omega)).trans ((hbz2.block _ (by omega)).trans ((hbz.block _ (by omega)).trans D11c))
      have y3 := (Below.heap_setCell Z3 ⟨w.heap.size + 1 + 1, 0, none⟩ (.bool true) W4.heap.size (by simp; omega)).trans ((hbz2.block _ (by omega)).trans ((hbz.block _ (by omega)).trans D01c))
      have tf := blk_put tz 0 (.bool true) (cs' := #[.bool true]) rfl
      have bf : Below w.heap.size w (Z3.setCell ⟨w.heap.size + 1 + 1, 0, none⟩ (.bool true)) := (BZ1.trans ((hbz.mono (by omega)).trans (hbz2.mono (by omega)))).trans (below_cell _ _ (by omega))
      refine ⟨by simp, .inl ⟨_, _, rfl, run_takeDeferred y1, ?_⟩⟩
      refine ⟨by simp, .inl ⟨_, _, rfl, run_takeDeferred ((World.putObj_heap_other (by omega)).trans y2), ?_⟩⟩
      refine ⟨by simp, .inl ⟨_, _, rfl, run_takeDeferred ((World.putObj_heap_other (by omega)).trans ((World.putObj_heap_other (by omega)).trans y3)), ?_⟩⟩
      exact ⟨_, results_bool rfl _ _ (w.heap.size + 1 + 1) true rfl ((World.putObj_heap_other (by omega)).trans ((World.putObj_heap_other (by omega)).trans ((World.putObj_heap_other (by omega)).trans tf))) Try.underlying4, rfl, ((bf.trans (below_put _ _ _ (by omega))).trans (below_put _ _ _ (by omega))).trans (below_put _ _ _ (by omega))⟩
end Go.Proofs.Ytffcpbgbhkbplaa.Print
namespace Go.Proofs.Ytffcpbgbhkbplaa.Print
open Go.RowKit Go.Proofs.YtffcpbgbhkbplaaW.PrintWords Go.Proofs.YtffcpbgbhkbplaaW.PrintLast Go.Proofs.YtffcpbgbhkbplaaW.PrintMore
attribute [local go_sem] max2_int min2_int max_two min_two max_three min_three max_four min_four
set_option linter.unusedVariables false
set_option linter.unusedSimpArgs false
theorem numbered_wks (l : List S47) : Numbered (wks 0 l) := by
  intro pre x h
  obtain ⟨t, ht⟩ := h
  have := wks_num.2 l 0 pre.length x (by rw [← ht]; simp)
  omega
theorem all_facts (w : Int) (vars : List S82) (body : List S47) (hl : body.length ≤ 9223372036854775807) (hg : goodSs body) :
    ∃ k0, ∀ k, k0 ≤ k → r3_Is.f k w vars body = some (pIs w vars body) ∧ (pIs w vars body = true → prog_Check.f k w vars body = some 0 ∧ prog_walk.f k body 0 = some (wks 0 body, (sCs body : Int)) ∧
      (∀ x ∈ wks 0 body, prog_Copied.f k x.2.f0 x.2.f1 x.2.f2 x.2.f3 x.2.f4 = some (x.2.f0, x.2.f1, x.2.f2, x.2.f3, x.2.f4)) ∧ r3_Count.f k body = some ((wks 0 body).length : Int)) := by
  obtain ⟨k1, h1⟩ := pIs_tells w vars body hl hg
  cases hp : pIs w vars body
  · exact ⟨k1, fun k hk => ⟨(h1 k hk).trans (by rw [hp]), fun h => by cases h⟩⟩
  · obtain ⟨hh, hn⟩ := pIs_all hp
    have hle := (s_le.2 body).1
    have tc := pCheck_tells w vars body hl hg
    rw [hp] at tc
    obtain ⟨k2, h2⟩ := tc
    obtain ⟨k3, h3⟩ : Tells (fun k => prog_walk.f k body 0) (wks 0 body, 0 + sCs body) := by
      refine Tells.succ ?_
      simp only [prog_walk.f]
      exact walk_tells.2 body [] hg hl 0 (by decide) (by omega)
    obtain ⟨k4, h4⟩ := Tells.all (g := fun (x : Int × S47) k => prog_Copied.f k x.2.f0 x.2.f1 x.2.f2 x.2.f3 x.2.f4) (v := fun x => (x.2.f0, x.2.f1, x.2.f2, x.2.f3, x.2.f4)) (wks 0 body) (fun x hx => by
      have := wks_good.2 body hg 0 x hx
      exact copyS.1 x.2 this.1 (by omega))
    obtain ⟨k5, h5⟩ := Count_tells body hl hg (by omega)
    refine ⟨max k1 (max k2 (max k3 (max k4 k5))), fun k hk => ⟨(h1 k (by omega)).trans (by rw [hp]), fun _ => ⟨h2 k (by omega), ?_, h4 k (by omega), ?_⟩⟩⟩
    · have := h3 k (by omega)
      rw [Int.zero_add] at this
      exact this
    · rw [wks_len.2]
      exact h5 k (by omega)
theorem stops_law (a0 : Int) (A1 : Option Addr) (c1 : Nat) (l1 : List S82) (A2 : Option Addr) (c2 : Nat) (l2 : List S47) (a1 : Int) (w : World)
    (hr1 : Kd.C k82 w A1 l1.length l1) (hc1 : l1.length ≤ c1) (hr2 : Kd.C k47 w A2 l2.length l2) (hc2 : l2.length ≤ c2) (hl : l2.length ≤ 9223372036854775807) (hg : goodSs l2) :
    Calls Try.prog 8 #[.agg #[.int .i64 a0, .slice A1 l1.length c1, .slice A2 l2.length c2], .int .i64 a1] w fun e w' => e = .returned (.bool true) ∧ Below w.heap.size w w' := by
  obtain ⟨k, hk⟩ := all_facts a0 l1 l2 hl hg
  obtain ⟨h1, h2⟩ := hk k (Nat.le_refl _)
  refine w3_ProgStops.calls k a0 A1 c1 l1 A2 c2 l2 a1 (pIs a0 l1 l2) (wks 0 l2) (sCs l2 : Int) w hr1 hc1 hr2 hc2 h1 (fun hp => ?_)
  obtain ⟨q1, q2, q3, q4⟩ := h2 hp
  refine ⟨q1, q2, fun x hx => ⟨_, q3 x hx⟩, q4, numbered_wks l2, ?_⟩
  have := (pIs_all hp).2
  have := (s_le.2 l2).1
  rw [wks_len.2]
  omega
end Go.Proofs.Ytffcpbgbhkbplaa.Print
