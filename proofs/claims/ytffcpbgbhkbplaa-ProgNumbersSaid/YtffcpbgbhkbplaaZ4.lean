/- For any program and any number, prog.At, prog.Inside and prog.All give the statements, the numbers or the error that the document's answer tells; a program of more than 600 nodes is passed over. -/
import Derived.Test.YtffcpbgbhkbplaaZ3
import Derived.RangeFuncIn
import Derived.RangeFuncLeaves
import Derived.RangeFuncOwn
set_option maxRecDepth 100000
set_option maxHeartbeats 16000000
namespace Go.Proofs.Ytffcpbgbhkbplaa.Print
open Go.RowKit Go.Proofs.YtffcpbgbhkbplaaW.PrintWords Go.Proofs.YtffcpbgbhkbplaaW.PrintLast Go.Proofs.YtffcpbgbhkbplaaW.PrintMore
attribute [local go_sem] max2_int min2_int max_two min_two max_three min_three max_four min_four
set_option linter.unusedVariables false
set_option linter.unusedSimpArgs false
mutual
def r3_Count.l0 : Nat → List (S47) → Int → Int → Option (Int)
 | 0, _, _, _ => none
 | k + 1, x0, x3, x4 => if x4 < (x0.length : Int) then (if 0 ≤ x4 then ((r3_Count.f k ((rd_T47 x0 x4).f3)).bind fun t306 => ((r3_Count.f k ((rd_T47 x0 x4).f4)).bind fun t308 => (r3_Count.l0 k x0 (wrap64 ((wrap64 ((wrap64 (x3 + 1)) + t306)) + t308)) (wrap64 (x4 + 1))))) else (none)) else (some x3)
def r3_Count.f : Nat → List (S47) → Option (Int)
 | 0, _ => none
 | k + 1, l0 => r3_Count.l0 k l0 0 0
end
def r3_Count.T5 : Bool × List (List Nat × List Nat) := (true, [([], []), ([0], [0]), ([], []), ([], []), ([2, 3], [2, 3]), ([4], [4]), ([5], [5]), ([6], [6]), ([1, 7], [1, 7]), ([], []), ([], []), ([9, 10], [9, 10]), ([11], [11]), ([12], [12]), ([13, 7], [13]), ([8, 14], [8, 14]), ([15, 14, 0, 1, 2, 3, 4, 5, 6, 7, 8, 9, 10, 11, 12, 13, 14, 15], [0, 15])])
def r3_Count.B5 : List Nat := [0, 1, 0, 0, 12, 28, 60, 124, 255, 0, 0, 1536, 3584, 7680, 16124, 32767, 65535]
theorem r3_Count.tab5 : rtab .any (opsOf Try.f35 5) = r3_Count.T5 := by kernel_rfl
theorem r3_Count.bits5 : waitsOk r3_Count.T5.2 r3_Count.B5 = true := by kernel_rfl
theorem r3_Count.calls (k : Nat) : ∀ (A0 : Option Addr) (c0 : Nat) (l0 : List (S47)) (r : Int) (w : World) (hr0 : Kd.C k47 w A0 l0.length l0) (hc0 : l0.length ≤ c0) (h : r3_Count.f k l0 = some r),
  Calls Try.prog 35 #[.slice A0 l0.length c0] w fun e w' => e = .returned (.int .i64 r) ∧ Below w.heap.size w w' := by
 induction k using Nat.strongRecOn with
 | _ k ih =>
 intro A0 c0 l0 r w hr0 hc0 h
 cases k with
 | zero => exact absurd h (by simp [r3_Count.f])
 | succ k =>
 simp only [r3_Count.f] at h
 have HR0 := Aside0.mk hr0
 have HC0 := Aside0.mk hc0
 clear hr0 hc0
 have HB := Aside0.mk (Below.refl w.heap.size w)
 have H : (r3_Count.l0 k l0 0 0) = some r := h
 clear h
 have H' := Aside0.mk H
 clear H
 go_enter Try.func35, Try.ntmps35
 go_wp2
 go_loopg [3, 4] k (fun kq v3 v4 w' => ∃ (x3_1 : Int) (x4_1 : Int), v3 = .int .i64 x3_1 ∧ v4 = .int .i64 x4_1 ∧ Aside0 (r3_Count.l0 kq l0 x3_1 x4_1 = some r) ∧ Aside0 (kq ≤ k) ∧ Aside0 (Below w.heap.size w w'))
 case atStart => exact ⟨(0), (0), rs, rs, H', ⟨Nat.le_refl _⟩, ⟨bb HB⟩⟩
 case round =>
  clear H'
  obtain ⟨x3_1, x4_1, rfl, rfl, HA, HK1, HB⟩ := hrel
  cases gk with
  | zero => exact absurd HA.out (by simp [r3_Count.l0])
  | succ k1 =>
   have H := HA.out
   clear HA
   simp only [r3_Count.l0] at H
   by_cases c2 : x4_1 < (l0.length : Int)
   rotate_left
   ·rw [if_neg c2] at H
    have c2b0 : decide (x4_1 < (l0.length : Int)) = false := decide_eq_false c2
    clear c2
    obtain rfl := Option.some.inj H
    go_wp2
    go_ret
    exact ⟨rr, bb HB⟩
   rw [if_pos c2] at H
   have c2b0 : decide (x4_1 < (l0.length : Int)) = true := decide_eq_true c2
   clear c2
   by_cases c3 : 0 ≤ x4_1
   rotate_left
   ·rw [if_neg c3] at H
    exact absurd H (by simp)
   rw [if_pos c3] at H
   have c3b0 : decide (0 ≤ x4_1) = true := decide_eq_true c3
   clear c3
   obtain ⟨t306, A4, H⟩ := be H
   obtain ⟨t308, A5, H⟩ := be H
   have H' := Aside0.mk H
   clear H
   try go_wp2
   replace HB := Aside0.mk (bd1 HB.out)
   have p305 : 0 ≤ (x4_1 : Int) := od
   have q305 : x4_1 < (l0.length : Int) := od
   obtain ⟨ad305, A305_2, c305_2, A305_3, c305_3, A305_4, c305_4, e305, hx305_0, hx305_1, hx305_2, hx305_3, hx305_4, hl305_2, hi305_2, hl305_3, hi305_3, hl305_4, hi305_4⟩ := at_T47 HR0.out x4_1 p305 q305
   have hw305_4 := hx305_4
   have hw305_3 := hx305_3
   have hw305_2 := hx305_2
   have hw305_1 := hx305_1
   have hw305_0 := hx305_0
   cases e305
   replace hx305_0 := bcell HB.out hx305_0
   replace hx305_1 := bcell HB.out hx305_1
   replace hx305_2 := bcell HB.out hx305_2
   replace hx305_3 := bcell HB.out hx305_3
   replace hx305_4 := bcell HB.out hx305_4
   have HR305_2 := Aside0.mk hi305_2
   have HC305_2 := Aside0.mk hl305_2
   clear hi305_2 hl305_2
   have HR305_3 := Aside0.mk hi305_3
   have HC305_3 := Aside0.mk hl305_3
   clear hi305_3 hl305_3
   have HR305_4 := Aside0.mk hi305_4
   have HC305_4 := Aside0.mk hl305_4
   clear hi305_4 hl305_4
   replace p305 := eq_true p305
   replace q305 := eq_true q305
   have p307 : 0 ≤ (x4_1 : Int) := od
   have q307 : x4_1 < (l0.length : Int) := od
   obtain ⟨ad307, A307_2, c307_2, A307_3, c307_3, A307_4, c307_4, e307, hx307_0, hx307_1, hx307_2, hx307_3, hx307_4, hl307_2, hi307_2, hl307_3, hi307_3, hl307_4, hi307_4⟩ := at_T47 HR0.out x4_1 p307 q307
   have hw307_4 := hx307_4
   have hw307_3 := hx307_3
   have hw307_2 := hx307_2
   have hw307_1 := hx307_1
   have hw307_0 := hx307_0
   obtain rfl : ad305 = ad307 := (by injection e307)
   replace hx307_0 := bcell HB.out hx307_0
   replace hx307_1 := bcell HB.out hx307_1
   replace hx307_2 := bcell HB.out hx307_2
   replace hx307_3 := bcell HB.out hx307_3
   replace hx307_4 := bcell HB.out hx307_4
   have HR307_2 := Aside0.mk hi307_2
   have HC307_2 := Aside0.mk hl307_2
   clear hi307_2 hl307_2
   have HR307_3 := Aside0.mk hi307_3
   have HC307_3 := Aside0.mk hl307_3
   clear hi307_3 hl307_3
   have HR307_4 := Aside0.mk hi307_4
   have HC307_4 := Aside0.mk hl307_4
   clear hi307_4 hl307_4
   replace p307 := eq_true p307
   replace q307 := eq_true q307
   have ea_ := Option.some.inj (hx305_2.symm.trans hx307_2)
   injection ea_ with ea_ en_ ec_
   subst ea_
   subst ec_
   clear en_
   have ea_ := Option.some.inj (hx305_3.symm.trans hx307_3)
   injection ea_ with ea_ en_ ec_
   subst ea_
   subst ec_
   clear en_
   have ea_ := Option.some.inj (hx305_4.symm.trans hx307_4)
   injection ea_ with ea_ en_ ec_
   subst ea_
   subst ec_
   clear en_
   refine start_ (n := 17) (S := fun w' => w'.cell? (ad305.add ((x4_1).toNat * 5)) = some (.int .i64 ((rd_T47 l0 x4_1).f0)) ∧ w'.cell? ⟨(ad305.add ((x4_1).toNat * 5)).block, (ad305.add ((x4_1).toNat * 5)).off + 1, none⟩ = some (.int .i64 ((rd_T47 l0 x4_1).f1)) ∧ w'.cell? ⟨(ad305.add ((x4_1).toNat * 5)).block, (ad305.add ((x4_1).toNat * 5)).off + 2, none⟩ = some (.slice A305_2 ((rd_T47 l0 x4_1).f2).length c305_2) ∧ w'.cell? ⟨(ad305.add ((x4_1).toNat * 5)).block, (ad305.add ((x4_1).toNat * 5)).off + 3, none⟩ = some (.slice A305_3 ((rd_T47 l0 x4_1).f3).length c305_3) ∧ w'.cell? ⟨(ad305.add ((x4_1).toNat * 5)).block, (ad305.add ((x4_1).toNat * 5)).off + 4, none⟩ = some (.slice A305_4 ((rd_T47 l0 x4_1).f4).length c305_4) ∧ w'.cell? (ad305.add ((x4_1).toNat * 5)) = some (.int .i64 ((rd_T47 l0 x4_1).f0)) ∧ w'.cell? ⟨(ad305.add ((x4_1).toNat * 5)).block, (ad305.add ((x4_1).toNat * 5)).off + 1, none⟩ = some (.int .i64 ((rd_T47 l0 x4_1).f1)) ∧ w'.cell? ⟨(ad305.add ((x4_1).toNat * 5)).block, (ad305.add ((x4_1).toNat * 5)).off + 2, none⟩ = some (.slice A305_2 ((rd_T47 l0 x4_1).f2).length c305_2) ∧ w'.cell? ⟨(ad305.add ((x4_1).toNat * 5)).block, (ad305.add ((x4_1).toNat * 5)).off + 3, none⟩ = some (.slice A305_3 ((rd_T47 l0 x4_1).f3).length c305_3) ∧ w'.cell? ⟨(ad305.add ((x4_1).toNat * 5)).block, (ad305.add ((x4_1).toNat * 5)).off + 4, none⟩ = some (.slice A305_4 ((rd_T47 l0 x4_1).f4).length c305_4)) (ds := []) #[false, false, false, false, false, false, false, false, false, false, false, false, false, false, false, false, false] (by kernel_rfl) rfl rfl ⟨(bcell HB.out hw305_0), (bcell HB.out hw305_1), (bcell HB.out hw305_2), (bcell HB.out hw305_3), (bcell HB.out hw305_4), (bcell HB.out hw307_0), (bcell HB.out hw307_1), (bcell HB.out hw307_2), (bcell HB.out hw307_3), (bcell HB.out hw307_4)⟩ (fun hHeld => ?_); refine with_tabW r3_Count.tab5 r3_Count.bits5 (fun HT_ HW_ => ?_)
   generalize wr.drew = w6 at HB HR305_2 HR305_3 HR305_4 HR307_2 HR307_3 HR307_4 hx305_0 hx305_1 hx305_2 hx305_3 hx305_4 hx307_0 hx307_1 hx307_2 hx307_3 hx307_4 hHeld ⊢
   refine pT 0 11 (bl 17 1) HT_ rfl rfl ?_
   refine pT 1 12 (bl 17 3) HT_ rfl rfl ?_
   refine pT 2 13 (bl 17 7) HT_ rfl rfl ?_
   refine pT 3 14 (bl 17 15) HT_ rfl rfl ?_
   refine pT 4 15 (bl 17 31) HT_ rfl rfl ?_
   refine pT 5 16 (bl 17 63) HT_ rfl rfl ?_
   refine pT 9 20 (bl 17 575) HT_ rfl rfl ?_
   refine pT 10 21 (bl 17 1599) HT_ rfl rfl ?_
   refine pT 11 22 (bl 17 3647) HT_ rfl rfl ?_
   refine pT 12 23 (bl 17 7743) HT_ rfl rfl ?_
   refine tk (i := 6) (N := some 17) (bl 17 7807) rfl rfl (take_ofW HT_.out HW_.out (by kernel_rfl)) hHeld ?_
   refine tk (i := 13) (N := some 24) (bl 17 15999) rfl rfl (take_ofW HT_.out HW_.out (by kernel_rfl)) hHeld ?_
   refine one_ (i := 7) (N := some 18) (bl 17 16127) rfl rfl (one_of HT_.out (by kernel_rfl)) (by decide) (fun K hK => ?_)
   refine gO Try.func35 #[.slice A305_3 ((rd_T47 l0 x4_1).f3).length c305_3] (by rfl) rfl rfl ?_
   with_reducible refine (ih k1 (by have := HK1.out; omega) _ _ ((rd_T47 l0 x4_1).f3) t306 _ ?side1 ?side2 A4.out).mono ?_
   (case side1 => exact cb HR305_3 HB)
   (case side2 => exact HC305_3.out)
   rintro e w7 ⟨rfl, hb⟩
   refine ⟨_, rfl, ?_⟩
   replace HB := sb HB hb
   (try clear hb)
   (try clear hb2)
   (try clear hk)
   (try clear hi)
   refine hK.out _ _ ⟨(bcell HB.out hw305_0), (bcell HB.out hw305_1), (bcell HB.out hw305_2), (bcell HB.out hw305_3), (bcell HB.out hw305_4), (bcell HB.out hw307_0), (bcell HB.out hw307_1), (bcell HB.out hw307_2), (bcell HB.out hw307_3), (bcell HB.out hw307_4)⟩ (fun hHeld => ?_)
   clear hK K
   refine nm 18 ?_
   refine pT 8 19 (bl 17 16383) HT_ rfl rfl ?_
   refine one_ (i := 14) (N := some 25) (bl 17 32767) rfl rfl (one_of HT_.out (by kernel_rfl)) (by decide) (fun K hK => ?_)
   refine gO Try.func35 #[.slice A305_4 ((rd_T47 l0 x4_1).f4).length c305_4] (by rfl) rfl rfl ?_
   with_reducible refine (ih k1 (by have := HK1.out; omega) _ _ ((rd_T47 l0 x4_1).f4) t308 _ ?side1 ?side2 A5.out).mono ?_
   (case side1 => exact cb HR307_4 HB)
   (case side2 => exact HC307_4.out)
   rintro e w8 ⟨rfl, hb⟩
   refine ⟨_, rfl, ?_⟩
   replace HB := sb HB hb
   (try clear hb)
   (try clear hb2)
   (try clear hk)
   (try clear hi)
   refine hK.out _ _ ⟨(bcell HB.out hw305_0), (bcell HB.out hw305_1), (bcell HB.out hw305_2), (bcell HB.out hw305_3), (bcell HB.out hw305_4), (bcell HB.out hw307_0), (bcell HB.out hw307_1), (bcell HB.out hw307_2), (bcell HB.out hw307_3), (bcell HB.out hw307_4)⟩ (fun hHeld => ?_)
   clear hK K
   refine nm 25 ?_
   refine pT 15 26 (bl 17 65535) HT_ rfl rfl ?_
   refine pT 16 3 (bl 17 131071) HT_ rfl rfl ?_
   refine done_ (done_of HT_.out (by kernel_rfl)) ?_
   try go_wp2
   go_roundg k1
   case measure => have := HK1.out; omega
   case rel => exact ⟨(wrap64 ((wrap64 ((wrap64 (x3_1 + 1)) + t306)) + t308)), (wrap64 (x4_1 + 1)), rs, rs, H', ⟨by have := HK1.out; omega⟩, ⟨bb HB⟩⟩
theorem rcount_tells : (∀ x, goodS x → sN x ≤ 1000000 → Tells (fun k => r3_Count.f k x.f3) (sCs x.f3 : Int) ∧ Tells (fun k => r3_Count.f k x.f4) (sCs x.f4 : Int)) ∧
    (∀ suf, ∀ (pre : List S47) (n : Nat), goodSs suf → (pre ++ suf).length ≤ 9223372036854775807 → n + sNs suf ≤ 1000000 → Tells (fun k => r3_Count.l0 k (pre ++ suf) (n : Int) (pre.length : Int)) ((n + sCs suf : Nat) : Int)) := by
  refine S_ind (fun a b l t e h1 h2 => ?_) ?_ (fun x r ih1 ih2 => ?_)
  · intro hg hn
    rw [goodS_mk] at hg
    rw [sN_eq] at hn
    simp only at hn
    constructor
    · refine Tells.succ ?_
      simp only [r3_Count.f]
      have := h1 [] 0 hg.2.1.2 hg.2.1.1 (by omega)
      rw [Nat.zero_add] at this
      exact this
    · refine Tells.succ ?_
      simp only [r3_Count.f]
      have := h2 [] 0 hg.2.2.2 hg.2.2.1 (by omega)
      rw [Nat.zero_add] at this
      exact this
  · intro pre n _ _ _
    refine Tells.succ ?_
    simp only [r3_Count.l0, pre_nlt, if_false]
    rw [sCs_nil, Nat.add_zero]
    exact Tells.pure _
  · intro pre n hg hl hn
    rw [goodSs_cons] at hg
    rw [sNs_cons] at hn
    have hle := (s_le.1 x).1
    rw [sC_eq] at hle
    refine Tells.succ ?_
    simp only [r3_Count.l0, pre_lt, pre_pos, if_true, rdS_mid]
    obtain ⟨t1, t2⟩ := ih1 hg.1 (by omega)
    refine Tells.bind t1 (Tells.bind t2 ?_)
    have t3 := ih2 (pre ++ [x]) (n + (1 + sCs x.f3 + sCs x.f4)) hg.2 (by rw [← pre_app]; exact hl) (by omega)
    rw [← pre_app] at t3
    rw [pre_next pre x r hl, w64 (n := (n : Int) + 1) (by omega) (by omega), w64 (n := (n : Int) + 1 + (sCs x.f3 : Int)) (by omega) (by omega), w64 (n := (n : Int) + 1 + (sCs x.f3 : Int) + (sCs x.f4 : Int)) (by omega) (by omega),
      show (n : Int) + 1 + (sCs x.f3 : Int) + (sCs x.f4 : Int) = ((n + (1 + sCs x.f3 + sCs x.f4) : Nat) : Int) by omega]
    rw [sCs_cons, sC_eq, show n + (1 + sCs x.f3 + sCs x.f4 + sCs r) = n + (1 + sCs x.f3 + sCs x.f4) + sCs r by omega]
    exact t3
mutual
def wkS (n : Int) : S47 → List (Int × S47)
  | ⟨op, m, a, t, e⟩ => (n, ⟨op, m, a, t, e⟩) :: (wks (n + 1) t ++ wks (n + 1 + sCs t) e)
def wks (n : Int) : List S47 → List (Int × S47)
  | [] => []
  | x :: r => wkS n x ++ wks (n + sC x) r
end
theorem wkS_eq (n : Int) (x : S47) : wkS n x = (n, x) :: (wks (n + 1) x.f3 ++ wks (n + 1 + sCs x.f3) x.f4) := by cases x; simp only [wkS]
theorem wks_nil (n : Int) : wks n [] = [] := by simp only [wks]
theorem wks_cons (n : Int) (x : S47) (r : List S47) : wks n (x :: r) = wkS n x ++ wks (n + sC x) r := by simp only [wks]
theorem walk_tells : (∀ x, goodS x → ∀ n : Int, 0 ≤ n → n + sC x ≤ 1000000 → Tells (fun k => prog_walk.f k x.f3 (n + 1)) (wks (n + 1) x.f3, n + 1 + sCs x.f3) ∧ Tells (fun k => prog_walk.f k x.f4 (n + 1 + sCs x.f3)) (wks (n + 1 + sCs x.f3) x.f4, n + 1 + sCs x.f3 + sCs x.f4)) ∧
    (∀ suf, ∀ (pre : List S47), goodSs suf → (pre ++ suf).length ≤ 9223372036854775807 → ∀ n : Int, 0 ≤ n → n + sCs suf ≤ 1000000 → Tells (fun k => prog_walk.l0 k (pre ++ suf) (pre.length : Int) n) (wks n suf, n + sCs suf)) := by
  refine S_ind (fun a b l t e h1 h2 => ?_) ?_ (fun x r ih1 ih2 => ?_)
  · intro hg n h0 hn
    rw [goodS_mk] at hg
    rw [sC_eq] at hn
    simp only at hn ⊢
    constructor
    · refine Tells.succ ?_
      simp only [prog_walk.f]
      exact h1 [] hg.2.1.2 hg.2.1.1 (n + 1) (by omega) (by omega)
    · refine Tells.succ ?_
      simp only [prog_walk.f]
      exact h2 [] hg.2.2.2 hg.2.2.1 (n + 1 + sCs t) (by omega) (by omega)
  · intro pre _ _ n _ _
    refine Tells.succ ?_
    simp only [prog_walk.l0, pre_nlt, if_false]
    rw [sCs_nil, wks_nil, show n + ((0 : Nat) : Int) = n by omega]
    exact Tells.pure _
  · intro pre hg hl n h0 hn
    rw [goodSs_cons] at hg
    rw [sCs_cons] at hn
    obtain ⟨t1, t2⟩ := ih1 hg.1 n h0 (by omega)
    have t3 := ih2 (pre ++ [x]) hg.2 (by rw [← pre_app]; exact hl) (n + sC x) (by omega) (by omega)
    rw [← pre_app] at t3
    have e : (sC x : Int) = 1 + sCs x.f3 + sCs x.f4 := by rw [sC_eq]; omega
    have hb := sC_eq x
    refine Tells.succ ?_
    simp only [prog_walk.l0, pre_lt, pre_pos, if_true, rdS_mid]
    rw [pre_next pre x r hl, w64 (n := n + 1) (by omega) (by omega), show n + 1 - 1 = n by omega, w64 (n := n) (by omega) (by omega)]
    rw [show n + ((sCs (x :: r) : Nat) : Int) = n + sC x + sCs r by rw [sCs_cons]; omega, wks_cons, wkS_eq, List.cons_append, List.append_assoc]
    refine Tells.bind t1 (Tells.bind t2 ?_)
    rw [show n + 1 + (sCs x.f3 : Int) + (sCs x.f4 : Int) = n + sC x by omega]
    exact Tells.bind t3 (Tells.pure _)
theorem eNs_len : ∀ l : List S96, l.length ≤ eNs l
  | [] => Nat.zero_le _
  | x :: r => by
    have := eNs_len r
    have := eN_pos x
    rw [eNs_cons, List.length_cons]
    omega
theorem E_eta (x : S96) : (⟨x.f0, x.f1, x.f2, x.f3⟩ : S96) = x := by cases x; rfl
theorem S_eta (x : S47) : (⟨x.f0, x.f1, x.f2, x.f3, x.f4⟩ : S47) = x := by cases x; rfl
theorem sN_pos (x : S47) : 1 ≤ sN x := by rw [sN_eq]; omega
theorem sNs_len : ∀ l : List S47, l.length ≤ sNs l
  | [] => Nat.zero_le _
  | x :: r => by
    have := sNs_len r
    have := sN_pos x
    rw [sNs_cons, List.length_cons]
    omega
mutual
def prog_copiedExprs.l0 : Nat → List (S96) → List (S96) → Int → Int → Option ((List (S96)))
 | 0, _, _, _, _ => none
 | k + 1, x3, x6, x7, x8 => if x8 < x7 then (if 0 ≤ x8 then (if x8 < (x6.length : Int) then ((prog_copiedExprs.f k ((rd_T96 x6 x8).f3)).bind fun t167 => (if x3.length < 2932031007402 then (prog_copiedExprs.l0 k (x3 ++ [(⟨(rd_T96 x6 x8).f0, (rd_T96 x6 x8).f1, (rd_T96 x6 x8).f2, t167⟩ : S96)]) x6 x7 (wrap64 (x8 + 1))) else (none))) else (none)) else (none)) else (some x3)
def prog_copiedExprs.f : Nat → List (S96) → Option ((List (S96)))
 | 0, _ => none
 | k + 1, l0 => prog_copiedExprs.l0 k ([] : List (S96)) l0 (l0.length : Int) 0
end
theorem prog_copiedExprs.calls (k : Nat) : ∀ (A0 : Option Addr) (c0 : Nat) (l0 : List (S96)) (r : List (S96)) (w : World) (hr0 : Kd.C k96 w A0 l0.length l0) (hc0 : l0.length ≤ c0) (h : prog_copiedExprs.f k l0 = some r),
  Calls Try.prog 78 #[.slice A0 l0.length c0] w fun e w' => ∃ v0_ : Value, e = .returned (v0_) ∧ Kd.R k96 96 w' w.heap.size (fun _ => True) v0_ r ∧ Below w.heap.size w w' := by
 induction k using Nat.strongRecOn with
 | _ k ih =>
 intro A0 c0 l0 r w hr0 hc0 h
 cases k with
 | zero => exact absurd h (by simp [prog_copiedExprs.f])
 | succ k =>
 simp only [prog_copiedExprs.f] at h
 have hu96 := Try.underlying96
 have HR0 := Aside0.mk hr0
 have HC0 := Aside0.mk hc0
 clear hr0 hc0
 have HB := Aside0.mk (Below.refl w.heap.size w)
 have H : (prog_copiedExprs.l0 k ([] : List (S96)) l0 (l0.length : Int) 0) = some r := h
 clear h
 have H' := Aside0.mk H
 clear H
 go_enter Try.func78, Try.ntmps78
 go_wp2
 go_loopg [3, 8] k (fun kq v3 v8 w' => ∃ (x3_1 : List (S96)) (x8_1 : Int), v8 = .int .i64 x8_1 ∧ Aside0 (prog_copiedExprs.l0 kq x3_1 l0 (l0.length : Int) x8_1 = some r) ∧ Aside0 (kq ≤ k) ∧ Aside0 (Kd.R k96 96 w' w.heap.size (fun _ => True) v3 x3_1) ∧ Aside0 (Below w.heap.size w w'))
 case atStart => exact ⟨(([] : List (S96))), (0), rs, H', ⟨Nat.le_refl _⟩, ⟨by first | exact Kd.R_nil _ _ _ _ _ | exact Kd.N_nil _ _ _ _ _ | exact Kd.V_nil _ _ _ _ _ | exact Kd.Q_nil _ _ _ _ _ | exact Kd.S_nil _ _ _ _ _⟩, ⟨bb HB⟩⟩
 case round =>
  clear H'
  obtain ⟨x3_1, x8_1, rfl, HA, HK1, HO_3, HB⟩ := hrel
  cases gk with
  | zero => exact absurd HA.out (by simp [prog_copiedExprs.l0])
  | succ k1 =>
   have H := HA.out
   clear HA
   simp only [prog_copiedExprs.l0] at H
   by_cases c2 : x8_1 < (l0.length : Int)
   rotate_left
   ·rw [if_neg c2] at H
    have c2b0 : decide (x8_1 < (l0.length : Int)) = false := decide_eq_false c2
    clear c2
    obtain rfl := Option.some.inj H
    go_wp2
    go_ret
    exact ⟨_, rr, by (with_reducible repeat (first | apply Kd.R_alloc | apply Kd.R_drewN | apply Kd.R_drew)); exact HO_3.out, bb HB⟩
   rw [if_pos c2] at H
   have c2b0 : decide (x8_1 < (l0.length : Int)) = true := decide_eq_true c2
   clear c2
   by_cases c3 : 0 ≤ x8_1
   rotate_left
   ·rw [if_neg c3] at H
    exact absurd H (by simp)
   rw [if_pos c3] at H
   have c3b0 : decide (0 ≤ x8_1) = true := decide_eq_true c3
   clear c3
   by_cases c4 : x8_1 < (l0.length : Int)
   rotate_left
   ·rw [if_neg c4] at H
    exact absurd H (by simp)
   rw [if_pos c4] at H
   have c4b0 : decide (x8_1 < (l0.length : Int)) = true := decide_eq_true c4
   clear c4
   obtain ⟨t167, A5, H⟩ := be H
   by_cases c6 : x3_1.length < 2932031007402
   rotate_left
   ·rw [if_neg c6] at H
    exact absurd H (by simp)
   rw [if_pos c6] at H
   have LMc6 := Aside0.mk c6
   clear c6
   obtain ⟨y170, hy170⟩ : ∃ y_ : List (S96), y_ = (x3_1 ++ [(⟨(rd_T96 l0 x8_1).f0, (rd_T96 l0 x8_1).f1, (rd_T96 l0 x8_1).f2, t167⟩ : S96)]) := ⟨_, rfl⟩
   replace H : (prog_copiedExprs.l0 k1 y170 l0 (l0.length : Int) (wrap64 (x8_1 + 1))) = some r := by first | (rw [hy170]; with_reducible exact H) | (have H2_ := (Option.bind_some _ _).symm.trans H; rw [hy170]; with_reducible exact H2_) | (have H2_ := (Option.bind_some _ _).symm.trans H; with_reducible exact H2_) | with_reducible exact H | (rw [hy170]; exact H) | exact H
   have Ny170 := Aside0.mk hy170
   clear hy170
   have H' := Aside0.mk H
   clear H
   have p165 : 0 ≤ (x8_1 : Int) := od
   have q165 : x8_1 < (l0.length : Int) := od
   obtain ⟨ad165, A165_3, c165_3, e165, hx165_0, hx165_1, hx165_2, hx165_3, hl165_3, hi165_3⟩ := at_T96 HR0.out x8_1 p165 q165
   cases e165
   replace hx165_0 := bcell HB.out hx165_0
   replace hx165_1 := bcell HB.out hx165_1
   replace hx165_2 := bcell HB.out hx165_2
   replace hx165_3 := bcell HB.out hx165_3
   have HR165_3 := Aside0.mk hi165_3
   have HC165_3 := Aside0.mk hl165_3
   clear hi165_3 hl165_3
   replace p165 := eq_true p165
   replace q165 := eq_true q165
   go_wp2_with (first | ((with_reducible refine gate_dst (N := 5) rfl ?_); refine bx 5 rfl rfl #[.int .i64 0, .int .i64 0, .int .i64 0, .slice none 0 0] 96 ?_; intro gb166 hg w7 hbox hb; have BK166 := Aside0.mk (hbox); have GE166 := ge HB hg; replace HO_3 := Aside0.mk (Kd.R_below (Kd.R_elderB (iR HO_3) gb166 (Nat.le_of_eq hg.symm)) hb); replace HB := sb HB hb; clear hb hbox hg; obtain ⟨hcz8_0, hcz8_1, hcz8_2, hcz8_3, hfz8_0, hfz8_1, hfz8_2, hfz8_3⟩ := cf4 BK166.out) | ((with_reducible refine gate_callee (f := 78) rfl ?_); refine gL (some 14) rfl rfl Try.func78 #[.slice A165_3 ((rd_T96 l0 x8_1).f3).length c165_3] rfl ?_; (with_reducible refine (ih k1 (by have := HK1.out; omega) _ _ ((rd_T96 l0 x8_1).f3) t167 _ ?side1 ?side2 A5.out).mono ?_); (case side1 => exact Kd.C_below HR165_3.out (bb HB)); (case side2 => exact HC165_3.out); rintro e w9 ⟨v168, rfl, ho0, hb⟩; refine ⟨_, rfl, ?_⟩; have HO169 := Aside0.mk (Kd.R_lower (Kd.R_newB (Kd.R_new' ho0 (Kd.R_lt (by (with_reducible repeat (first | apply Kd.R_alloc | apply Kd.R_drewN | apply Kd.R_drew)); exact (Kd.R_mono (Kd.R_far (p := ⟨gb166, 3, none⟩) (Kd.R_far (p := ⟨gb166, 2, none⟩) (Kd.R_far (p := ⟨gb166, 1, none⟩) (Kd.R_far (p := ⟨gb166, 0, none⟩) (Kd.R_mono HO_3.out (fun k_ hk => (⟨hk, hk.2⟩ : _ ∧ k_ ≠ gb166))) (fun _ hk => hk.2) (.int .i64 ((rd_T96 l0 x8_1).f0))) (fun _ hk => hk.2) (.int .i64 ((rd_T96 l0 x8_1).f1))) (fun _ hk => hk.2) (.int .i64 ((rd_T96 l0 x8_1).f2))) (fun _ hk => hk.2) (.slice A165_3 ((rd_T96 l0 x8_1).f3).length c165_3)) (fun _ h_ => h_.1))))) (g := gb166) (o := .cells #[.int .i64 ((rd_T96 l0 x8_1).f0), .int .i64 ((rd_T96 l0 x8_1).f1), .int .i64 ((rd_T96 l0 x8_1).f2), .slice A165_3 ((rd_T96 l0 x8_1).f3).length c165_3] 96 (0, 0)) (by (with_reducible repeat (first | refine kdN ?_ _ | refine kdr ?_ | refine kal ?_ _)); refine blk_put (cs := #[.int .i64 ((rd_T96 l0 x8_1).f0), .int .i64 ((rd_T96 l0 x8_1).f1), .int .i64 ((rd_T96 l0 x8_1).f2), .slice none 0 0]) ?_ 3 _ rfl; (with_reducible repeat (first | refine kdN ?_ _ | refine kdr ?_ | refine kal ?_ _)); refine blk_put (cs := #[.int .i64 ((rd_T96 l0 x8_1).f0), .int .i64 ((rd_T96 l0 x8_1).f1), .int .i64 0, .slice none 0 0]) ?_ 2 _ rfl; (with_reducible repeat (first | refine kdN ?_ _ | refine kdr ?_ | refine kal ?_ _)); refine blk_put (cs := #[.int .i64 ((rd_T96 l0 x8_1).f0), .int .i64 0, .int .i64 0, .slice none 0 0]) ?_ 1 _ rfl; (with_reducible repeat (first | refine kdN ?_ _ | refine kdr ?_ | refine kal ?_ _)); refine blk_put (cs := #[.int .i64 0, .int .i64 0, .int .i64 0, .slice none 0 0]) ?_ 0 _ rfl; (with_reducible repeat (first | refine kdN ?_ _ | refine kdr ?_ | refine kal ?_ _)); exact BK166.out)) (bsz (bb HB))); replace HO_3 := Aside0.mk (Kd.R_elder' (by (with_reducible repeat (first | apply Kd.R_alloc | apply Kd.R_drewN | apply Kd.R_drew)); exact (Kd.R_mono (Kd.R_far (p := ⟨gb166, 3, none⟩) (Kd.R_far (p := ⟨gb166, 2, none⟩) (Kd.R_far (p := ⟨gb166, 1, none⟩) (Kd.R_far (p := ⟨gb166, 0, none⟩) (Kd.R_mono HO_3.out (fun k_ hk => (⟨hk, hk.2⟩ : _ ∧ k_ ≠ gb166))) (fun _ hk => hk.2) (.int .i64 ((rd_T96 l0 x8_1).f0))) (fun _ hk => hk.2) (.int .i64 ((rd_T96 l0 x8_1).f1))) (fun _ hk => hk.2) (.int .i64 ((rd_T96 l0 x8_1).f2))) (fun _ hk => hk.2) (.slice A165_3 ((rd_T96 l0 x8_1).f3).length c165_3)) (fun _ h_ => h_.1))) (Kd.R_base ho0) hb); replace BK166 := Aside0.mk (blk_below (g := gb166) (o := .cells #[.int .i64 ((rd_T96 l0 x8_1).f0), .int .i64 ((rd_T96 l0 x8_1).f1), .int .i64 ((rd_T96 l0 x8_1).f2), .slice A165_3 ((rd_T96 l0 x8_1).f3).length c165_3] 96 (0, 0)) (by (with_reducible repeat (first | refine kdN ?_ _ | refine kdr ?_ | refine kal ?_ _)); refine blk_put (cs := #[.int .i64 ((rd_T96 l0 x8_1).f0), .int .i64 ((rd_T96 l0 x8_1).f1), .int .i64 ((rd_T96 l0 x8_1).f2), .slice none 0 0]) ?_ 3 _ rfl; (with_reducible repeat (first | refine kdN ?_ _ | refine kdr ?_ | refine kal ?_ _)); refine blk_put (cs := #[.int .i64 ((rd_T96 l0 x8_1).f0), .int .i64 ((rd_T96 l0 x8_1).f1), .int .i64 0, .slice none 0 0]) ?_ 2 _ rfl; (with_reducible repeat (first | refine kdN ?_ _ | refine kdr ?_ | refine kal ?_ _)); refine blk_put (cs := #[.int .i64 ((rd_T96 l0 x8_1).f0), .int .i64 0, .int .i64 0, .slice none 0 0]) ?_ 1 _ rfl; (with_reducible repeat (first | refine kdN ?_ _ | refine kdr ?_ | refine kal ?_ _)); refine blk_put (cs := #[.int .i64 0, .int .i64 0, .int .i64 0, .slice none 0 0]) ?_ 0 _ rfl; (with_reducible repeat (first | refine kdN ?_ _ | refine kdr ?_ | refine kal ?_ _)); exact BK166.out) hb); replace HB := sb HB hb; (try clear hb); (try clear ho0); obtain ⟨Ao10, co10, eo10⟩ := Kd.R_slice HO169.out; subst eo10; obtain ⟨hcz11_0, hcz11_1, hcz11_2, hcz11_3, hfz11_0, hfz11_1, hfz11_2, hfz11_3⟩ := cf4 BK166.out) | ((with_reducible refine gate_store (t := 45) (p := 15) rfl ?_); refine store_event (t := 45) (p := 15) (v := ?vo_w12) (w1 := (w9.setCell ⟨gb166, 3, none⟩ (.slice Ao10 t167.length co10))) ?hg ?ho ?hn ?hr ?_; (case ho => rfl); (case hg => rfl); (case hn => rfl); (case hr => first | (go_simp; done) | (go_simp; rfl)); intro w12 hw; have n0_ : Aside0 (Kd.R k96 96 w12 w.heap.size (fun k_ => some k_ ≠ (.slice Ao10 t167.length co10 : Value).ownBlock ∧ k_ ≠ gb166) u3 x3_1) := ⟨(by rw [hw]; exact (by (with_reducible repeat (first | apply Kd.R_alloc | apply Kd.R_drewN | apply Kd.R_drew)); exact Kd.R_mono (Kd.R_far (p := ⟨gb166, 3, none⟩) (Kd.R_mono HO_3.out (fun k_ hk => (⟨hk, hk.1.2⟩ : _ ∧ k_ ≠ gb166))) (fun _ hk => hk.2) (.slice Ao10 t167.length co10)) (fun _ hk => ⟨hk.1.2, hk.1.1.2⟩)))⟩; have n1_ : Aside0 (Kd.R k96 96 w12 w.heap.size (fun k_ => some k_ ≠ (u3 : Value).ownBlock ∧ k_ ≠ gb166) (.slice Ao10 t167.length co10) t167) := ⟨(by rw [hw]; exact (by (with_reducible repeat (first | apply Kd.R_alloc | apply Kd.R_drewN | apply Kd.R_drew)); exact Kd.R_mono (Kd.R_far (p := ⟨gb166, 3, none⟩) (Kd.R_mono HO169.out (fun k_ hk => (⟨hk, hk.2⟩ : _ ∧ k_ ≠ gb166))) (fun _ hk => hk.2) (.slice Ao10 t167.length co10)) (fun _ hk => ⟨hk.1.1.2, hk.1.2⟩)))⟩; have n2_ : Aside0 (w12.heap[gb166]? = some (.cells #[.int .i64 ((rd_T96 l0 x8_1).f0), .int .i64 ((rd_T96 l0 x8_1).f1), .int .i64 ((rd_T96 l0 x8_1).f2), .slice Ao10 t167.length co10] 96 (0, 0))) := ⟨(by rw [hw]; exact (by (with_reducible repeat (first | refine kdN ?_ _ | refine kdr ?_ | refine kal ?_ _)); refine blk_put (cs := #[.int .i64 ((rd_T96 l0 x8_1).f0), .int .i64 ((rd_T96 l0 x8_1).f1), .int .i64 ((rd_T96 l0 x8_1).f2), .slice A165_3 ((rd_T96 l0 x8_1).f3).length c165_3]) ?_ 3 _ rfl; (with_reducible repeat (first | refine kdN ?_ _ | refine kdr ?_ | refine kal ?_ _)); exact BK166.out))⟩; have n3_ : Aside0 (Below w.heap.size w w12) := ⟨(by rw [hw]; exact (bb HB))⟩; clear hw; clear HO_3; clear HO169; clear BK166; clear HB; have HO_3 := n0_; have HO169 := n1_; have BK166 := n2_; have HB := n3_; clear n0_ n1_ n2_ n3_; obtain ⟨hcz13_0, hcz13_1, hcz13_2, hcz13_3, hfz13_0, hfz13_1, hfz13_2, hfz13_3⟩ := cf4 BK166.out) | ((with_reducible refine gate_builtin (b := .append) (xs := #[.tmp 16, .tmp 18]) rfl ?_); at_builtin; refine Kd.R_append k96 (w0 := w) w.heap.size rfl (.tmp 16) (.tmp 18) 45 96 (.agg #[(.int .i64 0), (.int .i64 0), (.int .i64 0), (.slice none 0 0)]) 48 rfl Try.underlying45 info96 rfl (by decide) (by omega) u3 x3_1 (⟨(rd_T96 l0 x8_1).f0, (rd_T96 l0 x8_1).f1, (rd_T96 l0 x8_1).f2, t167⟩ : S96) [.int .i64 ((rd_T96 l0 x8_1).f0), .int .i64 ((rd_T96 l0 x8_1).f1), .int .i64 ((rd_T96 l0 x8_1).f2), .slice Ao10 t167.length co10] (fun k_ => k_ ≠ gb166) (fun k_ => ((fun k_ => k_ ≠ gb166)) k_ ∧ some k_ ≠ (u3 : Value).ownBlock) rfl rfl ?aP (fun _ hk => hk) ?aF ?aO ?aB ?aS ?aL ?_; (case aP => exact k96_mkM _ _ _ (⟨(rd_T96 l0 x8_1).f0, (rd_T96 l0 x8_1).f1, (rd_T96 l0 x8_1).f2, t167⟩ : S96) (Kd.R_mono (HO169.out) (fun k_ hk => ⟨hk.2, hk.1⟩))); (case aB => exact (bb HB)); (case aF => exact (fun k_ hk => Kd.freshB (kk BK166) k_ hk)); (case aO => exact (by (with_reducible repeat (first | apply Kd.R_alloc | apply Kd.R_drewN | apply Kd.R_drew)); exact Kd.R_mono HO_3.out (fun _ hk => hk.2))); (case aS => exact (bsz (bb HB))); (case aL => have := LMc6.out; omega); intro v171 w14 ho hb hg hat; rw [← Ny170.out] at ho; have HO172 := Aside0.mk (ho); replace BK166 := Aside0.mk (blk_grown (kk BK166) hg (Kd.R_away HO_3.out (fun _ hk => hk.2))); replace HB := Aside0.mk (hb); clear HO_3 HO169; clear ho hb hg hat))
   go_roundg k1
   case measure => have := HK1.out; omega
   case rel => exact ⟨(y170), (wrap64 (x8_1 + 1)), rs, H', ⟨by have := HK1.out; omega⟩, ⟨by (with_reducible repeat (first | apply Kd.R_alloc | apply Kd.R_drewN | apply Kd.R_drew)); exact Kd.R_mono HO172.out (fun _ hk => trivial)⟩, ⟨bb HB⟩⟩
mutual
def prog_Copied.l0 : Nat → List (S47) → List (S47) → Int → Int → Int → Int → List (S96) → List (S47) → List (S47) → Option (Int × Int × (List (S96)) × (List (S47)) × (List (S47)))
 | 0, _, _, _, _, _, _, _, _, _ => none
 | k + 1, x3, x14, x15, x16, x174000, x174001, x174002, x174003, x174004 => if x16 < x15 then (if 0 ≤ x16 then (if x16 < (x14.length : Int) then ((prog_Copied.f k ((rd_T47 x14 x16).f0) ((rd_T47 x14 x16).f1) ((rd_T47 x14 x16).f2) ((rd_T47 x14 x16).f3) ((rd_T47 x14 x16).f4)).bind fun bt180 => (if x3.length < 1599289640401 then (prog_Copied.l0 k (x3 ++ [(⟨bt180.1, bt180.2.1, bt180.2.2.1, bt180.2.2.2.1, bt180.2.2.2.2⟩ : S47)]) x14 x15 (wrap64 (x16 + 1)) x174000 x174001 x174002 x174003 x174004) else (none))) else (none)) else (none)) else (prog_Copied.l1 k x3 ([] : List (S47)) x174004 (x174004.length : Int) 0 x174000 x174001 x174002 x174003 x174004)
def prog_Copied.l1 : Nat → List (S47) → List (S47) → List (S47) → Int → Int → Int → Int → List (S96) → List (S47) → List (S47) → Option (Int × Int × (List (S96)) × (List (S47)) × (List (S47)))
 | 0, _, _, _, _, _, _, _, _, _, _ => none
 | k + 1, x3, x4, x27, x28, x29, x174000, x174001, x174002, x174003, x174004 => if x29 < x28 then (if 0 ≤ x29 then (if x29 < (x27.length : Int) then ((prog_Copied.f k ((rd_T47 x27 x29).f0) ((rd_T47 x27 x29).f1) ((rd_T47 x27 x29).f2) ((rd_T47 x27 x29).f3) ((rd_T47 x27 x29).f4)).bind fun bt196 => (if x4.length < 1599289640401 then (prog_Copied.l1 k x3 (x4 ++ [(⟨bt196.1, bt196.2.1, bt196.2.2.1, bt196.2.2.2.1, bt196.2.2.2.2⟩ : S47)]) x27 x28 (wrap64 (x29 + 1)) x174000 x174001 x174002 x174003 x174004) else (none))) else (none)) else (none)) else (some (x174000, x174001, x174002, x3, x4))
def prog_Copied.f : Nat → Int → Int → List (S96) → List (S47) → List (S47) → Option (Int × Int × (List (S96)) × (List (S47)) × (List (S47)))
 | 0, _, _, _, _, _ => none
 | k + 1, a0_0, a0_1, l0_2, l0_3, l0_4 => (prog_copiedExprs.f k l0_2).bind fun t175 => (prog_Copied.l0 k ([] : List (S47)) l0_3 (l0_3.length : Int) 0 a0_0 a0_1 t175 l0_3 l0_4)
end
theorem prog_Copied.calls (k : Nat) : ∀ (a0_0 : Int) (a0_1 : Int) (A0_2 : Option Addr) (c0_2 : Nat) (l0_2 : List (S96)) (A0_3 : Option Addr) (c0_3 : Nat) (l0_3 : List (S47)) (A0_4 : Option Addr) (c0_4 : Nat) (l0_4 : List (S47)) (r1 : Int) (r2 : Int) (r3 : List (S96)) (r4 : List (S47)) (r5 : List (S47)) (w : World) (hr0_2 : Kd.C k96 w A0_2 l0_2.length l0_2) (hc0_2 : l0_2.length ≤ c0_2) (hr0_3 : Kd.C k47 w A0_3 l0_3.length l0_3) (hc0_3 : l0_3.length ≤ c0_3) (hr0_4 : Kd.C k47 w A0_4 l0_4.length l0_4) (hc0_4 : l0_4.length ≤ c0_4) (h : prog_Copied.f k a0_0 a0_1 l0_2 l0_3 l0_4 = some (r1, r2, r3, r4, r5)),
  Calls Try.prog 54 #[.agg #[.int .i64 a0_0, .int .i64 a0_1, .slice A0_2 l0_2.length c0_2, .slice A0_3 l0_3.length c0_3, .slice A0_4 l0_4.length c0_4]] w fun e w' => ∃ v2_ v3_ v4_ : Value, e = .returned (.agg #[.int .i64 r1, .int .i64 r2, v2_, v3_, v4_]) ∧ Kd.R k96 96 w' w.heap.size (fun _ => True) v2_ r3 ∧ Kd.R k47 47 w' w.heap.size (fun k_ => some k_ ≠ (v2_ : Value).ownBlock ∧ some k_ ≠ (v4_ : Value).ownBlock) v3_ r4 ∧ Kd.R k47 47 w' w.heap.size (fun k_ => some k_ ≠ (v2_ : Value).ownBlock ∧ some k_ ≠ (v3_ : Value).ownBlock) v4_ r5 ∧ Below w.heap.size w w' := by
 induction k using Nat.strongRecOn with
 | _ k ih =>
 intro a0_0 a0_1 A0_2 c0_2 l0_2 A0_3 c0_3 l0_3 A0_4 c0_4 l0_4 r1 r2 r3 r4 r5 w hr0_2 hc0_2 hr0_3 hc0_3 hr0_4 hc0_4 h
 cases k with
 | zero => exact absurd h (by simp [prog_Copied.f])
 | succ k =>
 simp only [prog_Copied.f] at h
 have hu47 := Try.underlying47
 have HR0_2 := Aside0.mk hr0_2
 have HC0_2 := Aside0.mk hc0_2
 clear hr0_2 hc0_2
 have HR0_3 := Aside0.mk hr0_3
 have HC0_3 := Aside0.mk hc0_3
 clear hr0_3 hc0_3
 have HR0_4 := Aside0.mk hr0_4
 have HC0_4 := Aside0.mk hc0_4
 clear hr0_4 hc0_4
 have HB := Aside0.mk (Below.refl w.heap.size w)
 have H : ((prog_copiedExprs.f k l0_2).bind fun t175 => (prog_Copied.l0 k ([] : List (S47)) l0_3 (l0_3.length : Int) 0 a0_0 a0_1 t175 l0_3 l0_4)) = some (r1, r2, r3, r4, r5) := h
 clear h
 obtain ⟨t175, A2, H⟩ := be H
 have H' := Aside0.mk H
 clear H
 go_enter Try.func54, Try.ntmps54
 go_wp2_with (first | ((with_reducible refine gate_dst (N := 1) rfl ?_); refine bx 1 rfl rfl #[.int .i64 a0_0, .int .i64 a0_1, .slice A0_2 l0_2.length c0_2, .slice A0_3 l0_3.length c0_3, .slice A0_4 l0_4.length c0_4] 47 ?_; intro gb173 hg w3 hbox hb; have BK173 := Aside0.mk (hbox); have GE173 := ge HB hg; replace HB := sb HB hb; clear hb hbox hg) | ((with_reducible refine gate_dst (N := 2) rfl ?_); refine bx 2 rfl rfl #[.int .i64 0, .int .i64 0, .slice none 0 0, .slice none 0 0, .slice none 0 0] 47 ?_; intro gb174 hg w4 hbox hb; have BK174 := Aside0.mk (hbox); have GE174 := ge HB hg; have NB173_174 := Aside0.mk ((by rw [hg]; exact Nat.ne_of_lt (blk_lt (kk BK173)) : gb173 ≠ gb174)); have NB174_173 := Aside0.mk ((by rw [hg]; exact Nat.ne_of_gt (blk_lt (kk BK173)) : gb174 ≠ gb173)); replace BK173 := kb BK173 hb; replace HB := sb HB hb; clear hb hbox hg; have hnb5 := NB173_174.out; have hnc5 := NB174_173.out; obtain ⟨hcz6_0, hcz6_1, hcz6_2, hcz6_3, hcz6_4, hfz6_0, hfz6_1, hfz6_2, hfz6_3, hfz6_4⟩ := cf5 BK173.out) | ((with_reducible refine gate_callee (f := 78) rfl ?_); refine gL (some 11) rfl rfl Try.func78 #[.slice A0_2 l0_2.length c0_2] rfl ?_; (with_reducible refine (prog_copiedExprs.calls k _ _ l0_2 t175 _ ?side1 ?side2 A2.out).mono ?_); (case side1 => exact cb HR0_2 HB); (case side2 => exact HC0_2.out); rintro e w7 ⟨v176, rfl, ho0, hb⟩; refine ⟨_, rfl, ?_⟩; have HO177 := Aside0.mk (Kd.R_lower ho0 (bsz (bb HB))); replace BK173 := kb BK173 hb; replace BK174 := kb BK174 hb; replace HB := sb HB hb; (try clear hb); (try clear ho0); obtain ⟨Ao8, co8, eo8⟩ := Kd.R_slice HO177.out; subst eo8; obtain ⟨hcz9_0, hcz9_1, hcz9_2, hcz9_3, hcz9_4, hfz9_0, hfz9_1, hfz9_2, hfz9_3, hfz9_4⟩ := cf5 BK173.out))
 go_loopg [3, 16] k (fun kq v3 v16 w' => ∃ (x3_1 : List (S47)) (x16_1 : Int), v16 = .int .i64 x16_1 ∧ Aside0 (prog_Copied.l0 kq x3_1 l0_3 (l0_3.length : Int) x16_1 a0_0 a0_1 t175 l0_3 l0_4 = some (r1, r2, r3, r4, r5)) ∧ Aside0 (kq ≤ k) ∧ Aside0 (Kd.R k47 47 w' w.heap.size (fun k_ => some k_ ≠ ((.slice Ao8 t175.length co8) : Value).ownBlock ∧ k_ ≠ gb173 ∧ k_ ≠ gb174) v3 x3_1) ∧ Aside0 (Kd.R k96 96 w' w.heap.size (fun _ => True) (.slice Ao8 t175.length co8) t175) ∧ Aside0 (w'.heap[gb173]? = some (.cells #[.int .i64 a0_0, .int .i64 a0_1, (.slice Ao8 t175.length co8), (.slice A0_3 l0_3.length c0_3), (.slice A0_4 l0_4.length c0_4)] 47 (0, 0))) ∧ Aside0 (w'.heap[gb174]? = some (.cells #[.int .i64 0, .int .i64 0, (.slice none 0 0), (.slice none 0 0), (.slice none 0 0)] 47 (0, 0))) ∧ Aside0 (Below w.heap.size w w'))
 case atStart => exact ⟨(([] : List (S47))), (0), rs, H', ⟨Nat.le_refl _⟩, ⟨by first | exact Kd.R_nil _ _ _ _ _ | exact Kd.N_nil _ _ _ _ _ | exact Kd.V_nil _ _ _ _ _ | exact Kd.Q_nil _ _ _ _ _ | exact Kd.S_nil _ _ _ _ _⟩, ⟨by (with_reducible repeat (first | apply Kd.R_alloc | apply Kd.R_drewN | apply Kd.R_drew)); exact Kd.R_mono (Kd.R_far (p := ⟨gb173, 2, none⟩) (Kd.R_types HO177.out BK173.out (by decide)) (fun _ hk => hk.2) (.slice Ao8 t175.length co8)) (fun _ hk => trivial)⟩, ⟨by (with_reducible repeat (first | refine kdN ?_ _ | refine kdr ?_ | refine kal ?_ _)); refine blk_put (cs := #[.int .i64 a0_0, .int .i64 a0_1, .slice A0_2 l0_2.length c0_2, .slice A0_3 l0_3.length c0_3, .slice A0_4 l0_4.length c0_4]) ?_ 2 _ rfl; (with_reducible repeat (first | refine kdN ?_ _ | refine kdr ?_ | refine kal ?_ _)); exact BK173.out⟩, ⟨kk BK174⟩, ⟨bb HB⟩⟩
 case round =>
  clear H'
  try clear p2
  try clear c5
  try clear c7
  try clear hcz6_0 hcz6_1 hcz6_2 hcz6_3 hcz6_4
  try clear hcz9_0 hcz9_1 hcz9_2 hcz9_3 hcz9_4
  try clear hfz6_0 hfz6_1 hfz6_2 hfz6_3 hfz6_4
  try clear hfz9_0 hfz9_1 hfz9_2 hfz9_3 hfz9_4
  obtain ⟨x3_1, x16_1, rfl, HA, HK1, HO_3, HO_174002, BK173, BK174, HB⟩ := hrel
  cases gk with
  | zero => exact absurd HA.out (by simp [prog_Copied.l0])
  | succ k1 =>
   have H := HA.out
   clear HA
   simp only [prog_Copied.l0] at H
   by_cases c10 : x16_1 < (l0_3.length : Int)
   ·rw [if_pos c10] at H
    have c10b0 : decide (x16_1 < (l0_3.length : Int)) = true := decide_eq_true c10
    clear c10
    by_cases c11 : 0 ≤ x16_1
    rotate_left
    ·rw [if_neg c11] at H
     exact absurd H (by simp)
    rw [if_pos c11] at H
    have c11b0 : decide (0 ≤ x16_1) = true := decide_eq_true c11
    clear c11
    by_cases c12 : x16_1 < (l0_3.length : Int)
    rotate_left
    ·rw [if_neg c12] at H
     exact absurd H (by simp)
    rw [if_pos c12] at H
    have c12b0 : decide (x16_1 < (l0_3.length : Int)) = true := decide_eq_true c12
    clear c12
    replace H := Option.bind_eq_some_iff.mp H
    obtain ⟨⟨t180, t181, t182, t185, t188⟩, A130, H⟩ := H
    replace H : (if x3_1.length < 1599289640401 then (prog_Copied.l0 k1 (x3_1 ++ [(⟨t180, t181, t182, t185, t188⟩ : S47)]) l0_3 (l0_3.length : Int) (wrap64 (x16_1 + 1)) a0_0 a0_1 t175 l0_3 l0_4) else (none)) = some (r1, r2, r3, r4, r5) := H
    have A13 := Aside0.mk A130
    clear A130
    by_cases c14 : x3_1.length < 1599289640401
    rotate_left
    ·rw [if_neg c14] at H
     exact absurd H (by simp)
    rw [if_pos c14] at H
    have LMc14 := Aside0.mk c14
    clear c14
    obtain ⟨y191, hy191⟩ : ∃ y_ : List (S47), y_ = (x3_1 ++ [(⟨t180, t181, t182, t185, t188⟩ : S47)]) := ⟨_, rfl⟩
    replace H : (prog_Copied.l0 k1 y191 l0_3 (l0_3.length : Int) (wrap64 (x16_1 + 1)) a0_0 a0_1 t175 l0_3 l0_4) = some (r1, r2, r3, r4, r5) := by first | (rw [hy191]; with_reducible exact H) | (have H2_ := (Option.bind_some _ _).symm.trans H; rw [hy191]; with_reducible exact H2_) | (have H2_ := (Option.bind_some _ _).symm.trans H; with_reducible exact H2_) | with_reducible exact H | (rw [hy191]; exact H) | exact H
    have Ny191 := Aside0.mk hy191
    clear hy191
    have H' := Aside0.mk H
    clear H
    have p178 : 0 ≤ (x16_1 : Int) := od
    have q178 : x16_1 < (l0_3.length : Int) := od
    obtain ⟨ad178, A178_2, c178_2, A178_3, c178_3, A178_4, c178_4, e178, hx178_0, hx178_1, hx178_2, hx178_3, hx178_4, hl178_2, hi178_2, hl178_3, hi178_3, hl178_4, hi178_4⟩ := at_T47 HR0_3.out x16_1 p178 q178
    cases e178
    replace hx178_0 := bcell HB.out hx178_0
    replace hx178_1 := bcell HB.out hx178_1
    replace hx178_2 := bcell HB.out hx178_2
    replace hx178_3 := bcell HB.out hx178_3
    replace hx178_4 := bcell HB.out hx178_4
    have HR178_2 := Aside0.mk hi178_2
    have HC178_2 := Aside0.mk hl178_2
    clear hi178_2 hl178_2
    have HR178_3 := Aside0.mk hi178_3
    have HC178_3 := Aside0.mk hl178_3
    clear hi178_3 hl178_3
    have HR178_4 := Aside0.mk hi178_4
    have HC178_4 := Aside0.mk hl178_4
    clear hi178_4 hl178_4
    replace p178 := eq_true p178
    replace q178 := eq_true q178
    go_wp2_with (first | ((with_reducible refine gate_dst (N := 6) rfl ?_); refine bx 6 rfl rfl #[.int .i64 0, .int .i64 0, .slice none 0 0, .slice none 0 0, .slice none 0 0] 47 ?_; intro gb179 hg w15 hbox hb; have BK179 := Aside0.mk (hbox); have GE179 := ge HB hg; have NB173_179 := Aside0.mk ((by rw [hg]; exact Nat.ne_of_lt (blk_lt (kk BK173)) : gb173 ≠ gb179)); have NB179_173 := Aside0.mk ((by rw [hg]; exact Nat.ne_of_gt (blk_lt (kk BK173)) : gb179 ≠ gb173)); have NB174_179 := Aside0.mk ((by rw [hg]; exact Nat.ne_of_lt (blk_lt (kk BK174)) : gb174 ≠ gb179)); have NB179_174 := Aside0.mk ((by rw [hg]; exact Nat.ne_of_gt (blk_lt (kk BK174)) : gb179 ≠ gb174)); replace HO_3 := Aside0.mk (Kd.R_below (Kd.R_elderB (iR HO_3) gb179 (Nat.le_of_eq hg.symm)) hb); replace HO_174002 := Aside0.mk (Kd.R_below (iR HO_174002) hb); replace BK173 := kb BK173 hb; replace BK174 := kb BK174 hb; replace HB := sb HB hb; clear hb hbox hg; have hnb16 := NB179_173.out; have hnc16 := NB173_179.out; have hnb17 := NB179_174.out; have hnc17 := NB174_179.out; obtain ⟨hcz18_0, hcz18_1, hcz18_2, hcz18_3, hcz18_4, hfz18_0, hfz18_1, hfz18_2, hfz18_3, hfz18_4⟩ := cf5 BK179.out) | ((with_reducible refine gate_callee (f := 54) rfl ?_); refine gL (some 22) rfl rfl Try.func54 #[.agg #[.int .i64 ((rd_T47 l0_3 x16_1).f0), .int .i64 ((rd_T47 l0_3 x16_1).f1), .slice A178_2 ((rd_T47 l0_3 x16_1).f2).length c178_2, .slice A178_3 ((rd_T47 l0_3 x16_1).f3).length c178_3, .slice A178_4 ((rd_T47 l0_3 x16_1).f4).length c178_4]] rfl ?_; (with_reducible refine (ih k1 (by have := HK1.out; omega) ((rd_T47 l0_3 x16_1).f0) ((rd_T47 l0_3 x16_1).f1) _ _ ((rd_T47 l0_3 x16_1).f2) _ _ ((rd_T47 l0_3 x16_1).f3) _ _ ((rd_T47 l0_3 x16_1).f4) t180 t181 t182 t185 t188 _ ?side1 ?side2 ?side3 ?side4 ?side5 ?side6 A13.out).mono ?_); (case side1 => exact Kd.C_below HR178_2.out (bb HB)); (case side2 => exact HC178_2.out); (case side3 => exact Kd.C_below HR178_3.out (bb HB)); (case side4 => exact HC178_3.out); (case side5 => exact Kd.C_below HR178_4.out (bb HB)); (case side6 => exact HC178_4.out); rintro e w19 ⟨v183, v186, v189, rfl, ho0, ho1, ho2, hb⟩; refine ⟨_, rfl, ?_⟩; have HO184 := Aside0.mk (Kd.R_lower (Kd.R_new' ho0 (Kd.R_lt (by (with_reducible repeat (first | apply Kd.R_alloc | apply Kd.R_drewN | apply Kd.R_drew)); exact (Kd.R_mono (Kd.R_far (p := ⟨gb179, 4, none⟩) (Kd.R_far (p := ⟨gb179, 3, none⟩) (Kd.R_far (p := ⟨gb179, 2, none⟩) (Kd.R_far (p := ⟨gb179, 1, none⟩) (Kd.R_far (p := ⟨gb179, 0, none⟩) (Kd.R_types HO_174002.out BK179.out (by decide)) (fun _ hk => hk.2) (.int .i64 ((rd_T47 l0_3 x16_1).f0))) (fun _ hk => hk.2) (.int .i64 ((rd_T47 l0_3 x16_1).f1))) (fun _ hk => hk.2) (.slice A178_2 ((rd_T47 l0_3 x16_1).f2).length c178_2)) (fun _ hk => hk.2) (.slice A178_3 ((rd_T47 l0_3 x16_1).f3).length c178_3)) (fun _ hk => hk.2) (.slice A178_4 ((rd_T47 l0_3 x16_1).f4).length c178_4)) (fun _ h_ => h_.1))))) (bsz (bb HB))); have HO187 := Aside0.mk (Kd.R_lower (Kd.R_newB (Kd.R_newB (Kd.R_newB (Kd.R_new' (Kd.R_new' ho1 (Kd.R_lt (by (with_reducible repeat (first | apply Kd.R_alloc | apply Kd.R_drewN | apply Kd.R_drew)); exact (Kd.R_mono (Kd.R_far (p := ⟨gb179, 4, none⟩) (Kd.R_far (p := ⟨gb179, 3, none⟩) (Kd.R_far (p := ⟨gb179, 2, none⟩) (Kd.R_far (p := ⟨gb179, 1, none⟩) (Kd.R_far (p := ⟨gb179, 0, none⟩) (Kd.R_mono HO_3.out (fun k_ hk => (⟨hk, hk.2⟩ : _ ∧ k_ ≠ gb179))) (fun _ hk => hk.2) (.int .i64 ((rd_T47 l0_3 x16_1).f0))) (fun _ hk => hk.2) (.int .i64 ((rd_T47 l0_3 x16_1).f1))) (fun _ hk => hk.2) (.slice A178_2 ((rd_T47 l0_3 x16_1).f2).length c178_2)) (fun _ hk => hk.2) (.slice A178_3 ((rd_T47 l0_3 x16_1).f3).length c178_3)) (fun _ hk => hk.2) (.slice A178_4 ((rd_T47 l0_3 x16_1).f4).length c178_4)) (fun _ h_ => h_.1))))) (Kd.R_lt (by (with_reducible repeat (first | apply Kd.R_alloc | apply Kd.R_drewN | apply Kd.R_drew)); exact (Kd.R_mono (Kd.R_far (p := ⟨gb179, 4, none⟩) (Kd.R_far (p := ⟨gb179, 3, none⟩) (Kd.R_far (p := ⟨gb179, 2, none⟩) (Kd.R_far (p := ⟨gb179, 1, none⟩) (Kd.R_far (p := ⟨gb179, 0, none⟩) (Kd.R_types HO_174002.out BK179.out (by decide)) (fun _ hk => hk.2) (.int .i64 ((rd_T47 l0_3 x16_1).f0))) (fun _ hk => hk.2) (.int .i64 ((rd_T47 l0_3 x16_1).f1))) (fun _ hk => hk.2) (.slice A178_2 ((rd_T47 l0_3 x16_1).f2).length c178_2)) (fun _ hk => hk.2) (.slice A178_3 ((rd_T47 l0_3 x16_1).f3).length c178_3)) (fun _ hk => hk.2) (.slice A178_4 ((rd_T47 l0_3 x16_1).f4).length c178_4)) (fun _ h_ => h_.1))))) (kk BK173)) (kk BK174)) (g := gb179) (o := .cells #[.int .i64 ((rd_T47 l0_3 x16_1).f0), .int .i64 ((rd_T47 l0_3 x16_1).f1), .slice A178_2 ((rd_T47 l0_3 x16_1).f2).length c178_2, .slice A178_3 ((rd_T47 l0_3 x16_1).f3).length c178_3, .slice A178_4 ((rd_T47 l0_3 x16_1).f4).length c178_4] 47 (0, 0)) (by (with_reducible repeat (first | refine kdN ?_ _ | refine kdr ?_ | refine kal ?_ _)); refine blk_put (cs := #[.int .i64 ((rd_T47 l0_3 x16_1).f0), .int .i64 ((rd_T47 l0_3 x16_1).f1), .slice A178_2 ((rd_T47 l0_3 x16_1).f2).length c178_2, .slice A178_3 ((rd_T47 l0_3 x16_1).f3).length c178_3, .slice none 0 0]) ?_ 4 _ rfl; (with_reducible repeat (first | refine kdN ?_ _ | refine kdr ?_ | refine kal ?_ _)); refine blk_put (cs := #[.int .i64 ((rd_T47 l0_3 x16_1).f0), .int .i64 ((rd_T47 l0_3 x16_1).f1), .slice A178_2 ((rd_T47 l0_3 x16_1).f2).length c178_2, .slice none 0 0, .slice none 0 0]) ?_ 3 _ rfl; (with_reducible repeat (first | refine kdN ?_ _ | refine kdr ?_ | refine kal ?_ _)); refine blk_put (cs := #[.int .i64 ((rd_T47 l0_3 x16_1).f0), .int .i64 ((rd_T47 l0_3 x16_1).f1), .slice none 0 0, .slice none 0 0, .slice none 0 0]) ?_ 2 _ rfl; (with_reducible repeat (first | refine kdN ?_ _ | refine kdr ?_ | refine kal ?_ _)); refine blk_put (cs := #[.int .i64 ((rd_T47 l0_3 x16_1).f0), .int .i64 0, .slice none 0 0, .slice none 0 0, .slice none 0 0]) ?_ 1 _ rfl; (with_reducible repeat (first | refine kdN ?_ _ | refine kdr ?_ | refine kal ?_ _)); refine blk_put (cs := #[.int .i64 0, .int .i64 0, .slice none 0 0, .slice none 0 0, .slice none 0 0]) ?_ 0 _ rfl; (with_reducible repeat (first | refine kdN ?_ _ | refine kdr ?_ | refine kal ?_ _)); exact BK179.out)) (bsz (bb HB))); have HO190 := Aside0.mk (Kd.R_lower (Kd.R_newB (Kd.R_newB (Kd.R_newB (Kd.R_new' (Kd.R_new' ho2 (Kd.R_lt (by (with_reducible repeat (first | apply Kd.R_alloc | apply Kd.R_drewN | apply Kd.R_drew)); exact (Kd.R_mono (Kd.R_far (p := ⟨gb179, 4, none⟩) (Kd.R_far (p := ⟨gb179, 3, none⟩) (Kd.R_far (p := ⟨gb179, 2, none⟩) (Kd.R_far (p := ⟨gb179, 1, none⟩) (Kd.R_far (p := ⟨gb179, 0, none⟩) (Kd.R_mono HO_3.out (fun k_ hk => (⟨hk, hk.2⟩ : _ ∧ k_ ≠ gb179))) (fun _ hk => hk.2) (.int .i64 ((rd_T47 l0_3 x16_1).f0))) (fun _ hk => hk.2) (.int .i64 ((rd_T47 l0_3 x16_1).f1))) (fun _ hk => hk.2) (.slice A178_2 ((rd_T47 l0_3 x16_1).f2).length c178_2)) (fun _ hk => hk.2) (.slice A178_3 ((rd_T47 l0_3 x16_1).f3).length c178_3)) (fun _ hk => hk.2) (.slice A178_4 ((rd_T47 l0_3 x16_1).f4).length c178_4)) (fun _ h_ => h_.1))))) (Kd.R_lt (by (with_reducible repeat (first | apply Kd.R_alloc | apply Kd.R_drewN | apply Kd.R_drew)); exact (Kd.R_mono (Kd.R_far (p := ⟨gb179, 4, none⟩) (Kd.R_far (p := ⟨gb179, 3, none⟩) (Kd.R_far (p := ⟨gb179, 2, none⟩) (Kd.R_far (p := ⟨gb179, 1, none⟩) (Kd.R_far (p := ⟨gb179, 0, none⟩) (Kd.R_types HO_174002.out BK179.out (by decide)) (fun _ hk => hk.2) (.int .i64 ((rd_T47 l0_3 x16_1).f0))) (fun _ hk => hk.2) (.int .i64 ((rd_T47 l0_3 x16_1).f1))) (fun _ hk => hk.2) (.slice A178_2 ((rd_T47 l0_3 x16_1).f2).length c178_2)) (fun _ hk => hk.2) (.slice A178_3 ((rd_T47 l0_3 x16_1).f3).length c178_3)) (fun _ hk => hk.2) (.slice A178_4 ((rd_T47 l0_3 x16_1).f4).length c178_4)) (fun _ h_ => h_.1))))) (kk BK173)) (kk BK174)) (g := gb179) (o := .cells #[.int .i64 ((rd_T47 l0_3 x16_1).f0), .int .i64 ((rd_T47 l0_3 x16_1).f1), .slice A178_2 ((rd_T47 l0_3 x16_1).f2).length c178_2, .slice A178_3 ((rd_T47 l0_3 x16_1).f3).length c178_3, .slice A178_4 ((rd_T47 l0_3 x16_1).f4).length c178_4] 47 (0, 0)) (by (with_reducible repeat (first | refine kdN ?_ _ | refine kdr ?_ | refine kal ?_ _)); refine blk_put (cs := #[.int .i64 ((rd_T47 l0_3 x16_1).f0), .int .i64 ((rd_T47 l0_3 x16_1).f1), .slice A178_2 ((rd_T47 l0_3 x16_1).f2).length c178_2, .slice A178_3 ((rd_T47 l0_3 x16_1).f3).length c178_3, .slice none 0 0]) ?_ 4 _ rfl; (with_reducible repeat (first | refine kdN ?_ _ | refine kdr ?_ | refine kal ?_ _)); refine blk_put (cs := #[.int .i64 ((rd_T47 l0_3 x16_1).f0), .int .i64 ((rd_T47 l0_3 x16_1).f1), .slice A178_2 ((rd_T47 l0_3 x16_1).f2).length c178_2, .slice none 0 0, .slice none 0 0]) ?_ 3 _ rfl; (with_reducible repeat (first | refine kdN ?_ _ | refine kdr ?_ | refine kal ?_ _)); refine blk_put (cs := #[.int .i64 ((rd_T47 l0_3 x16_1).f0), .int .i64 ((rd_T47 l0_3 x16_1).f1), .slice none 0 0, .slice none 0 0, .slice none 0 0]) ?_ 2 _ rfl; (with_reducible repeat (first | refine kdN ?_ _ | refine kdr ?_ | refine kal ?_ _)); refine blk_put (cs := #[.int .i64 ((rd_T47 l0_3 x16_1).f0), .int .i64 0, .slice none 0 0, .slice none 0 0, .slice none 0 0]) ?_ 1 _ rfl; (with_reducible repeat (first | refine kdN ?_ _ | refine kdr ?_ | refine kal ?_ _)); refine blk_put (cs := #[.int .i64 0, .int .i64 0, .slice none 0 0, .slice none 0 0, .slice none 0 0]) ?_ 0 _ rfl; (with_reducible repeat (first | refine kdN ?_ _ | refine kdr ?_ | refine kal ?_ _)); exact BK179.out)) (bsz (bb HB))); replace HO_3 := Aside0.mk (Kd.R_mono (Kd.R_told (Kd.R_told (Kd.R_told (Kd.R_old (by (with_reducible repeat (first | apply Kd.R_alloc | apply Kd.R_drewN | apply Kd.R_drew)); exact (Kd.R_mono (Kd.R_far (p := ⟨gb179, 4, none⟩) (Kd.R_far (p := ⟨gb179, 3, none⟩) (Kd.R_far (p := ⟨gb179, 2, none⟩) (Kd.R_far (p := ⟨gb179, 1, none⟩) (Kd.R_far (p := ⟨gb179, 0, none⟩) (Kd.R_mono HO_3.out (fun k_ hk => (⟨hk, hk.2⟩ : _ ∧ k_ ≠ gb179))) (fun _ hk => hk.2) (.int .i64 ((rd_T47 l0_3 x16_1).f0))) (fun _ hk => hk.2) (.int .i64 ((rd_T47 l0_3 x16_1).f1))) (fun _ hk => hk.2) (.slice A178_2 ((rd_T47 l0_3 x16_1).f2).length c178_2)) (fun _ hk => hk.2) (.slice A178_3 ((rd_T47 l0_3 x16_1).f3).length c178_3)) (fun _ hk => hk.2) (.slice A178_4 ((rd_T47 l0_3 x16_1).f4).length c178_4)) (fun _ h_ => h_.1))) hb) (Kd.R_base ho0)) (Kd.R_base ho1)) (Kd.R_base ho2)) (fun _ h_ => h_.1)); replace HO_174002 := Aside0.mk (Kd.R_elder' (by (with_reducible repeat (first | apply Kd.R_alloc | apply Kd.R_drewN | apply Kd.R_drew)); exact (Kd.R_mono (Kd.R_far (p := ⟨gb179, 4, none⟩) (Kd.R_far (p := ⟨gb179, 3, none⟩) (Kd.R_far (p := ⟨gb179, 2, none⟩) (Kd.R_far (p := ⟨gb179, 1, none⟩) (Kd.R_far (p := ⟨gb179, 0, none⟩) (Kd.R_types HO_174002.out BK179.out (by decide)) (fun _ hk => hk.2) (.int .i64 ((rd_T47 l0_3 x16_1).f0))) (fun _ hk => hk.2) (.int .i64 ((rd_T47 l0_3 x16_1).f1))) (fun _ hk => hk.2) (.slice A178_2 ((rd_T47 l0_3 x16_1).f2).length c178_2)) (fun _ hk => hk.2) (.slice A178_3 ((rd_T47 l0_3 x16_1).f3).length c178_3)) (fun _ hk => hk.2) (.slice A178_4 ((rd_T47 l0_3 x16_1).f4).length c178_4)) (fun _ h_ => h_.1))) (Kd.R_base ho0) hb); replace BK173 := kb BK173 hb; replace BK174 := kb BK174 hb; replace BK179 := Aside0.mk (blk_below (g := gb179) (o := .cells #[.int .i64 ((rd_T47 l0_3 x16_1).f0), .int .i64 ((rd_T47 l0_3 x16_1).f1), .slice A178_2 ((rd_T47 l0_3 x16_1).f2).length c178_2, .slice A178_3 ((rd_T47 l0_3 x16_1).f3).length c178_3, .slice A178_4 ((rd_T47 l0_3 x16_1).f4).length c178_4] 47 (0, 0)) (by (with_reducible repeat (first | refine kdN ?_ _ | refine kdr ?_ | refine kal ?_ _)); refine blk_put (cs := #[.int .i64 ((rd_T47 l0_3 x16_1).f0), .int .i64 ((rd_T47 l0_3 x16_1).f1), .slice A178_2 ((rd_T47 l0_3 x16_1).f2).length c178_2, .slice A178_3 ((rd_T47 l0_3 x16_1).f3).length c178_3, .slice none 0 0]) ?_ 4 _ rfl; (with_reducible repeat (first | refine kdN ?_ _ | refine kdr ?_ | refine kal ?_ _)); refine blk_put (cs := #[.int .i64 ((rd_T47 l0_3 x16_1).f0), .int .i64 ((rd_T47 l0_3 x16_1).f1), .slice A178_2 ((rd_T47 l0_3 x16_1).f2).length c178_2, .slice none 0 0, .slice none 0 0]) ?_ 3 _ rfl; (with_reducible repeat (first | refine kdN ?_ _ | refine kdr ?_ | refine kal ?_ _)); refine blk_put (cs := #[.int .i64 ((rd_T47 l0_3 x16_1).f0), .int .i64 ((rd_T47 l0_3 x16_1).f1), .slice none 0 0, .slice none 0 0, .slice none 0 0]) ?_ 2 _ rfl; (with_reducible repeat (first | refine kdN ?_ _ | refine kdr ?_ | refine kal ?_ _)); refine blk_put (cs := #[.int .i64 ((rd_T47 l0_3 x16_1).f0), .int .i64 0, .slice none 0 0, .slice none 0 0, .slice none 0 0]) ?_ 1 _ rfl; (with_reducible repeat (first | refine kdN ?_ _ | refine kdr ?_ | refine kal ?_ _)); refine blk_put (cs := #[.int .i64 0, .int .i64 0, .slice none 0 0, .slice none 0 0, .slice none 0 0]) ?_ 0 _ rfl; (with_reducible repeat (first | refine kdN ?_ _ | refine kdr ?_ | refine kal ?_ _)); exact BK179.out) hb); replace HB := sb HB hb; (try clear hb); (try clear ho0); (try clear ho1); (try clear ho2); obtain ⟨Ao21, co21, eo21⟩ := Kd.R_slice HO184.out; subst eo21; obtain ⟨Ao22, co22, eo22⟩ := Kd.R_slice HO187.out; subst eo22; obtain ⟨Ao23, co23, eo23⟩ := Kd.R_slice HO190.out; subst eo23) | ((with_reducible refine gate_builtin (b := .append) (xs := #[.tmp 20, .tmp 23]) rfl ?_); at_builtin; refine Kd.R_append k47 (w0 := w) w.heap.size rfl (.tmp 20) (.tmp 23) 23 47 (.agg #[(.int .i64 0), (.int .i64 0), (.slice none 0 0), (.slice none 0 0), (.slice none 0 0)]) 88 rfl Try.underlying23 info47 rfl (by decide) (by omega) u3 x3_1 (⟨t180, t181, t182, t185, t188⟩ : S47) [.int .i64 t180, .int .i64 t181, .slice Ao21 t182.length co21, .slice Ao22 t185.length co22, .slice Ao23 t188.length co23] (fun k_ => some k_ ≠ (.slice Ao8 t175.length co8 : Value).ownBlock ∧ k_ ≠ gb173 ∧ k_ ≠ gb174 ∧ k_ ≠ gb179) (fun k_ => ((fun k_ => some k_ ≠ (.slice Ao8 t175.length co8 : Value).ownBlock ∧ k_ ≠ gb173 ∧ k_ ≠ gb174 ∧ k_ ≠ gb179)) k_ ∧ some k_ ≠ (u3 : Value).ownBlock) rfl rfl ?aP (fun _ hk => hk) ?aF ?aO ?aB ?aS ?aL ?_; (case aP => exact k47_mkM _ _ _ (⟨t180, t181, t182, t185, t188⟩ : S47) (Kd.R_mono (Kd.R_types (Kd.R_types (Kd.R_types (Kd.R_apart' (HO184.out) (Kd.R_typed HO_3.out) (by decide)) BK173.out (by decide)) BK174.out (by decide)) BK179.out (by decide)) (fun k_ hk => ⟨⟨hk.1.1.1.1.2, ⟨hk.1.1.2, ⟨hk.1.2, hk.2⟩⟩⟩, hk.1.1.1.2⟩)) (Kd.R_mono (HO187.out) (fun k_ hk => ⟨⟨hk.1.1.1.2, ⟨hk.1.1.2, ⟨hk.1.2, hk.2⟩⟩⟩, hk.1.1.1.1.2⟩)) (Kd.R_mono (HO190.out) (fun k_ hk => ⟨⟨hk.1.1.1.2, ⟨hk.1.1.2, ⟨hk.1.2, hk.2⟩⟩⟩, hk.1.1.1.1.2⟩))); (case aB => exact (bb HB)); (case aF => exact (fun k_ hk => ⟨Kd.fresh' (Kd.R_lt (iR HO_174002)) k_ hk, Kd.freshB (kk BK173) k_ hk, Kd.freshB (kk BK174) k_ hk, Kd.freshB (kk BK179) k_ hk⟩)); (case aO => exact (by (with_reducible repeat (first | apply Kd.R_alloc | apply Kd.R_drewN | apply Kd.R_drew)); exact Kd.R_mono HO_3.out (fun _ hk => ⟨hk.1.1.1.1.1, ⟨hk.1.1.1.1.2.1, ⟨hk.1.1.1.1.2.2, hk.1.1.1.2⟩⟩⟩))); (case aS => exact (bsz (bb HB))); (case aL => have := LMc14.out; omega); intro v192 w20 ho hb hg hat; rw [← Ny191.out] at ho; have HO193 := Aside0.mk (ho); replace HO_174002 := Aside0.mk (Kd.R_over' (iR HO_174002) (Kd.R_typed (iR HO_3)) (by decide) hg); replace BK173 := Aside0.mk (blk_grown (kk BK173) hg (Kd.R_away HO_3.out (fun _ hk => hk.1.1.1.1.2.1))); replace BK174 := Aside0.mk (blk_grown (kk BK174) hg (Kd.R_away HO_3.out (fun _ hk => hk.1.1.1.1.2.2))); replace BK179 := Aside0.mk (blk_grown (kk BK179) hg (Kd.R_away HO_3.out (fun _ hk => hk.1.1.1.2))); replace HB := Aside0.mk (hb); clear HO_3 HO184 HO187 HO190; clear ho hb hg hat))
    go_roundg k1
    case measure => have := HK1.out; omega
    case rel => exact ⟨(y191), (wrap64 (x16_1 + 1)), rs, H', ⟨by have := HK1.out; omega⟩, ⟨by (with_reducible repeat (first | apply Kd.R_alloc | apply Kd.R_drewN | apply Kd.R_drew)); exact Kd.R_mono HO193.out (fun _ hk => ⟨hk.1, ⟨hk.2.1, hk.2.2.1⟩⟩)⟩, ⟨by (with_reducible repeat (first | apply Kd.R_alloc | apply Kd.R_drewN | apply Kd.R_drew)); exact Kd.R_mono HO_174002.out (fun _ hk => trivial)⟩, ⟨kk BK173⟩, ⟨kk BK174⟩, ⟨bb HB⟩⟩
   rw [if_neg c10] at H
   have c10b0 : decide (x16_1 < (l0_3.length : Int)) = false := decide_eq_false c10
   clear c10
   have H' := Aside0.mk H
   clear H
   have hnb24 := NB173_174.out
   have hnc24 := NB174_173.out
   obtain ⟨hcz25_0, hcz25_1, hcz25_2, hcz25_3, hcz25_4, hfz25_0, hfz25_1, hfz25_2, hfz25_3, hfz25_4⟩ := cf5 BK173.out
   go_wp2
   go_loopg [4, 29] k1 (fun kq v4 v29 w' => ∃ (x4_2 : List (S47)) (x29_2 : Int), v29 = .int .i64 x29_2 ∧ Aside0 (prog_Copied.l1 kq x3_1 x4_2 l0_4 (l0_4.length : Int) x29_2 a0_0 a0_1 t175 l0_3 l0_4 = some (r1, r2, r3, r4, r5)) ∧ Aside0 (kq ≤ k1) ∧ Aside0 (Kd.R k47 47 w' w.heap.size (fun k_ => some k_ ≠ (v4 : Value).ownBlock ∧ some k_ ≠ ((.slice Ao8 t175.length co8) : Value).ownBlock ∧ k_ ≠ gb173 ∧ k_ ≠ gb174) u3 x3_1) ∧ Aside0 (Kd.R k47 47 w' w.heap.size (fun k_ => some k_ ≠ (u3 : Value).ownBlock ∧ some k_ ≠ ((.slice Ao8 t175.length co8) : Value).ownBlock ∧ k_ ≠ gb173 ∧ k_ ≠ gb174) v4 x4_2) ∧ Aside0 (Kd.R k96 96 w' w.heap.size (fun _ => True) (.slice Ao8 t175.length co8) t175) ∧ Aside0 (w'.heap[gb173]? = some (.cells #[.int .i64 a0_0, .int .i64 a0_1, (.slice Ao8 t175.length co8), (.slice A0_3 l0_3.length c0_3), (.slice A0_4 l0_4.length c0_4)] 47 (0, 0))) ∧ Aside0 (w'.heap[gb174]? = some (.cells #[.int .i64 0, .int .i64 0, (.slice none 0 0), (.slice none 0 0), (.slice none 0 0)] 47 (0, 0))) ∧ Aside0 (Below w.heap.size w w'))
   case atStart => exact ⟨(([] : List (S47))), (0), rs, H', ⟨Nat.le_refl _⟩, ⟨by (with_reducible repeat (first | apply Kd.R_alloc | apply Kd.R_drewN | apply Kd.R_drew)); exact Kd.R_mono HO_3.out (fun _ hk => ⟨(by simp [Value.ownBlock]), ⟨hk.1, ⟨hk.2.1, hk.2.2⟩⟩⟩)⟩, ⟨by first | exact Kd.R_nil _ _ _ _ _ | exact Kd.N_nil _ _ _ _ _ | exact Kd.V_nil _ _ _ _ _ | exact Kd.Q_nil _ _ _ _ _ | exact Kd.S_nil _ _ _ _ _⟩, ⟨by (with_reducible repeat (first | apply Kd.R_alloc | apply Kd.R_drewN | apply Kd.R_drew)); exact HO_174002.out⟩, ⟨kk BK173⟩, ⟨kk BK174⟩, ⟨bb HB⟩⟩
   case round =>
    clear H'
    try clear c1
    try clear p1
    try clear q1
    try clear hx1
    try clear c2
    try clear p2
    try clear c5
    try clear p6
    try clear c7
    try clear c10
    try clear c10b0
    try clear c11
    try clear c11b0
    try clear c12
    try clear c12b0
    try clear c14
    try clear c16
    try clear c17
    try clear p17
    try clear q17
    try clear hx17
    try clear c24
    try clear hcz18_0 hcz18_1 hcz18_2 hcz18_3 hcz18_4
    try clear hcz25_0 hcz25_1 hcz25_2 hcz25_3 hcz25_4
    try clear hcz6_0 hcz6_1 hcz6_2 hcz6_3 hcz6_4
    try clear hcz9_0 hcz9_1 hcz9_2 hcz9_3 hcz9_4
    try clear hfz18_0 hfz18_1 hfz18_2 hfz18_3 hfz18_4
    try clear hfz25_0 hfz25_1 hfz25_2 hfz25_3 hfz25_4
    try clear hfz6_0 hfz6_1 hfz6_2 hfz6_3 hfz6_4
    try clear hfz9_0 hfz9_1 hfz9_2 hfz9_3 hfz9_4
    try clear hx178_0
    try clear hx178_1
    try clear hx178_2
    try clear hx178_3
    try clear hx178_4
    try clear p178
    try clear p2
    try clear q178
    obtain ⟨x4_2, x29_2, rfl, HA, HK2, HO_3, HO_4, HO_174002, BK173, BK174, HB⟩ := hrel
    cases gk with
    | zero => exact absurd HA.out (by simp [prog_Copied.l1])
    | succ k2 =>
     have H := HA.out
     clear HA
     simp only [prog_Copied.l1] at H
     by_cases c26 : x29_2 < (l0_4.length : Int)
     rotate_left
     ·rw [if_neg c26] at H
      have c26b0 : decide (x29_2 < (l0_4.length : Int)) = false := decide_eq_false c26
      clear c26
      simp only [Option.some.injEq, Prod.mk.injEq] at H
      obtain ⟨rfl, rfl, rfl, rfl, rfl⟩ := H
      obtain ⟨Ao40, co40, eo40⟩ := Kd.R_slice HO_3.out
      subst eo40
      have hnb41 := NB173_174.out
      have hnc41 := NB174_173.out
      obtain ⟨hcz42_0, hcz42_1, hcz42_2, hcz42_3, hcz42_4, hfz42_0, hfz42_1, hfz42_2, hfz42_3, hfz42_4⟩ := cf5 BK173.out
      obtain ⟨Ao43, co43, eo43⟩ := Kd.R_slice HO_4.out
      subst eo43
      obtain ⟨hcz44_0, hcz44_1, hcz44_2, hcz44_3, hcz44_4, hfz44_0, hfz44_1, hfz44_2, hfz44_3, hfz44_4⟩ := cf5 BK174.out
      go_wp2
      refine bodyPost_ret (results_cell_row rfl _ _ gb174 47 #[.int .i64 a0_0, .int .i64 a0_1, .slice Ao8 t175.length co8, .slice Ao40 x3_1.length co40, .slice Ao43 x4_2.length co43] (0, 0) _ rfl (by (with_reducible repeat (first | refine kdN ?_ _ | refine kdr ?_ | refine kal ?_ _)); refine blk_put (cs := #[.int .i64 a0_0, .int .i64 a0_1, .slice Ao8 t175.length co8, .slice Ao40 x3_1.length co40, .slice none 0 0]) ?_ 4 _ rfl; (with_reducible repeat (first | refine kdN ?_ _ | refine kdr ?_ | refine kal ?_ _)); refine blk_put (cs := #[.int .i64 a0_0, .int .i64 a0_1, .slice Ao8 t175.length co8, .slice none 0 0, .slice none 0 0]) ?_ 3 _ rfl; (with_reducible repeat (first | refine kdN ?_ _ | refine kdr ?_ | refine kal ?_ _)); refine blk_put (cs := #[.int .i64 a0_0, .int .i64 a0_1, .slice none 0 0, .slice none 0 0, .slice none 0 0]) ?_ 2 _ rfl; (with_reducible repeat (first | refine kdN ?_ _ | refine kdr ?_ | refine kal ?_ _)); refine blk_put (cs := #[.int .i64 a0_0, .int .i64 0, .slice none 0 0, .slice none 0 0, .slice none 0 0]) ?_ 1 _ rfl; (with_reducible repeat (first | refine kdN ?_ _ | refine kdr ?_ | refine kal ?_ _)); refine blk_put (cs := #[.int .i64 0, .int .i64 0, .slice none 0 0, .slice none 0 0, .slice none 0 0]) ?_ 0 _ rfl; (with_reducible repeat (first | refine kdN ?_ _ | refine kdr ?_ | refine kal ?_ _)); refine blk_far ?_ NB174_173.out _; (with_reducible repeat (first | refine kdN ?_ _ | refine kdr ?_ | refine kal ?_ _)); refine blk_far ?_ NB174_173.out _; (with_reducible repeat (first | refine kdN ?_ _ | refine kdr ?_ | refine kal ?_ _)); exact BK174.out) Try.underlying47 rfl (by kernel_rfl)) rfl ?_
      exact ⟨_, _, _, rr, by (with_reducible repeat (first | apply Kd.R_alloc | apply Kd.R_drewN | apply Kd.R_drew)); exact Kd.R_mono (Kd.R_far (p := ⟨gb174, 4, none⟩) (Kd.R_far (p := ⟨gb174, 3, none⟩) (Kd.R_far (p := ⟨gb174, 2, none⟩) (Kd.R_far (p := ⟨gb174, 1, none⟩) (Kd.R_far (p := ⟨gb174, 0, none⟩) (Kd.R_far (p := ⟨gb173, 4, none⟩) (Kd.R_far (p := ⟨gb173, 3, none⟩) (Kd.R_types (Kd.R_types HO_174002.out BK173.out (by decide)) BK174.out (by decide)) (fun _ hk => hk.1.2) (.slice Ao40 x3_1.length co40)) (fun _ hk => hk.1.2) (.slice Ao43 x4_2.length co43)) (fun _ hk => hk.2) (.int .i64 a0_0)) (fun _ hk => hk.2) (.int .i64 a0_1)) (fun _ hk => hk.2) (.slice Ao8 t175.length co8)) (fun _ hk => hk.2) (.slice Ao40 x3_1.length co40)) (fun _ hk => hk.2) (.slice Ao43 x4_2.length co43)) (fun _ hk => trivial), by (with_reducible repeat (first | apply Kd.R_alloc | apply Kd.R_drewN | apply Kd.R_drew)); exact Kd.R_mono (Kd.R_far (p := ⟨gb174, 4, none⟩) (Kd.R_far (p := ⟨gb174, 3, none⟩) (Kd.R_far (p := ⟨gb174, 2, none⟩) (Kd.R_far (p := ⟨gb174, 1, none⟩) (Kd.R_far (p := ⟨gb174, 0, none⟩) (Kd.R_far (p := ⟨gb173, 4, none⟩) (Kd.R_far (p := ⟨gb173, 3, none⟩) (Kd.R_mono (Kd.R_mono HO_3.out (fun k_ hk => (⟨hk, hk.2.2.1⟩ : _ ∧ k_ ≠ gb173))) (fun k_ hk => (⟨hk, hk.1.2.2.2⟩ : _ ∧ k_ ≠ gb174))) (fun _ hk => hk.1.2) (.slice Ao40 x3_1.length co40)) (fun _ hk => hk.1.2) (.slice Ao43 x4_2.length co43)) (fun _ hk => hk.2) (.int .i64 a0_0)) (fun _ hk => hk.2) (.int .i64 a0_1)) (fun _ hk => hk.2) (.slice Ao8 t175.length co8)) (fun _ hk => hk.2) (.slice Ao40 x3_1.length co40)) (fun _ hk => hk.2) (.slice Ao43 x4_2.length co43)) (fun _ hk => ⟨hk.1.1.2.1, hk.1.1.1⟩), by (with_reducible repeat (first | apply Kd.R_alloc | apply Kd.R_drewN | apply Kd.R_drew)); exact Kd.R_mono (Kd.R_far (p := ⟨gb174, 4, none⟩) (Kd.R_far (p := ⟨gb174, 3, none⟩) (Kd.R_far (p := ⟨gb174, 2, none⟩) (Kd.R_far (p := ⟨gb174, 1, none⟩) (Kd.R_far (p := ⟨gb174, 0, none⟩) (Kd.R_far (p := ⟨gb173, 4, none⟩) (Kd.R_far (p := ⟨gb173, 3, none⟩) (Kd.R_mono (Kd.R_mono HO_4.out (fun k_ hk => (⟨hk, hk.2.2.1⟩ : _ ∧ k_ ≠ gb173))) (fun k_ hk => (⟨hk, hk.1.2.2.2⟩ : _ ∧ k_ ≠ gb174))) (fun _ hk => hk.1.2) (.slice Ao40 x3_1.length co40)) (fun _ hk => hk.1.2) (.slice Ao43 x4_2.length co43)) (fun _ hk => hk.2) (.int .i64 a0_0)) (fun _ hk => hk.2) (.int .i64 a0_1)) (fun _ hk => hk.2) (.slice Ao8 t175.length co8)) (fun _ hk => hk.2) (.slice Ao40 x3_1.length co40)) (fun _ hk => hk.2) (.slice Ao43 x4_2.length co43)) (fun _ hk => ⟨hk.1.1.2.1, hk.1.1.1⟩), bb HB⟩
     rw [if_pos c26] at H
     have c26b0 : decide (x29_2 < (l0_4.length : Int)) = true := decide_eq_true c26
     clear c26
     by_cases c27 : 0 ≤ x29_2
     rotate_left
     ·rw [if_neg c27] at H
      exact absurd H (by simp)
     rw [if_pos c27] at H
     have c27b0 : decide (0 ≤ x29_2) = true := decide_eq_true c27
     clear c27
     by_cases c28 : x29_2 < (l0_4.length : Int)
     rotate_left
     ·rw [if_neg c28] at H
      exact absurd H (by simp)
     rw [if_pos c28] at H
     have c28b0 : decide (x29_2 < (l0_4.length : Int)) = true := decide_eq_true c28
     clear c28
     replace H := Option.bind_eq_some_iff.mp H
     obtain ⟨⟨t196, t197, t198, t201, t204⟩, A290, H⟩ := H
     replace H : (if x4_2.length < 1599289640401 then (prog_Copied.l1 k2 x3_1 (x4_2 ++ [(⟨t196, t197, t198, t201, t204⟩ : S47)]) l0_4 (l0_4.length : Int) (wrap64 (x29_2 + 1)) a0_0 a0_1 t175 l0_3 l0_4) else (none)) = some (r1, r2, r3, r4, r5) := H
     have A29 := Aside0.mk A290
     clear A290
     by_cases c30 : x4_2.length < 1599289640401
     rotate_left
     ·rw [if_neg c30] at H
      exact absurd H (by simp)
     rw [if_pos c30] at H
     have LMc30 := Aside0.mk c30
     clear c30
     obtain ⟨y207, hy207⟩ : ∃ y_ : List (S47), y_ = (x4_2 ++ [(⟨t196, t197, t198, t201, t204⟩ : S47)]) := ⟨_, rfl⟩
     replace H : (prog_Copied.l1 k2 x3_1 y207 l0_4 (l0_4.length : Int) (wrap64 (x29_2 + 1)) a0_0 a0_1 t175 l0_3 l0_4) = some (r1, r2, r3, r4, r5) := by first | (rw [hy207]; with_reducible exact H) | (have H2_ := (Option.bind_some _ _).symm.trans H; rw [hy207]; with_reducible exact H2_) | (have H2_ := (Option.bind_some _ _).symm.trans H; with_reducible exact H2_) | with_reducible exact H | (rw [hy207]; exact H) | exact H
     have Ny207 := Aside0.mk hy207
     clear hy207
     have H' := Aside0.mk H
     clear H
     have p194 : 0 ≤ (x29_2 : Int) := od
     have q194 : x29_2 < (l0_4.length : Int) := od
     obtain ⟨ad194, A194_2, c194_2, A194_3, c194_3, A194_4, c194_4, e194, hx194_0, hx194_1, hx194_2, hx194_3, hx194_4, hl194_2, hi194_2, hl194_3, hi194_3, hl194_4, hi194_4⟩ := at_T47 HR0_4.out x29_2 p194 q194
     cases e194
     replace hx194_0 := bcell HB.out hx194_0
     replace hx194_1 := bcell HB.out hx194_1
     replace hx194_2 := bcell HB.out hx194_2
     replace hx194_3 := bcell HB.out hx194_3
     replace hx194_4 := bcell HB.out hx194_4
     have HR194_2 := Aside0.mk hi194_2
     have HC194_2 := Aside0.mk hl194_2
     clear hi194_2 hl194_2
     have HR194_3 := Aside0.mk hi194_3
     have HC194_3 := Aside0.mk hl194_3
     clear hi194_3 hl194_3
     have HR194_4 := Aside0.mk hi194_4
     have HC194_4 := Aside0.mk hl194_4
     clear hi194_4 hl194_4
     replace p194 := eq_true p194
     replace q194 := eq_true q194
     go_wp2_with (first | ((with_reducible refine gate_dst (N := 8) rfl ?_); refine bx 8 rfl rfl #[.int .i64 0, .int .i64 0, .slice none 0 0, .slice none 0 0, .slice none 0 0] 47 ?_; intro gb195 hg w31 hbox hb; have BK195 := Aside0.mk (hbox); have GE195 := ge HB hg; have NB173_195 := Aside0.mk ((by rw [hg]; exact Nat.ne_of_lt (blk_lt (kk BK173)) : gb173 ≠ gb195)); have NB195_173 := Aside0.mk ((by rw [hg]; exact Nat.ne_of_gt (blk_lt (kk BK173)) : gb195 ≠ gb173)); have NB174_195 := Aside0.mk ((by rw [hg]; exact Nat.ne_of_lt (blk_lt (kk BK174)) : gb174 ≠ gb195)); have NB195_174 := Aside0.mk ((by rw [hg]; exact Nat.ne_of_gt (blk_lt (kk BK174)) : gb195 ≠ gb174)); replace HO_3 := Aside0.mk (Kd.R_below (Kd.R_elderB (iR HO_3) gb195 (Nat.le_of_eq hg.symm)) hb); replace HO_4 := Aside0.mk (Kd.R_below (Kd.R_elderB (iR HO_4) gb195 (Nat.le_of_eq hg.symm)) hb); replace HO_174002 := Aside0.mk (Kd.R_below (iR HO_174002) hb); replace BK173 := kb BK173 hb; replace BK174 := kb BK174 hb; replace HB := sb HB hb; clear hb hbox hg; have hnb32 := NB195_173.out; have hnc32 := NB173_195.out; have hnb33 := NB195_174.out; have hnc33 := NB174_195.out; obtain ⟨hcz34_0, hcz34_1, hcz34_2, hcz34_3, hcz34_4, hfz34_0, hfz34_1, hfz34_2, hfz34_3, hfz34_4⟩ := cf5 BK195.out) | ((with_reducible refine gate_callee (f := 54) rfl ?_); refine gL (some 35) rfl rfl Try.func54 #[.agg #[.int .i64 ((rd_T47 l0_4 x29_2).f0), .int .i64 ((rd_T47 l0_4 x29_2).f1), .slice A194_2 ((rd_T47 l0_4 x29_2).f2).length c194_2, .slice A194_3 ((rd_T47 l0_4 x29_2).f3).length c194_3, .slice A194_4 ((rd_T47 l0_4 x29_2).f4).length c194_4]] rfl ?_; (with_reducible refine (ih k2 (by have := HK1.out; have := HK2.out; omega) ((rd_T47 l0_4 x29_2).f0) ((rd_T47 l0_4 x29_2).f1) _ _ ((rd_T47 l0_4 x29_2).f2) _ _ ((rd_T47 l0_4 x29_2).f3) _ _ ((rd_T47 l0_4 x29_2).f4) t196 t197 t198 t201 t204 _ ?side1 ?side2 ?side3 ?side4 ?side5 ?side6 A29.out).mono ?_); (case side1 => exact Kd.C_below HR194_2.out (bb HB)); (case side2 => exact HC194_2.out); (case side3 => exact Kd.C_below HR194_3.out (bb HB)); (case side4 => exact HC194_3.out); (case side5 => exact Kd.C_below HR194_4.out (bb HB)); (case side6 => exact HC194_4.out); rintro e w35 ⟨v199, v202, v205, rfl, ho0, ho1, ho2, hb⟩; refine ⟨_, rfl, ?_⟩; have HO200 := Aside0.mk (Kd.R_lower (Kd.R_new' ho0 (Kd.R_lt (by (with_reducible repeat (first | apply Kd.R_alloc | apply Kd.R_drewN | apply Kd.R_drew)); exact (Kd.R_mono (Kd.R_far (p := ⟨gb195, 4, none⟩) (Kd.R_far (p := ⟨gb195, 3, none⟩) (Kd.R_far (p := ⟨gb195, 2, none⟩) (Kd.R_far (p := ⟨gb195, 1, none⟩) (Kd.R_far (p := ⟨gb195, 0, none⟩) (Kd.R_types HO_174002.out BK195.out (by decide)) (fun _ hk => hk.2) (.int .i64 ((rd_T47 l0_4 x29_2).f0))) (fun _ hk => hk.2) (.int .i64 ((rd_T47 l0_4 x29_2).f1))) (fun _ hk => hk.2) (.slice A194_2 ((rd_T47 l0_4 x29_2).f2).length c194_2)) (fun _ hk => hk.2) (.slice A194_3 ((rd_T47 l0_4 x29_2).f3).length c194_3)) (fun _ hk => hk.2) (.slice A194_4 ((rd_T47 l0_4 x29_2).f4).length c194_4)) (fun _ h_ => h_.1))))) (bsz (bb HB))); have HO203 := Aside0.mk (Kd.R_lower (Kd.R_newB (Kd.R_newB (Kd.R_newB (Kd.R_new' (Kd.R_new' (Kd.R_new' ho1 (Kd.R_lt (by (with_reducible repeat (first | apply Kd.R_alloc | apply Kd.R_drewN | apply Kd.R_drew)); exact (Kd.R_mono (Kd.R_far (p := ⟨gb195, 4, none⟩) (Kd.R_far (p := ⟨gb195, 3, none⟩) (Kd.R_far (p := ⟨gb195, 2, none⟩) (Kd.R_far (p := ⟨gb195, 1, none⟩) (Kd.R_far (p := ⟨gb195, 0, none⟩) (Kd.R_mono HO_3.out (fun k_ hk => (⟨hk, hk.2⟩ : _ ∧ k_ ≠ gb195))) (fun _ hk => hk.2) (.int .i64 ((rd_T47 l0_4 x29_2).f0))) (fun _ hk => hk.2) (.int .i64 ((rd_T47 l0_4 x29_2).f1))) (fun _ hk => hk.2) (.slice A194_2 ((rd_T47 l0_4 x29_2).f2).length c194_2)) (fun _ hk => hk.2) (.slice A194_3 ((rd_T47 l0_4 x29_2).f3).length c194_3)) (fun _ hk => hk.2) (.slice A194_4 ((rd_T47 l0_4 x29_2).f4).length c194_4)) (fun _ h_ => h_.1))))) (Kd.R_lt (by (with_reducible repeat (first | apply Kd.R_alloc | apply Kd.R_drewN | apply Kd.R_drew)); exact (Kd.R_mono (Kd.R_far (p := ⟨gb195, 4, none⟩) (Kd.R_far (p := ⟨gb195, 3, none⟩) (Kd.R_far (p := ⟨gb195, 2, none⟩) (Kd.R_far (p := ⟨gb195, 1, none⟩) (Kd.R_far (p := ⟨gb195, 0, none⟩) (Kd.R_mono HO_4.out (fun k_ hk => (⟨hk, hk.2⟩ : _ ∧ k_ ≠ gb195))) (fun _ hk => hk.2) (.int .i64 ((rd_T47 l0_4 x29_2).f0))) (fun _ hk => hk.2) (.int .i64 ((rd_T47 l0_4 x29_2).f1))) (fun _ hk => hk.2) (.slice A194_2 ((rd_T47 l0_4 x29_2).f2).length c194_2)) (fun _ hk => hk.2) (.slice A194_3 ((rd_T47 l0_4 x29_2).f3).length c194_3)) (fun _ hk => hk.2) (.slice A194_4 ((rd_T47 l0_4 x29_2).f4).length c194_4)) (fun _ h_ => h_.1))))) (Kd.R_lt (by (with_reducible repeat (first | apply Kd.R_alloc | apply Kd.R_drewN | apply Kd.R_drew)); exact (Kd.R_mono (Kd.R_far (p := ⟨gb195, 4, none⟩) (Kd.R_far (p := ⟨gb195, 3, none⟩) (Kd.R_far (p := ⟨gb195, 2, none⟩) (Kd.R_far (p := ⟨gb195, 1, none⟩) (Kd.R_far (p := ⟨gb195, 0, none⟩) (Kd.R_types HO_174002.out BK195.out (by decide)) (fun _ hk => hk.2) (.int .i64 ((rd_T47 l0_4 x29_2).f0))) (fun _ hk => hk.2) (.int .i64 ((rd_T47 l0_4 x29_2).f1))) (fun _ hk => hk.2) (.slice A194_2 ((rd_T47 l0_4 x29_2).f2).length c194_2)) (fun _ hk => hk.2) (.slice A194_3 ((rd_T47 l0_4 x29_2).f3).length c194_3)) (fun _ hk => hk.2) (.slice A194_4 ((rd_T47 l0_4 x29_2).f4).length c194_4)) (fun _ h_ => h_.1))))) (kk BK173)) (kk BK174)) (g := gb195) (o := .cells #[.int .i64 ((rd_T47 l0_4 x29_2).f0), .int .i64 ((rd_T47 l0_4 x29_2).f1), .slice A194_2 ((rd_T47 l0_4 x29_2).f2).length c194_2, .slice A194_3 ((rd_T47 l0_4 x29_2).f3).length c194_3, .slice A194_4 ((rd_T47 l0_4 x29_2).f4).length c194_4] 47 (0, 0)) (by (with_reducible repeat (first | refine kdN ?_ _ | refine kdr ?_ | refine kal ?_ _)); refine blk_put (cs := #[.int .i64 ((rd_T47 l0_4 x29_2).f0), .int .i64 ((rd_T47 l0_4 x29_2).f1), .slice A194_2 ((rd_T47 l0_4 x29_2).f2).length c194_2, .slice A194_3 ((rd_T47 l0_4 x29_2).f3).length c194_3, .slice none 0 0]) ?_ 4 _ rfl; (with_reducible repeat (first | refine kdN ?_ _ | refine kdr ?_ | refine kal ?_ _)); refine blk_put (cs := #[.int .i64 ((rd_T47 l0_4 x29_2).f0), .int .i64 ((rd_T47 l0_4 x29_2).f1), .slice A194_2 ((rd_T47 l0_4 x29_2).f2).length c194_2, .slice none 0 0, .slice none 0 0]) ?_ 3 _ rfl; (with_reducible repeat (first | refine kdN ?_ _ | refine kdr ?_ | refine kal ?_ _)); refine blk_put (cs := #[.int .i64 ((rd_T47 l0_4 x29_2).f0), .int .i64 ((rd_T47 l0_4 x29_2).f1), .slice none 0 0, .slice none 0 0, .slice none 0 0]) ?_ 2 _ rfl; (with_reducible repeat (first | refine kdN ?_ _ | refine kdr ?_ | refine kal ?_ _)); refine blk_put (cs := #[.int .i64 ((rd_T47 l0_4 x29_2).f0), .int .i64 0, .slice none 0 0, .slice none 0 0, .slice none 0 0]) ?_ 1 _ rfl; (with_reducible repeat (first | refine kdN ?_ _ | refine kdr ?_ | refine kal ?_ _)); refine blk_put (cs := #[.int .i64 0, .int .i64 0, .slice none 0 0, .slice none 0 0, .slice none 0 0]) ?_ 0 _ rfl; (with_reducible repeat (first | refine kdN ?_ _ | refine kdr ?_ | refine kal ?_ _)); exact BK195.out)) (bsz (bb HB))); have HO206 := Aside0.mk (Kd.R_lower (Kd.R_newB (Kd.R_newB (Kd.R_newB (Kd.R_new' (Kd.R_new' (Kd.R_new' ho2 (Kd.R_lt (by (with_reducible repeat (first | apply Kd.R_alloc | apply Kd.R_drewN | apply Kd.R_drew)); exact (Kd.R_mono (Kd.R_far (p := ⟨gb195, 4, none⟩) (Kd.R_far (p := ⟨gb195, 3, none⟩) (Kd.R_far (p := ⟨gb195, 2, none⟩) (Kd.R_far (p := ⟨gb195, 1, none⟩) (Kd.R_far (p := ⟨gb195, 0, none⟩) (Kd.R_mono HO_3.out (fun k_ hk => (⟨hk, hk.2⟩ : _ ∧ k_ ≠ gb195))) (fun _ hk => hk.2) (.int .i64 ((rd_T47 l0_4 x29_2).f0))) (fun _ hk => hk.2) (.int .i64 ((rd_T47 l0_4 x29_2).f1))) (fun _ hk => hk.2) (.slice A194_2 ((rd_T47 l0_4 x29_2).f2).length c194_2)) (fun _ hk => hk.2) (.slice A194_3 ((rd_T47 l0_4 x29_2).f3).length c194_3)) (fun _ hk => hk.2) (.slice A194_4 ((rd_T47 l0_4 x29_2).f4).length c194_4)) (fun _ h_ => h_.1))))) (Kd.R_lt (by (with_reducible repeat (first | apply Kd.R_alloc | apply Kd.R_drewN | apply Kd.R_drew)); exact (Kd.R_mono (Kd.R_far (p := ⟨gb195, 4, none⟩) (Kd.R_far (p := ⟨gb195, 3, none⟩) (Kd.R_far (p := ⟨gb195, 2, none⟩) (Kd.R_far (p := ⟨gb195, 1, none⟩) (Kd.R_far (p := ⟨gb195, 0, none⟩) (Kd.R_mono HO_4.out (fun k_ hk => (⟨hk, hk.2⟩ : _ ∧ k_ ≠ gb195))) (fun _ hk => hk.2) (.int .i64 ((rd_T47 l0_4 x29_2).f0))) (fun _ hk => hk.2) (.int .i64 ((rd_T47 l0_4 x29_2).f1))) (fun _ hk => hk.2) (.slice A194_2 ((rd_T47 l0_4 x29_2).f2).length c194_2)) (fun _ hk => hk.2) (.slice A194_3 ((rd_T47 l0_4 x29_2).f3).length c194_3)) (fun _ hk => hk.2) (.slice A194_4 ((rd_T47 l0_4 x29_2).f4).length c194_4)) (fun _ h_ => h_.1))))) (Kd.R_lt (by (with_reducible repeat (first | apply Kd.R_alloc | apply Kd.R_drewN | apply Kd.R_drew)); exact (Kd.R_mono (Kd.R_far (p := ⟨gb195, 4, none⟩) (Kd.R_far (p := ⟨gb195, 3, none⟩) (Kd.R_far (p := ⟨gb195, 2, none⟩) (Kd.R_far (p := ⟨gb195, 1, none⟩) (Kd.R_far (p := ⟨gb195, 0, none⟩) (Kd.R_types HO_174002.out BK195.out (by decide)) (fun _ hk => hk.2) (.int .i64 ((rd_T47 l0_4 x29_2).f0))) (fun _ hk => hk.2) (.int .i64 ((rd_T47 l0_4 x29_2).f1))) (fun _ hk => hk.2) (.slice A194_2 ((rd_T47 l0_4 x29_2).f2).length c194_2)) (fun _ hk => hk.2) (.slice A194_3 ((rd_T47 l0_4 x29_2).f3).length c194_3)) (fun _ hk => hk.2) (.slice A194_4 ((rd_T47 l0_4 x29_2).f4).length c194_4)) (fun _ h_ => h_.1))))) (kk BK173)) (kk BK174)) (g := gb195) (o := .cells #[.int .i64 ((rd_T47 l0_4 x29_2).f0), .int .i64 ((rd_T47 l0_4 x29_2).f1), .slice A194_2 ((rd_T47 l0_4 x29_2).f2).length c194_2, .slice A194_3 ((rd_T47 l0_4 x29_2).f3).length c194_3, .slice A194_4 ((rd_T47 l0_4 x29_2).f4).length c194_4] 47 (0, 0)) (by (with_reducible repeat (first | refine kdN ?_ _ | refine kdr ?_ | refine kal ?_ _)); refine blk_put (cs := #[.int .i64 ((rd_T47 l0_4 x29_2).f0), .int .i64 ((rd_T47 l0_4 x29_2).f1), .slice A194_2 ((rd_T47 l0_4 x29_2).f2).length c194_2, .slice A194_3 ((rd_T47 l0_4 x29_2).f3).length c194_3, .slice none 0 0]) ?_ 4 _ rfl; (with_reducible repeat (first | refine kdN ?_ _ | refine kdr ?_ | refine kal ?_ _)); refine blk_put (cs := #[.int .i64 ((rd_T47 l0_4 x29_2).f0), .int .i64 ((rd_T47 l0_4 x29_2).f1), .slice A194_2 ((rd_T47 l0_4 x29_2).f2).length c194_2, .slice none 0 0, .slice none 0 0]) ?_ 3 _ rfl; (with_reducible repeat (first | refine kdN ?_ _ | refine kdr ?_ | refine kal ?_ _)); refine blk_put (cs := #[.int .i64 ((rd_T47 l0_4 x29_2).f0), .int .i64 ((rd_T47 l0_4 x29_2).f1), .slice none 0 0, .slice none 0 0, .slice none 0 0]) ?_ 2 _ rfl; (with_reducible repeat (first | refine kdN ?_ _ | refine kdr ?_ | refine kal ?_ _)); refine blk_put (cs := #[.int .i64 ((rd_T47 l0_4 x29_2).f0), .int .i64 0, .slice none 0 0, .slice none 0 0, .slice none 0 0]) ?_ 1 _ rfl; (with_reducible repeat (first | refine kdN ?_ _ | refine kdr ?_ | refine kal ?_ _)); refine blk_put (cs := #[.int .i64 0, .int .i64 0, .slice none 0 0, .slice none 0 0, .slice none 0 0]) ?_ 0 _ rfl; (with_reducible repeat (first | refine kdN ?_ _ | refine kdr ?_ | refine kal ?_ _)); exact BK195.out)) (bsz (bb HB))); replace HO_3 := Aside0.mk (Kd.R_mono (Kd.R_told (Kd.R_told (Kd.R_told (Kd.R_old (by (with_reducible repeat (first | apply Kd.R_alloc | apply Kd.R_drewN | apply Kd.R_drew)); exact (Kd.R_mono (Kd.R_far (p := ⟨gb195, 4, none⟩) (Kd.R_far (p := ⟨gb195, 3, none⟩) (Kd.R_far (p := ⟨gb195, 2, none⟩) (Kd.R_far (p := ⟨gb195, 1, none⟩) (Kd.R_far (p := ⟨gb195, 0, none⟩) (Kd.R_mono HO_3.out (fun k_ hk => (⟨hk, hk.2⟩ : _ ∧ k_ ≠ gb195))) (fun _ hk => hk.2) (.int .i64 ((rd_T47 l0_4 x29_2).f0))) (fun _ hk => hk.2) (.int .i64 ((rd_T47 l0_4 x29_2).f1))) (fun _ hk => hk.2) (.slice A194_2 ((rd_T47 l0_4 x29_2).f2).length c194_2)) (fun _ hk => hk.2) (.slice A194_3 ((rd_T47 l0_4 x29_2).f3).length c194_3)) (fun _ hk => hk.2) (.slice A194_4 ((rd_T47 l0_4 x29_2).f4).length c194_4)) (fun _ h_ => h_.1))) hb) (Kd.R_base ho0)) (Kd.R_base ho1)) (Kd.R_base ho2)) (fun _ h_ => h_.1)); replace HO_4 := Aside0.mk (Kd.R_mono (Kd.R_told (Kd.R_told (Kd.R_told (Kd.R_old (by (with_reducible repeat (first | apply Kd.R_alloc | apply Kd.R_drewN | apply Kd.R_drew)); exact (Kd.R_mono (Kd.R_far (p := ⟨gb195, 4, none⟩) (Kd.R_far (p := ⟨gb195, 3, none⟩) (Kd.R_far (p := ⟨gb195, 2, none⟩) (Kd.R_far (p := ⟨gb195, 1, none⟩) (Kd.R_far (p := ⟨gb195, 0, none⟩) (Kd.R_mono HO_4.out (fun k_ hk => (⟨hk, hk.2⟩ : _ ∧ k_ ≠ gb195))) (fun _ hk => hk.2) (.int .i64 ((rd_T47 l0_4 x29_2).f0))) (fun _ hk => hk.2) (.int .i64 ((rd_T47 l0_4 x29_2).f1))) (fun _ hk => hk.2) (.slice A194_2 ((rd_T47 l0_4 x29_2).f2).length c194_2)) (fun _ hk => hk.2) (.slice A194_3 ((rd_T47 l0_4 x29_2).f3).length c194_3)) (fun _ hk => hk.2) (.slice A194_4 ((rd_T47 l0_4 x29_2).f4).length c194_4)) (fun _ h_ => h_.1))) hb) (Kd.R_base ho0)) (Kd.R_base ho1)) (Kd.R_base ho2)) (fun _ h_ => h_.1)); replace HO_174002 := Aside0.mk (Kd.R_elder' (by (with_reducible repeat (first | apply Kd.R_alloc | apply Kd.R_drewN | apply Kd.R_drew)); exact (Kd.R_mono (Kd.R_far (p := ⟨gb195, 4, none⟩) (Kd.R_far (p := ⟨gb195, 3, none⟩) (Kd.R_far (p := ⟨gb195, 2, none⟩) (Kd.R_far (p := ⟨gb195, 1, none⟩) (Kd.R_far (p := ⟨gb195, 0, none⟩) (Kd.R_types HO_174002.out BK195.out (by decide)) (fun _ hk => hk.2) (.int .i64 ((rd_T47 l0_4 x29_2).f0))) (fun _ hk => hk.2) (.int .i64 ((rd_T47 l0_4 x29_2).f1))) (fun _ hk => hk.2) (.slice A194_2 ((rd_T47 l0_4 x29_2).f2).length c194_2)) (fun _ hk => hk.2) (.slice A194_3 ((rd_T47 l0_4 x29_2).f3).length c194_3)) (fun _ hk => hk.2) (.slice A194_4 ((rd_T47 l0_4 x29_2).f4).length c194_4)) (fun _ h_ => h_.1))) (Kd.R_base ho0) hb); replace BK173 := kb BK173 hb; replace BK174 := kb BK174 hb; replace BK195 := Aside0.mk (blk_below (g := gb195) (o := .cells #[.int .i64 ((rd_T47 l0_4 x29_2).f0), .int .i64 ((rd_T47 l0_4 x29_2).f1), .slice A194_2 ((rd_T47 l0_4 x29_2).f2).length c194_2, .slice A194_3 ((rd_T47 l0_4 x29_2).f3).length c194_3, .slice A194_4 ((rd_T47 l0_4 x29_2).f4).length c194_4] 47 (0, 0)) (by (with_reducible repeat (first | refine kdN ?_ _ | refine kdr ?_ | refine kal ?_ _)); refine blk_put (cs := #[.int .i64 ((rd_T47 l0_4 x29_2).f0), .int .i64 ((rd_T47 l0_4 x29_2).f1), .slice A194_2 ((rd_T47 l0_4 x29_2).f2).length c194_2, .slice A194_3 ((rd_T47 l0_4 x29_2).f3).length c194_3, .slice none 0 0]) ?_ 4 _ rfl; (with_reducible repeat (first | refine kdN ?_ _ | refine kdr ?_ | refine kal ?_ _)); refine blk_put (cs := #[.int .i64 ((rd_T47 l0_4 x29_2).f0), .int .i64 ((rd_T47 l0_4 x29_2).f1), .slice A194_2 ((rd_T47 l0_4 x29_2).f2).length c194_2, .slice none 0 0, .slice none 0 0]) ?_ 3 _ rfl; (with_reducible repeat (first | refine kdN ?_ _ | refine kdr ?_ | refine kal ?_ _)); refine blk_put (cs := #[.int .i64 ((rd_T47 l0_4 x29_2).f0), .int .i64 ((rd_T47 l0_4 x29_2).f1), .slice none 0 0, .slice none 0 0, .slice none 0 0]) ?_ 2 _ rfl; (with_reducible repeat (first | refine kdN ?_ _ | refine kdr ?_ | refine kal ?_ _)); refine blk_put (cs := #[.int .i64 ((rd_T47 l0_4 x29_2).f0), .int .i64 0, .slice none 0 0, .slice none 0 0, .slice none 0 0]) ?_ 1 _ rfl; (with_reducible repeat (first | refine kdN ?_ _ | refine kdr ?_ | refine kal ?_ _)); refine blk_put (cs := #[.int .i64 0, .int .i64 0, .slice none 0 0, .slice none 0 0, .slice none 0 0]) ?_ 0 _ rfl; (with_reducible repeat (first | refine kdN ?_ _ | refine kdr ?_ | refine kal ?_ _)); exact BK195.out) hb); replace HB := sb HB hb; (try clear hb); (try clear ho0); (try clear ho1); (try clear ho2); obtain ⟨Ao37, co37, eo37⟩ := Kd.R_slice HO200.out; subst eo37; obtain ⟨Ao38, co38, eo38⟩ := Kd.R_slice HO203.out; subst eo38; obtain ⟨Ao39, co39, eo39⟩ := Kd.R_slice HO206.out; subst eo39) | ((with_reducible refine gate_builtin (b := .append) (xs := #[.tmp 33, .tmp 36]) rfl ?_); at_builtin; refine Kd.R_append k47 (w0 := w) w.heap.size rfl (.tmp 33) (.tmp 36) 23 47 (.agg #[(.int .i64 0), (.int .i64 0), (.slice none 0 0), (.slice none 0 0), (.slice none 0 0)]) 88 rfl Try.underlying23 info47 rfl (by decide) (by omega) u4 x4_2 (⟨t196, t197, t198, t201, t204⟩ : S47) [.int .i64 t196, .int .i64 t197, .slice Ao37 t198.length co37, .slice Ao38 t201.length co38, .slice Ao39 t204.length co39] (fun k_ => some k_ ≠ (u3 : Value).ownBlock ∧ some k_ ≠ (.slice Ao8 t175.length co8 : Value).ownBlock ∧ k_ ≠ gb173 ∧ k_ ≠ gb174 ∧ k_ ≠ gb195) (fun k_ => ((fun k_ => some k_ ≠ (u3 : Value).ownBlock ∧ some k_ ≠ (.slice Ao8 t175.length co8 : Value).ownBlock ∧ k_ ≠ gb173 ∧ k_ ≠ gb174 ∧ k_ ≠ gb195)) k_ ∧ some k_ ≠ (u4 : Value).ownBlock) rfl rfl ?aP (fun _ hk => hk) ?aF ?aO ?aB ?aS ?aL ?_; (case aP => exact k47_mkM _ _ _ (⟨t196, t197, t198, t201, t204⟩ : S47) (Kd.R_mono (Kd.R_types (Kd.R_types (Kd.R_types (Kd.R_apart' (Kd.R_apart' (HO200.out) (Kd.R_typed HO_3.out) (by decide)) (Kd.R_typed HO_4.out) (by decide)) BK173.out (by decide)) BK174.out (by decide)) BK195.out (by decide)) (fun k_ hk => ⟨⟨hk.1.1.1.1.2, ⟨hk.1.1.1.1.1.2, ⟨hk.1.1.2, ⟨hk.1.2, hk.2⟩⟩⟩⟩, hk.1.1.1.2⟩)) (Kd.R_mono (HO203.out) (fun k_ hk => ⟨⟨hk.1.1.1.1.1.2, ⟨hk.1.1.1.2, ⟨hk.1.1.2, ⟨hk.1.2, hk.2⟩⟩⟩⟩, hk.1.1.1.1.2⟩)) (Kd.R_mono (HO206.out) (fun k_ hk => ⟨⟨hk.1.1.1.1.1.2, ⟨hk.1.1.1.2, ⟨hk.1.1.2, ⟨hk.1.2, hk.2⟩⟩⟩⟩, hk.1.1.1.1.2⟩))); (case aB => exact (bb HB)); (case aF => exact (fun k_ hk => ⟨Kd.fresh' (Kd.R_lt (iR HO_3)) k_ hk, Kd.fresh' (Kd.R_lt (iR HO_174002)) k_ hk, Kd.freshB (kk BK173) k_ hk, Kd.freshB (kk BK174) k_ hk, Kd.freshB (kk BK195) k_ hk⟩)); (case aO => exact (by (with_reducible repeat (first | apply Kd.R_alloc | apply Kd.R_drewN | apply Kd.R_drew)); exact Kd.R_mono HO_4.out (fun _ hk => ⟨hk.1.1.1.1.1, ⟨hk.1.1.1.1.2.1, ⟨hk.1.1.1.1.2.2.1, ⟨hk.1.1.1.1.2.2.2, hk.1.1.1.2⟩⟩⟩⟩))); (case aS => exact (bsz (bb HB))); (case aL => have := LMc30.out; omega); intro v208 w36 ho hb hg hat; rw [← Ny207.out] at ho; have HO209 := Aside0.mk (ho); replace HO_3 := Aside0.mk (Kd.R_after (ok := (fun k_ => some k_ ≠ (.slice Ao8 t175.length co8 : Value).ownBlock ∧ some k_ ≠ (.slice Ao37 t198.length co37 : Value).ownBlock ∧ some k_ ≠ (.slice Ao38 t201.length co38 : Value).ownBlock ∧ some k_ ≠ (.slice Ao39 t204.length co39 : Value).ownBlock ∧ k_ ≠ gb173 ∧ k_ ≠ gb174 ∧ k_ ≠ gb195)) (by (with_reducible repeat (first | apply Kd.R_alloc | apply Kd.R_drewN | apply Kd.R_drew)); exact Kd.R_mono HO_3.out (fun _ hk => ⟨⟨hk.1.1.1.1.2.1, ⟨hk.1.1.2, ⟨hk.1.2, ⟨hk.2, ⟨hk.1.1.1.1.2.2.1, ⟨hk.1.1.1.1.2.2.2, hk.1.1.1.2⟩⟩⟩⟩⟩⟩, hk.1.1.1.1.1⟩)) hg hat); replace HO_174002 := Aside0.mk (Kd.R_over' (iR HO_174002) (Kd.R_typed (iR HO_4)) (by decide) hg); replace BK173 := Aside0.mk (blk_grown (kk BK173) hg (Kd.R_away HO_4.out (fun _ hk => hk.1.1.1.1.2.2.1))); replace BK174 := Aside0.mk (blk_grown (kk BK174) hg (Kd.R_away HO_4.out (fun _ hk => hk.1.1.1.1.2.2.2))); replace BK195 := Aside0.mk (blk_grown (kk BK195) hg (Kd.R_away HO_4.out (fun _ hk => hk.1.1.1.2))); replace HB := Aside0.mk (hb); clear HO_4 HO200 HO203 HO206; clear ho hb hg hat))
     go_roundg k2
     case measure => have := HK1.out; have := HK2.out; omega
     case rel => exact ⟨(y207), (wrap64 (x29_2 + 1)), rs, H', ⟨by have := HK1.out; have := HK2.out; omega⟩, ⟨by (with_reducible repeat (first | apply Kd.R_alloc | apply Kd.R_drewN | apply Kd.R_drew)); exact Kd.R_mono HO_3.out (fun _ hk => ⟨hk.2, ⟨hk.1.1, ⟨hk.1.2.2.2.2.1, hk.1.2.2.2.2.2.1⟩⟩⟩)⟩, ⟨by (with_reducible repeat (first | apply Kd.R_alloc | apply Kd.R_drewN | apply Kd.R_drew)); exact Kd.R_mono HO209.out (fun _ hk => ⟨hk.1, ⟨hk.2.1, ⟨hk.2.2.1, hk.2.2.2.1⟩⟩⟩)⟩, ⟨by (with_reducible repeat (first | apply Kd.R_alloc | apply Kd.R_drewN | apply Kd.R_drew)); exact Kd.R_mono HO_174002.out (fun _ hk => trivial)⟩, ⟨kk BK173⟩, ⟨kk BK174⟩, ⟨bb HB⟩⟩
theorem copyE : (∀ x, goodE x → eN x ≤ 1000 → Tells (fun k => prog_copiedExprs.f k x.f3) x.f3) ∧
    (∀ suf, ∀ (pre acc : List S96), goodEs suf → (pre ++ suf).length ≤ 9223372036854775807 → eNs suf ≤ 1000 → acc.length + suf.length ≤ 1000 → Tells (fun k => prog_copiedExprs.l0 k acc (pre ++ suf) ((pre ++ suf).length : Int) (pre.length : Int)) (acc ++ suf)) := by
  refine E_ind (fun a b c l ih => ?_) ?_ (fun x r ih1 ih2 => ?_)
  · intro hg hn
    rw [goodE_mk] at hg
    simp only [eN] at hn
    have := eNs_len l
    refine Tells.succ ?_
    simp only [prog_copiedExprs.f]
    exact ih [] [] hg.2 hg.1 (by omega) (by simp only [List.length_nil]; omega)
  · intro pre acc _ _ _ _
    refine Tells.succ ?_
    simp only [prog_copiedExprs.l0, pre_nlt, if_false]
    rw [List.append_nil]
    exact Tells.pure _
  · intro pre acc hg hl hn ha
    rw [eNs_cons] at hn
    rw [List.length_cons] at ha
    refine Tells.succ ?_
    simp only [prog_copiedExprs.l0, pre_lt, pre_pos, if_true, rdE_mid]
    refine Tells.bind (ih1 hg.1 (by omega)) (Tells.ifT (by omega) ?_)
    have := ih2 (pre ++ [x]) (acc ++ [x]) hg.2 (by rw [← pre_app]; exact hl) (by omega) (by rw [List.length_append, List.length_singleton]; omega)
    rw [← pre_app, ← pre_app] at this
    simp only [E_eta]
    rw [pre_next pre x r hl]
    exact this
theorem copyEs (l : List S96) (hg : goodEs l) (hl : l.length ≤ 9223372036854775807) (hn : eNs l ≤ 1000) : Tells (fun k => prog_copiedExprs.f k l) l := by
  have := eNs_len l
  refine Tells.succ ?_
  simp only [prog_copiedExprs.f]
  exact copyE.2 l [] [] hg hl hn (by simp only [List.length_nil]; omega)
theorem copyS : (∀ x, goodS x → sN x ≤ 1000 → Tells (fun k => prog_Copied.f k x.f0 x.f1 x.f2 x.f3 x.f4) (x.f0, x.f1, x.f2, x.f3, x.f4)) ∧
    (∀ suf, goodSs suf → sNs suf ≤ 1000 → ∀ (pre acc : List S47), (pre ++ suf).length ≤ 9223372036854775807 → acc.length + suf.length ≤ 1000 →
      (∀ (x3 : List S47) (op n : Int) (a : List S96) (t e : List S47), Tells (fun k => prog_Copied.l1 k x3 acc (pre ++ suf) ((pre ++ suf).length : Int) (pre.length : Int) op n a t e) (op, n, a, x3, acc ++ suf)) ∧
      (∀ (op n : Int) (a : List S96) (t e : List S47) v, Tells (fun k => prog_Copied.l1 k (acc ++ suf) [] e (e.length : Int) 0 op n a t e) v → Tells (fun k => prog_Copied.l0 k acc (pre ++ suf) ((pre ++ suf).length : Int) (pre.length : Int) op n a t e) v)) := by
  refine S_ind (fun a b l t e h1 h2 => ?_) ?_ (fun x r ih1 ih2 => ?_)
  · intro hg hn
    rw [goodS_mk] at hg
    rw [sN_eq] at hn
    simp only at hn ⊢
    have n1 := sNs_len t
    have n2 := sNs_len e
    refine Tells.succ ?_
    simp only [prog_Copied.f]
    refine Tells.bind (copyEs l hg.1.2 hg.1.1 (by omega)) ?_
    refine (h1 hg.2.1.2 (by omega) [] [] hg.2.1.1 (by simp only [List.length_nil]; omega)).2 a b l t e _ ?_
    exact (h2 hg.2.2.2 (by omega) [] [] hg.2.2.1 (by simp only [List.length_nil]; omega)).1 ([] ++ t) a b l t e
  · intro _ _ pre acc _ _
    constructor
    · intro x3 op n a t e
      refine Tells.succ ?_
      simp only [prog_Copied.l1, pre_nlt, if_false]
      rw [List.append_nil]
      exact Tells.pure _
    · intro op n a t e v h
      refine Tells.succ ?_
      simp only [prog_Copied.l0, pre_nlt, if_false]
      rw [List.append_nil] at h
      exact h
  · intro hg hn pre acc hl ha
    rw [goodSs_cons] at hg
    rw [sNs_cons] at hn
    rw [List.length_cons] at ha
    obtain ⟨q1, q2⟩ := ih2 hg.2 (by omega) (pre ++ [x]) (acc ++ [x]) (by rw [← pre_app]; exact hl) (by rw [List.length_append, List.length_singleton]; omega)
    constructor
    · intro x3 op n a t e
      refine Tells.succ ?_
      simp only [prog_Copied.l1, pre_lt, pre_pos, if_true, rdS_mid]
      refine Tells.bind (ih1 hg.1 (by omega)) (Tells.ifT (by omega) ?_)
      have := q1 x3 op n a t e
      rw [← pre_app, ← pre_app] at this
      simp only [S_eta]
      rw [pre_next pre x r hl]
      exact this
    · intro op n a t e v h
      refine Tells.succ ?_
      simp only [prog_Copied.l0, pre_lt, pre_pos, if_true, rdS_mid]
      refine Tells.bind (ih1 hg.1 (by omega)) (Tells.ifT (by omega) ?_)
      have := q2 op n a t e v (by rw [← pre_app]; exact h)
      rw [← pre_app] at this
      simp only [S_eta]
      rw [pre_next pre x r hl]
      exact this
def NumFrom (n : Int) (its : List (Int × S47)) : Prop := ∀ (i : Nat) x, its[i]? = some x → x.1 = n + (i : Int)
theorem num_app {n : Int} {a b : List (Int × S47)} (ha : NumFrom n a) (hb : NumFrom (n + a.length) b) : NumFrom n (a ++ b) := by
  intro i x h
  rcases Nat.lt_or_ge i a.length with hi | hi
  · rw [List.getElem?_append_left hi] at h
    exact ha i x h
  · rw [List.getElem?_append_right hi] at h
    have := hb _ x h
    omega
theorem num_cons {n : Int} {x : S47} {b : List (Int × S47)} (hb : NumFrom (n + 1) b) : NumFrom n ((n, x) :: b) := by
  intro i y h
  cases i with
  | zero =>
    have : (n, x) = y := by simpa using h
    rw [← this]
    simp
  | succ i =>
    rw [List.getElem?_cons_succ] at h
    have := hb i y h
    push_cast
    omega
theorem wks_len : (∀ x : S47, (∀ n, (wks n x.f3).length = sCs x.f3) ∧ (∀ n, (wks n x.f4).length = sCs x.f4)) ∧ (∀ l n, (wks n l).length = sCs l) := by
  refine S_ind (fun a b l t e h1 h2 => ⟨h1, h2⟩) (fun n => by rw [wks_nil, sCs_nil]; rfl) (fun x r ih1 ih2 => ?_)
  intro n
  rw [wks_cons, wkS_eq, sCs_cons, sC_eq, List.length_append, List.length_cons, List.length_append, ih1.1, ih1.2, ih2]
  omega
theorem wks_num : (∀ x : S47, (∀ n, NumFrom n (wks n x.f3)) ∧ (∀ n, NumFrom n (wks n x.f4))) ∧ (∀ l n, NumFrom n (wks n l)) := by
  refine S_ind (fun a b l t e h1 h2 => ⟨h1, h2⟩) (fun n => by rw [wks_nil]; intro i x h; simp at h) (fun x r ih1 ih2 => ?_)
  intro n
  have hl : (wkS n x).length = sC x := by rw [wkS_eq, sC_eq, List.length_cons, List.length_append, (wks_len.1 x).1, (wks_len.1 x).2]; omega
  rw [wks_cons]
  refine num_app ?_ (by rw [hl]; exact ih2 _)
  rw [wkS_eq]
  refine num_cons (num_app (ih1.1 _) ?_)
  rw [(wks_len.1 x).1]
  exact ih1.2 _
theorem wks_good : (∀ x : S47, goodS x → (∀ n, ∀ y ∈ wks n x.f3, goodS y.2 ∧ sN y.2 ≤ sNs x.f3) ∧ (∀ n, ∀ y ∈ wks n x.f4, goodS y.2 ∧ sN y.2 ≤ sNs x.f4)) ∧ (∀ l, goodSs l → ∀ n, ∀ y ∈ wks n l, goodS y.2 ∧ sN y.2 ≤ sNs l) := by
  refine S_ind (fun a b l t e h1 h2 hg => ?_) (fun _ n y hy => by rw [wks_nil] at hy; cases hy) (fun x r ih1 ih2 => ?_)
  · rw [goodS_mk] at hg
    exact ⟨h1 hg.2.1.2, h2 hg.2.2.2⟩
  · intro hg n y hy
    rw [goodSs_cons] at hg
    rw [wks_cons, wkS_eq, List.mem_append, List.mem_cons, List.mem_append] at hy
    have e := sN_eq x
    rw [sNs_cons]
    rcases hy with (rfl | hy | hy) | hy
    · exact ⟨hg.1, by simp only; omega⟩
    · have := (ih1 hg.1).1 _ y hy
      exact ⟨this.1, by omega⟩
    · have := (ih1 hg.1).2 _ y hy
      exact ⟨this.1, by omega⟩
    · have := ih2 hg.2 _ y hy
      exact ⟨this.1, by omega⟩
theorem Tells.all {α β : Type} {g : α → Nat → Option β} {v : α → β} : ∀ (l : List α), (∀ x ∈ l, Tells (g x) (v x)) → ∃ k0, ∀ k, k0 ≤ k → ∀ x ∈ l, g x k = some (v x)
  | [], _ => ⟨0, fun _ _ x hx => by cases hx⟩
  | x :: r, h => by
    obtain ⟨a, ha⟩ := h x (by simp)
    obtain ⟨b, hb⟩ := Tells.all r (fun y hy => h y (by simp [hy]))
    refine ⟨max a b, fun k hk y hy => ?_⟩
    rcases List.mem_cons.1 hy with rfl | hy
    · exact ha k (by omega)
    · exact hb k (by omega) y hy
end Go.Proofs.Ytffcpbgbhkbplaa.Print
namespace Go.Proofs.Ytffcpbgbhkbplaa.Print
open Go.RowKit Go.Proofs.YtffcpbgbhkbplaaW.PrintWords Go.Proofs.YtffcpbgbhkbplaaW.PrintLast Go.Proofs.YtffcpbgbhkbplaaW.PrintMore
attribute [local go_sem] max2_int min2_int max_two min_two max_three min_three max_four min_four
set_option linter.unusedVariables false
set_option linter.unusedSimpArgs false
open Go.Shelf Go.RowKit
def SeqBy {α : Type} (P : Program) (gf : Nat) (lb : Array Value) (E : α → Array Value → Prop) (its : List α) (w0 : World) : Prop :=
  ∀ (m l : Nat) (J Jx : List α → World → Prop) (go : List α → α → Bool) (W : World), Below w0.heap.size w0 W →
    (∀ pre A B, J pre A → Below W.heap.size A B → J pre B) →
    (∀ pre x av A, J pre A → E x av → Below w0.heap.size w0 A → W.heap.size ≤ A.heap.size → (pre ++ [x]) <+: its → YieldAt Fence.wide m P l av A fun e B =>
      e = .returned (.bool (go pre x)) ∧ (go pre x = true → J (pre ++ [x]) B ∧ Keeps W.heap.size none A B ∧ Below w0.heap.size w0 B) ∧ (go pre x = false → Jx (pre ++ [x]) B)) →
    J [] W →
    CallsIn Fence.wide m P gf (#[.func (.yield l) #[] #[]] ++ lb) W fun e W' => (∃ v, e = .returned v) ∧
      ((stopAt go [] its = none ∧ J its W' ∧ Below w0.heap.size w0 W') ∨ (∃ q, stopAt go [] its = some q ∧ Jx q W'))
def roundBy {α : Type} (S0 : Nat) (w0 : World) (I : List α → World → Prop) (Ix : Code → List α → World → Prop) (go : List α → α → Bool) (pre : List α) (x : α) (W W2 : World) : Exit → Act → World → Prop
  | .normal, _, W3 => go pre x = true ∧ W2.heap.size ≤ W3.heap.size ∧ (∀ k, S0 ≤ k → k < W.heap.size → W3.heap[k]? = W2.heap[k]?) ∧ Below w0.heap.size w0 W3 ∧ I (pre ++ [x]) W3
  | .ret, _, W3 => go pre x = false ∧ (∀ k, S0 ≤ k → k < W.heap.size → W3.heap[k]? = W2.heap[k]?) ∧ Ix .ret (pre ++ [x]) W3
  | .exit id, _, W3 => go pre x = false ∧ (∀ k, S0 ≤ k → k < W.heap.size → W3.heap[k]? = W2.heap[k]?) ∧ Ix (.exit id) (pre ++ [x]) W3
  | _, _, _ => False
theorem below_put (B : Nat) (W : World) {l : Nat} (o : Obj) (h : B ≤ l) : Below B W (W.putObj l o) := by
  have g := grownBy_putObj' W l o
  refine ⟨g.os, g.tape, g.output, g.size, fun k hk => ?_⟩
  exact World.putObj_heap_other (by omega)
theorem wpIn_rangeBy {α : Type} {n : Nat} {P : Program} {g : Operand} {ps : Array Tmp} {assign body : Code} {Q : Exit → Act → World → Prop} {a : Act} {w : World} {gf : Nat} {lb : Array Value}
    (hg : a.eval g = .func (.func gf) #[] lb) (eg : ∀ args w, (callFunc gf args).run P w = .ok (.enter gf args) w)
    {E : α → Array Value → Prop} {its : List α} {w0 : World} (hseq : SeqBy P gf lb E its w0) (hb0 : Below w0.heap.size w0 w) (hps : ∀ x av, E x av → av.size = ps.size)
    (go : List α → α → Bool) (I : List α → World → Prop) (Ix : Code → List α → World → Prop)
    (hI : ∀ pre A B, I pre A → Below w.heap.size A B → I pre B) (hIx : ∀ c pre A (j : Nat) (o o' : Obj), w.heap.size ≤ j → Ix c pre A → A.heap[j]? = some o → o.isCells = false → Ix c pre (A.putObj j o')) (h0 : I [] w)
    (hround : ∀ l pre x av W, I pre W → E x av → (pre ++ [x]) <+: its → Below w0.heap.size w0 W → w.heap.size + 2 ≤ W.heap.size →
      assign.wpIn (Fence.wide.inRound l) n P (Exit.then (fun a1 W1 => W.grownBy W1 none ∧ ∀ W2, W1.grownBy W2 (some (w.heap.size + 1)) → W2.heap.size = W1.heap.size → I pre W2 → Below w0.heap.size w0 W2 →
        body.wpIn (Fence.wide.inRound l) n P (roundBy w.heap.size w0 I Ix go pre x W W2) a1 W2) (fun _ _ _ => False)) { tmps := (ps.zip av).foldl (fun t (p, v) => t.setIfInBounds p v) a.tmps, defers := [] } W)
    (hdone : ∀ W, stopAt go [] its = none → I its W → Below w0.heap.size w0 W → W.heap[w.heap.size]? = some (.deferred (some [])) → Q .normal { a with defers := { target := .collected w.heap.size, args := #[] } :: a.defers } W)
    (hstop : ∀ c q W, stopAt go [] its = some q → Ix c q W → W.heap[w.heap.size]? = some (.deferred (some [])) → c.wpIn Fence.wide n P Q { a with defers := { target := .collected w.heap.size, args := #[] } :: a.defers } W) :
    (Code.rangeFunc g ps assign body).wpIn Fence.wide n P Q a w := by
  refine wpIn_rangeFunc ?_
  intro fn hfn
  obtain ⟨rec, hrec⟩ : ∃ rec : LoopState → Option Code → Loop, rec = fun st pe => { state := st, pending := pe, fn, tmps := a.tmps, params := ps, assign, body, defers := w.heap.size } := ⟨_, rfl⟩
  obtain ⟨W1, hW1⟩ : ∃ W1, (w.alloc (.deferred (some []))).alloc (.loop (rec .ready none)) = W1 := ⟨_, rfl⟩
  have hL1 : W1.heap[w.heap.size + 1]? = some (.loop (rec .ready none)) := by
    rw [← hW1]; have := World.alloc_heap_new (w.alloc (.deferred (some []))) (.loop (rec .ready none)); rwa [World.size_alloc] at this
  have hK1 : W1.heap[w.heap.size]? = some (.deferred (some [])) := by
    rw [← hW1]; exact (Below.heap_alloc _ _ _ (by simp)).trans (World.alloc_heap_new w _)
  have hS1 : W1.heap.size = w.heap.size + 2 := by rw [← hW1]; simp
  have hw1 : Below w.heap.size w W1 := by
    rw [← hW1]; exact ((Below.refl _ w).alloc (Nat.le_refl _) _).alloc (by simp) _
  have hI1 : I [] W1 := hI _ _ _ h0 hw1
  have hb1 : Below w0.heap.size w0 W1 := hb0.trans (hw1.mono hb0.size)
  have hB0 : w0.heap.size ≤ w.heap.size := hb0.size
  refine ⟨w.heap.size + 1, [{ target := .collected w.heap.size, args := #[] }], W1, { target := .fn (.func gf) lb, args := #[.func (.yield (w.heap.size + 1)) #[] #[]] }, W1, gf,
    #[.func (.yield (w.heap.size + 1)) #[] #[]] ++ lb, W1, ?_, ?_, ?_, ?_, wide_depth, ?_⟩
  · rw [← hW1, hrec]; exact run_enterLoop_outer _ _ _ _ _
  · simp only [resolve, hg]
    simp [go_sem]
  · intro f' hf'; trivial
  · simp [invoke, go_sem, eg]
  refine (hseq (n - 1) (w.heap.size + 1)
    (fun pre W => I pre W ∧ W.heap[w.heap.size + 1]? = some (.loop (rec .ready none)) ∧ W.heap[w.heap.size]? = some (.deferred (some [])))
    (fun pre W => ∃ c, Ix c pre W ∧ W.heap[w.heap.size + 1]? = some (.loop (rec .done (some c))) ∧ W.heap[w.heap.size]? = some (.deferred (some [])))
    go W1 hb1
    (fun pre A B hs hb => ⟨hI _ _ _ hs.1 (hb.mono (by omega)), (hb.block _ (by omega)).trans hs.2.1, (hb.block _ (by omega)).trans hs.2.2⟩)
    ?_ ⟨hI1, hL1, hK1⟩).mono ?_
  · rintro pre x av W ⟨hi, hl, hk⟩ hE hbW hsz hpre
    have hlt : w.heap.size + 1 < W.heap.size := (Array.getElem?_eq_some_iff.1 hl).1
    have hy := run_yield (P := P) (args := av) hl (by rw [hrec]; exact hps x av hE)
    rw [hrec] at hy
    refine ⟨fn, _, assign, body, hy, round_any (roundIn_of_wpIn (n := n) trivial ?_)⟩
    refine wpIn_mono (hround (w.heap.size + 1) pre x av W hi hE hpre hbW (by omega)) ?_
    rintro e a1 Wa hp
    cases e with
    | normal =>
      obtain ⟨hga, hbd⟩ := hp
      have hla := (hga.block _ hlt (by simp)).trans hl
      have hka := (hga.block _ (by omega : w.heap.size < W.heap.size) (by simp)).trans hk
      have hgs := hga.size
      have hlta : w.heap.size + 1 < Wa.heap.size := by omega
      refine ⟨_, run_beginRound hla (by rw [hrec]), ?_⟩
      have hg2 := grownBy_putObj' Wa (w.heap.size + 1) (.loop { rec .ready none with state := .busy })
      have hl2 : (Wa.putObj (w.heap.size + 1) (.loop { rec .ready none with state := .busy })).heap[w.heap.size + 1]? = some (.loop { rec .ready none with state := .busy }) := World.putObj_heap_same hlta
      have hk2 : (Wa.putObj (w.heap.size + 1) (.loop { rec .ready none with state := .busy })).heap[w.heap.size]? = some (.deferred (some [])) := (World.putObj_heap_other (by omega)).trans hka
      have hs2 : (Wa.putObj (w.heap.size + 1) (.loop { rec .ready none with state := .busy })).heap.size = Wa.heap.size := by simp
      have hba : Below w.heap.size W Wa := ⟨hga.os, hga.tape, hga.output, hga.size, fun k hk => hga.block k (by omega) (by simp)⟩
      have hb2 : Below w.heap.size W (Wa.putObj (w.heap.size + 1) (.loop { rec .ready none with state := .busy })) := hba.trans (below_put _ _ _ (by omega))
      generalize Wa.putObj (w.heap.size + 1) (.loop { rec .ready none with state := .busy }) = W2 at hg2 hl2 hk2 hs2 hb2 ⊢
      refine wpIn_mono (hbd W2 hg2 hs2 (hI _ _ _ hi hb2) (hbW.trans (hb2.mono hB0))) ?_
      have fin : ∀ (jump : Option Code) (W3 : World), (∀ k, w.heap.size ≤ k → k < W.heap.size → W3.heap[k]? = W2.heap[k]?) →
          (Instr.endRound (w.heap.size + 1) jump).run P W3 = .ok (.bool jump.isNone) (W3.putObj (w.heap.size + 1) (.loop (rec (if jump.isNone then .ready else .done) jump))) ∧
          (W3.putObj (w.heap.size + 1) (.loop (rec (if jump.isNone then .ready else .done) jump))).heap[w.heap.size + 1]? = some (.loop (rec (if jump.isNone then .ready else .done) jump)) ∧
          (W3.putObj (w.heap.size + 1) (.loop (rec (if jump.isNone then .ready else .done) jump))).heap[w.heap.size]? = some (.deferred (some [])) ∧ W3.heap[w.heap.size + 1]? = some (.loop { rec .ready none with state := .busy }) := fun jump W3 hk3 => by
        have hl3 := (hk3 _ (by omega) hlt).trans hl2
        have := run_endRound (P := P) jump hl3
        rw [hrec] at this ⊢
        exact ⟨this, World.putObj_heap_same (Array.getElem?_eq_some_iff.1 hl3).1, (World.putObj_heap_other (by omega)).trans ((hk3 _ (Nat.le_refl _) (by omega)).trans hk2), by rw [hrec] at hl3; exact hl3⟩
      rintro e3 a3 W3 hq
      cases e3 with
      | normal =>
        obtain ⟨hgo, hsz3, hk3, hb3, hi3⟩ := hq
        obtain ⟨hr, hl4, hk4, hl3⟩ := fin none W3 hk3
        have hp3 := below_put w.heap.size W3 (.loop (rec .ready none)) (by omega : w.heap.size ≤ w.heap.size + 1)
        have hg3 := grownBy_putObj' W3 (w.heap.size + 1) (.loop (rec .ready none))
        refine ⟨_, _, hr, by rw [hgo]; rfl, fun _ => ⟨⟨hI _ _ _ hi3 hp3, hl4, hk4⟩, ⟨?_, ?_⟩, hb3.trans (hp3.mono hB0)⟩, fun h => by rw [hgo] at h; cases h⟩
        · have := hg3.size; simp only [Option.isNone_none, if_true]; omega
        · intro k h1 h2 _
          simp only [Option.isNone_none, if_true]
          rw [World.putObj_heap_other (by omega), hk3 k (by omega) h2, hg2.block k (by omega) (by intro e; injection e with e; omega)]
          exact hga.block k h2 (by simp)
      | ret =>
        obtain ⟨hgo, hk3, hi3⟩ := hq
        obtain ⟨hr, hl4, hk4, hl3⟩ := fin (some .ret) W3 hk3
        exact ⟨_, _, hr, by rw [hgo]; rfl, fun h => (by rw [hgo] at h; cases h), fun _ => ⟨.ret, hIx _ _ _ _ _ _ (by omega) hi3 hl3 rfl, hl4, hk4⟩⟩
      | exit id =>
        obtain ⟨hgo, hk3, hi3⟩ := hq
        obtain ⟨hr, hl4, hk4, hl3⟩ := fin (some (.exit id)) W3 hk3
        exact ⟨_, _, hr, by rw [hgo]; rfl, fun h => (by rw [hgo] at h; cases h), fun _ => ⟨.exit id, hIx _ _ _ _ _ _ (by omega) hi3 hl3 rfl, hl4, hk4⟩⟩
      | goto t => exact hq.elim
      | panic ch => exact hq.elim
      | outgrown => exact hq.elim
    | ret => exact hp.elim
    | exit id => exact hp.elim
    | goto t => exact hp.elim
    | panic ch => exact hp.elim
    | outgrown => exact hp.elim
  · rintro e W2 ⟨⟨v, rfl⟩, (⟨hS, ⟨hi, hl, hk⟩, hb2⟩ | ⟨q, hS, c, hi, hl, hk⟩)⟩
    · have hp3 := below_put w.heap.size W2 (.loop (rec .exhausted none)) (by omega : w.heap.size ≤ w.heap.size + 1)
      exact ⟨none, _, by have := run_endLoop (P := P) hl (by rw [hrec]; simp); rw [hrec] at this; exact this, hdone _ hS (hI _ _ _ hi (below_put _ _ _ (by omega))) (hb2.trans ((below_put _ _ _ (by omega)).mono hB0)) ((World.putObj_heap_other (by omega)).trans hk)⟩
    · exact ⟨some c, _, by have := run_endLoop (P := P) hl (by rw [hrec]; simp); rw [hrec] at this; exact this, hstop c q _ hS (hIx _ _ _ _ _ _ (by omega) hi hl rfl) ((World.putObj_heap_other (by omega)).trans hk)⟩
end Go.Proofs.Ytffcpbgbhkbplaa.Print
namespace Go.Proofs.Ytffcpbgbhkbplaa.Print
open Go.RowKit Go.Proofs.YtffcpbgbhkbplaaW.PrintWords Go.Proofs.YtffcpbgbhkbplaaW.PrintLast Go.Proofs.YtffcpbgbhkbplaaW.PrintMore
attribute [local go_sem] max2_int min2_int max_two min_two max_three min_three max_four min_four
set_option linter.unusedVariables false
set_option linter.unusedSimpArgs false
open Go.Shelf Go.RowKit
attribute [local go_sem] Oper.semAt_some
def itemAt (w0 : World) (x : Int × S47) (av : Array Value) : Prop := ∃ v, av = #[.int .i64 x.1, v] ∧ StmtAt w0 x.2 v
theorem prog_each.seq (w0 : World) (bp : Nat) (A : Option Addr) (c : Nat) (l : List S47) (its : List (Int × S47)) (n' : Int) (k : Nat)
    (hcell : w0.cell? ⟨bp, 2, none⟩ = some (.slice A l.length c)) (hr : Kd.C k47 w0 A l.length l) (hc : l.length ≤ c) (h : prog_walk.f k l 0 = some (its, n')) :
    SeqBy Try.prog 76 #[.pointer (some ⟨bp, 0, none⟩)] (itemAt w0) its w0 := by
  intro m rl J Jx go W hb hJ hY hJ0
  refine callsIn_of_wp Try.func76 rfl trivial ?_ rfl
  simp only [Try.ntmps76, List.size_toArray, List.length_cons, List.length_nil, Nat.reduceAdd, Nat.reduceSub, Array.replicate_succ, Array.replicate_zero, List.push_toArray, List.append_toArray, List.nil_append, List.cons_append]
  have hcw : W.cell? ⟨bp, 2, none⟩ = some (.slice A l.length c) := (hb.cell (World.block_lt_of_cell? w0 _ hcell)).trans hcell
  have hlt := World.block_lt_of_cell? W _ hcw
  have hS := hb.size
  have key : ∀ W2 : World, Below W.heap.size W W2 → W2.heap[W.heap.size]? = some (.cells #[.int .i64 0] 3 (0, 0)) →
      CallsIn Fence.wide m Try.prog 77 #[.slice A l.length c, .pointer (some ⟨W.heap.size, 0, none⟩), .func (.yield rl) #[] #[]] W2 (fun e W' => ∃ b, e = .returned (.bool b) ∧ ((stopAt go [] its = none ∧ J its W' ∧ Below w0.heap.size w0 W') ∨ (∃ q, stopAt go [] its = some q ∧ Jx q W'))) := by
    intro W2 h1 h2
    refine (prog_walk.walkIn w0 rl W.heap.size m J Jx go its hS hJ ?_ k l 0 its n' [] W2 W.heap.size A c h hr hc (hb.trans (h1.mono hS)) h2 (Nat.le_refl _) (hJ _ _ _ hJ0 h1) (by simp)).mono ?post
    case post =>
      rintro e W3 (⟨h0, rfl, hj, _, _, hb3⟩ | ⟨q, h0, rfl, hx⟩)
      · exact ⟨_, rfl, .inl ⟨h0, by simpa using hj, hb3⟩⟩
      · exact ⟨_, rfl, .inr ⟨q, h0, by simpa using hx⟩⟩
    intro pre x v A1 hj hv hb1 hsz hp
    exact hY pre x _ A1 hj ⟨v, rfl, hv⟩ hb1 hsz hp
  gi_wp2_with (first | (refine ⟨trivial, wide_depth, ?_⟩; refine (calls_any (m' := m - 1) (key _ ?k1 ?k2)).mono ?_; (case k1 => exact (Below.refl _ _).alloc (Nat.le_refl _) _); (case k2 => exact heap_alloc_new _ _); rintro e W3 ⟨b, rfl, hw⟩))
  go_end0
  exact ⟨⟨_, rfl⟩, hw⟩
end Go.Proofs.Ytffcpbgbhkbplaa.Print
namespace Go.Proofs.Ytffcpbgbhkbplaa.Print
open Go.RowKit Go.Proofs.YtffcpbgbhkbplaaW.PrintWords Go.Proofs.YtffcpbgbhkbplaaW.PrintLast Go.Proofs.YtffcpbgbhkbplaaW.PrintMore
attribute [local go_sem] max2_int min2_int max_two min_two max_three min_three max_four min_four
set_option linter.unusedVariables false
set_option linter.unusedSimpArgs false
open Go.Shelf Go.RowKit
theorem prog_each.fn (a b c : Value) (w : World) :
    Calls Try.prog 53 #[.agg #[a, b, c]] w fun e w' => e = .returned (.func (.func 76) #[] #[.pointer (some ⟨w.heap.size, 0, none⟩)]) ∧ Below w.heap.size w w' ∧ w'.heap[w.heap.size]? = some (.cells #[a, b, c] 25 (0, 0)) := by
  have huP := Try.underlying25
  refine calls_of_wp Try.func53 rfl ?_
  simp only [Try.ntmps53, List.size_toArray, List.length_cons, List.length_nil, Nat.reduceAdd, Nat.reduceSub, Array.replicate_succ, Array.replicate_zero, List.push_toArray, List.append_toArray, List.nil_append, List.cons_append]
  go_wp2
  go_ret
  exact ⟨rfl, (Below.refl _ _).alloc (Nat.le_refl _) _, heap_alloc_new _ _⟩
end Go.Proofs.Ytffcpbgbhkbplaa.Print
namespace Go.Proofs.Ytffcpbgbhkbplaa.Print
open Go.RowKit Go.Proofs.YtffcpbgbhkbplaaW.PrintWords Go.Proofs.YtffcpbgbhkbplaaW.PrintLast Go.Proofs.YtffcpbgbhkbplaaW.PrintMore
attribute [local go_sem] max2_int min2_int max_two min_two max_three min_three max_four min_four
set_option linter.unusedVariables false
set_option linter.unusedSimpArgs false
open Go.Shelf Go.RowKit
attribute [local go_sem] Oper.semAt_some
theorem four_boxes (w : World) (a b c d : Obj) : Below w.heap.size w ((((w.alloc a).alloc b).alloc c).alloc d) ∧ ((((w.alloc a).alloc b).alloc c).alloc d).heap[w.heap.size]? = some a ∧ ((((w.alloc a).alloc b).alloc c).alloc d).heap[w.heap.size + 1]? = some b ∧
    ((((w.alloc a).alloc b).alloc c).alloc d).heap[w.heap.size + 1 + 1]? = some c ∧ ((((w.alloc a).alloc b).alloc c).alloc d).heap[w.heap.size + 1 + 1 + 1]? = some d := by
  refine ⟨bal (bal (bal (bal (Below.refl _ _) _) _) _) _, kal (kal (kal (blk_new _ _) _) _) _, ?_, ?_, ?_⟩
  · have := blk_new (w.alloc a) b
    exact kal (kal (by simpa using this) _) _
  · have := blk_new ((w.alloc a).alloc b) c
    exact kal (by simpa using this) _
  · have := blk_new (((w.alloc a).alloc b).alloc c) d
    simpa using this
theorem R_put {α : Type} {d : Kd α} {e base : Nat} {w : World} {ok : Nat → Prop} {v : Value} {xs : List α} (h : d.R e w base ok v xs) {l : Nat} {o : Obj} (hl : w.heap[l]? = some o) (ho : o.isCells = false) (o' : Obj) : d.R e (w.putObj l o') base ok v xs :=
  Kd.R_mono (Kd.R_step (Kd.R_bound h) (fun k hk _ => by
    obtain ⟨_, _, _, q, _, cells, hc⟩ := hk
    refine World.putObj_heap_other (fun e => ?_)
    subst e
    rw [hl] at hc
    cases hc
    cases ho)) (fun k hk => hk.1)
theorem results_two {P : Program} {fn : Func} {p q : Tmp} {tS tE : TypeId} (h : fn.results = #[.cell p tS, .cell q tE]) (tmps : Array Value) (w : World) (g g2 : Nat) (cs : Array Value) (v : Int) (hp : tmps.getD p undef = .pointer (some ⟨g, 0, none⟩)) (hq : tmps.getD q undef = .pointer (some ⟨g2, 0, none⟩))
    (hg2 : w.heap[g2]? = some (.cells #[.int .i64 v] tE (0, 0))) (h1 : (loadVar tS ⟨g, 0, none⟩).run P w = .ok (.agg cs) w) (hu2 : P.underlying tE = some (.int .i64)) :
    (results fn tmps).run P w = .ok (.tuple #[.agg cs, .int .i64 v]) w := by
  have hp' : tmps[p]?.getD undef = .pointer (some ⟨g, 0, none⟩) := by simpa using hp
  have hq' : tmps[q]?.getD undef = .pointer (some ⟨g2, 0, none⟩) := by simpa using hq
  have hc : w.cell? ⟨g2, 0, none⟩ = some (.int .i64 v) := (blk_cell hg2 0).trans rfl
  have hagg : (isAgg tE).run P w = .ok false w := by
    unfold isAgg
    rw [Sem.run_bind, run_underlying hu2 w]
    simp
  have h2 : (loadVar tE ⟨g2, 0, none⟩).run P w = .ok (.int .i64 v) w := by simp [loadVar, Sem.run_bind, hagg, go_sem, hc, Result.andThen]
  generalize hL1 : loadVar tS ⟨g, 0, none⟩ = L1 at h1
  generalize hL2 : loadVar tE ⟨g2, 0, none⟩ = L2 at h2
  simp [results, h, Sem.run_bind, hp', hq', asAddr, Result.andThen, hL1, hL2, h1, h2]
theorem size_cell (W : World) (p : Addr) (u : Value) : (W.setCell p u).heap.size = W.heap.size := by simp [World.setCell]
theorem below_cell {n B i : Nat} (W : World) (u : Value) (h : n ≤ B) : Below n W (W.setCell ⟨B, i, none⟩ u) := ⟨rfl, rfl, rfl, by rw [size_cell]; exact Nat.le_refl _, fun k hk => Below.heap_setCell _ _ _ _ (by intro e; simp at e; omega)⟩
theorem store_stmt {W : World} {B C : Nat} {t s : TypeId} {x0 x1 x2 x3 x4 y : Value} (hne : B ≠ C) (hs : W.heap[B]? = some (.cells #[x0, x1, x2, x3, x4] t (0, 0))) (he : W.heap[C]? = some (.cells #[y] s (0, 0))) (u0 u1 u2 u3 u4 v : Value) {W' : World}
    (hW : ((((((W.setCell ⟨B, 0, none⟩ u0).setCell ⟨B, 1, none⟩ u1).setCell ⟨B, 2, none⟩ u2).setCell ⟨B, 3, none⟩ u3).setCell ⟨B, 4, none⟩ u4).setCell ⟨C, 0, none⟩ v) = W') :
    W'.heap[B]? = some (.cells #[u0, u1, u2, u3, u4] t (0, 0)) ∧ W'.heap[C]? = some (.cells #[v] s (0, 0)) ∧ W'.heap.size = W.heap.size ∧ (∀ k, k ≠ B → k ≠ C → W'.heap[k]? = W.heap[k]?) ∧ (∀ n, n ≤ B → n ≤ C → Below n W W') := by
  subst hW
  have h0 := blk_put hs 0 u0 (cs' := #[u0, x1, x2, x3, x4]) rfl
  have h1 := blk_put h0 1 u1 (cs' := #[u0, u1, x2, x3, x4]) rfl
  have h2 := blk_put h1 2 u2 (cs' := #[u0, u1, u2, x3, x4]) rfl
  have h3 := blk_put h2 3 u3 (cs' := #[u0, u1, u2, u3, x4]) rfl
  have h4 := blk_put h3 4 u4 (cs' := #[u0, u1, u2, u3, u4]) rfl
  have k0 := blk_far he (p := ⟨B, 0, none⟩) (Ne.symm hne) u0
  have k1 := blk_far k0 (p := ⟨B, 1, none⟩) (Ne.symm hne) u1
  have k2 := blk_far k1 (p := ⟨B, 2, none⟩) (Ne.symm hne) u2
  have k3 := blk_far k2 (p := ⟨B, 3, none⟩) (Ne.symm hne) u3
  have k4 := blk_far k3 (p := ⟨B, 4, none⟩) (Ne.symm hne) u4
  have hk : ∀ k, k ≠ B → k ≠ C → ((((((W.setCell ⟨B, 0, none⟩ u0).setCell ⟨B, 1, none⟩ u1).setCell ⟨B, 2, none⟩ u2).setCell ⟨B, 3, none⟩ u3).setCell ⟨B, 4, none⟩ u4).setCell ⟨C, 0, none⟩ v).heap[k]? = W.heap[k]? := fun k h1 h2 => by
    rw [Below.heap_setCell _ _ _ _ h2, Below.heap_setCell _ _ _ _ h1, Below.heap_setCell _ _ _ _ h1, Below.heap_setCell _ _ _ _ h1, Below.heap_setCell _ _ _ _ h1, Below.heap_setCell _ _ _ _ h1]
  have hsz : ((((((W.setCell ⟨B, 0, none⟩ u0).setCell ⟨B, 1, none⟩ u1).setCell ⟨B, 2, none⟩ u2).setCell ⟨B, 3, none⟩ u3).setCell ⟨B, 4, none⟩ u4).setCell ⟨C, 0, none⟩ v).heap.size = W.heap.size := by simp only [size_cell]
  exact ⟨blk_far h4 hne v, blk_put k4 0 v rfl, hsz, hk, fun n h1 h2 => (((((below_cell W u0 h1).trans (below_cell _ u1 h1)).trans (below_cell _ u2 h1)).trans (below_cell _ u3 h1)).trans (below_cell _ u4 h1)).trans (below_cell _ v h2)⟩
theorem stop_none {α : Type} {p : α → Bool} : ∀ (its pre : List α), stopAt (fun _ x => !p x) pre its = none → its.find? p = none
  | [], _, _ => rfl
  | x :: r, pre, h => by
    rw [stopAt] at h
    cases hp : p x with
    | true => simp [hp] at h
    | false =>
      simp [hp] at h
      rw [List.find?_cons, hp]
      exact stop_none r _ h
theorem find_at {α : Type} {p : α → Bool} {x : α} (hx : p x = true) : ∀ (pre its : List α), (∀ y ∈ pre, p y = false) → (pre ++ [x]) <+: its → its.find? p = some x
  | [], its, _, h => by
    obtain ⟨t, rfl⟩ := h
    simp [hx]
  | y :: r, its, hy, h => by
    obtain ⟨t, rfl⟩ := h
    have h1 := hy y (by simp)
    simp only [List.cons_append, List.find?_cons, h1]
    exact find_at hx r _ (fun z hz => hy z (by simp [hz])) ⟨t, rfl⟩
def prog_At.pick (k : Nat) (its : List (Int × S47)) (a1 : Int) : Option (Int × Int × List S96 × List S47 × List S47 × Int) :=
  match its.find? (fun x => decide (x.1 = a1)) with
  | some x => (prog_Copied.f k x.2.f0 x.2.f1 x.2.f2 x.2.f3 x.2.f4).bind fun r => some (r.1, r.2.1, r.2.2.1, r.2.2.2.1, r.2.2.2.2, 0)
  | none => some (0, 0, [], [], [], 1)
def prog_At.f (k : Nat) (a0_0 : Int) (l0_1 : List S82) (l0_2 : List S47) (a1 : Int) : Option (Int × Int × List S96 × List S47 × List S47 × Int) :=
  (prog_Check.f k a0_0 l0_1 l0_2).bind fun t => if t = 0 then (prog_walk.f k l0_2 0).bind fun its => prog_At.pick k its.1 a1 else some (0, 0, [], [], [], 30)
theorem prog_At.calls (k : Nat) (a0_0 : Int) (A0_1 : Option Addr) (c0_1 : Nat) (l0_1 : List S82) (A0_2 : Option Addr) (c0_2 : Nat) (l0_2 : List S47) (a1 : Int) (r1 r2 : Int) (r3 : List S96) (r4 r5 : List S47) (r6 : Int) (w : World)
    (hr0_1 : Kd.C k82 w A0_1 l0_1.length l0_1) (hc0_1 : l0_1.length ≤ c0_1) (hr0_2 : Kd.C k47 w A0_2 l0_2.length l0_2) (hc0_2 : l0_2.length ≤ c0_2) (h : prog_At.f k a0_0 l0_1 l0_2 a1 = some (r1, r2, r3, r4, r5, r6)) :
    Calls Try.prog 25 #[.agg #[.int .i64 a0_0, .slice A0_1 l0_1.length c0_1, .slice A0_2 l0_2.length c0_2], .int .i64 a1] w fun e w' => ∃ v3_ v4_ v5_ : Value, e = .returned (.tuple #[.agg #[.int .i64 r1, .int .i64 r2, v3_, v4_, v5_], .int .i64 r6]) ∧
      Kd.R k96 96 w' w.heap.size (fun _ => True) v3_ r3 ∧ Kd.R k47 47 w' w.heap.size (fun k_ => some k_ ≠ (v3_ : Value).ownBlock ∧ some k_ ≠ (v5_ : Value).ownBlock) v4_ r4 ∧ Kd.R k47 47 w' w.heap.size (fun k_ => some k_ ≠ (v3_ : Value).ownBlock ∧ some k_ ≠ (v4_ : Value).ownBlock) v5_ r5 ∧ Below w.heap.size w w' := by
  refine callsIn_wide.1 (?_ : CallsIn Fence.wide 9 _ _ _ _ _)
  have huP := Try.underlying25
  have huS := Try.underlying47
  have huE := Try.underlying29
  refine callsIn_of_wp_marks Try.func25 rfl trivial ?_ rfl
  simp only [Try.ntmps25, List.size_toArray, List.length_cons, List.length_nil, Nat.reduceAdd, Nat.reduceSub, Array.replicate_succ, Array.replicate_zero, List.push_toArray, List.append_toArray, List.nil_append, List.cons_append]
  unfold prog_At.f at h
  obtain ⟨tc, AC0, h⟩ := Option.bind_eq_some_iff.mp h
  have HR1 := Aside0.mk hr0_1
  have HC1 := Aside0.mk hc0_1
  have HR2 := Aside0.mk hr0_2
  have HC2 := Aside0.mk hc0_2
  have AC := Aside0.mk AC0
  have H := Aside0.mk h
  clear hr0_1 hc0_1 hr0_2 hc0_2 h AC0
  have FB := four_boxes w (.cells #[.int .i64 a0_0, .slice A0_1 l0_1.length c0_1, .slice A0_2 l0_2.length c0_2] 25) (.cells #[.int .i64 a1] 3) (.cells #[.int .i64 0, .int .i64 0, .slice none 0 0, .slice none 0 0, .slice none 0 0] 47) (.cells #[.int .i64 0] 29)
  gi_wp2
  generalize ((((w.alloc (.cells #[.int .i64 a0_0, .slice A0_1 l0_1.length c0_1, .slice A0_2 l0_2.length c0_2] 25)).alloc (.cells #[.int .i64 a1] 3)).alloc (.cells #[.int .i64 0, .int .i64 0, .slice none 0 0, .slice none 0 0, .slice none 0 0] 47)).alloc (.cells #[.int .i64 0] 29)) = W1 at FB ⊢
  obtain ⟨b1, p1, n1, s1, e1⟩ := FB
  refine ⟨trivial, ?_⟩
  refine (callsIn_wide.2 (prog_Check.calls k a0_0 _ _ l0_1 _ _ l0_2 tc W1 (Kd.C_below HR1.out b1) HC1.out (Kd.C_below HR2.out b1) HC2.out AC.out)).mono ?_
  rintro e W2 ⟨rfl, hb2⟩
  have b2 := b1.trans (hb2.mono b1.size)
  have p2 := (hb2.block _ (blk_lt p1)).trans p1
  have n2 := (hb2.block _ (blk_lt n1)).trans n1
  have s2 := (hb2.block _ (blk_lt s1)).trans s1
  have e2 := (hb2.block _ (blk_lt e1)).trans e1
  clear p1 n1 s1 e1 hb2 AC b1
  by_cases htc : tc = 0
  case neg =>
    have h := H.out
    rw [if_neg htc] at h
    obtain ⟨rfl, rfl, rfl, rfl, rfl, rfl⟩ : r1 = 0 ∧ r2 = 0 ∧ r3 = [] ∧ r4 = [] ∧ r5 = [] ∧ r6 = 30 := by
      injection (Option.some.inj h) with e1 e2; injection e2 with e2 e3; injection e3 with e3 e4; injection e4 with e4 e5; injection e5 with e5 e6
      exact ⟨e1.symm, e2.symm, e3.symm, e4.symm, e5.symm, e6.symm⟩
    clear h H
    have g1 : (tc == 0) = false := beq_eq_false_iff_ne.mpr htc
    have g2 : (tc != 0) = true := bne_iff_ne.mpr htc
    obtain ⟨c0, c1, c2, c3, c4⟩ := cells5 s2
    have d0 : W2.cell? ⟨w.heap.size + 1 + 1 + 1, 0, none⟩ = some (.int .i64 0) := (blk_cell e2 0).trans rfl
    have f0 := blk_frozen s2 0
    have f1 := blk_frozen s2 1
    have f2 := blk_frozen s2 2
    have f3 := blk_frozen s2 3
    have f4 := blk_frozen s2 4
    have f5 := blk_frozen e2 0
    gi_wp2
    generalize hW : ((((((W2.setCell ⟨w.heap.size + 1 + 1, 0, none⟩ (.int .i64 0)).setCell ⟨w.heap.size + 1 + 1, 1, none⟩ (.int .i64 0)).setCell ⟨w.heap.size + 1 + 1, 2, none⟩ (.slice none 0 0)).setCell ⟨w.heap.size + 1 + 1, 3, none⟩ (.slice none 0 0)).setCell ⟨w.heap.size + 1 + 1, 4, none⟩ (.slice none 0 0)).setCell ⟨w.heap.size + 1 + 1 + 1, 0, none⟩ (.int .i64 30)) = W3
    obtain ⟨t1, t2, _, _, t5⟩ := store_stmt (by omega) s2 e2 _ _ _ _ _ _ hW
    exact ⟨_, results_two rfl _ _ (w.heap.size + 1 + 1) (w.heap.size + 1 + 1 + 1) _ 30 rfl rfl t2 (run_loadVar_row _ _ _ _ _ _ _ t1 huS rfl rfl) huE, _, _, _, rfl, Kd.R_nil _ _ _ _ _, Kd.R_nil _ _ _ _ _, Kd.R_nil _ _ _ _ _, b2.trans (t5 _ (by omega) (by omega))⟩
  case pos =>
    subst htc
    have h := H.out
    rw [if_pos rfl] at h
    obtain ⟨⟨its, n'⟩, WK0, h⟩ := Option.bind_eq_some_iff.mp h
    have WK := Aside0.mk WK0
    have PK := Aside0.mk h
    clear H h WK0
    obtain ⟨c0, c1, c2⟩ := cells3 p2
    gi_wp2_with (first | (refine ⟨trivial, ?_⟩; refine (callsIn_wide.2 (prog_each.fn _ _ _ W2)).mono ?_; rintro e W3 ⟨rfl, hb3, q3⟩))
    have b3 := b2.trans (hb3.mono b2.size)
    have p3 := (hb3.block _ (blk_lt p2)).trans p2
    have n3 := (hb3.block _ (blk_lt n2)).trans n2
    have s3 := (hb3.block _ (blk_lt s2)).trans s2
    have e3 := (hb3.block _ (blk_lt e2)).trans e2
    clear c0 c1 c2 p2 n2 s2 e2
    have hcell : W3.cell? ⟨W2.heap.size, 2, none⟩ = some (.slice A0_2 l0_2.length c0_2) := (blk_cell q3 2).trans rfl
    refine wpIn_rangeBy (gf := 76) (lb := #[.pointer (some ⟨W2.heap.size, 0, none⟩)]) rfl (enters_of Try.func76 (by kernel_rfl) rfl)
      (prog_each.seq W3 W2.heap.size A0_2 c0_2 l0_2 its n' k hcell (Kd.C_below HR2.out b3) HC2.out WK.out) (Below.refl _ _) (by rintro x av ⟨v, rfl, _⟩; rfl)
      (fun _ x => !decide (x.1 = a1))
      (fun pre W => Below W3.heap.size W3 W ∧ ∀ y ∈ pre, decide (y.1 = a1) = false)
      (fun c _ W => c = .ret ∧ ∃ v3 v4 v5 : Value, W.heap[w.heap.size + 1 + 1]? = some (.cells #[.int .i64 r1, .int .i64 r2, v3, v4, v5] 47 (0, 0)) ∧ W.heap[w.heap.size + 1 + 1 + 1]? = some (.cells #[.int .i64 r6] 29 (0, 0)) ∧
        Kd.R k96 96 W w.heap.size (fun _ => True) v3 r3 ∧ Kd.R k47 47 W w.heap.size (fun k_ => some k_ ≠ (v3 : Value).ownBlock ∧ some k_ ≠ (v5 : Value).ownBlock) v4 r4 ∧ Kd.R k47 47 W w.heap.size (fun k_ => some k_ ≠ (v3 : Value).ownBlock ∧ some k_ ≠ (v4 : Value).ownBlock) v5 r5 ∧ Below w.heap.size w W)
      (fun pre A B h hb => ⟨h.1.trans hb, h.2⟩) ?hIx ⟨Below.refl _ _, by simp⟩ ?round ?done ?stop
    case hIx =>
      rintro c pre A j o o' hj ⟨hc, v3, v4, v5, h1, h2, o3, o4, o5, hb⟩ hA ho
      have ne : ∀ {k : Nat} {cs : Array Value} {t : TypeId}, A.heap[k]? = some (.cells cs t (0, 0)) → k ≠ j := by
        intro k cs t hk e
        subst e
        rw [hA] at hk
        cases hk
        cases ho
      have hS3 := b3.size
      exact ⟨hc, v3, v4, v5, (World.putObj_heap_other (ne h1)).trans h1, (World.putObj_heap_other (ne h2)).trans h2, R_put o3 hA ho o', R_put o4 hA ho o', R_put o5 hA ho o', hb.trans (below_put _ _ _ (by omega))⟩
    case done =>
      rintro W hst ⟨hbW, _⟩ _ hD
      have hf := stop_none (p := fun y : Int × S47 => decide (y.1 = a1)) _ _ hst
      have hpk := PK.out
      unfold prog_At.pick at hpk
      rw [hf] at hpk
      obtain ⟨rfl, rfl, rfl, rfl, rfl, rfl⟩ : r1 = 0 ∧ r2 = 0 ∧ r3 = [] ∧ r4 = [] ∧ r5 = [] ∧ r6 = 1 := by
        injection (Option.some.inj hpk) with e1 e2; injection e2 with e2 e3; injection e3 with e3 e4; injection e4 with e4 e5; injection e5 with e5 e6
        exact ⟨e1.symm, e2.symm, e3.symm, e4.symm, e5.symm, e6.symm⟩
      clear hpk PK
      have hB3 := blk_lt e3
      have hS3 := b3.size
      have s4 := (hbW.block _ (blk_lt s3)).trans s3
      have e4 := (hbW.block _ (blk_lt e3)).trans e3
      obtain ⟨c0, c1, c2, c3, c4⟩ := cells5 s4
      have d0 : W.cell? ⟨w.heap.size + 1 + 1 + 1, 0, none⟩ = some (.int .i64 0) := (blk_cell e4 0).trans rfl
      have f0 := blk_frozen s4 0
      have f1 := blk_frozen s4 1
      have f2 := blk_frozen s4 2
      have f3 := blk_frozen s4 3
      have f4 := blk_frozen s4 4
      have f5 := blk_frozen e4 0
      gi_wp2
      generalize hW : ((((((W.setCell ⟨w.heap.size + 1 + 1, 0, none⟩ (.int .i64 0)).setCell ⟨w.heap.size + 1 + 1, 1, none⟩ (.int .i64 0)).setCell ⟨w.heap.size + 1 + 1, 2, none⟩ (.slice none 0 0)).setCell ⟨w.heap.size + 1 + 1, 3, none⟩ (.slice none 0 0)).setCell ⟨w.heap.size + 1 + 1, 4, none⟩ (.slice none 0 0)).setCell ⟨w.heap.size + 1 + 1 + 1, 0, none⟩ (.int .i64 1)) = W6
      obtain ⟨t1, t2, _, t4, t5⟩ := store_stmt (by omega) s4 e4 _ _ _ _ _ _ hW
      refine ⟨by simp, .inl ⟨_, _, rfl, run_takeDeferred ((t4 _ (by omega) (by omega)).trans hD), ?_⟩⟩
      refine ⟨_, results_two rfl _ _ (w.heap.size + 1 + 1) (w.heap.size + 1 + 1 + 1) _ 1 rfl rfl ((World.putObj_heap_other (by omega)).trans t2) (run_loadVar_row _ _ _ _ _ _ _ ((World.putObj_heap_other (by omega)).trans t1) huS rfl rfl) huE, _, _, _, rfl, Kd.R_nil _ _ _ _ _, Kd.R_nil _ _ _ _ _, Kd.R_nil _ _ _ _ _, ?_⟩
      exact b3.trans ((hbW.mono hS3).trans ((t5 _ (by omega) (by omega)).trans (below_put _ _ _ hS3)))
    case stop =>
      rintro c q W hst ⟨rfl, v3, v4, v5, t1, t2, o3, o4, o5, hb⟩ hD
      have hB3 := blk_lt e3
      have hS3 := b3.size
      gi_wp2
      refine ⟨by simp, .inl ⟨_, _, rfl, run_takeDeferred hD, ?_⟩⟩
      exact ⟨_, results_two rfl _ _ (w.heap.size + 1 + 1) (w.heap.size + 1 + 1 + 1) _ r6 rfl rfl ((World.putObj_heap_other (by omega)).trans t2) (run_loadVar_row _ _ _ _ _ _ _ ((World.putObj_heap_other (by omega)).trans t1) huS rfl rfl) huE, _, _, _, rfl, R_put o3 hD rfl _, R_put o4 hD rfl _, R_put o5 hD rfl _, hb.trans (below_put _ _ _ hS3)⟩
    case round =>
      rintro l pre x av W ⟨hbW, hy⟩ ⟨v, rfl, hv⟩ hpre _ hsz
      obtain ⟨A2, z2, A3, z3, A4, z4, rfl, ql2, qr2, ql3, qr3, ql4, qr4⟩ := hv
      gi_wp2
      refine ⟨World.grownBy_alloc _ _ _, ?_⟩
      intro W4 hg4 hs4 hi4 hb4
      have x4 : W4.heap[W.heap.size]? = some (.cells #[.int .i64 x.2.f0, .int .i64 x.2.f1, .slice A2 x.2.f2.length z2, .slice A3 x.2.f3.length z3, .slice A4 x.2.f4.length z4] 47 (0, 0)) :=
        (hg4.block W.heap.size (by simp) (by intro e; injection e with e; omega)).trans (heap_alloc_new _ _)
      have n4 := (hi4.1.block _ (blk_lt n3)).trans n3
      have s4 := (hi4.1.block _ (blk_lt s3)).trans s3
      have e4 := (hi4.1.block _ (blk_lt e3)).trans e3
      have hn : W4.cell? ⟨w.heap.size + 1, 0, none⟩ = some (.int .i64 a1) := (blk_cell n4 0).trans rfl
      obtain ⟨m0, m1, m2, m3, m4⟩ := cells5 x4
      have hsW : W4.heap.size = W.heap.size + 1 := by rw [hs4]; simp
      by_cases hxa : x.1 = a1
      case neg =>
        have hxd : decide (x.1 = a1) = false := decide_eq_false hxa
        gi_wp2
        refine ⟨by simp [hxd], Nat.le_refl _, fun k _ _ => rfl, hb4, hi4.1, fun y hy' => ?_⟩
        rcases List.mem_append.1 hy' with h | h
        · exact hy y h
        · obtain rfl : y = x := by simpa using h
          exact hxd
      case pos =>
        have hxd : decide (x.1 = a1) = true := decide_eq_true hxa
        have hf := find_at (p := fun y : Int × S47 => decide (y.1 = a1)) (x := x) hxd pre its hy hpre
        have hpk := PK.out
        unfold prog_At.pick at hpk
        rw [hf] at hpk
        obtain ⟨⟨y1, y2, y3, y4, y5⟩, CP, hpk⟩ := Option.bind_eq_some_iff.mp hpk
        obtain ⟨rfl, rfl, rfl, rfl, rfl, rfl⟩ : r1 = y1 ∧ r2 = y2 ∧ r3 = y3 ∧ r4 = y4 ∧ r5 = y5 ∧ r6 = 0 := by
          injection (Option.some.inj hpk) with e1 e2; injection e2 with e2 e3; injection e3 with e3 e4; injection e4 with e4 e5; injection e5 with e5 e6
          exact ⟨e1.symm, e2.symm, e3.symm, e4.symm, e5.symm, e6.symm⟩
        have hB3 := blk_lt e3
        have hS3 := b3.size
        have hs34 := hb4.size
        gi_wp2_with (first | (refine ⟨trivial, ?_⟩; refine CallsIn.inRound l ((callsIn_wide.2 (prog_Copied.calls k x.2.f0 x.2.f1 A2 z2 x.2.f2 A3 z3 x.2.f3 A4 z4 x.2.f4 _ _ _ _ _ W4 (Kd.C_below qr2 hb4) ql2 (Kd.C_below qr3 hb4) ql3 (Kd.C_below qr4 hb4) ql4 CP)).mono ?_); rintro e W5 ⟨v3, v4, v5, rfl, o3, o4, o5, hb5⟩; obtain ⟨D3, d3, ev3⟩ := Kd.R_slice o3; obtain ⟨D4, d4, ev4⟩ := Kd.R_slice o4; obtain ⟨D5, d5, ev5⟩ := Kd.R_slice o5; subst ev3 ev4 ev5; have s5 := (hb5.block _ (blk_lt s4)).trans s4; have e5 := (hb5.block _ (blk_lt e4)).trans e4; obtain ⟨c0, c1, c2, c3, c4⟩ := cells5 s5; have d0 : W5.cell? ⟨w.heap.size + 1 + 1 + 1, 0, none⟩ = some (.int .i64 0) := (blk_cell e5 0).trans rfl; have f0 := blk_frozen s5 0; have f1 := blk_frozen s5 1; have f2 := blk_frozen s5 2; have f3 := blk_frozen s5 3; have f4 := blk_frozen s5 4; have f5 := blk_frozen e5 0))
        generalize hW : ((((((W5.setCell ⟨w.heap.size + 1 + 1, 0, none⟩ (.int .i64 r1)).setCell ⟨w.heap.size + 1 + 1, 1, none⟩ (.int .i64 r2)).setCell ⟨w.heap.size + 1 + 1, 2, none⟩ (.slice D3 r3.length d3)).setCell ⟨w.heap.size + 1 + 1, 3, none⟩ (.slice D4 r4.length d4)).setCell ⟨w.heap.size + 1 + 1, 4, none⟩ (.slice D5 r5.length d5)).setCell ⟨w.heap.size + 1 + 1 + 1, 0, none⟩ (.int .i64 0)) = W6
        obtain ⟨t1, t2, _, t4, t5⟩ := store_stmt (by omega) s5 e5 _ _ _ _ _ _ hW
        have mv : ∀ {α : Type} {d : Kd α} {e : Nat} {ok : Nat → Prop} {v : Value} {xs : List α}, d.R e W5 W4.heap.size ok v xs → d.R e W6 w.heap.size ok v xs := fun h =>
          Kd.R_lower (Kd.R_mono (Kd.R_step (Kd.R_bound h) (fun k hk _ => t4 k (by have := hk.2.1; omega) (by have := hk.2.1; omega))) (fun k hk => hk.1)) (by omega)
        refine ⟨by simp [hxd], fun k h1 h2 => (t4 k (by omega) (by omega)).trans (hb5.block k (by omega)), rfl, _, _, _, t1, t2, mv o3, mv o4, mv o5, ?_⟩
        exact b3.trans ((hb4.mono hS3).trans ((hb5.mono (by omega)).trans (t5 _ (by omega) (by omega))))
end Go.Proofs.Ytffcpbgbhkbplaa.Print
namespace Go.Proofs.Ytffcpbgbhkbplaa.Print
open Go.RowKit Go.Proofs.YtffcpbgbhkbplaaW.PrintWords Go.Proofs.YtffcpbgbhkbplaaW.PrintLast Go.Proofs.YtffcpbgbhkbplaaW.PrintMore
attribute [local go_sem] max2_int min2_int max_two min_two max_three min_three max_four min_four
set_option linter.unusedVariables false
set_option linter.unusedSimpArgs false
mutual
def prog_size.l0 : Nat → Int → List (S47) → Int → Int → Option (Int)
 | 0, _, _, _, _ => none
 | k + 1, x3, x6, x7, x8 => if x8 < x7 then (if 0 ≤ x8 then (if x8 < (x6.length : Int) then ((prog_size.f k ((rd_T47 x6 x8).f3)).bind fun t212 => ((prog_size.f k ((rd_T47 x6 x8).f4)).bind fun t213 => (prog_size.l0 k (wrap64 (x3 + (wrap64 ((wrap64 (1 + t212)) + t213)))) x6 x7 (wrap64 (x8 + 1))))) else (none)) else (none)) else (some x3)
def prog_size.f : Nat → List (S47) → Option (Int)
 | 0, _ => none
 | k + 1, l0 => prog_size.l0 k 0 l0 (l0.length : Int) 0
end
def prog_size.T5 : Bool × List (List Nat × List Nat) := (true, [([], []), ([], []), ([1], [1]), ([2], [2]), ([3], [3]), ([], []), ([5], [5]), ([6, 3], [6]), ([4, 7], [4, 7]), ([0, 8], [0, 8]), ([9, 7, 0, 1, 2, 3, 4, 5, 6, 7, 8, 9], [0, 9])])
def prog_size.B5 : List Nat := [0, 0, 2, 6, 14, 0, 32, 110, 254, 511, 1023]
theorem prog_size.tab5 : rtab .any (opsOf Try.f56 5) = prog_size.T5 := by kernel_rfl
theorem prog_size.bits5 : waitsOk prog_size.T5.2 prog_size.B5 = true := by kernel_rfl
theorem prog_size.calls (k : Nat) : ∀ (A0 : Option Addr) (c0 : Nat) (l0 : List (S47)) (r : Int) (w : World) (hr0 : Kd.C k47 w A0 l0.length l0) (hc0 : l0.length ≤ c0) (h : prog_size.f k l0 = some r),
  Calls Try.prog 56 #[.slice A0 l0.length c0] w fun e w' => e = .returned (.int .i64 r) ∧ Below w.heap.size w w' := by
 induction k using Nat.strongRecOn with
 | _ k ih =>
 intro A0 c0 l0 r w hr0 hc0 h
 cases k with
 | zero => exact absurd h (by simp [prog_size.f])
 | succ k =>
 simp only [prog_size.f] at h
 have hu47 := Try.underlying47
 have HR0 := Aside0.mk hr0
 have HC0 := Aside0.mk hc0
 clear hr0 hc0
 have HB := Aside0.mk (Below.refl w.heap.size w)
 have H : (prog_size.l0 k 0 l0 (l0.length : Int) 0) = some r := h
 clear h
 have H' := Aside0.mk H
 clear H
 go_enter Try.func56, Try.ntmps56
 go_wp2
 go_loopg [3, 8] k (fun kq v3 v8 w' => ∃ (x3_1 : Int) (x8_1 : Int), v3 = .int .i64 x3_1 ∧ v8 = .int .i64 x8_1 ∧ Aside0 (prog_size.l0 kq x3_1 l0 (l0.length : Int) x8_1 = some r) ∧ Aside0 (kq ≤ k) ∧ Aside0 (Below w.heap.size w w'))
 case atStart => exact ⟨(0), (0), rs, rs, H', ⟨Nat.le_refl _⟩, ⟨bb HB⟩⟩
 case round =>
  clear H'
  obtain ⟨x3_1, x8_1, rfl, rfl, HA, HK1, HB⟩ := hrel
  cases gk with
  | zero => exact absurd HA.out (by simp [prog_size.l0])
  | succ k1 =>
   have H := HA.out
   clear HA
   simp only [prog_size.l0] at H
   by_cases c2 : x8_1 < (l0.length : Int)
   rotate_left
   ·rw [if_neg c2] at H
    have c2b0 : decide (x8_1 < (l0.length : Int)) = false := decide_eq_false c2
    clear c2
    obtain rfl := Option.some.inj H
    go_wp2
    go_ret
    exact ⟨rr, bb HB⟩
   rw [if_pos c2] at H
   have c2b0 : decide (x8_1 < (l0.length : Int)) = true := decide_eq_true c2
   clear c2
   by_cases c3 : 0 ≤ x8_1
   rotate_left
   ·rw [if_neg c3] at H
    exact absurd H (by simp)
   rw [if_pos c3] at H
   have c3b0 : decide (0 ≤ x8_1) = true := decide_eq_true c3
   clear c3
   by_cases c4 : x8_1 < (l0.length : Int)
   rotate_left
   ·rw [if_neg c4] at H
    exact absurd H (by simp)
   rw [if_pos c4] at H
   have c4b0 : decide (x8_1 < (l0.length : Int)) = true := decide_eq_true c4
   clear c4
   obtain ⟨t212, A5, H⟩ := be H
   obtain ⟨t213, A6, H⟩ := be H
   have H' := Aside0.mk H
   clear H
   have p210 : 0 ≤ (x8_1 : Int) := od
   have q210 : x8_1 < (l0.length : Int) := od
   obtain ⟨ad210, A210_2, c210_2, A210_3, c210_3, A210_4, c210_4, e210, hx210_0, hx210_1, hx210_2, hx210_3, hx210_4, hl210_2, hi210_2, hl210_3, hi210_3, hl210_4, hi210_4⟩ := at_T47 HR0.out x8_1 p210 q210
   cases e210
   replace hx210_0 := bcell HB.out hx210_0
   replace hx210_1 := bcell HB.out hx210_1
   replace hx210_2 := bcell HB.out hx210_2
   replace hx210_3 := bcell HB.out hx210_3
   replace hx210_4 := bcell HB.out hx210_4
   have HR210_2 := Aside0.mk hi210_2
   have HC210_2 := Aside0.mk hl210_2
   clear hi210_2 hl210_2
   have HR210_3 := Aside0.mk hi210_3
   have HC210_3 := Aside0.mk hl210_3
   clear hi210_3 hl210_3
   have HR210_4 := Aside0.mk hi210_4
   have HC210_4 := Aside0.mk hl210_4
   clear hi210_4 hl210_4
   replace p210 := eq_true p210
   replace q210 := eq_true q210
   try go_wp2_with (first | ((with_reducible refine gate_dst (N := 5) rfl ?_); refine bx 5 rfl rfl #[.int .i64 0, .int .i64 0, .slice none 0 0, .slice none 0 0, .slice none 0 0] 47 ?_; intro gb211 hg w7 hbox hb; have BK211 := Aside0.mk (hbox); have GE211 := ge HB hg; replace HB := sb HB hb; clear hb hbox hg; obtain ⟨hcz8_0, hcz8_1, hcz8_2, hcz8_3, hcz8_4, hfz8_0, hfz8_1, hfz8_2, hfz8_3, hfz8_4⟩ := cf5 BK211.out))
   have n0_ : Aside0 ((((((w7.setCell ⟨gb211, 0, none⟩ (.int .i64 ((rd_T47 l0 x8_1).f0))).setCell ⟨gb211, 1, none⟩ (.int .i64 ((rd_T47 l0 x8_1).f1))).setCell ⟨gb211, 2, none⟩ (.slice A210_2 ((rd_T47 l0 x8_1).f2).length c210_2)).setCell ⟨gb211, 3, none⟩ (.slice A210_3 ((rd_T47 l0 x8_1).f3).length c210_3)).setCell ⟨gb211, 4, none⟩ (.slice A210_4 ((rd_T47 l0 x8_1).f4).length c210_4)).heap[gb211]? = some (.cells #[.int .i64 ((rd_T47 l0 x8_1).f0), .int .i64 ((rd_T47 l0 x8_1).f1), .slice A210_2 ((rd_T47 l0 x8_1).f2).length c210_2, .slice A210_3 ((rd_T47 l0 x8_1).f3).length c210_3, .slice A210_4 ((rd_T47 l0 x8_1).f4).length c210_4] 47 (0, 0))) := ⟨by (with_reducible repeat (first | refine kdN ?_ _ | refine kdr ?_ | refine kal ?_ _)); refine blk_put (cs := #[.int .i64 ((rd_T47 l0 x8_1).f0), .int .i64 ((rd_T47 l0 x8_1).f1), .slice A210_2 ((rd_T47 l0 x8_1).f2).length c210_2, .slice A210_3 ((rd_T47 l0 x8_1).f3).length c210_3, .slice none 0 0]) ?_ 4 _ rfl; (with_reducible repeat (first | refine kdN ?_ _ | refine kdr ?_ | refine kal ?_ _)); refine blk_put (cs := #[.int .i64 ((rd_T47 l0 x8_1).f0), .int .i64 ((rd_T47 l0 x8_1).f1), .slice A210_2 ((rd_T47 l0 x8_1).f2).length c210_2, .slice none 0 0, .slice none 0 0]) ?_ 3 _ rfl; (with_reducible repeat (first | refine kdN ?_ _ | refine kdr ?_ | refine kal ?_ _)); refine blk_put (cs := #[.int .i64 ((rd_T47 l0 x8_1).f0), .int .i64 ((rd_T47 l0 x8_1).f1), .slice none 0 0, .slice none 0 0, .slice none 0 0]) ?_ 2 _ rfl; (with_reducible repeat (first | refine kdN ?_ _ | refine kdr ?_ | refine kal ?_ _)); refine blk_put (cs := #[.int .i64 ((rd_T47 l0 x8_1).f0), .int .i64 0, .slice none 0 0, .slice none 0 0, .slice none 0 0]) ?_ 1 _ rfl; (with_reducible repeat (first | refine kdN ?_ _ | refine kdr ?_ | refine kal ?_ _)); refine blk_put (cs := #[.int .i64 0, .int .i64 0, .slice none 0 0, .slice none 0 0, .slice none 0 0]) ?_ 0 _ rfl; (with_reducible repeat (first | refine kdN ?_ _ | refine kdr ?_ | refine kal ?_ _)); exact BK211.out⟩
   have n1_ : Aside0 (Below w.heap.size w (((((w7.setCell ⟨gb211, 0, none⟩ (.int .i64 ((rd_T47 l0 x8_1).f0))).setCell ⟨gb211, 1, none⟩ (.int .i64 ((rd_T47 l0 x8_1).f1))).setCell ⟨gb211, 2, none⟩ (.slice A210_2 ((rd_T47 l0 x8_1).f2).length c210_2)).setCell ⟨gb211, 3, none⟩ (.slice A210_3 ((rd_T47 l0 x8_1).f3).length c210_3)).setCell ⟨gb211, 4, none⟩ (.slice A210_4 ((rd_T47 l0 x8_1).f4).length c210_4))) := ⟨bb HB⟩
   (try clear BK211)
   (try clear HB)
   generalize (((((w7.setCell ⟨gb211, 0, none⟩ (.int .i64 ((rd_T47 l0 x8_1).f0))).setCell ⟨gb211, 1, none⟩ (.int .i64 ((rd_T47 l0 x8_1).f1))).setCell ⟨gb211, 2, none⟩ (.slice A210_2 ((rd_T47 l0 x8_1).f2).length c210_2)).setCell ⟨gb211, 3, none⟩ (.slice A210_3 ((rd_T47 l0 x8_1).f3).length c210_3)).setCell ⟨gb211, 4, none⟩ (.slice A210_4 ((rd_T47 l0 x8_1).f4).length c210_4)) = w9 at n0_ n1_ ⊢
   have BK211 := n0_
   have HB := n1_
   clear n0_ n1_
   replace BK211 := Aside0.mk (kdr BK211.out)
   replace HB := Aside0.mk (bd1 HB.out)
   refine start_ (n := 11) (S := fun w' => w'.cell? ⟨gb211, 0, none⟩ = some (.int .i64 ((rd_T47 l0 x8_1).f0)) ∧ w'.cell? ⟨gb211, 1, none⟩ = some (.int .i64 ((rd_T47 l0 x8_1).f1)) ∧ w'.cell? ⟨gb211, 2, none⟩ = some (.slice A210_2 ((rd_T47 l0 x8_1).f2).length c210_2) ∧ w'.cell? ⟨gb211, 3, none⟩ = some (.slice A210_3 ((rd_T47 l0 x8_1).f3).length c210_3) ∧ w'.cell? ⟨gb211, 4, none⟩ = some (.slice A210_4 ((rd_T47 l0 x8_1).f4).length c210_4)) (ds := []) #[false, false, false, false, false, false, false, false, false, false, false] (by kernel_rfl) rfl rfl ⟨(blk_cell BK211.out 0).trans rfl, (blk_cell BK211.out 1).trans rfl, (blk_cell BK211.out 2).trans rfl, (blk_cell BK211.out 3).trans rfl, (blk_cell BK211.out 4).trans rfl⟩ (fun hHeld => ?_); refine with_tabW prog_size.tab5 prog_size.bits5 (fun HT_ HW_ => ?_)
   generalize w9.drew = w10 at BK211 HB hHeld ⊢
   refine pT 0 12 (bl 11 1) HT_ rfl rfl ?_
   refine pT 1 13 (bl 11 3) HT_ rfl rfl ?_
   refine pT 5 17 (bl 11 35) HT_ rfl rfl ?_
   refine tk (i := 2) (N := some 14) (bl 11 39) rfl rfl (take_ofW HT_.out HW_.out (by kernel_rfl)) hHeld ?_
   refine tk (i := 6) (N := some 18) (bl 11 103) rfl rfl (take_ofW HT_.out HW_.out (by kernel_rfl)) hHeld ?_
   refine one_ (i := 3) (N := some 15) (bl 11 111) rfl rfl (one_of HT_.out (by kernel_rfl)) (by decide) (fun K hK => ?_)
   refine gO Try.func56 #[.slice A210_3 ((rd_T47 l0 x8_1).f3).length c210_3] (by rfl) rfl rfl ?_
   with_reducible refine (ih k1 (by have := HK1.out; omega) _ _ ((rd_T47 l0 x8_1).f3) t212 _ ?side1 ?side2 A5.out).mono ?_
   (case side1 => exact cb HR210_3 HB)
   (case side2 => exact HC210_3.out)
   rintro e w11 ⟨rfl, hb⟩
   refine ⟨_, rfl, ?_⟩
   replace BK211 := kb BK211 hb
   replace HB := sb HB hb
   (try clear hb)
   (try clear hb2)
   (try clear hk)
   (try clear hi)
   refine hK.out _ _ ⟨(blk_cell BK211.out 0).trans rfl, (blk_cell BK211.out 1).trans rfl, (blk_cell BK211.out 2).trans rfl, (blk_cell BK211.out 3).trans rfl, (blk_cell BK211.out 4).trans rfl⟩ (fun hHeld => ?_)
   clear hK K
   refine nm 15 ?_
   refine pT 4 16 (bl 11 127) HT_ rfl rfl ?_
   refine one_ (i := 7) (N := some 19) (bl 11 255) rfl rfl (one_of HT_.out (by kernel_rfl)) (by decide) (fun K hK => ?_)
   refine gO Try.func56 #[.slice A210_4 ((rd_T47 l0 x8_1).f4).length c210_4] (by rfl) rfl rfl ?_
   with_reducible refine (ih k1 (by have := HK1.out; omega) _ _ ((rd_T47 l0 x8_1).f4) t213 _ ?side1 ?side2 A6.out).mono ?_
   (case side1 => exact cb HR210_4 HB)
   (case side2 => exact HC210_4.out)
   rintro e w12 ⟨rfl, hb⟩
   refine ⟨_, rfl, ?_⟩
   replace BK211 := kb BK211 hb
   replace HB := sb HB hb
   (try clear hb)
   (try clear hb2)
   (try clear hk)
   (try clear hi)
   refine hK.out _ _ ⟨(blk_cell BK211.out 0).trans rfl, (blk_cell BK211.out 1).trans rfl, (blk_cell BK211.out 2).trans rfl, (blk_cell BK211.out 3).trans rfl, (blk_cell BK211.out 4).trans rfl⟩ (fun hHeld => ?_)
   clear hK K
   refine nm 19 ?_
   refine pT 8 20 (bl 11 511) HT_ rfl rfl ?_
   refine pT 9 21 (bl 11 1023) HT_ rfl rfl ?_
   refine pT 10 3 (bl 11 2047) HT_ rfl rfl ?_
   refine done_ (done_of HT_.out (by kernel_rfl)) ?_
   try go_wp2
   go_roundg k1
   case measure => have := HK1.out; omega
   case rel => exact ⟨(wrap64 (x3_1 + (wrap64 ((wrap64 (1 + t212)) + t213)))), (wrap64 (x8_1 + 1)), rs, rs, H', ⟨by have := HK1.out; omega⟩, ⟨bb HB⟩⟩
def prog_numbers.l0 : Nat → Int → List Int → List (S47) → Int → Int → Option (List Int)
 | 0, _, _, _, _, _ => none
 | k + 1, x1, x5, x8, x9, x10 => if x10 < x9 then (if 0 ≤ x10 then (if x10 < (x8.length : Int) then (if x5.length < 17592186044416 then ((prog_size.f k ((rd_T47 x8 x10).f3)).bind fun t219 => ((prog_size.f k ((rd_T47 x8 x10).f4)).bind fun t220 => (prog_numbers.l0 k (wrap64 (x1 + (wrap64 ((wrap64 (1 + t219)) + t220)))) (x5 ++ [x1]) x8 x9 (wrap64 (x10 + 1))))) else (none)) else (none)) else (none)) else (some x5)
def prog_numbers.f (k : Nat) (l0 : List (S47)) (a1 : Int) : Option (List Int) := prog_numbers.l0 k a1 ([] : List Int) l0 (l0.length : Int) 0
def prog_numbers.T6 : Bool × List (List Nat × List Nat) := (true, [([], []), ([], []), ([1], [1]), ([2], [2]), ([3], [3]), ([], []), ([5], [5]), ([6, 3], [6]), ([4, 7], [4, 7]), ([0, 8], [0, 8]), ([9, 7, 0, 1, 2, 3, 4, 5, 6, 7, 8, 9], [0, 9])])
def prog_numbers.B6 : List Nat := [0, 0, 2, 6, 14, 0, 32, 110, 254, 511, 1023]
theorem prog_numbers.tab6 : rtab .any (opsOf Try.f55 6) = prog_numbers.T6 := by kernel_rfl
theorem prog_numbers.bits6 : waitsOk prog_numbers.T6.2 prog_numbers.B6 = true := by kernel_rfl
theorem prog_numbers.calls (k : Nat) (A0 : Option Addr) (c0 : Nat) (l0 : List (S47)) (a1 : Int) (r : List Int) (w : World) (hr0 : Kd.C k47 w A0 l0.length l0) (hc0 : l0.length ≤ c0) (h : prog_numbers.f k l0 a1 = some r) :
  Calls Try.prog 55 #[.slice A0 l0.length c0, .int .i64 a1] w fun e w' => ∃ v0_ : Value, e = .returned (v0_) ∧ Kd.R (Kd.int .i64) 3 w' w.heap.size (fun _ => True) v0_ r ∧ Below w.heap.size w w' := by
 have hu47 := Try.underlying47
 have HR0 := Aside0.mk hr0
 have HC0 := Aside0.mk hc0
 clear hr0 hc0
 have HB := Aside0.mk (Below.refl w.heap.size w)
 have H : (prog_numbers.l0 k a1 ([] : List Int) l0 (l0.length : Int) 0) = some r := h
 clear h
 have H' := Aside0.mk H
 clear H
 go_enter Try.func55, Try.ntmps55
 go_wp2
 go_loopg [1, 5, 10] k (fun kq v1 v5 v10 w' => ∃ (x1_1 : Int) (x5_1 : List Int) (x10_1 : Int), v1 = .int .i64 x1_1 ∧ v10 = .int .i64 x10_1 ∧ Aside0 (prog_numbers.l0 kq x1_1 x5_1 l0 (l0.length : Int) x10_1 = some r) ∧ Aside0 (kq ≤ k) ∧ Aside0 (Kd.R (Kd.int .i64) 3 w' w.heap.size (fun _ => True) v5 x5_1) ∧ Aside0 (Below w.heap.size w w'))
 case atStart => exact ⟨(a1), (([] : List Int)), (0), rs, rs, H', ⟨Nat.le_refl _⟩, ⟨by first | exact Kd.R_nil _ _ _ _ _ | exact Kd.N_nil _ _ _ _ _ | exact Kd.V_nil _ _ _ _ _ | exact Kd.Q_nil _ _ _ _ _ | exact Kd.S_nil _ _ _ _ _⟩, ⟨bb HB⟩⟩
 case round =>
  clear H'
  try clear p2
  obtain ⟨x1_1, x5_1, x10_1, rfl, rfl, HA, HK1, HO_5, HB⟩ := hrel
  cases gk with
  | zero => exact absurd HA.out (by simp [prog_numbers.l0])
  | succ k1 =>
   have H := HA.out
   clear HA
   simp only [prog_numbers.l0] at H
   by_cases c3 : x10_1 < (l0.length : Int)
   rotate_left
   ·rw [if_neg c3] at H
    have c3b0 : decide (x10_1 < (l0.length : Int)) = false := decide_eq_false c3
    clear c3
    obtain rfl := Option.some.inj H
    go_wp2
    go_ret
    exact ⟨_, rr, by (with_reducible repeat (first | apply Kd.R_alloc | apply Kd.R_drewN | apply Kd.R_drew)); exact HO_5.out, bb HB⟩
   rw [if_pos c3] at H
   have c3b0 : decide (x10_1 < (l0.length : Int)) = true := decide_eq_true c3
   clear c3
   by_cases c4 : 0 ≤ x10_1
   rotate_left
   ·rw [if_neg c4] at H
    exact absurd H (by simp)
   rw [if_pos c4] at H
   have c4b0 : decide (0 ≤ x10_1) = true := decide_eq_true c4
   clear c4
   by_cases c5 : x10_1 < (l0.length : Int)
   rotate_left
   ·rw [if_neg c5] at H
    exact absurd H (by simp)
   rw [if_pos c5] at H
   have c5b0 : decide (x10_1 < (l0.length : Int)) = true := decide_eq_true c5
   clear c5
   by_cases c6 : x5_1.length < 17592186044416
   rotate_left
   ·rw [if_neg c6] at H
    exact absurd H (by simp)
   rw [if_pos c6] at H
   have LMc6 := Aside0.mk c6
   clear c6
   obtain ⟨y216, hy216⟩ : ∃ y_ : List Int, y_ = (x5_1 ++ [x1_1]) := ⟨_, rfl⟩
   replace H : ((prog_size.f k1 ((rd_T47 l0 x10_1).f3)).bind fun t219 => ((prog_size.f k1 ((rd_T47 l0 x10_1).f4)).bind fun t220 => (prog_numbers.l0 k1 (wrap64 (x1_1 + (wrap64 ((wrap64 (1 + t219)) + t220)))) y216 l0 (l0.length : Int) (wrap64 (x10_1 + 1))))) = some r := by first | (rw [hy216]; with_reducible exact H) | (have H2_ := (Option.bind_some _ _).symm.trans H; rw [hy216]; with_reducible exact H2_) | (have H2_ := (Option.bind_some _ _).symm.trans H; with_reducible exact H2_) | with_reducible exact H | (rw [hy216]; exact H) | exact H
   have Ny216 := Aside0.mk hy216
   clear hy216
   obtain ⟨t219, A7, H⟩ := be H
   obtain ⟨t220, A8, H⟩ := be H
   have H' := Aside0.mk H
   clear H
   have p214 : 0 ≤ (x10_1 : Int) := od
   have q214 : x10_1 < (l0.length : Int) := od
   obtain ⟨ad214, A214_2, c214_2, A214_3, c214_3, A214_4, c214_4, e214, hx214_0, hx214_1, hx214_2, hx214_3, hx214_4, hl214_2, hi214_2, hl214_3, hi214_3, hl214_4, hi214_4⟩ := at_T47 HR0.out x10_1 p214 q214
   cases e214
   replace hx214_0 := bcell HB.out hx214_0
   replace hx214_1 := bcell HB.out hx214_1
   replace hx214_2 := bcell HB.out hx214_2
   replace hx214_3 := bcell HB.out hx214_3
   replace hx214_4 := bcell HB.out hx214_4
   have HR214_2 := Aside0.mk hi214_2
   have HC214_2 := Aside0.mk hl214_2
   clear hi214_2 hl214_2
   have HR214_3 := Aside0.mk hi214_3
   have HC214_3 := Aside0.mk hl214_3
   clear hi214_3 hl214_3
   have HR214_4 := Aside0.mk hi214_4
   have HC214_4 := Aside0.mk hl214_4
   clear hi214_4 hl214_4
   replace p214 := eq_true p214
   replace q214 := eq_true q214
   try go_wp2_with (first | ((with_reducible refine gate_dst (N := 7) rfl ?_); refine bx 7 rfl rfl #[.int .i64 0, .int .i64 0, .slice none 0 0, .slice none 0 0, .slice none 0 0] 47 ?_; intro gb215 hg w9 hbox hb; have BK215 := Aside0.mk (hbox); have GE215 := ge HB hg; replace HO_5 := Aside0.mk (Kd.R_below (iR HO_5) hb); replace HB := sb HB hb; clear hb hbox hg; obtain ⟨hcz10_0, hcz10_1, hcz10_2, hcz10_3, hcz10_4, hfz10_0, hfz10_1, hfz10_2, hfz10_3, hfz10_4⟩ := cf5 BK215.out) | ((with_reducible refine gate_builtin (b := .append) (xs := #[.tmp 14, .tmp 16]) rfl ?_); at_builtin; refine Kd.R_append (Kd.int .i64) (w0 := w) w.heap.size rfl (.tmp 14) (.tmp 16) 26 3 (.int .i64 0) 8 rfl Try.underlying26 info3 rfl (by decide) (by omega) u5 x5_1 x1_1 [.int .i64 x1_1] (fun _ => True) (fun _ => False) rfl (by first | (go_simp; done) | (go_simp; rfl)) ?aP (fun _ hk => hk.elim) ?aF ?aO ?aB ?aS ?aL ?_; (case aP => exact rfl); (case aB => exact (bb HB)); (case aF => exact (fun _ _ => trivial)); (case aO => exact (by (with_reducible repeat (first | apply Kd.R_alloc | apply Kd.R_drewN | apply Kd.R_drew)); exact Kd.R_mono (Kd.R_far (p := ⟨gb215, 4, none⟩) (Kd.R_far (p := ⟨gb215, 3, none⟩) (Kd.R_far (p := ⟨gb215, 2, none⟩) (Kd.R_far (p := ⟨gb215, 1, none⟩) (Kd.R_far (p := ⟨gb215, 0, none⟩) (Kd.R_types HO_5.out BK215.out (by decide)) (fun _ hk => hk.2) (.int .i64 ((rd_T47 l0 x10_1).f0))) (fun _ hk => hk.2) (.int .i64 ((rd_T47 l0 x10_1).f1))) (fun _ hk => hk.2) (.slice A214_2 ((rd_T47 l0 x10_1).f2).length c214_2)) (fun _ hk => hk.2) (.slice A214_3 ((rd_T47 l0 x10_1).f3).length c214_3)) (fun _ hk => hk.2) (.slice A214_4 ((rd_T47 l0 x10_1).f4).length c214_4)) (fun _ hk => trivial))); (case aS => exact (bsz (bb HB))); (case aL => have := LMc6.out; omega); intro v217 w11 ho hb hg hat; rw [← Ny216.out] at ho; have HO218 := Aside0.mk (ho); replace BK215 := Aside0.mk (blk_grown (g := gb215) (o := .cells #[.int .i64 ((rd_T47 l0 x10_1).f0), .int .i64 ((rd_T47 l0 x10_1).f1), .slice A214_2 ((rd_T47 l0 x10_1).f2).length c214_2, .slice A214_3 ((rd_T47 l0 x10_1).f3).length c214_3, .slice A214_4 ((rd_T47 l0 x10_1).f4).length c214_4] 47 (0, 0)) (by (with_reducible repeat (first | refine kdN ?_ _ | refine kdr ?_ | refine kal ?_ _)); refine blk_put (cs := #[.int .i64 ((rd_T47 l0 x10_1).f0), .int .i64 ((rd_T47 l0 x10_1).f1), .slice A214_2 ((rd_T47 l0 x10_1).f2).length c214_2, .slice A214_3 ((rd_T47 l0 x10_1).f3).length c214_3, .slice none 0 0]) ?_ 4 _ rfl; (with_reducible repeat (first | refine kdN ?_ _ | refine kdr ?_ | refine kal ?_ _)); refine blk_put (cs := #[.int .i64 ((rd_T47 l0 x10_1).f0), .int .i64 ((rd_T47 l0 x10_1).f1), .slice A214_2 ((rd_T47 l0 x10_1).f2).length c214_2, .slice none 0 0, .slice none 0 0]) ?_ 3 _ rfl; (with_reducible repeat (first | refine kdN ?_ _ | refine kdr ?_ | refine kal ?_ _)); refine blk_put (cs := #[.int .i64 ((rd_T47 l0 x10_1).f0), .int .i64 ((rd_T47 l0 x10_1).f1), .slice none 0 0, .slice none 0 0, .slice none 0 0]) ?_ 2 _ rfl; (with_reducible repeat (first | refine kdN ?_ _ | refine kdr ?_ | refine kal ?_ _)); refine blk_put (cs := #[.int .i64 ((rd_T47 l0 x10_1).f0), .int .i64 0, .slice none 0 0, .slice none 0 0, .slice none 0 0]) ?_ 1 _ rfl; (with_reducible repeat (first | refine kdN ?_ _ | refine kdr ?_ | refine kal ?_ _)); refine blk_put (cs := #[.int .i64 0, .int .i64 0, .slice none 0 0, .slice none 0 0, .slice none 0 0]) ?_ 0 _ rfl; (with_reducible repeat (first | refine kdN ?_ _ | refine kdr ?_ | refine kal ?_ _)); exact BK215.out) hg (Kd.R_ne HO_5.out BK215.out (by decide))); replace HB := Aside0.mk (hb); clear HO_5; clear ho hb hg hat))
   replace HO218 := Aside0.mk (Kd.R_drew HO218.out)
   replace BK215 := Aside0.mk (kdr BK215.out)
   replace HB := Aside0.mk (bd1 HB.out)
   refine start_ (n := 11) (S := fun w' => w'.cell? ⟨gb215, 0, none⟩ = some (.int .i64 ((rd_T47 l0 x10_1).f0)) ∧ w'.cell? ⟨gb215, 1, none⟩ = some (.int .i64 ((rd_T47 l0 x10_1).f1)) ∧ w'.cell? ⟨gb215, 2, none⟩ = some (.slice A214_2 ((rd_T47 l0 x10_1).f2).length c214_2) ∧ w'.cell? ⟨gb215, 3, none⟩ = some (.slice A214_3 ((rd_T47 l0 x10_1).f3).length c214_3) ∧ w'.cell? ⟨gb215, 4, none⟩ = some (.slice A214_4 ((rd_T47 l0 x10_1).f4).length c214_4)) (ds := []) #[false, false, false, false, false, false, false, false, false, false, false] (by kernel_rfl) rfl rfl ⟨(blk_cell BK215.out 0).trans rfl, (blk_cell BK215.out 1).trans rfl, (blk_cell BK215.out 2).trans rfl, (blk_cell BK215.out 3).trans rfl, (blk_cell BK215.out 4).trans rfl⟩ (fun hHeld => ?_); refine with_tabW prog_numbers.tab6 prog_numbers.bits6 (fun HT_ HW_ => ?_)
   generalize w11.drew = w12 at HO218 BK215 HB hHeld ⊢
   refine pT 0 18 (bl 11 1) HT_ rfl rfl ?_
   refine pT 1 19 (bl 11 3) HT_ rfl rfl ?_
   refine pT 5 23 (bl 11 35) HT_ rfl rfl ?_
   refine tk (i := 2) (N := some 20) (bl 11 39) rfl rfl (take_ofW HT_.out HW_.out (by kernel_rfl)) hHeld ?_
   refine tk (i := 6) (N := some 24) (bl 11 103) rfl rfl (take_ofW HT_.out HW_.out (by kernel_rfl)) hHeld ?_
   refine one_ (i := 3) (N := some 21) (bl 11 111) rfl rfl (one_of HT_.out (by kernel_rfl)) (by decide) (fun K hK => ?_)
   refine gO Try.func56 #[.slice A214_3 ((rd_T47 l0 x10_1).f3).length c214_3] (by rfl) rfl rfl ?_
   with_reducible refine (prog_size.calls k1 _ _ ((rd_T47 l0 x10_1).f3) t219 _ ?side1 ?side2 A7.out).mono ?_
   (case side1 => exact cb HR214_3 HB)
   (case side2 => exact HC214_3.out)
   rintro e w13 ⟨rfl, hb⟩
   refine ⟨_, rfl, ?_⟩
   replace HO218 := Aside0.mk (Kd.R_below (iR HO218) hb)
   replace BK215 := kb BK215 hb
   replace HB := sb HB hb
   (try clear hb)
   (try clear hb2)
   (try clear hk)
   (try clear hi)
   refine hK.out _ _ ⟨(blk_cell BK215.out 0).trans rfl, (blk_cell BK215.out 1).trans rfl, (blk_cell BK215.out 2).trans rfl, (blk_cell BK215.out 3).trans rfl, (blk_cell BK215.out 4).trans rfl⟩ (fun hHeld => ?_)
   clear hK K
   refine nm 21 ?_
   refine pT 4 22 (bl 11 127) HT_ rfl rfl ?_
   refine one_ (i := 7) (N := some 25) (bl 11 255) rfl rfl (one_of HT_.out (by kernel_rfl)) (by decide) (fun K hK => ?_)
   refine gO Try.func56 #[.slice A214_4 ((rd_T47 l0 x10_1).f4).length c214_4] (by rfl) rfl rfl ?_
   with_reducible refine (prog_size.calls k1 _ _ ((rd_T47 l0 x10_1).f4) t220 _ ?side1 ?side2 A8.out).mono ?_
   (case side1 => exact cb HR214_4 HB)
   (case side2 => exact HC214_4.out)
   rintro e w14 ⟨rfl, hb⟩
   refine ⟨_, rfl, ?_⟩
   replace HO218 := Aside0.mk (Kd.R_below (iR HO218) hb)
   replace BK215 := kb BK215 hb
   replace HB := sb HB hb
   (try clear hb)
   (try clear hb2)
   (try clear hk)
   (try clear hi)
   refine hK.out _ _ ⟨(blk_cell BK215.out 0).trans rfl, (blk_cell BK215.out 1).trans rfl, (blk_cell BK215.out 2).trans rfl, (blk_cell BK215.out 3).trans rfl, (blk_cell BK215.out 4).trans rfl⟩ (fun hHeld => ?_)
   clear hK K
   refine nm 25 ?_
   refine pT 8 26 (bl 11 511) HT_ rfl rfl ?_
   refine pT 9 27 (bl 11 1023) HT_ rfl rfl ?_
   refine pT 10 1 (bl 11 2047) HT_ rfl rfl ?_
   refine done_ (done_of HT_.out (by kernel_rfl)) ?_
   try go_wp2
   go_roundg k1
   case measure => have := HK1.out; omega
   case rel => exact ⟨(wrap64 (x1_1 + (wrap64 ((wrap64 (1 + t219)) + t220)))), (y216), (wrap64 (x10_1 + 1)), rs, rs, H', ⟨by have := HK1.out; omega⟩, ⟨by (with_reducible repeat (first | apply Kd.R_alloc | apply Kd.R_drewN | apply Kd.R_drew)); exact HO218.out⟩, ⟨bb HB⟩⟩
def prog_Inside.f (k : Nat) (a0_0 : Int) (l0_1 : List (S82)) (l0_2 : List (S47)) (a1 : Int) : Option (List Int × List Int × Int) := (prog_At.f k a0_0 l0_1 l0_2 a1).bind fun bt222 => (if bt222.2.2.2.2.2 = 0 then ((prog_numbers.f k bt222.2.2.2.1 (wrap64 (a1 + 1))).bind fun t235 => ((prog_size.f k bt222.2.2.2.1).bind fun t238 => ((prog_numbers.f k bt222.2.2.2.2.1 (wrap64 ((wrap64 (a1 + 1)) + t238))).bind fun t239 => (some (t235, t239, 0))))) else (some (([] : List Int), ([] : List Int), bt222.2.2.2.2.2)))
def prog_Inside.T4 : Bool × List (List Nat × List Nat) := (true, [([], []), ([0], [0]), ([], []), ([2], [2]), ([1, 3], [1, 3]), ([], []), ([5], [5]), ([], []), ([7], [7]), ([], []), ([9], [9]), ([10, 4], [10]), ([8, 11], [8, 11]), ([6, 12, 11], [6, 12]), ([4, 13, 0, 1, 2, 3, 4], [4]), ([13, 14, 0, 1, 2, 3, 4, 5, 6, 7, 8, 9, 10, 11, 12, 13, 14], [13]), ([15, 0, 1, 2, 3, 4, 5, 6, 7, 8, 9, 10, 11, 12, 13, 14, 15], [])])
def prog_Inside.B4 : List Nat := [0, 1, 0, 4, 15, 0, 32, 0, 128, 0, 512, 1567, 3999, 8191, 16383, 32767, 65535]
theorem prog_Inside.tab4 : rtab .any (opsOf Try.f26 4) = prog_Inside.T4 := by kernel_rfl
theorem prog_Inside.bits4 : waitsOk prog_Inside.T4.2 prog_Inside.B4 = true := by kernel_rfl
theorem prog_Inside.calls (k : Nat) (a0_0 : Int) (A0_1 : Option Addr) (c0_1 : Nat) (l0_1 : List (S82)) (A0_2 : Option Addr) (c0_2 : Nat) (l0_2 : List (S47)) (a1 : Int) (r1 : List Int) (r2 : List Int) (r3 : Int) (w : World) (hr0_1 : Kd.C k82 w A0_1 l0_1.length l0_1) (hc0_1 : l0_1.length ≤ c0_1) (hr0_2 : Kd.C k47 w A0_2 l0_2.length l0_2) (hc0_2 : l0_2.length ≤ c0_2) (h : prog_Inside.f k a0_0 l0_1 l0_2 a1 = some (r1, r2, r3)) :
  Calls Try.prog 26 #[.agg #[.int .i64 a0_0, .slice A0_1 l0_1.length c0_1, .slice A0_2 l0_2.length c0_2], .int .i64 a1] w fun e w' => ∃ v0_ v1_ : Value, e = .returned (.tuple #[v0_, v1_, .int .i64 r3]) ∧ Kd.R (Kd.int .i64) 3 w' w.heap.size (fun k_ => some k_ ≠ (v1_ : Value).ownBlock) v0_ r1 ∧ Kd.R (Kd.int .i64) 3 w' w.heap.size (fun k_ => some k_ ≠ (v0_ : Value).ownBlock) v1_ r2 ∧ Below w.heap.size w w' := by
 have hu25 := Try.underlying25
 have hu47 := Try.underlying47
 have HR0_1 := Aside0.mk hr0_1
 have HC0_1 := Aside0.mk hc0_1
 clear hr0_1 hc0_1
 have HR0_2 := Aside0.mk hr0_2
 have HC0_2 := Aside0.mk hc0_2
 clear hr0_2 hc0_2
 have HB := Aside0.mk (Below.refl w.heap.size w)
 have H : ((prog_At.f k a0_0 l0_1 l0_2 a1).bind fun bt222 => (if bt222.2.2.2.2.2 = 0 then ((prog_numbers.f k bt222.2.2.2.1 (wrap64 (a1 + 1))).bind fun t235 => ((prog_size.f k bt222.2.2.2.1).bind fun t238 => ((prog_numbers.f k bt222.2.2.2.2.1 (wrap64 ((wrap64 (a1 + 1)) + t238))).bind fun t239 => (some (t235, t239, 0))))) else (some (([] : List Int), ([] : List Int), bt222.2.2.2.2.2)))) = some (r1, r2, r3) := h
 clear h
 replace H := Option.bind_eq_some_iff.mp H
 obtain ⟨⟨t222, t223, t224, t227, t230, t233⟩, A30, H⟩ := H
 replace H : (if t233 = 0 then ((prog_numbers.f k t227 (wrap64 (a1 + 1))).bind fun t235 => ((prog_size.f k t227).bind fun t238 => ((prog_numbers.f k t230 (wrap64 ((wrap64 (a1 + 1)) + t238))).bind fun t239 => (some (t235, t239, 0))))) else (some (([] : List Int), ([] : List Int), t233))) = some (r1, r2, r3) := H
 have A3 := Aside0.mk A30
 clear A30
 by_cases c4 : t233 = 0
 rotate_left
 ·rw [if_neg c4] at H
  have c4b0 : (t233 == 0) = false := beq_eq_false_iff_ne.mpr c4
  have c4b1 : (t233 != 0) = true := bne_iff_ne.mpr c4
  simp only [Option.some.injEq, Prod.mk.injEq] at H
  obtain ⟨rfl, rfl, rfl⟩ := H
  go_enter Try.func26, Try.ntmps26
  go_wp2_with (first | ((with_reducible refine gate_dst (N := 2) rfl ?_); refine bx 2 rfl rfl #[.int .i64 a0_0, .slice A0_1 l0_1.length c0_1, .slice A0_2 l0_2.length c0_2] 25 ?_; intro gb221 hg w22 hbox hb; have BK221 := Aside0.mk (hbox); have GE221 := ge HB hg; replace HB := sb HB hb; clear hb hbox hg; obtain ⟨hcz23_0, hcz23_1, hcz23_2, hfz23_0, hfz23_1, hfz23_2⟩ := cf3 BK221.out) | ((with_reducible refine gate_callee (f := 25) rfl ?_); refine gL (some 11) rfl rfl Try.func25 #[.agg #[.int .i64 a0_0, .slice A0_1 l0_1.length c0_1, .slice A0_2 l0_2.length c0_2], .int .i64 a1] rfl ?_; (with_reducible refine (prog_At.calls k a0_0 _ _ l0_1 _ _ l0_2 a1 t222 t223 t224 t227 t230 t233 _ ?side1 ?side2 ?side3 ?side4 A3.out).mono ?_); (case side1 => exact cb HR0_1 HB); (case side2 => exact HC0_1.out); (case side3 => exact cb HR0_2 HB); (case side4 => exact HC0_2.out); rintro e w24 ⟨v225, v228, v231, rfl, ho0, ho1, ho2, hb⟩; refine ⟨_, rfl, ?_⟩; have HO226 := Aside0.mk (Kd.R_lower ho0 (bsz (bb HB))); have HO229 := Aside0.mk (Kd.R_lower ho1 (bsz (bb HB))); have HO232 := Aside0.mk (Kd.R_lower ho2 (bsz (bb HB))); replace BK221 := kb BK221 hb; replace HB := sb HB hb; (try clear hb); (try clear ho0); (try clear ho1); (try clear ho2)) | ((with_reducible refine gate_dst (N := 7) rfl ?_); refine bx 7 rfl rfl #[.int .i64 0, .int .i64 0, .slice none 0 0, .slice none 0 0, .slice none 0 0] 47 ?_; intro gb234 hg w25 hbox hb; have BK234 := Aside0.mk (hbox); have GE234 := ge HB hg; have NB221_234 := Aside0.mk ((by rw [hg]; exact Nat.ne_of_lt (blk_lt (kk BK221)) : gb221 ≠ gb234)); have NB234_221 := Aside0.mk ((by rw [hg]; exact Nat.ne_of_gt (blk_lt (kk BK221)) : gb234 ≠ gb221)); replace HO226 := Aside0.mk (Kd.R_below (iR HO226) hb); replace HO229 := Aside0.mk (Kd.R_below (Kd.R_elderB (iR HO229) gb234 (Nat.le_of_eq hg.symm)) hb); replace HO232 := Aside0.mk (Kd.R_below (Kd.R_elderB (iR HO232) gb234 (Nat.le_of_eq hg.symm)) hb); replace BK221 := kb BK221 hb; replace HB := sb HB hb; clear hb hbox hg; have hnb26 := NB234_221.out; have hnc26 := NB221_234.out; obtain ⟨hcz27_0, hcz27_1, hcz27_2, hcz27_3, hcz27_4, hfz27_0, hfz27_1, hfz27_2, hfz27_3, hfz27_4⟩ := cf5 BK234.out; obtain ⟨Ao28, co28, eo28⟩ := Kd.R_slice HO226.out; subst eo28; obtain ⟨Ao29, co29, eo29⟩ := Kd.R_slice HO229.out; subst eo29; obtain ⟨Ao30, co30, eo30⟩ := Kd.R_slice HO232.out; subst eo30))
  go_ret3
  exact ⟨_, _, rr, by first | exact Kd.R_nil _ _ _ _ _ | exact Kd.N_nil _ _ _ _ _ | exact Kd.V_nil _ _ _ _ _ | exact Kd.Q_nil _ _ _ _ _ | exact Kd.S_nil _ _ _ _ _, by first | exact Kd.R_nil _ _ _ _ _ | exact Kd.N_nil _ _ _ _ _ | exact Kd.V_nil _ _ _ _ _ | exact Kd.Q_nil _ _ _ _ _ | exact Kd.S_nil _ _ _ _ _, bb HB⟩
 rw [if_pos c4] at H
 have c4b0 : (t233 == 0) = true := beq_iff_eq.mpr c4
 have c4b1 : (t233 != 0) = false := bne_eq_false_iff_eq.mpr c4
 clear c4
 obtain ⟨t235, A5, H⟩ := be H
 obtain ⟨t238, A6, H⟩ := be H
 obtain ⟨t239, A7, H⟩ := be H
 simp only [Option.some.injEq, Prod.mk.injEq] at H
 obtain ⟨rfl, rfl, rfl⟩ := H
 go_enter Try.func26, Try.ntmps26
 try go_wp2_with (first | ((with_reducible refine gate_dst (N := 2) rfl ?_); refine bx 2 rfl rfl #[.int .i64 a0_0, .slice A0_1 l0_1.length c0_1, .slice A0_2 l0_2.length c0_2] 25 ?_; intro gb221 hg w8 hbox hb; have BK221 := Aside0.mk (hbox); have GE221 := ge HB hg; replace HB := sb HB hb; clear hb hbox hg; obtain ⟨hcz9_0, hcz9_1, hcz9_2, hfz9_0, hfz9_1, hfz9_2⟩ := cf3 BK221.out) | ((with_reducible refine gate_callee (f := 25) rfl ?_); refine gL (some 11) rfl rfl Try.func25 #[.agg #[.int .i64 a0_0, .slice A0_1 l0_1.length c0_1, .slice A0_2 l0_2.length c0_2], .int .i64 a1] rfl ?_; (with_reducible refine (prog_At.calls k a0_0 _ _ l0_1 _ _ l0_2 a1 t222 t223 t224 t227 t230 t233 _ ?side1 ?side2 ?side3 ?side4 A3.out).mono ?_); (case side1 => exact cb HR0_1 HB); (case side2 => exact HC0_1.out); (case side3 => exact cb HR0_2 HB); (case side4 => exact HC0_2.out); rintro e w10 ⟨v225, v228, v231, rfl, ho0, ho1, ho2, hb⟩; refine ⟨_, rfl, ?_⟩; have HO226 := Aside0.mk (Kd.R_lower ho0 (bsz (bb HB))); have HO229 := Aside0.mk (Kd.R_lower ho1 (bsz (bb HB))); have HO232 := Aside0.mk (Kd.R_lower ho2 (bsz (bb HB))); replace BK221 := kb BK221 hb; replace HB := sb HB hb; (try clear hb); (try clear ho0); (try clear ho1); (try clear ho2)) | ((with_reducible refine gate_dst (N := 7) rfl ?_); refine bx 7 rfl rfl #[.int .i64 0, .int .i64 0, .slice none 0 0, .slice none 0 0, .slice none 0 0] 47 ?_; intro gb234 hg w11 hbox hb; have BK234 := Aside0.mk (hbox); have GE234 := ge HB hg; have NB221_234 := Aside0.mk ((by rw [hg]; exact Nat.ne_of_lt (blk_lt (kk BK221)) : gb221 ≠ gb234)); have NB234_221 := Aside0.mk ((by rw [hg]; exact Nat.ne_of_gt (blk_lt (kk BK221)) : gb234 ≠ gb221)); replace HO226 := Aside0.mk (Kd.R_below (iR HO226) hb); replace HO229 := Aside0.mk (Kd.R_below (Kd.R_elderB (iR HO229) gb234 (Nat.le_of_eq hg.symm)) hb); replace HO232 := Aside0.mk (Kd.R_below (Kd.R_elderB (iR HO232) gb234 (Nat.le_of_eq hg.symm)) hb); replace BK221 := kb BK221 hb; replace HB := sb HB hb; clear hb hbox hg; have hnb12 := NB234_221.out; have hnc12 := NB221_234.out; obtain ⟨hcz13_0, hcz13_1, hcz13_2, hcz13_3, hcz13_4, hfz13_0, hfz13_1, hfz13_2, hfz13_3, hfz13_4⟩ := cf5 BK234.out; obtain ⟨Ao14, co14, eo14⟩ := Kd.R_slice HO226.out; subst eo14; obtain ⟨Ao15, co15, eo15⟩ := Kd.R_slice HO229.out; subst eo15; obtain ⟨Ao16, co16, eo16⟩ := Kd.R_slice HO232.out; subst eo16))
 have n0_ : Aside0 (Kd.R k96 96 (((((w11.setCell ⟨gb234, 0, none⟩ (.int .i64 t222)).setCell ⟨gb234, 1, none⟩ (.int .i64 t223)).setCell ⟨gb234, 2, none⟩ (.slice Ao14 t224.length co14)).setCell ⟨gb234, 3, none⟩ (.slice Ao15 t227.length co15)).setCell ⟨gb234, 4, none⟩ (.slice Ao16 t230.length co16)) w.heap.size (fun _ => True) (.slice Ao14 t224.length co14) t224) := ⟨by (with_reducible repeat (first | apply Kd.R_alloc | apply Kd.R_drewN | apply Kd.R_drew)); exact Kd.R_mono (Kd.R_far (p := ⟨gb234, 4, none⟩) (Kd.R_far (p := ⟨gb234, 3, none⟩) (Kd.R_far (p := ⟨gb234, 2, none⟩) (Kd.R_far (p := ⟨gb234, 1, none⟩) (Kd.R_far (p := ⟨gb234, 0, none⟩) (Kd.R_types HO226.out BK234.out (by decide)) (fun _ hk => hk.2) (.int .i64 t222)) (fun _ hk => hk.2) (.int .i64 t223)) (fun _ hk => hk.2) (.slice Ao14 t224.length co14)) (fun _ hk => hk.2) (.slice Ao15 t227.length co15)) (fun _ hk => hk.2) (.slice Ao16 t230.length co16)) (fun _ hk => trivial)⟩
 have n1_ : Aside0 (Kd.R k47 47 (((((w11.setCell ⟨gb234, 0, none⟩ (.int .i64 t222)).setCell ⟨gb234, 1, none⟩ (.int .i64 t223)).setCell ⟨gb234, 2, none⟩ (.slice Ao14 t224.length co14)).setCell ⟨gb234, 3, none⟩ (.slice Ao15 t227.length co15)).setCell ⟨gb234, 4, none⟩ (.slice Ao16 t230.length co16)) w.heap.size (fun k_ => some k_ ≠ (.slice Ao14 t224.length co14 : Value).ownBlock ∧ some k_ ≠ (.slice Ao16 t230.length co16 : Value).ownBlock ∧ k_ ≠ gb234) (.slice Ao15 t227.length co15) t227) := ⟨by (with_reducible repeat (first | apply Kd.R_alloc | apply Kd.R_drewN | apply Kd.R_drew)); exact Kd.R_mono (Kd.R_far (p := ⟨gb234, 4, none⟩) (Kd.R_far (p := ⟨gb234, 3, none⟩) (Kd.R_far (p := ⟨gb234, 2, none⟩) (Kd.R_far (p := ⟨gb234, 1, none⟩) (Kd.R_far (p := ⟨gb234, 0, none⟩) (Kd.R_mono HO229.out (fun k_ hk => (⟨hk, hk.2⟩ : _ ∧ k_ ≠ gb234))) (fun _ hk => hk.2) (.int .i64 t222)) (fun _ hk => hk.2) (.int .i64 t223)) (fun _ hk => hk.2) (.slice Ao14 t224.length co14)) (fun _ hk => hk.2) (.slice Ao15 t227.length co15)) (fun _ hk => hk.2) (.slice Ao16 t230.length co16)) (fun _ hk => ⟨hk.1.1.1, ⟨hk.1.1.2, hk.1.2⟩⟩)⟩
 have n2_ : Aside0 (Kd.R k47 47 (((((w11.setCell ⟨gb234, 0, none⟩ (.int .i64 t222)).setCell ⟨gb234, 1, none⟩ (.int .i64 t223)).setCell ⟨gb234, 2, none⟩ (.slice Ao14 t224.length co14)).setCell ⟨gb234, 3, none⟩ (.slice Ao15 t227.length co15)).setCell ⟨gb234, 4, none⟩ (.slice Ao16 t230.length co16)) w.heap.size (fun k_ => some k_ ≠ (.slice Ao14 t224.length co14 : Value).ownBlock ∧ some k_ ≠ (.slice Ao15 t227.length co15 : Value).ownBlock ∧ k_ ≠ gb234) (.slice Ao16 t230.length co16) t230) := ⟨by (with_reducible repeat (first | apply Kd.R_alloc | apply Kd.R_drewN | apply Kd.R_drew)); exact Kd.R_mono (Kd.R_far (p := ⟨gb234, 4, none⟩) (Kd.R_far (p := ⟨gb234, 3, none⟩) (Kd.R_far (p := ⟨gb234, 2, none⟩) (Kd.R_far (p := ⟨gb234, 1, none⟩) (Kd.R_far (p := ⟨gb234, 0, none⟩) (Kd.R_mono HO232.out (fun k_ hk => (⟨hk, hk.2⟩ : _ ∧ k_ ≠ gb234))) (fun _ hk => hk.2) (.int .i64 t222)) (fun _ hk => hk.2) (.int .i64 t223)) (fun _ hk => hk.2) (.slice Ao14 t224.length co14)) (fun _ hk => hk.2) (.slice Ao15 t227.length co15)) (fun _ hk => hk.2) (.slice Ao16 t230.length co16)) (fun _ hk => ⟨hk.1.1.1, ⟨hk.1.1.2, hk.1.2⟩⟩)⟩
 have n3_ : Aside0 ((((((w11.setCell ⟨gb234, 0, none⟩ (.int .i64 t222)).setCell ⟨gb234, 1, none⟩ (.int .i64 t223)).setCell ⟨gb234, 2, none⟩ (.slice Ao14 t224.length co14)).setCell ⟨gb234, 3, none⟩ (.slice Ao15 t227.length co15)).setCell ⟨gb234, 4, none⟩ (.slice Ao16 t230.length co16)).heap[gb221]? = some (.cells #[.int .i64 a0_0, .slice A0_1 l0_1.length c0_1, .slice A0_2 l0_2.length c0_2] 25 (0, 0))) := ⟨kk BK221⟩
 have n4_ : Aside0 ((((((w11.setCell ⟨gb234, 0, none⟩ (.int .i64 t222)).setCell ⟨gb234, 1, none⟩ (.int .i64 t223)).setCell ⟨gb234, 2, none⟩ (.slice Ao14 t224.length co14)).setCell ⟨gb234, 3, none⟩ (.slice Ao15 t227.length co15)).setCell ⟨gb234, 4, none⟩ (.slice Ao16 t230.length co16)).heap[gb234]? = some (.cells #[.int .i64 t222, .int .i64 t223, .slice Ao14 t224.length co14, .slice Ao15 t227.length co15, .slice Ao16 t230.length co16] 47 (0, 0))) := ⟨by (with_reducible repeat (first | refine kdN ?_ _ | refine kdr ?_ | refine kal ?_ _)); refine blk_put (cs := #[.int .i64 t222, .int .i64 t223, .slice Ao14 t224.length co14, .slice Ao15 t227.length co15, .slice none 0 0]) ?_ 4 _ rfl; (with_reducible repeat (first | refine kdN ?_ _ | refine kdr ?_ | refine kal ?_ _)); refine blk_put (cs := #[.int .i64 t222, .int .i64 t223, .slice Ao14 t224.length co14, .slice none 0 0, .slice none 0 0]) ?_ 3 _ rfl; (with_reducible repeat (first | refine kdN ?_ _ | refine kdr ?_ | refine kal ?_ _)); refine blk_put (cs := #[.int .i64 t222, .int .i64 t223, .slice none 0 0, .slice none 0 0, .slice none 0 0]) ?_ 2 _ rfl; (with_reducible repeat (first | refine kdN ?_ _ | refine kdr ?_ | refine kal ?_ _)); refine blk_put (cs := #[.int .i64 t222, .int .i64 0, .slice none 0 0, .slice none 0 0, .slice none 0 0]) ?_ 1 _ rfl; (with_reducible repeat (first | refine kdN ?_ _ | refine kdr ?_ | refine kal ?_ _)); refine blk_put (cs := #[.int .i64 0, .int .i64 0, .slice none 0 0, .slice none 0 0, .slice none 0 0]) ?_ 0 _ rfl; (with_reducible repeat (first | refine kdN ?_ _ | refine kdr ?_ | refine kal ?_ _)); exact BK234.out⟩
 have n5_ : Aside0 (Below w.heap.size w (((((w11.setCell ⟨gb234, 0, none⟩ (.int .i64 t222)).setCell ⟨gb234, 1, none⟩ (.int .i64 t223)).setCell ⟨gb234, 2, none⟩ (.slice Ao14 t224.length co14)).setCell ⟨gb234, 3, none⟩ (.slice Ao15 t227.length co15)).setCell ⟨gb234, 4, none⟩ (.slice Ao16 t230.length co16))) := ⟨bb HB⟩
 (try clear HO226)
 (try clear HO229)
 (try clear HO232)
 (try clear BK221)
 (try clear BK234)
 (try clear HB)
 generalize (((((w11.setCell ⟨gb234, 0, none⟩ (.int .i64 t222)).setCell ⟨gb234, 1, none⟩ (.int .i64 t223)).setCell ⟨gb234, 2, none⟩ (.slice Ao14 t224.length co14)).setCell ⟨gb234, 3, none⟩ (.slice Ao15 t227.length co15)).setCell ⟨gb234, 4, none⟩ (.slice Ao16 t230.length co16)) = w17 at n0_ n1_ n2_ n3_ n4_ n5_ ⊢
 have HO226 := n0_
 have HO229 := n1_
 have HO232 := n2_
 have BK221 := n3_
 have BK234 := n4_
 have HB := n5_
 clear n0_ n1_ n2_ n3_ n4_ n5_
 replace HO226 := Aside0.mk (Kd.R_drew HO226.out)
 replace HO229 := Aside0.mk (Kd.R_drew HO229.out)
 replace HO232 := Aside0.mk (Kd.R_drew HO232.out)
 replace BK221 := Aside0.mk (kdr BK221.out)
 replace BK234 := Aside0.mk (kdr BK234.out)
 replace HB := Aside0.mk (bd1 HB.out)
 refine start_ (n := 17) (S := fun w' => w'.cell? ⟨gb234, 0, none⟩ = some (.int .i64 t222) ∧ w'.cell? ⟨gb234, 1, none⟩ = some (.int .i64 t223) ∧ w'.cell? ⟨gb234, 2, none⟩ = some (.slice Ao14 t224.length co14) ∧ w'.cell? ⟨gb234, 3, none⟩ = some (.slice Ao15 t227.length co15) ∧ w'.cell? ⟨gb234, 4, none⟩ = some (.slice Ao16 t230.length co16)) (ds := []) #[false, false, false, false, false, false, false, false, false, false, false, false, false, false, false, false, false] (by kernel_rfl) rfl rfl ⟨(blk_cell BK234.out 0).trans rfl, (blk_cell BK234.out 1).trans rfl, (blk_cell BK234.out 2).trans rfl, (blk_cell BK234.out 3).trans rfl, (blk_cell BK234.out 4).trans rfl⟩ (fun hHeld => ?_); refine with_tabW prog_Inside.tab4 prog_Inside.bits4 (fun HT_ HW_ => ?_)
 generalize w17.drew = w18 at HO226 HO229 HO232 BK221 BK234 HB hHeld ⊢
 refine pT 0 17 (bl 17 1) HT_ rfl rfl ?_
 refine pT 2 19 (bl 17 5) HT_ rfl rfl ?_
 refine pT 3 20 (bl 17 13) HT_ rfl rfl ?_
 refine pT 5 22 (bl 17 45) HT_ rfl rfl ?_
 refine pT 7 24 (bl 17 173) HT_ rfl rfl ?_
 refine pT 8 25 (bl 17 429) HT_ rfl rfl ?_
 refine pT 9 26 (bl 17 941) HT_ rfl rfl ?_
 refine tk (i := 1) (N := some 18) (bl 17 943) rfl rfl (take_ofW HT_.out HW_.out (by kernel_rfl)) hHeld ?_
 refine tk (i := 6) (N := some 23) (bl 17 1007) rfl rfl (take_ofW HT_.out HW_.out (by kernel_rfl)) hHeld ?_
 refine tk (i := 10) (N := some 27) (bl 17 2031) rfl rfl (take_ofW HT_.out HW_.out (by kernel_rfl)) hHeld ?_
 refine one_ (i := 4) (N := some 21) (bl 17 2047) rfl rfl (one_of HT_.out (by kernel_rfl)) (by decide) (fun K hK => ?_)
 refine gO Try.func55 #[.slice Ao15 t227.length co15, .int .i64 (wrap64 (a1 + 1))] (by rfl) rfl rfl ?_
 with_reducible refine (prog_numbers.calls k _ _ t227 (wrap64 (a1 + 1)) t235 _ ?side1 ?side2 A5.out).mono ?_
 (case side1 => repeat (first | exact (Kd.R_reads' HO229.out).2.2 | with_reducible first | apply Kd.C_alloc | apply Kd.C_drewN | apply Kd.C_drew))
 (case side2 => exact (Kd.R_reads' HO229.out).2.1)
 rintro e w19 ⟨v236, rfl, ho0, hb⟩
 refine ⟨_, rfl, ?_⟩
 have HO237 := Aside0.mk (Kd.R_lower ho0 (bsz (bb HB)))
 replace HO226 := Aside0.mk (Kd.R_below (iR HO226) hb)
 replace HO229 := Aside0.mk (Kd.R_below (iR HO229) hb)
 replace HO232 := Aside0.mk (Kd.R_below (iR HO232) hb)
 replace BK221 := kb BK221 hb
 replace BK234 := kb BK234 hb
 replace HB := sb HB hb
 (try clear hb)
 (try clear hb2)
 (try clear hk)
 (try clear hi)
 (try clear ho0)
 refine hK.out _ _ ⟨(blk_cell BK234.out 0).trans rfl, (blk_cell BK234.out 1).trans rfl, (blk_cell BK234.out 2).trans rfl, (blk_cell BK234.out 3).trans rfl, (blk_cell BK234.out 4).trans rfl⟩ (fun hHeld => ?_)
 clear hK K
 refine nm 21 ?_
 refine one_ (i := 11) (N := some 28) (bl 17 4095) rfl rfl (one_of HT_.out (by kernel_rfl)) (by decide) (fun K hK => ?_)
 refine gO Try.func56 #[.slice Ao15 t227.length co15] (by rfl) rfl rfl ?_
 with_reducible refine (prog_size.calls k _ _ t227 t238 _ ?side1 ?side2 A6.out).mono ?_
 (case side1 => repeat (first | exact (Kd.R_reads' HO229.out).2.2 | with_reducible first | apply Kd.C_alloc | apply Kd.C_drewN | apply Kd.C_drew))
 (case side2 => exact (Kd.R_reads' HO229.out).2.1)
 rintro e w20 ⟨rfl, hb⟩
 refine ⟨_, rfl, ?_⟩
 replace HO226 := Aside0.mk (Kd.R_below (iR HO226) hb)
 replace HO229 := Aside0.mk (Kd.R_below (iR HO229) hb)
 replace HO232 := Aside0.mk (Kd.R_below (iR HO232) hb)
 replace HO237 := Aside0.mk (Kd.R_below (iR HO237) hb)
 replace BK221 := kb BK221 hb
 replace BK234 := kb BK234 hb
 replace HB := sb HB hb
 (try clear hb)
 (try clear hb2)
 (try clear hk)
 (try clear hi)
 refine hK.out _ _ ⟨(blk_cell BK234.out 0).trans rfl, (blk_cell BK234.out 1).trans rfl, (blk_cell BK234.out 2).trans rfl, (blk_cell BK234.out 3).trans rfl, (blk_cell BK234.out 4).trans rfl⟩ (fun hHeld => ?_)
 clear hK K
 refine nm 28 ?_
 refine pT 12 29 (bl 17 8191) HT_ rfl rfl ?_
 refine one_ (i := 13) (N := some 30) (bl 17 16383) rfl rfl (one_of HT_.out (by kernel_rfl)) (by decide) (fun K hK => ?_)
 refine gO Try.func55 #[.slice Ao16 t230.length co16, .int .i64 (wrap64 ((wrap64 (a1 + 1)) + t238))] (by rfl) rfl rfl ?_
 with_reducible refine (prog_numbers.calls k _ _ t230 (wrap64 ((wrap64 (a1 + 1)) + t238)) t239 _ ?side1 ?side2 A7.out).mono ?_
 (case side1 => repeat (first | exact (Kd.R_reads' HO232.out).2.2 | with_reducible first | apply Kd.C_alloc | apply Kd.C_drewN | apply Kd.C_drew))
 (case side2 => exact (Kd.R_reads' HO232.out).2.1)
 rintro e w21 ⟨v240, rfl, ho0, hb⟩
 refine ⟨_, rfl, ?_⟩
 have HO241 := Aside0.mk (Kd.R_lower (Kd.R_new' ho0 (Kd.R_lt (iR HO237))) (bsz (bb HB)))
 replace HO226 := Aside0.mk (Kd.R_below (iR HO226) hb)
 replace HO229 := Aside0.mk (Kd.R_below (iR HO229) hb)
 replace HO232 := Aside0.mk (Kd.R_below (iR HO232) hb)
 replace HO237 := Aside0.mk (Kd.R_elder' (iR HO237) (Kd.R_base ho0) hb)
 replace BK221 := kb BK221 hb
 replace BK234 := kb BK234 hb
 replace HB := sb HB hb
 (try clear hb)
 (try clear hb2)
 (try clear hk)
 (try clear hi)
 (try clear ho0)
 refine hK.out _ _ ⟨(blk_cell BK234.out 0).trans rfl, (blk_cell BK234.out 1).trans rfl, (blk_cell BK234.out 2).trans rfl, (blk_cell BK234.out 3).trans rfl, (blk_cell BK234.out 4).trans rfl⟩ (fun hHeld => ?_)
 clear hK K
 refine nm 30 ?_
 refine pT 14 4 (bl 17 32767) HT_ rfl rfl ?_
 refine pT 15 5 (bl 17 65535) HT_ rfl rfl ?_
 refine pT 16 6 (bl 17 131071) HT_ rfl rfl ?_
 refine done_ (done_of HT_.out (by kernel_rfl)) ?_
 try go_wp2
 go_ret3
 exact ⟨_, _, rr, by (with_reducible repeat (first | apply Kd.R_alloc | apply Kd.R_drewN | apply Kd.R_drew)); exact Kd.R_mono HO237.out (fun _ hk => hk.2), by (with_reducible repeat (first | apply Kd.R_alloc | apply Kd.R_drewN | apply Kd.R_drew)); exact Kd.R_mono HO241.out (fun _ hk => hk.2), bb HB⟩
def heads (n : Int) : List S47 → List Int
  | [] => []
  | x :: r => n :: heads (n + sC x) r
theorem heads_length : ∀ (l : List S47) (n : Int), (heads n l).length = l.length
  | [], _ => rfl
  | x :: r, n => by rw [heads, List.length_cons, List.length_cons, heads_length r]
theorem size_tells : (∀ x, goodS x → sN x ≤ 1000000 → Tells (fun k => prog_size.f k x.f3) (sCs x.f3 : Int) ∧ Tells (fun k => prog_size.f k x.f4) (sCs x.f4 : Int)) ∧
    (∀ suf, ∀ (pre : List S47) (n : Nat), goodSs suf → (pre ++ suf).length ≤ 9223372036854775807 → n + sNs suf ≤ 1000000 → Tells (fun k => prog_size.l0 k (n : Int) (pre ++ suf) ((pre ++ suf).length : Int) (pre.length : Int)) ((n + sCs suf : Nat) : Int)) := by
  refine S_ind (fun a b l t e h1 h2 => ?_) ?_ (fun x r ih1 ih2 => ?_)
  · intro hg hn
    rw [goodS_mk] at hg
    rw [sN_eq] at hn
    simp only at hn
    constructor
    · refine Tells.succ ?_
      simp only [prog_size.f]
      have := h1 [] 0 hg.2.1.2 hg.2.1.1 (by omega)
      rw [Nat.zero_add] at this
      exact this
    · refine Tells.succ ?_
      simp only [prog_size.f]
      have := h2 [] 0 hg.2.2.2 hg.2.2.1 (by omega)
      rw [Nat.zero_add] at this
      exact this
  · intro pre n _ _ _
    refine Tells.succ ?_
    simp only [prog_size.l0, pre_nlt, if_false]
    rw [sCs_nil, Nat.add_zero]
    exact Tells.pure _
  · intro pre n hg hl hn
    rw [goodSs_cons] at hg
    rw [sNs_cons] at hn
    have hle := (s_le.1 x).1
    rw [sC_eq] at hle
    refine Tells.succ ?_
    simp only [prog_size.l0, pre_lt, pre_pos, if_true, rdS_mid]
    obtain ⟨t1, t2⟩ := ih1 hg.1 (by omega)
    refine Tells.bind t1 (Tells.bind t2 ?_)
    have t3 := ih2 (pre ++ [x]) (n + (1 + sCs x.f3 + sCs x.f4)) hg.2 (by rw [← pre_app]; exact hl) (by omega)
    rw [← pre_app] at t3
    rw [pre_next pre x r hl, w64 (n := 1 + (sCs x.f3 : Int)) (by omega) (by omega), w64 (n := 1 + (sCs x.f3 : Int) + (sCs x.f4 : Int)) (by omega) (by omega), w64 (n := (n : Int) + (1 + (sCs x.f3 : Int) + (sCs x.f4 : Int))) (by omega) (by omega),
      show (n : Int) + (1 + (sCs x.f3 : Int) + (sCs x.f4 : Int)) = ((n + (1 + sCs x.f3 + sCs x.f4) : Nat) : Int) by omega]
    rw [sCs_cons, sC_eq, show n + (1 + sCs x.f3 + sCs x.f4 + sCs r) = n + (1 + sCs x.f3 + sCs x.f4) + sCs r by omega]
    exact t3
theorem numbers_loop : ∀ (suf pre : List S47) (n : Int) (acc : List Int), goodSs suf → (pre ++ suf).length ≤ 9223372036854775807 → sNs suf ≤ 1000 → 0 ≤ n → n + sCs suf ≤ 1000000 → acc.length + suf.length ≤ 2000 →
    Tells (fun k => prog_numbers.l0 k n acc (pre ++ suf) ((pre ++ suf).length : Int) (pre.length : Int)) (acc ++ heads n suf)
  | [], pre, n, acc, _, _, _, _, _, _ => by
    refine Tells.succ ?_
    simp only [prog_numbers.l0, pre_nlt, if_false, heads]
    rw [List.append_nil]
    exact Tells.pure _
  | x :: r, pre, n, acc, hg, hl, hs, h0, hn, ha => by
    rw [goodSs_cons] at hg
    rw [sNs_cons] at hs
    rw [sCs_cons] at hn
    rw [List.length_cons] at ha
    have hle := (s_le.1 x).1
    have hsc := sC_eq x
    obtain ⟨t1, t2⟩ := size_tells.1 x hg.1 (by omega)
    have t3 := numbers_loop r (pre ++ [x]) (n + sC x) (acc ++ [n]) hg.2 (by rw [← pre_app]; exact hl) (by omega) (by omega) (by omega) (by rw [List.length_append, List.length_singleton]; omega)
    rw [← pre_app, List.append_assoc] at t3
    refine Tells.succ ?_
    simp only [prog_numbers.l0, pre_lt, pre_pos, if_true, rdS_mid]
    refine Tells.ifT (by omega) (Tells.bind t1 (Tells.bind t2 ?_))
    rw [pre_next pre x r hl, w64 (n := 1 + (sCs x.f3 : Int)) (by omega) (by omega), w64 (n := 1 + (sCs x.f3 : Int) + (sCs x.f4 : Int)) (by omega) (by omega), w64 (n := n + (1 + (sCs x.f3 : Int) + (sCs x.f4 : Int))) (by omega) (by omega),
      show n + (1 + (sCs x.f3 : Int) + (sCs x.f4 : Int)) = n + sC x by omega]
    exact t3
theorem numbers_tells (l : List S47) (n : Int) (hg : goodSs l) (hl : l.length ≤ 9223372036854775807) (hs : sNs l ≤ 1000) (h0 : 0 ≤ n) (h1 : n ≤ 900000) : Tells (fun k => prog_numbers.f k l n) (heads n l) := by
  unfold prog_numbers.f
  have h2 := sNs_len l
  have h3 := (s_le.2 l).1
  exact numbers_loop l [] n [] hg hl hs h0 (by omega) (by rw [List.length_nil]; omega)
theorem inside_tells (w : Int) (vars : List S82) (body : List S47) (hl : body.length ≤ 9223372036854775807) (hg : goodSs body) (hp : pIs w vars body = true) (n : Nat) (x : Int × S47) (hx : (wks 0 body)[n]? = some x) :
    Tells (fun k => prog_Inside.f k w vars body (n : Int)) (heads ((n : Int) + 1) x.2.f3, heads ((n : Int) + 1 + sCs x.2.f3) x.2.f4, 0) := by
  obtain ⟨hh, hn4⟩ := pIs_all hp
  have hle := (s_le.2 body).1
  have tc := pCheck_tells w vars body hl hg
  rw [hp] at tc
  obtain ⟨hlt, hxe⟩ := List.getElem?_eq_some_iff.1 hx
  have hlen := wks_len.2 body 0
  have hnum := wks_num.2 body 0 n x hx
  have hmem : x ∈ wks 0 body := by rw [← hxe]; exact List.getElem_mem hlt
  obtain ⟨gx, nx⟩ := wks_good.2 body hg 0 x hmem
  have gx' := gx
  rw [goodS_eq] at gx'
  have nx' := sN_eq x.2
  have hsc3 := (s_le.2 x.2.f3).1
  have tw : Tells (fun k => prog_walk.f k body 0) (wks 0 body, 0 + sCs body) := by
    refine Tells.succ ?_
    simp only [prog_walk.f]
    exact walk_tells.2 body [] hg hl 0 (by decide) (by omega)
  have hfind : (wks 0 body).find? (fun y => decide (y.1 = (n : Int))) = some x := by
    refine find_at (p := fun y : Int × S47 => decide (y.1 = (n : Int))) (decide_eq_true (by omega)) ((wks 0 body).take n) _ (fun y hy => ?_) ?_
    · obtain ⟨i, hi, hye⟩ := List.mem_iff_getElem.1 hy
      rw [List.length_take] at hi
      have h2 : (wks 0 body)[i]? = some y := by
        rw [← hye, List.getElem_take, List.getElem?_eq_getElem (by omega)]
      have := wks_num.2 body 0 i y h2
      exact decide_eq_false (by omega)
    · refine ⟨(wks 0 body).drop (n + 1), ?_⟩
      rw [List.append_assoc, List.singleton_append, ← hxe, List.getElem_cons_drop, List.take_append_drop]
  have tat : Tells (fun k => prog_At.f k w vars body (n : Int)) (x.2.f0, x.2.f1, x.2.f2, x.2.f3, x.2.f4, 0) := by
    unfold prog_At.f
    refine Tells.bind tc (Tells.ifT rfl (Tells.bind tw ?_))
    simp only [prog_At.pick, hfind]
    exact Tells.bind (copyS.1 x.2 gx (by omega)) (Tells.pure _)
  unfold prog_Inside.f
  refine Tells.bind tat (Tells.ifT rfl ?_)
  rw [w64 (n := (n : Int) + 1) (by omega) (by omega)]
  refine Tells.bind (numbers_tells x.2.f3 ((n : Int) + 1) gx'.2.1.2 gx'.2.1.1 (by omega) (by omega) (by omega)) (Tells.bind (size_tells.1 x.2 gx (by omega)).1 ?_)
  rw [w64 (n := (n : Int) + 1 + (sCs x.2.f3 : Int)) (by omega) (by omega)]
  exact Tells.bind (numbers_tells x.2.f4 _ gx'.2.2.2 gx'.2.2.1 (by omega) (by omega) (by omega)) (Tells.pure _)
mutual
def r2_Same.j0 : Nat → Bool → Int → Int → Int → List (S96) → Int → Int → Int → List (S96) → Option (Bool)
 | 0, _, _, _, _, _, _, _, _, _ => none
 | k + 1, x33, x349000, x349001, x349002, x349003, x350000, x350001, x350002, x350003 => if x33 = true then (some false) else (r2_Same.l0 k 0 x349000 x349001 x349002 x349003 x350000 x350001 x350002 x350003)
def r2_Same.l0 : Nat → Int → Int → Int → Int → List (S96) → Int → Int → Int → List (S96) → Option (Bool)
 | 0, _, _, _, _, _, _, _, _, _ => none
 | k + 1, x5, x349000, x349001, x349002, x349003, x350000, x350001, x350002, x350003 => if x5 < (x349003.length : Int) then (if 0 ≤ x5 then (if x5 < (x350003.length : Int) then ((r2_Same.f k ((rd_T96 x349003 x5).f0) ((rd_T96 x349003 x5).f1) ((rd_T96 x349003 x5).f2) ((rd_T96 x349003 x5).f3) ((rd_T96 x350003 x5).f0) ((rd_T96 x350003 x5).f1) ((rd_T96 x350003 x5).f2) ((rd_T96 x350003 x5).f3)).bind fun t352 => (if t352 = true then (r2_Same.l0 k (wrap64 (x5 + 1)) x349000 x349001 x349002 x349003 x350000 x350001 x350002 x350003) else (some false))) else (none)) else (none)) else (some true)
def r2_Same.f : Nat → Int → Int → Int → List (S96) → Int → Int → Int → List (S96) → Option (Bool)
 | 0, _, _, _, _, _, _, _, _ => none
 | k + 1, a0_0, a0_1, a0_2, l0_3, a1_0, a1_1, a1_2, l1_3 => if a0_0 = a1_0 then (if a0_1 = a1_1 then (if a0_2 = a1_2 then (r2_Same.j0 k ((l0_3.length : Int) != (l1_3.length : Int)) a0_0 a0_1 a0_2 l0_3 a1_0 a1_1 a1_2 l1_3) else (r2_Same.j0 k true a0_0 a0_1 a0_2 l0_3 a1_0 a1_1 a1_2 l1_3)) else (r2_Same.j0 k true a0_0 a0_1 a0_2 l0_3 a1_0 a1_1 a1_2 l1_3)) else (r2_Same.j0 k true a0_0 a0_1 a0_2 l0_3 a1_0 a1_1 a1_2 l1_3)
end
def r2_Same.T6 : Bool × List (List Nat × List Nat) := (true, [([], []), ([0], [0]), ([], []), ([1, 2], [1, 2]), ([3], [3]), ([], []), ([5], [5]), ([], []), ([6, 7], [6, 7]), ([8], [8]), ([4, 9], [4, 9]), ([10], [10])])
def r2_Same.B6 : List Nat := [0, 1, 0, 7, 15, 0, 32, 0, 224, 480, 1023, 2047]
theorem r2_Same.tab6 : rtab .any (opsOf Try.f79 6) = r2_Same.T6 := by kernel_rfl
theorem r2_Same.bits6 : waitsOk r2_Same.T6.2 r2_Same.B6 = true := by kernel_rfl
theorem r2_Same.calls (k : Nat) : ∀ (a0_0 : Int) (a0_1 : Int) (a0_2 : Int) (A0_3 : Option Addr) (c0_3 : Nat) (l0_3 : List (S96)) (a1_0 : Int) (a1_1 : Int) (a1_2 : Int) (A1_3 : Option Addr) (c1_3 : Nat) (l1_3 : List (S96)) (r : Bool) (w : World) (hr0_3 : Kd.C k96 w A0_3 l0_3.length l0_3) (hc0_3 : l0_3.length ≤ c0_3) (hr1_3 : Kd.C k96 w A1_3 l1_3.length l1_3) (hc1_3 : l1_3.length ≤ c1_3) (h : r2_Same.f k a0_0 a0_1 a0_2 l0_3 a1_0 a1_1 a1_2 l1_3 = some r),
  Calls Try.prog 79 #[.agg #[.int .i64 a0_0, .int .i64 a0_1, .int .i64 a0_2, .slice A0_3 l0_3.length c0_3], .agg #[.int .i64 a1_0, .int .i64 a1_1, .int .i64 a1_2, .slice A1_3 l1_3.length c1_3]] w fun e w' => e = .returned (.bool r) ∧ Below w.heap.size w w' := by
 induction k using Nat.strongRecOn with
 | _ k ih =>
 intro a0_0 a0_1 a0_2 A0_3 c0_3 l0_3 a1_0 a1_1 a1_2 A1_3 c1_3 l1_3 r w hr0_3 hc0_3 hr1_3 hc1_3 h
 cases k with
 | zero => exact absurd h (by simp [r2_Same.f])
 | succ k =>
 simp only [r2_Same.f] at h
 have hu96 := Try.underlying96
 have HR0_3 := Aside0.mk hr0_3
 have HC0_3 := Aside0.mk hc0_3
 clear hr0_3 hc0_3
 have HR1_3 := Aside0.mk hr1_3
 have HC1_3 := Aside0.mk hc1_3
 clear hr1_3 hc1_3
 have HB := Aside0.mk (Below.refl w.heap.size w)
 have H : (if a0_0 = a1_0 then (if a0_1 = a1_1 then (if a0_2 = a1_2 then (r2_Same.j0 k ((l0_3.length : Int) != (l1_3.length : Int)) a0_0 a0_1 a0_2 l0_3 a1_0 a1_1 a1_2 l1_3) else (r2_Same.j0 k true a0_0 a0_1 a0_2 l0_3 a1_0 a1_1 a1_2 l1_3)) else (r2_Same.j0 k true a0_0 a0_1 a0_2 l0_3 a1_0 a1_1 a1_2 l1_3)) else (r2_Same.j0 k true a0_0 a0_1 a0_2 l0_3 a1_0 a1_1 a1_2 l1_3)) = some r := h
 clear h
 have HC3 := Aside0.mk H
 clear H
 go_enter Try.func79, Try.ntmps79
 go_upto_region 1 with (first | ((with_reducible refine gate_dst (N := 2) rfl ?_); (try (refine gate_guard (by rfl) ?_; dsimp only)); refine bx 2 rfl rfl #[.int .i64 a0_0, .int .i64 a0_1, .int .i64 a0_2, .slice A0_3 l0_3.length c0_3] 96 ?_; intro gb348 hg w4 hbox hb; have BK348 := Aside0.mk (hbox); have GE348 := ge HB hg; replace HB := sb HB hb; clear hb hbox hg) | ((with_reducible refine gate_dst (N := 3) rfl ?_); (try (refine gate_guard (by rfl) ?_; dsimp only)); refine bx 3 rfl rfl #[.int .i64 a1_0, .int .i64 a1_1, .int .i64 a1_2, .slice A1_3 l1_3.length c1_3] 96 ?_; intro gb349 hg w5 hbox hb; have BK349 := Aside0.mk (hbox); have GE349 := ge HB hg; have NB348_349 := Aside0.mk ((by rw [hg]; exact Nat.ne_of_lt (blk_lt (kk BK348)) : gb348 ≠ gb349)); have NB349_348 := Aside0.mk ((by rw [hg]; exact Nat.ne_of_gt (blk_lt (kk BK348)) : gb349 ≠ gb348)); replace BK348 := kb BK348 hb; replace HB := sb HB hb; clear hb hbox hg))
 (try simp only [Act.put, List.setIfInBounds_toArray, List.set_cons_zero, List.set_cons_succ])
 go_cut [33] (fun v33 wc => ∃ (kq : Nat) (x33_2 : Bool), v33 = .bool x33_2 ∧ Aside0 (r2_Same.j0 kq x33_2 a0_0 a0_1 a0_2 l0_3 a1_0 a1_1 a1_2 l1_3 = some r) ∧ Aside0 (kq ≤ k) ∧ Aside0 (wc.heap[gb348]? = some (.cells #[.int .i64 a0_0, .int .i64 a0_1, .int .i64 a0_2, (.slice A0_3 l0_3.length c0_3)] 96 (0, 0))) ∧ Aside0 (wc.heap[gb349]? = some (.cells #[.int .i64 a1_0, .int .i64 a1_1, .int .i64 a1_2, (.slice A1_3 l1_3.length c1_3)] 96 (0, 0))) ∧ Aside0 (Below w.heap.size w wc))
 case first =>
  have H := HC3.out
  clear HC3
  by_cases c6 : a0_0 = a1_0
  rotate_left
  ·rw [if_neg c6] at H
   have c6b0 : (a0_0 == a1_0) = false := beq_eq_false_iff_ne.mpr c6
   have c6b1 : (a0_0 != a1_0) = true := bne_iff_ne.mpr c6
   (first | rw [c6b0] | (simp only [i64_w, i32_w]; rw [c6b0]) | skip)
   have H' := Aside0.mk H
   clear H
   have hnb18 := NB348_349.out
   have hnc18 := NB349_348.out
   obtain ⟨hcz19_0, hcz19_1, hcz19_2, hcz19_3, hfz19_0, hfz19_1, hfz19_2, hfz19_3⟩ := cf4 BK348.out
   obtain ⟨hcz20_0, hcz20_1, hcz20_2, hcz20_3, hfz20_0, hfz20_1, hfz20_2, hfz20_3⟩ := cf4 BK349.out
   go_wp2
   go_meet
   case rel => exact ⟨_, (true), rs, H', ⟨by first | omega | exact Nat.le_refl _⟩, ⟨kk BK348⟩, ⟨kk BK349⟩, ⟨bb HB⟩⟩
  rw [if_pos c6] at H
  have c6b0 : (a0_0 == a1_0) = true := beq_iff_eq.mpr c6
  have c6b1 : (a0_0 != a1_0) = false := bne_eq_false_iff_eq.mpr c6
  clear c6
  (first | rw [c6b0] | (simp only [i64_w, i32_w]; rw [c6b0]) | skip)
  by_cases c7 : a0_1 = a1_1
  rotate_left
  ·rw [if_neg c7] at H
   have c7b0 : (a0_1 == a1_1) = false := beq_eq_false_iff_ne.mpr c7
   have c7b1 : (a0_1 != a1_1) = true := bne_iff_ne.mpr c7
   have H' := Aside0.mk H
   clear H
   have hnb15 := NB348_349.out
   have hnc15 := NB349_348.out
   obtain ⟨hcz16_0, hcz16_1, hcz16_2, hcz16_3, hfz16_0, hfz16_1, hfz16_2, hfz16_3⟩ := cf4 BK348.out
   obtain ⟨hcz17_0, hcz17_1, hcz17_2, hcz17_3, hfz17_0, hfz17_1, hfz17_2, hfz17_3⟩ := cf4 BK349.out
   go_wp2
   go_meet
   case rel => exact ⟨_, (true), rs, H', ⟨by first | omega | exact Nat.le_refl _⟩, ⟨kk BK348⟩, ⟨kk BK349⟩, ⟨bb HB⟩⟩
  rw [if_pos c7] at H
  have c7b0 : (a0_1 == a1_1) = true := beq_iff_eq.mpr c7
  have c7b1 : (a0_1 != a1_1) = false := bne_eq_false_iff_eq.mpr c7
  clear c7
  by_cases c8 : a0_2 = a1_2
  rotate_left
  ·rw [if_neg c8] at H
   have c8b0 : (a0_2 == a1_2) = false := beq_eq_false_iff_ne.mpr c8
   have c8b1 : (a0_2 != a1_2) = true := bne_iff_ne.mpr c8
   have H' := Aside0.mk H
   clear H
   have hnb12 := NB348_349.out
   have hnc12 := NB349_348.out
   obtain ⟨hcz13_0, hcz13_1, hcz13_2, hcz13_3, hfz13_0, hfz13_1, hfz13_2, hfz13_3⟩ := cf4 BK348.out
   obtain ⟨hcz14_0, hcz14_1, hcz14_2, hcz14_3, hfz14_0, hfz14_1, hfz14_2, hfz14_3⟩ := cf4 BK349.out
   go_wp2
   go_meet
   case rel => exact ⟨_, (true), rs, H', ⟨by first | omega | exact Nat.le_refl _⟩, ⟨kk BK348⟩, ⟨kk BK349⟩, ⟨bb HB⟩⟩
  rw [if_pos c8] at H
  have c8b0 : (a0_2 == a1_2) = true := beq_iff_eq.mpr c8
  have c8b1 : (a0_2 != a1_2) = false := bne_eq_false_iff_eq.mpr c8
  clear c8
  have H' := Aside0.mk H
  clear H
  have hnb9 := NB348_349.out
  have hnc9 := NB349_348.out
  obtain ⟨hcz10_0, hcz10_1, hcz10_2, hcz10_3, hfz10_0, hfz10_1, hfz10_2, hfz10_3⟩ := cf4 BK348.out
  obtain ⟨hcz11_0, hcz11_1, hcz11_2, hcz11_3, hfz11_0, hfz11_1, hfz11_2, hfz11_3⟩ := cf4 BK349.out
  go_wp2
  go_meet
  case rel => exact ⟨_, (((l0_3.length : Int) != (l1_3.length : Int))), rs, H', ⟨by first | omega | exact Nat.le_refl _⟩, ⟨kk BK348⟩, ⟨kk BK349⟩, ⟨bb HB⟩⟩
 case rest =>
  clear HC3
  try clear c1
  try clear p2
  try clear c6
  try clear c6b0
  try clear c6b1
  try clear c7
  try clear c7b0
  try clear c7b1
  try clear c8
  try clear c8b0
  try clear c8b1
  try clear c9
  try clear c12
  try clear c15
  try clear c18
  try clear hcz10_0 hcz10_1 hcz10_2 hcz10_3
  try clear hcz11_0 hcz11_1 hcz11_2 hcz11_3
  try clear hcz13_0 hcz13_1 hcz13_2 hcz13_3
  try clear hcz14_0 hcz14_1 hcz14_2 hcz14_3
  try clear hcz16_0 hcz16_1 hcz16_2 hcz16_3
  try clear hcz17_0 hcz17_1 hcz17_2 hcz17_3
  try clear hcz19_0 hcz19_1 hcz19_2 hcz19_3
  try clear hcz20_0 hcz20_1 hcz20_2 hcz20_3
  try clear hfz10_0 hfz10_1 hfz10_2 hfz10_3
  try clear hfz11_0 hfz11_1 hfz11_2 hfz11_3
  try clear hfz13_0 hfz13_1 hfz13_2 hfz13_3
  try clear hfz14_0 hfz14_1 hfz14_2 hfz14_3
  try clear hfz16_0 hfz16_1 hfz16_2 hfz16_3
  try clear hfz17_0 hfz17_1 hfz17_2 hfz17_3
  try clear hfz19_0 hfz19_1 hfz19_2 hfz19_3
  try clear hfz20_0 hfz20_1 hfz20_2 hfz20_3
  obtain ⟨kq, x33_2, rfl, HA, HJ2, BK348, BK349, HB⟩ := hcut
  cases kq with
  | zero => exact absurd HA.out (by simp [r2_Same.j0])
  | succ kj2 =>
   have H := HA.out
   clear HA
   simp only [r2_Same.j0] at H
   by_cases c21 : x33_2 = true
   ·subst c21
    replace H := it H
    obtain rfl := Option.some.inj H
    go_wp2
    go_ret
    exact ⟨rr, bb HB⟩
   replace c21 := Bool.eq_false_iff.mpr c21
   subst c21
   replace H := fi H
   have H' := Aside0.mk H
   clear H
   go_wp2
   go_loopg [5] kj2 (fun kq v5 w' => ∃ (x5_2 : Int), v5 = .int .i64 x5_2 ∧ Aside0 (r2_Same.l0 kq x5_2 a0_0 a0_1 a0_2 l0_3 a1_0 a1_1 a1_2 l1_3 = some r) ∧ Aside0 (kq ≤ kj2) ∧ Aside0 (w'.heap[gb348]? = some (.cells #[.int .i64 a0_0, .int .i64 a0_1, .int .i64 a0_2, (.slice A0_3 l0_3.length c0_3)] 96 (0, 0))) ∧ Aside0 (w'.heap[gb349]? = some (.cells #[.int .i64 a1_0, .int .i64 a1_1, .int .i64 a1_2, (.slice A1_3 l1_3.length c1_3)] 96 (0, 0))) ∧ Aside0 (Below w.heap.size w w'))
   case atStart => exact ⟨(0), rs, H', ⟨Nat.le_refl _⟩, ⟨kk BK348⟩, ⟨kk BK349⟩, ⟨bb HB⟩⟩
   case round =>
    clear H'
    try clear c1
    try clear c2
    try clear p2
    try clear c6
    try clear c6b0
    try clear c6b1
    try clear c7
    try clear c7b0
    try clear c7b1
    try clear c8
    try clear c8b0
    try clear c8b1
    try clear c9
    try clear c12
    try clear c15
    try clear c18
    try clear c21
    try clear hcz10_0 hcz10_1 hcz10_2 hcz10_3
    try clear hcz11_0 hcz11_1 hcz11_2 hcz11_3
    try clear hcz13_0 hcz13_1 hcz13_2 hcz13_3
    try clear hcz14_0 hcz14_1 hcz14_2 hcz14_3
    try clear hcz16_0 hcz16_1 hcz16_2 hcz16_3
    try clear hcz17_0 hcz17_1 hcz17_2 hcz17_3
    try clear hcz19_0 hcz19_1 hcz19_2 hcz19_3
    try clear hcz20_0 hcz20_1 hcz20_2 hcz20_3
    try clear hfz10_0 hfz10_1 hfz10_2 hfz10_3
    try clear hfz11_0 hfz11_1 hfz11_2 hfz11_3
    try clear hfz13_0 hfz13_1 hfz13_2 hfz13_3
    try clear hfz14_0 hfz14_1 hfz14_2 hfz14_3
    try clear hfz16_0 hfz16_1 hfz16_2 hfz16_3
    try clear hfz17_0 hfz17_1 hfz17_2 hfz17_3
    try clear hfz19_0 hfz19_1 hfz19_2 hfz19_3
    try clear hfz20_0 hfz20_1 hfz20_2 hfz20_3
    try clear p2
    obtain ⟨x5_2, rfl, HA, HK2, BK348, BK349, HB⟩ := hrel
    cases gk with
    | zero => exact absurd HA.out (by simp [r2_Same.l0])
    | succ k2 =>
     have H := HA.out
     clear HA
     simp only [r2_Same.l0] at H
     by_cases c22 : x5_2 < (l0_3.length : Int)
     rotate_left
     ·rw [if_neg c22] at H
      have c22b0 : decide (x5_2 < (l0_3.length : Int)) = false := decide_eq_false c22
      clear c22
      obtain rfl := Option.some.inj H
      have hnb35 := NB348_349.out
      have hnc35 := NB349_348.out
      obtain ⟨hcz36_0, hcz36_1, hcz36_2, hcz36_3, hfz36_0, hfz36_1, hfz36_2, hfz36_3⟩ := cf4 BK348.out
      go_wp2
      go_ret
      exact ⟨rr, bb HB⟩
     rw [if_pos c22] at H
     have c22b0 : decide (x5_2 < (l0_3.length : Int)) = true := decide_eq_true c22
     clear c22
     by_cases c23 : 0 ≤ x5_2
     rotate_left
     ·rw [if_neg c23] at H
      exact absurd H (by simp)
     rw [if_pos c23] at H
     have c23b0 : decide (0 ≤ x5_2) = true := decide_eq_true c23
     clear c23
     by_cases c24 : x5_2 < (l1_3.length : Int)
     rotate_left
     ·rw [if_neg c24] at H
      exact absurd H (by simp)
     rw [if_pos c24] at H
     have c24b0 : decide (x5_2 < (l1_3.length : Int)) = true := decide_eq_true c24
     clear c24
     obtain ⟨t352, A25, H⟩ := be H
     by_cases c26 : t352 = true
     rotate_left
     ·replace c26 := Bool.eq_false_iff.mpr c26
      subst c26
      replace H := fi H
      obtain rfl := Option.some.inj H
      have hnb31 := NB348_349.out
      have hnc31 := NB349_348.out
      obtain ⟨hcz32_0, hcz32_1, hcz32_2, hcz32_3, hfz32_0, hfz32_1, hfz32_2, hfz32_3⟩ := cf4 BK348.out
      try go_wp2
      replace BK348 := Aside0.mk (kdr BK348.out)
      replace BK349 := Aside0.mk (kdr BK349.out)
      replace HB := Aside0.mk (bd1 HB.out)
      have p350 : 0 ≤ (x5_2 : Int) := od
      have q350 : x5_2 < (l0_3.length : Int) := od
      obtain ⟨ad350, A350_3, c350_3, e350, hx350_0, hx350_1, hx350_2, hx350_3, hl350_3, hi350_3⟩ := at_T96 HR0_3.out x5_2 p350 q350
      have hw350_3 := hx350_3
      have hw350_2 := hx350_2
      have hw350_1 := hx350_1
      have hw350_0 := hx350_0
      cases e350
      replace hx350_0 := bcell HB.out hx350_0
      replace hx350_1 := bcell HB.out hx350_1
      replace hx350_2 := bcell HB.out hx350_2
      replace hx350_3 := bcell HB.out hx350_3
      have HR350_3 := Aside0.mk hi350_3
      have HC350_3 := Aside0.mk hl350_3
      clear hi350_3 hl350_3
      replace p350 := eq_true p350
      replace q350 := eq_true q350
      have p351 : 0 ≤ (x5_2 : Int) := od
      have q351 : x5_2 < (l1_3.length : Int) := od
      obtain ⟨ad351, A351_3, c351_3, e351, hx351_0, hx351_1, hx351_2, hx351_3, hl351_3, hi351_3⟩ := at_T96 HR1_3.out x5_2 p351 q351
      have hw351_3 := hx351_3
      have hw351_2 := hx351_2
      have hw351_1 := hx351_1
      have hw351_0 := hx351_0
      cases e351
      replace hx351_0 := bcell HB.out hx351_0
      replace hx351_1 := bcell HB.out hx351_1
      replace hx351_2 := bcell HB.out hx351_2
      replace hx351_3 := bcell HB.out hx351_3
      have HR351_3 := Aside0.mk hi351_3
      have HC351_3 := Aside0.mk hl351_3
      clear hi351_3 hl351_3
      replace p351 := eq_true p351
      replace q351 := eq_true q351
      refine start_ (n := 12) (S := fun w' => w'.cell? ⟨gb348, 0, none⟩ = some (.int .i64 a0_0) ∧ w'.cell? ⟨gb348, 1, none⟩ = some (.int .i64 a0_1) ∧ w'.cell? ⟨gb348, 2, none⟩ = some (.int .i64 a0_2) ∧ w'.cell? ⟨gb348, 3, none⟩ = some (.slice (some ad350) l0_3.length c0_3) ∧ w'.cell? ⟨gb349, 0, none⟩ = some (.int .i64 a1_0) ∧ w'.cell? ⟨gb349, 1, none⟩ = some (.int .i64 a1_1) ∧ w'.cell? ⟨gb349, 2, none⟩ = some (.int .i64 a1_2) ∧ w'.cell? ⟨gb349, 3, none⟩ = some (.slice (some ad351) l1_3.length c1_3) ∧ w'.cell? (ad350.add ((x5_2).toNat * 4)) = some (.int .i64 ((rd_T96 l0_3 x5_2).f0)) ∧ w'.cell? ⟨(ad350.add ((x5_2).toNat * 4)).block, (ad350.add ((x5_2).toNat * 4)).off + 1, none⟩ = some (.int .i64 ((rd_T96 l0_3 x5_2).f1)) ∧ w'.cell? ⟨(ad350.add ((x5_2).toNat * 4)).block, (ad350.add ((x5_2).toNat * 4)).off + 2, none⟩ = some (.int .i64 ((rd_T96 l0_3 x5_2).f2)) ∧ w'.cell? ⟨(ad350.add ((x5_2).toNat * 4)).block, (ad350.add ((x5_2).toNat * 4)).off + 3, none⟩ = some (.slice A350_3 ((rd_T96 l0_3 x5_2).f3).length c350_3) ∧ w'.cell? (ad351.add ((x5_2).toNat * 4)) = some (.int .i64 ((rd_T96 l1_3 x5_2).f0)) ∧ w'.cell? ⟨(ad351.add ((x5_2).toNat * 4)).block, (ad351.add ((x5_2).toNat * 4)).off + 1, none⟩ = some (.int .i64 ((rd_T96 l1_3 x5_2).f1)) ∧ w'.cell? ⟨(ad351.add ((x5_2).toNat * 4)).block, (ad351.add ((x5_2).toNat * 4)).off + 2, none⟩ = some (.int .i64 ((rd_T96 l1_3 x5_2).f2)) ∧ w'.cell? ⟨(ad351.add ((x5_2).toNat * 4)).block, (ad351.add ((x5_2).toNat * 4)).off + 3, none⟩ = some (.slice A351_3 ((rd_T96 l1_3 x5_2).f3).length c351_3)) (ds := []) #[false, false, false, false, false, false, false, false, false, false, false, false] (by kernel_rfl) rfl rfl ⟨(blk_cell BK348.out 0).trans rfl, (blk_cell BK348.out 1).trans rfl, (blk_cell BK348.out 2).trans rfl, (blk_cell BK348.out 3).trans rfl, (blk_cell BK349.out 0).trans rfl, (blk_cell BK349.out 1).trans rfl, (blk_cell BK349.out 2).trans rfl, (blk_cell BK349.out 3).trans rfl, (bcell HB.out hw350_0), (bcell HB.out hw350_1), (bcell HB.out hw350_2), (bcell HB.out hw350_3), (bcell HB.out hw351_0), (bcell HB.out hw351_1), (bcell HB.out hw351_2), (bcell HB.out hw351_3)⟩ (fun hHeld => ?_); refine with_tabW r2_Same.tab6 r2_Same.bits6 (fun HT_ HW_ => ?_)
      generalize wr.drew = w33 at BK348 BK349 HB HR350_3 HR351_3 hx350_0 hx350_1 hx350_2 hx350_3 hx351_0 hx351_1 hx351_2 hx351_3 hHeld ⊢
      refine pT 0 41 (bl 12 1) HT_ rfl rfl ?_
      refine pT 2 43 (bl 12 5) HT_ rfl rfl ?_
      refine pT 5 46 (bl 12 37) HT_ rfl rfl ?_
      refine pT 7 48 (bl 12 165) HT_ rfl rfl ?_
      refine tk (i := 1) (N := some 42) (bl 12 167) rfl rfl (take_ofW HT_.out HW_.out (by kernel_rfl)) hHeld ?_
      refine pT 3 44 (bl 12 175) HT_ rfl rfl ?_
      refine tk (i := 4) (N := some 45) (bl 12 191) rfl rfl (take_ofW HT_.out HW_.out (by kernel_rfl)) hHeld ?_
      refine tk (i := 6) (N := some 47) (bl 12 255) rfl rfl (take_ofW HT_.out HW_.out (by kernel_rfl)) hHeld ?_
      refine pT 8 49 (bl 12 511) HT_ rfl rfl ?_
      refine tk (i := 9) (N := some 50) (bl 12 1023) rfl rfl (take_ofW HT_.out HW_.out (by kernel_rfl)) hHeld ?_
      refine one_ (i := 10) (N := some 51) (bl 12 2047) rfl rfl (one_of HT_.out (by kernel_rfl)) (by decide) (fun K hK => ?_)
      refine gO Try.func79 #[.agg #[.int .i64 ((rd_T96 l0_3 x5_2).f0), .int .i64 ((rd_T96 l0_3 x5_2).f1), .int .i64 ((rd_T96 l0_3 x5_2).f2), .slice A350_3 ((rd_T96 l0_3 x5_2).f3).length c350_3], .agg #[.int .i64 ((rd_T96 l1_3 x5_2).f0), .int .i64 ((rd_T96 l1_3 x5_2).f1), .int .i64 ((rd_T96 l1_3 x5_2).f2), .slice A351_3 ((rd_T96 l1_3 x5_2).f3).length c351_3]] (by rfl) rfl rfl ?_
      with_reducible refine (ih k2 (by have := HJ2.out; have := HK2.out; omega) ((rd_T96 l0_3 x5_2).f0) ((rd_T96 l0_3 x5_2).f1) ((rd_T96 l0_3 x5_2).f2) _ _ ((rd_T96 l0_3 x5_2).f3) ((rd_T96 l1_3 x5_2).f0) ((rd_T96 l1_3 x5_2).f1) ((rd_T96 l1_3 x5_2).f2) _ _ ((rd_T96 l1_3 x5_2).f3) false _ ?side1 ?side2 ?side3 ?side4 A25.out).mono ?_
      (case side1 => exact cb HR350_3 HB)
      (case side2 => exact HC350_3.out)
      (case side3 => exact cb HR351_3 HB)
      (case side4 => exact HC351_3.out)
      rintro e w34 ⟨rfl, hb⟩
      refine ⟨_, rfl, ?_⟩
      replace BK348 := kb BK348 hb
      replace BK349 := kb BK349 hb
      replace HB := sb HB hb
      (try clear hb)
      (try clear hb2)
      (try clear hk)
      (try clear hi)
      refine hK.out _ _ ⟨(blk_cell BK348.out 0).trans rfl, (blk_cell BK348.out 1).trans rfl, (blk_cell BK348.out 2).trans rfl, (blk_cell BK348.out 3).trans rfl, (blk_cell BK349.out 0).trans rfl, (blk_cell BK349.out 1).trans rfl, (blk_cell BK349.out 2).trans rfl, (blk_cell BK349.out 3).trans rfl, (bcell HB.out hw350_0), (bcell HB.out hw350_1), (bcell HB.out hw350_2), (bcell HB.out hw350_3), (bcell HB.out hw351_0), (bcell HB.out hw351_1), (bcell HB.out hw351_2), (bcell HB.out hw351_3)⟩ (fun hHeld => ?_)
      clear hK K
      refine nm 51 ?_
      refine pT 11 52 (bl 12 4095) HT_ rfl rfl ?_
      refine done_ (done_of HT_.out (by kernel_rfl)) ?_
      try go_wp2
      go_ret
      exact ⟨rr, bb HB⟩
     subst c26
     replace H := it H
     have H' := Aside0.mk H
     clear H
     have hnb27 := NB348_349.out
     have hnc27 := NB349_348.out
     obtain ⟨hcz28_0, hcz28_1, hcz28_2, hcz28_3, hfz28_0, hfz28_1, hfz28_2, hfz28_3⟩ := cf4 BK348.out
     try go_wp2
     replace BK348 := Aside0.mk (kdr BK348.out)
     replace BK349 := Aside0.mk (kdr BK349.out)
     replace HB := Aside0.mk (bd1 HB.out)
     have p350 : 0 ≤ (x5_2 : Int) := od
     have q350 : x5_2 < (l0_3.length : Int) := od
     obtain ⟨ad350, A350_3, c350_3, e350, hx350_0, hx350_1, hx350_2, hx350_3, hl350_3, hi350_3⟩ := at_T96 HR0_3.out x5_2 p350 q350
     have hw350_3 := hx350_3
     have hw350_2 := hx350_2
     have hw350_1 := hx350_1
     have hw350_0 := hx350_0
     cases e350
     replace hx350_0 := bcell HB.out hx350_0
     replace hx350_1 := bcell HB.out hx350_1
     replace hx350_2 := bcell HB.out hx350_2
     replace hx350_3 := bcell HB.out hx350_3
     have HR350_3 := Aside0.mk hi350_3
     have HC350_3 := Aside0.mk hl350_3
     clear hi350_3 hl350_3
     replace p350 := eq_true p350
     replace q350 := eq_true q350
     have p351 : 0 ≤ (x5_2 : Int) := od
     have q351 : x5_2 < (l1_3.length : Int) := od
     obtain ⟨ad351, A351_3, c351_3, e351, hx351_0, hx351_1, hx351_2, hx351_3, hl351_3, hi351_3⟩ := at_T96 HR1_3.out x5_2 p351 q351
     have hw351_3 := hx351_3
     have hw351_2 := hx351_2
     have hw351_1 := hx351_1
     have hw351_0 := hx351_0
     cases e351
     replace hx351_0 := bcell HB.out hx351_0
     replace hx351_1 := bcell HB.out hx351_1
     replace hx351_2 := bcell HB.out hx351_2
     replace hx351_3 := bcell HB.out hx351_3
     have HR351_3 := Aside0.mk hi351_3
     have HC351_3 := Aside0.mk hl351_3
     clear hi351_3 hl351_3
     replace p351 := eq_true p351
     replace q351 := eq_true q351
     refine start_ (n := 12) (S := fun w' => w'.cell? ⟨gb348, 0, none⟩ = some (.int .i64 a0_0) ∧ w'.cell? ⟨gb348, 1, none⟩ = some (.int .i64 a0_1) ∧ w'.cell? ⟨gb348, 2, none⟩ = some (.int .i64 a0_2) ∧ w'.cell? ⟨gb348, 3, none⟩ = some (.slice (some ad350) l0_3.length c0_3) ∧ w'.cell? ⟨gb349, 0, none⟩ = some (.int .i64 a1_0) ∧ w'.cell? ⟨gb349, 1, none⟩ = some (.int .i64 a1_1) ∧ w'.cell? ⟨gb349, 2, none⟩ = some (.int .i64 a1_2) ∧ w'.cell? ⟨gb349, 3, none⟩ = some (.slice (some ad351) l1_3.length c1_3) ∧ w'.cell? (ad350.add ((x5_2).toNat * 4)) = some (.int .i64 ((rd_T96 l0_3 x5_2).f0)) ∧ w'.cell? ⟨(ad350.add ((x5_2).toNat * 4)).block, (ad350.add ((x5_2).toNat * 4)).off + 1, none⟩ = some (.int .i64 ((rd_T96 l0_3 x5_2).f1)) ∧ w'.cell? ⟨(ad350.add ((x5_2).toNat * 4)).block, (ad350.add ((x5_2).toNat * 4)).off + 2, none⟩ = some (.int .i64 ((rd_T96 l0_3 x5_2).f2)) ∧ w'.cell? ⟨(ad350.add ((x5_2).toNat * 4)).block, (ad350.add ((x5_2).toNat * 4)).off + 3, none⟩ = some (.slice A350_3 ((rd_T96 l0_3 x5_2).f3).length c350_3) ∧ w'.cell? (ad351.add ((x5_2).toNat * 4)) = some (.int .i64 ((rd_T96 l1_3 x5_2).f0)) ∧ w'.cell? ⟨(ad351.add ((x5_2).toNat * 4)).block, (ad351.add ((x5_2).toNat * 4)).off + 1, none⟩ = some (.int .i64 ((rd_T96 l1_3 x5_2).f1)) ∧ w'.cell? ⟨(ad351.add ((x5_2).toNat * 4)).block, (ad351.add ((x5_2).toNat * 4)).off + 2, none⟩ = some (.int .i64 ((rd_T96 l1_3 x5_2).f2)) ∧ w'.cell? ⟨(ad351.add ((x5_2).toNat * 4)).block, (ad351.add ((x5_2).toNat * 4)).off + 3, none⟩ = some (.slice A351_3 ((rd_T96 l1_3 x5_2).f3).length c351_3)) (ds := []) #[false, false, false, false, false, false, false, false, false, false, false, false] (by kernel_rfl) rfl rfl ⟨(blk_cell BK348.out 0).trans rfl, (blk_cell BK348.out 1).trans rfl, (blk_cell BK348.out 2).trans rfl, (blk_cell BK348.out 3).trans rfl, (blk_cell BK349.out 0).trans rfl, (blk_cell BK349.out 1).trans rfl, (blk_cell BK349.out 2).trans rfl, (blk_cell BK349.out 3).trans rfl, (bcell HB.out hw350_0), (bcell HB.out hw350_1), (bcell HB.out hw350_2), (bcell HB.out hw350_3), (bcell HB.out hw351_0), (bcell HB.out hw351_1), (bcell HB.out hw351_2), (bcell HB.out hw351_3)⟩ (fun hHeld => ?_); refine with_tabW r2_Same.tab6 r2_Same.bits6 (fun HT_ HW_ => ?_)
     generalize wr.drew = w29 at BK348 BK349 HB HR350_3 HR351_3 hx350_0 hx350_1 hx350_2 hx350_3 hx351_0 hx351_1 hx351_2 hx351_3 hHeld ⊢
     refine pT 0 41 (bl 12 1) HT_ rfl rfl ?_
     refine pT 2 43 (bl 12 5) HT_ rfl rfl ?_
     refine pT 5 46 (bl 12 37) HT_ rfl rfl ?_
     refine pT 7 48 (bl 12 165) HT_ rfl rfl ?_
     refine tk (i := 1) (N := some 42) (bl 12 167) rfl rfl (take_ofW HT_.out HW_.out (by kernel_rfl)) hHeld ?_
     refine pT 3 44 (bl 12 175) HT_ rfl rfl ?_
     refine tk (i := 4) (N := some 45) (bl 12 191) rfl rfl (take_ofW HT_.out HW_.out (by kernel_rfl)) hHeld ?_
     refine tk (i := 6) (N := some 47) (bl 12 255) rfl rfl (take_ofW HT_.out HW_.out (by kernel_rfl)) hHeld ?_
     refine pT 8 49 (bl 12 511) HT_ rfl rfl ?_
     refine tk (i := 9) (N := some 50) (bl 12 1023) rfl rfl (take_ofW HT_.out HW_.out (by kernel_rfl)) hHeld ?_
     refine one_ (i := 10) (N := some 51) (bl 12 2047) rfl rfl (one_of HT_.out (by kernel_rfl)) (by decide) (fun K hK => ?_)
     refine gO Try.func79 #[.agg #[.int .i64 ((rd_T96 l0_3 x5_2).f0), .int .i64 ((rd_T96 l0_3 x5_2).f1), .int .i64 ((rd_T96 l0_3 x5_2).f2), .slice A350_3 ((rd_T96 l0_3 x5_2).f3).length c350_3], .agg #[.int .i64 ((rd_T96 l1_3 x5_2).f0), .int .i64 ((rd_T96 l1_3 x5_2).f1), .int .i64 ((rd_T96 l1_3 x5_2).f2), .slice A351_3 ((rd_T96 l1_3 x5_2).f3).length c351_3]] (by rfl) rfl rfl ?_
     with_reducible refine (ih k2 (by have := HJ2.out; have := HK2.out; omega) ((rd_T96 l0_3 x5_2).f0) ((rd_T96 l0_3 x5_2).f1) ((rd_T96 l0_3 x5_2).f2) _ _ ((rd_T96 l0_3 x5_2).f3) ((rd_T96 l1_3 x5_2).f0) ((rd_T96 l1_3 x5_2).f1) ((rd_T96 l1_3 x5_2).f2) _ _ ((rd_T96 l1_3 x5_2).f3) true _ ?side1 ?side2 ?side3 ?side4 A25.out).mono ?_
     (case side1 => exact cb HR350_3 HB)
     (case side2 => exact HC350_3.out)
     (case side3 => exact cb HR351_3 HB)
     (case side4 => exact HC351_3.out)
     rintro e w30 ⟨rfl, hb⟩
     refine ⟨_, rfl, ?_⟩
     replace BK348 := kb BK348 hb
     replace BK349 := kb BK349 hb
     replace HB := sb HB hb
     (try clear hb)
     (try clear hb2)
     (try clear hk)
     (try clear hi)
     refine hK.out _ _ ⟨(blk_cell BK348.out 0).trans rfl, (blk_cell BK348.out 1).trans rfl, (blk_cell BK348.out 2).trans rfl, (blk_cell BK348.out 3).trans rfl, (blk_cell BK349.out 0).trans rfl, (blk_cell BK349.out 1).trans rfl, (blk_cell BK349.out 2).trans rfl, (blk_cell BK349.out 3).trans rfl, (bcell HB.out hw350_0), (bcell HB.out hw350_1), (bcell HB.out hw350_2), (bcell HB.out hw350_3), (bcell HB.out hw351_0), (bcell HB.out hw351_1), (bcell HB.out hw351_2), (bcell HB.out hw351_3)⟩ (fun hHeld => ?_)
     clear hK K
     refine nm 51 ?_
     refine pT 11 52 (bl 12 4095) HT_ rfl rfl ?_
     refine done_ (done_of HT_.out (by kernel_rfl)) ?_
     try go_wp2
     go_roundg k2
     case measure => have := HJ2.out; have := HK2.out; omega
     case rel => exact ⟨(wrap64 (x5_2 + 1)), rs, H', ⟨by have := HJ2.out; have := HK2.out; omega⟩, ⟨kk BK348⟩, ⟨kk BK349⟩, ⟨bb HB⟩⟩
theorem sameE : (∀ x, goodE x → Tells (fun k => r2_Same.f k x.f0 x.f1 x.f2 x.f3 x.f0 x.f1 x.f2 x.f3) true) ∧
    (∀ suf, ∀ (pre : List S96) (a b c : Int), goodEs suf → (pre ++ suf).length ≤ 9223372036854775807 → Tells (fun k => r2_Same.l0 k (pre.length : Int) a b c (pre ++ suf) a b c (pre ++ suf)) true) := by
  refine E_ind (fun a b c l ih => ?_) ?_ (fun x r ih1 ih2 => ?_)
  · intro hg
    refine Tells.succ ?_
    simp only [r2_Same.f, if_true, bne_self_eq_false]
    refine Tells.succ ?_
    simp only [r2_Same.j0, Bool.false_eq_true, if_false]
    exact ih [] a b c hg.2 hg.1
  · intro pre a b c _ _
    refine Tells.succ ?_
    simp only [r2_Same.l0, pre_nlt, if_false]
    exact Tells.pure _
  · intro pre a b c hg hl
    refine Tells.succ ?_
    simp only [r2_Same.l0, pre_lt, pre_pos, if_true, rdE_mid]
    refine Tells.bind (ih1 hg.1) (Tells.ifT rfl ?_)
    rw [pre_next pre x r hl]
    have := ih2 (pre ++ [x]) a b c hg.2 (by rw [← pre_app]; exact hl)
    rw [← pre_app] at this
    exact this
def r3_exprs.l0 : Nat → List (S96) → List (S96) → Int → Option (Bool)
 | 0, _, _, _ => none
 | k + 1, x0, x1, x5 => if x5 < (x0.length : Int) then (if 0 ≤ x5 then (if x5 < (x1.length : Int) then ((r2_Same.f k ((rd_T96 x0 x5).f0) ((rd_T96 x0 x5).f1) ((rd_T96 x0 x5).f2) ((rd_T96 x0 x5).f3) ((rd_T96 x1 x5).f0) ((rd_T96 x1 x5).f1) ((rd_T96 x1 x5).f2) ((rd_T96 x1 x5).f3)).bind fun t355 => (if t355 = true then (r3_exprs.l0 k x0 x1 (wrap64 (x5 + 1))) else (some false))) else (none)) else (none)) else (some true)
def r3_exprs.f (k : Nat) (l0 : List (S96)) (l1 : List (S96)) : Option (Bool) := if (l0.length : Int) = (l1.length : Int) then (r3_exprs.l0 k l0 l1 0) else (some false)
def r3_exprs.T6 : Bool × List (List Nat × List Nat) := (true, [([], []), ([], []), ([0, 1], [0, 1]), ([2], [2]), ([], []), ([], []), ([4, 5], [4, 5]), ([6], [6]), ([3, 7], [3, 7]), ([8], [8])])
def r3_exprs.B6 : List Nat := [0, 0, 3, 7, 0, 0, 48, 112, 255, 511]
theorem r3_exprs.tab6 : rtab .any (opsOf Try.f57 6) = r3_exprs.T6 := by kernel_rfl
theorem r3_exprs.bits6 : waitsOk r3_exprs.T6.2 r3_exprs.B6 = true := by kernel_rfl
theorem r3_exprs.calls (k : Nat) (A0 : Option Addr) (c0 : Nat) (l0 : List (S96)) (A1 : Option Addr) (c1 : Nat) (l1 : List (S96)) (r : Bool) (w : World) (hr0 : Kd.C k96 w A0 l0.length l0) (hc0 : l0.length ≤ c0) (hr1 : Kd.C k96 w A1 l1.length l1) (hc1 : l1.length ≤ c1) (h : r3_exprs.f k l0 l1 = some r) :
  Calls Try.prog 57 #[.slice A0 l0.length c0, .slice A1 l1.length c1] w fun e w' => e = .returned (.bool r) ∧ Below w.heap.size w w' := by
 have hu96 := Try.underlying96
 have HR0 := Aside0.mk hr0
 have HC0 := Aside0.mk hc0
 clear hr0 hc0
 have HR1 := Aside0.mk hr1
 have HC1 := Aside0.mk hc1
 clear hr1 hc1
 have HB := Aside0.mk (Below.refl w.heap.size w)
 have H : (if (l0.length : Int) = (l1.length : Int) then (r3_exprs.l0 k l0 l1 0) else (some false)) = some r := h
 clear h
 by_cases c3 : (l0.length : Int) = (l1.length : Int)
 rotate_left
 ·rw [if_neg c3] at H
  have c3b0 : ((l0.length : Int) == (l1.length : Int)) = false := beq_eq_false_iff_ne.mpr c3
  have c3b1 : ((l0.length : Int) != (l1.length : Int)) = true := bne_iff_ne.mpr c3
  have c3b2 : (l0.length == l1.length) = false := by first | simpa using c3 | (simp at c3 ⊢; omega)
  obtain rfl := Option.some.inj H
  go_enter Try.func57, Try.ntmps57
  go_wp2
  go_ret
  exact ⟨rr, bb HB⟩
 rw [if_pos c3] at H
 have c3b0 : ((l0.length : Int) == (l1.length : Int)) = true := beq_iff_eq.mpr c3
 have c3b1 : ((l0.length : Int) != (l1.length : Int)) = false := bne_eq_false_iff_eq.mpr c3
 have c3b2 : (l0.length == l1.length) = true := by first | simpa using c3 | (simp at c3 ⊢; omega)
 clear c3
 have H' := Aside0.mk H
 clear H
 go_enter Try.func57, Try.ntmps57
 go_wp2
 go_loopg [5] k (fun kq v5 w' => ∃ (x5_1 : Int), v5 = .int .i64 x5_1 ∧ Aside0 (r3_exprs.l0 kq l0 l1 x5_1 = some r) ∧ Aside0 (kq ≤ k) ∧ Aside0 (Below w.heap.size w w'))
 case atStart => exact ⟨(0), rs, H', ⟨Nat.le_refl _⟩, ⟨bb HB⟩⟩
 case round =>
  clear H'
  try clear c1
  try clear p2
  try clear c3
  try clear c3b0
  try clear c3b1
  try clear c3b2
  obtain ⟨x5_1, rfl, HA, HK1, HB⟩ := hrel
  cases gk with
  | zero => exact absurd HA.out (by simp [r3_exprs.l0])
  | succ k1 =>
   have H := HA.out
   clear HA
   simp only [r3_exprs.l0] at H
   by_cases c4 : x5_1 < (l0.length : Int)
   rotate_left
   ·rw [if_neg c4] at H
    have c4b0 : decide (x5_1 < (l0.length : Int)) = false := decide_eq_false c4
    clear c4
    obtain rfl := Option.some.inj H
    go_wp2
    go_ret
    exact ⟨rr, bb HB⟩
   rw [if_pos c4] at H
   have c4b0 : decide (x5_1 < (l0.length : Int)) = true := decide_eq_true c4
   clear c4
   by_cases c5 : 0 ≤ x5_1
   rotate_left
   ·rw [if_neg c5] at H
    exact absurd H (by simp)
   rw [if_pos c5] at H
   have c5b0 : decide (0 ≤ x5_1) = true := decide_eq_true c5
   clear c5
   by_cases c6 : x5_1 < (l1.length : Int)
   rotate_left
   ·rw [if_neg c6] at H
    exact absurd H (by simp)
   rw [if_pos c6] at H
   have c6b0 : decide (x5_1 < (l1.length : Int)) = true := decide_eq_true c6
   clear c6
   obtain ⟨t355, A7, H⟩ := be H
   by_cases c8 : t355 = true
   rotate_left
   ·replace c8 := Bool.eq_false_iff.mpr c8
    subst c8
    replace H := fi H
    obtain rfl := Option.some.inj H
    try go_wp2
    replace HB := Aside0.mk (bd1 HB.out)
    have p353 : 0 ≤ (x5_1 : Int) := od
    have q353 : x5_1 < (l0.length : Int) := od
    obtain ⟨ad353, A353_3, c353_3, e353, hx353_0, hx353_1, hx353_2, hx353_3, hl353_3, hi353_3⟩ := at_T96 HR0.out x5_1 p353 q353
    have hw353_3 := hx353_3
    have hw353_2 := hx353_2
    have hw353_1 := hx353_1
    have hw353_0 := hx353_0
    cases e353
    replace hx353_0 := bcell HB.out hx353_0
    replace hx353_1 := bcell HB.out hx353_1
    replace hx353_2 := bcell HB.out hx353_2
    replace hx353_3 := bcell HB.out hx353_3
    have HR353_3 := Aside0.mk hi353_3
    have HC353_3 := Aside0.mk hl353_3
    clear hi353_3 hl353_3
    replace p353 := eq_true p353
    replace q353 := eq_true q353
    have p354 : 0 ≤ (x5_1 : Int) := od
    have q354 : x5_1 < (l1.length : Int) := od
    obtain ⟨ad354, A354_3, c354_3, e354, hx354_0, hx354_1, hx354_2, hx354_3, hl354_3, hi354_3⟩ := at_T96 HR1.out x5_1 p354 q354
    have hw354_3 := hx354_3
    have hw354_2 := hx354_2
    have hw354_1 := hx354_1
    have hw354_0 := hx354_0
    cases e354
    replace hx354_0 := bcell HB.out hx354_0
    replace hx354_1 := bcell HB.out hx354_1
    replace hx354_2 := bcell HB.out hx354_2
    replace hx354_3 := bcell HB.out hx354_3
    have HR354_3 := Aside0.mk hi354_3
    have HC354_3 := Aside0.mk hl354_3
    clear hi354_3 hl354_3
    replace p354 := eq_true p354
    replace q354 := eq_true q354
    refine start_ (n := 10) (S := fun w' => w'.cell? (ad353.add ((x5_1).toNat * 4)) = some (.int .i64 ((rd_T96 l0 x5_1).f0)) ∧ w'.cell? ⟨(ad353.add ((x5_1).toNat * 4)).block, (ad353.add ((x5_1).toNat * 4)).off + 1, none⟩ = some (.int .i64 ((rd_T96 l0 x5_1).f1)) ∧ w'.cell? ⟨(ad353.add ((x5_1).toNat * 4)).block, (ad353.add ((x5_1).toNat * 4)).off + 2, none⟩ = some (.int .i64 ((rd_T96 l0 x5_1).f2)) ∧ w'.cell? ⟨(ad353.add ((x5_1).toNat * 4)).block, (ad353.add ((x5_1).toNat * 4)).off + 3, none⟩ = some (.slice A353_3 ((rd_T96 l0 x5_1).f3).length c353_3) ∧ w'.cell? (ad354.add ((x5_1).toNat * 4)) = some (.int .i64 ((rd_T96 l1 x5_1).f0)) ∧ w'.cell? ⟨(ad354.add ((x5_1).toNat * 4)).block, (ad354.add ((x5_1).toNat * 4)).off + 1, none⟩ = some (.int .i64 ((rd_T96 l1 x5_1).f1)) ∧ w'.cell? ⟨(ad354.add ((x5_1).toNat * 4)).block, (ad354.add ((x5_1).toNat * 4)).off + 2, none⟩ = some (.int .i64 ((rd_T96 l1 x5_1).f2)) ∧ w'.cell? ⟨(ad354.add ((x5_1).toNat * 4)).block, (ad354.add ((x5_1).toNat * 4)).off + 3, none⟩ = some (.slice A354_3 ((rd_T96 l1 x5_1).f3).length c354_3)) (ds := []) #[false, false, false, false, false, false, false, false, false, false] (by kernel_rfl) rfl rfl ⟨(bcell HB.out hw353_0), (bcell HB.out hw353_1), (bcell HB.out hw353_2), (bcell HB.out hw353_3), (bcell HB.out hw354_0), (bcell HB.out hw354_1), (bcell HB.out hw354_2), (bcell HB.out hw354_3)⟩ (fun hHeld => ?_); refine with_tabW r3_exprs.tab6 r3_exprs.bits6 (fun HT_ HW_ => ?_)
    generalize wr.drew = w11 at HB HR353_3 HR354_3 hx353_0 hx353_1 hx353_2 hx353_3 hx354_0 hx354_1 hx354_2 hx354_3 hHeld ⊢
    refine pT 0 17 (bl 10 1) HT_ rfl rfl ?_
    refine pT 1 18 (bl 10 3) HT_ rfl rfl ?_
    refine pT 2 19 (bl 10 7) HT_ rfl rfl ?_
    refine pT 4 21 (bl 10 23) HT_ rfl rfl ?_
    refine pT 5 22 (bl 10 55) HT_ rfl rfl ?_
    refine pT 6 23 (bl 10 119) HT_ rfl rfl ?_
    refine tk (i := 3) (N := some 20) (bl 10 127) rfl rfl (take_ofW HT_.out HW_.out (by kernel_rfl)) hHeld ?_
    refine tk (i := 7) (N := some 24) (bl 10 255) rfl rfl (take_ofW HT_.out HW_.out (by kernel_rfl)) hHeld ?_
    refine one_ (i := 8) (N := some 25) (bl 10 511) rfl rfl (one_of HT_.out (by kernel_rfl)) (by decide) (fun K hK => ?_)
    refine gO Try.func79 #[.agg #[.int .i64 ((rd_T96 l0 x5_1).f0), .int .i64 ((rd_T96 l0 x5_1).f1), .int .i64 ((rd_T96 l0 x5_1).f2), .slice A353_3 ((rd_T96 l0 x5_1).f3).length c353_3], .agg #[.int .i64 ((rd_T96 l1 x5_1).f0), .int .i64 ((rd_T96 l1 x5_1).f1), .int .i64 ((rd_T96 l1 x5_1).f2), .slice A354_3 ((rd_T96 l1 x5_1).f3).length c354_3]] (by rfl) rfl rfl ?_
    with_reducible refine (r2_Same.calls k1 ((rd_T96 l0 x5_1).f0) ((rd_T96 l0 x5_1).f1) ((rd_T96 l0 x5_1).f2) _ _ ((rd_T96 l0 x5_1).f3) ((rd_T96 l1 x5_1).f0) ((rd_T96 l1 x5_1).f1) ((rd_T96 l1 x5_1).f2) _ _ ((rd_T96 l1 x5_1).f3) false _ ?side1 ?side2 ?side3 ?side4 A7.out).mono ?_
    (case side1 => exact cb HR353_3 HB)
    (case side2 => exact HC353_3.out)
    (case side3 => exact cb HR354_3 HB)
    (case side4 => exact HC354_3.out)
    rintro e w12 ⟨rfl, hb⟩
    refine ⟨_, rfl, ?_⟩
    replace HB := sb HB hb
    (try clear hb)
    (try clear hb2)
    (try clear hk)
    (try clear hi)
    refine hK.out _ _ ⟨(bcell HB.out hw353_0), (bcell HB.out hw353_1), (bcell HB.out hw353_2), (bcell HB.out hw353_3), (bcell HB.out hw354_0), (bcell HB.out hw354_1), (bcell HB.out hw354_2), (bcell HB.out hw354_3)⟩ (fun hHeld => ?_)
    clear hK K
    refine nm 25 ?_
    refine pT 9 26 (bl 10 1023) HT_ rfl rfl ?_
    refine done_ (done_of HT_.out (by kernel_rfl)) ?_
    try go_wp2
    go_ret
    exact ⟨rr, bb HB⟩
   subst c8
   replace H := it H
   have H' := Aside0.mk H
   clear H
   try go_wp2
   replace HB := Aside0.mk (bd1 HB.out)
   have p353 : 0 ≤ (x5_1 : Int) := od
   have q353 : x5_1 < (l0.length : Int) := od
   obtain ⟨ad353, A353_3, c353_3, e353, hx353_0, hx353_1, hx353_2, hx353_3, hl353_3, hi353_3⟩ := at_T96 HR0.out x5_1 p353 q353
   have hw353_3 := hx353_3
   have hw353_2 := hx353_2
   have hw353_1 := hx353_1
   have hw353_0 := hx353_0
   cases e353
   replace hx353_0 := bcell HB.out hx353_0
   replace hx353_1 := bcell HB.out hx353_1
   replace hx353_2 := bcell HB.out hx353_2
   replace hx353_3 := bcell HB.out hx353_3
   have HR353_3 := Aside0.mk hi353_3
   have HC353_3 := Aside0.mk hl353_3
   clear hi353_3 hl353_3
   replace p353 := eq_true p353
   replace q353 := eq_true q353
   have p354 : 0 ≤ (x5_1 : Int) := od
   have q354 : x5_1 < (l1.length : Int) := od
   obtain ⟨ad354, A354_3, c354_3, e354, hx354_0, hx354_1, hx354_2, hx354_3, hl354_3, hi354_3⟩ := at_T96 HR1.out x5_1 p354 q354
   have hw354_3 := hx354_3
   have hw354_2 := hx354_2
   have hw354_1 := hx354_1
   have hw354_0 := hx354_0
   cases e354
   replace hx354_0 := bcell HB.out hx354_0
   replace hx354_1 := bcell HB.out hx354_1
   replace hx354_2 := bcell HB.out hx354_2
   replace hx354_3 := bcell HB.out hx354_3
   have HR354_3 := Aside0.mk hi354_3
   have HC354_3 := Aside0.mk hl354_3
   clear hi354_3 hl354_3
   replace p354 := eq_true p354
   replace q354 := eq_true q354
   refine start_ (n := 10) (S := fun w' => w'.cell? (ad353.add ((x5_1).toNat * 4)) = some (.int .i64 ((rd_T96 l0 x5_1).f0)) ∧ w'.cell? ⟨(ad353.add ((x5_1).toNat * 4)).block, (ad353.add ((x5_1).toNat * 4)).off + 1, none⟩ = some (.int .i64 ((rd_T96 l0 x5_1).f1)) ∧ w'.cell? ⟨(ad353.add ((x5_1).toNat * 4)).block, (ad353.add ((x5_1).toNat * 4)).off + 2, none⟩ = some (.int .i64 ((rd_T96 l0 x5_1).f2)) ∧ w'.cell? ⟨(ad353.add ((x5_1).toNat * 4)).block, (ad353.add ((x5_1).toNat * 4)).off + 3, none⟩ = some (.slice A353_3 ((rd_T96 l0 x5_1).f3).length c353_3) ∧ w'.cell? (ad354.add ((x5_1).toNat * 4)) = some (.int .i64 ((rd_T96 l1 x5_1).f0)) ∧ w'.cell? ⟨(ad354.add ((x5_1).toNat * 4)).block, (ad354.add ((x5_1).toNat * 4)).off + 1, none⟩ = some (.int .i64 ((rd_T96 l1 x5_1).f1)) ∧ w'.cell? ⟨(ad354.add ((x5_1).toNat * 4)).block, (ad354.add ((x5_1).toNat * 4)).off + 2, none⟩ = some (.int .i64 ((rd_T96 l1 x5_1).f2)) ∧ w'.cell? ⟨(ad354.add ((x5_1).toNat * 4)).block, (ad354.add ((x5_1).toNat * 4)).off + 3, none⟩ = some (.slice A354_3 ((rd_T96 l1 x5_1).f3).length c354_3)) (ds := []) #[false, false, false, false, false, false, false, false, false, false] (by kernel_rfl) rfl rfl ⟨(bcell HB.out hw353_0), (bcell HB.out hw353_1), (bcell HB.out hw353_2), (bcell HB.out hw353_3), (bcell HB.out hw354_0), (bcell HB.out hw354_1), (bcell HB.out hw354_2), (bcell HB.out hw354_3)⟩ (fun hHeld => ?_); refine with_tabW r3_exprs.tab6 r3_exprs.bits6 (fun HT_ HW_ => ?_)
   generalize wr.drew = w9 at HB HR353_3 HR354_3 hx353_0 hx353_1 hx353_2 hx353_3 hx354_0 hx354_1 hx354_2 hx354_3 hHeld ⊢
   refine pT 0 17 (bl 10 1) HT_ rfl rfl ?_
   refine pT 1 18 (bl 10 3) HT_ rfl rfl ?_
   refine pT 2 19 (bl 10 7) HT_ rfl rfl ?_
   refine pT 4 21 (bl 10 23) HT_ rfl rfl ?_
   refine pT 5 22 (bl 10 55) HT_ rfl rfl ?_
   refine pT 6 23 (bl 10 119) HT_ rfl rfl ?_
   refine tk (i := 3) (N := some 20) (bl 10 127) rfl rfl (take_ofW HT_.out HW_.out (by kernel_rfl)) hHeld ?_
   refine tk (i := 7) (N := some 24) (bl 10 255) rfl rfl (take_ofW HT_.out HW_.out (by kernel_rfl)) hHeld ?_
   refine one_ (i := 8) (N := some 25) (bl 10 511) rfl rfl (one_of HT_.out (by kernel_rfl)) (by decide) (fun K hK => ?_)
   refine gO Try.func79 #[.agg #[.int .i64 ((rd_T96 l0 x5_1).f0), .int .i64 ((rd_T96 l0 x5_1).f1), .int .i64 ((rd_T96 l0 x5_1).f2), .slice A353_3 ((rd_T96 l0 x5_1).f3).length c353_3], .agg #[.int .i64 ((rd_T96 l1 x5_1).f0), .int .i64 ((rd_T96 l1 x5_1).f1), .int .i64 ((rd_T96 l1 x5_1).f2), .slice A354_3 ((rd_T96 l1 x5_1).f3).length c354_3]] (by rfl) rfl rfl ?_
   with_reducible refine (r2_Same.calls k1 ((rd_T96 l0 x5_1).f0) ((rd_T96 l0 x5_1).f1) ((rd_T96 l0 x5_1).f2) _ _ ((rd_T96 l0 x5_1).f3) ((rd_T96 l1 x5_1).f0) ((rd_T96 l1 x5_1).f1) ((rd_T96 l1 x5_1).f2) _ _ ((rd_T96 l1 x5_1).f3) true _ ?side1 ?side2 ?side3 ?side4 A7.out).mono ?_
   (case side1 => exact cb HR353_3 HB)
   (case side2 => exact HC353_3.out)
   (case side3 => exact cb HR354_3 HB)
   (case side4 => exact HC354_3.out)
   rintro e w10 ⟨rfl, hb⟩
   refine ⟨_, rfl, ?_⟩
   replace HB := sb HB hb
   (try clear hb)
   (try clear hb2)
   (try clear hk)
   (try clear hi)
   refine hK.out _ _ ⟨(bcell HB.out hw353_0), (bcell HB.out hw353_1), (bcell HB.out hw353_2), (bcell HB.out hw353_3), (bcell HB.out hw354_0), (bcell HB.out hw354_1), (bcell HB.out hw354_2), (bcell HB.out hw354_3)⟩ (fun hHeld => ?_)
   clear hK K
   refine nm 25 ?_
   refine pT 9 26 (bl 10 1023) HT_ rfl rfl ?_
   refine done_ (done_of HT_.out (by kernel_rfl)) ?_
   try go_wp2
   go_roundg k1
   case measure => have := HK1.out; omega
   case rel => exact ⟨(wrap64 (x5_1 + 1)), rs, H', ⟨by have := HK1.out; omega⟩, ⟨bb HB⟩⟩
mutual
def r3_SameRows.l0 : Nat → List (S47) → List (S47) → Int → Option (Bool)
  | 0, _, _, _ => none
  | k + 1, x0, x1, x5 => if x5 < (x0.length : Int) then (if 0 ≤ x5 then (if x5 < (x1.length : Int) then ((r3_SameStmt.f k ((rd_T47 x0 x5).f0) ((rd_T47 x0 x5).f1) ((rd_T47 x0 x5).f2) ((rd_T47 x0 x5).f3) ((rd_T47 x0 x5).f4) ((rd_T47 x1 x5).f0) ((rd_T47 x1 x5).f1) ((rd_T47 x1 x5).f2) ((rd_T47 x1 x5).f3) ((rd_T47 x1 x5).f4)).bind fun t358 => (if t358 = true then (r3_SameRows.l0 k x0 x1 (wrap64 (x5 + 1))) else (some false))) else (none)) else (none)) else (some true)
def r3_SameRows.f : Nat → List (S47) → List (S47) → Option (Bool)
  | 0, _, _ => none
  | k + 1, l0, l1 => if (l0.length : Int) = (l1.length : Int) then (r3_SameRows.l0 k l0 l1 0) else (some false)
def r3_SameStmt.f : Nat → Int → Int → List (S96) → List (S47) → List (S47) → Int → Int → List (S96) → List (S47) → List (S47) → Option (Bool)
  | 0, _, _, _, _, _, _, _, _, _, _ => none
  | k + 1, a0_0, a0_1, l0_2, l0_3, l0_4, a1_0, a1_1, l1_2, l1_3, l1_4 => if a0_0 = a1_0 then (if a0_1 = a1_1 then ((r3_exprs.f k l0_2 l1_2).bind fun t358 => (if t358 = true then ((r3_SameRows.f k l0_3 l1_3).bind fun t359 => (if t359 = true then ((r3_SameRows.f k l0_4 l1_4).bind fun t360 => (some t360)) else (some false))) else (some false))) else (some false)) else (some false)
end
def r3_SameRows.T6 : Bool × List (List Nat × List Nat) := (true, [([], []), ([], []), ([0, 1], [0, 1]), ([2], [2]), ([], []), ([], []), ([4, 5], [4, 5]), ([6], [6]), ([3, 7], [3, 7]), ([8], [8])])
def r3_SameRows.B6 : List Nat := [0, 0, 3, 7, 0, 0, 48, 112, 255, 511]
theorem r3_SameRows.tab6 : rtab .any (opsOf Try.f58 6) = r3_SameRows.T6 := by kernel_rfl
theorem r3_SameRows.bits6 : waitsOk r3_SameRows.T6.2 r3_SameRows.B6 = true := by kernel_rfl
def r3_SameRows.At (k : Nat) : Prop := ∀ (A0 : Option Addr) (c0 : Nat) (l0 : List (S47)) (A1 : Option Addr) (c1 : Nat) (l1 : List (S47)) (r : Bool) (w : World) (hr0 : Kd.C k47 w A0 l0.length l0) (hc0 : l0.length ≤ c0) (hr1 : Kd.C k47 w A1 l1.length l1) (hc1 : l1.length ≤ c1) (h : r3_SameRows.f k l0 l1 = some r),
  Calls Try.prog 58 #[.slice A0 l0.length c0, .slice A1 l1.length c1] w fun e w' => e = .returned (.bool r) ∧ Below w.heap.size w w'
def r3_SameStmt.At (k : Nat) : Prop := ∀ (a0_0 : Int) (a0_1 : Int) (A0_2 : Option Addr) (c0_2 : Nat) (l0_2 : List (S96)) (A0_3 : Option Addr) (c0_3 : Nat) (l0_3 : List (S47)) (A0_4 : Option Addr) (c0_4 : Nat) (l0_4 : List (S47)) (a1_0 : Int) (a1_1 : Int) (A1_2 : Option Addr) (c1_2 : Nat) (l1_2 : List (S96)) (A1_3 : Option Addr) (c1_3 : Nat) (l1_3 : List (S47)) (A1_4 : Option Addr) (c1_4 : Nat) (l1_4 : List (S47)) (r : Bool) (w : World) (hr0_2 : Kd.C k96 w A0_2 l0_2.length l0_2) (hc0_2 : l0_2.length ≤ c0_2) (hr0_3 : Kd.C k47 w A0_3 l0_3.length l0_3) (hc0_3 : l0_3.length ≤ c0_3) (hr0_4 : Kd.C k47 w A0_4 l0_4.length l0_4) (hc0_4 : l0_4.length ≤ c0_4) (hr1_2 : Kd.C k96 w A1_2 l1_2.length l1_2) (hc1_2 : l1_2.length ≤ c1_2) (hr1_3 : Kd.C k47 w A1_3 l1_3.length l1_3) (hc1_3 : l1_3.length ≤ c1_3) (hr1_4 : Kd.C k47 w A1_4 l1_4.length l1_4) (hc1_4 : l1_4.length ≤ c1_4) (h : r3_SameStmt.f k a0_0 a0_1 l0_2 l0_3 l0_4 a1_0 a1_1 l1_2 l1_3 l1_4 = some r),
  Calls Try.prog 27 #[.agg #[.int .i64 a0_0, .int .i64 a0_1, .slice A0_2 l0_2.length c0_2, .slice A0_3 l0_3.length c0_3, .slice A0_4 l0_4.length c0_4], .agg #[.int .i64 a1_0, .int .i64 a1_1, .slice A1_2 l1_2.length c1_2, .slice A1_3 l1_3.length c1_3, .slice A1_4 l1_4.length c1_4]] w fun e w' => e = .returned (.bool r) ∧ Below w.heap.size w w'
theorem r3_SameRows.ap (k : Nat) (hAt : r3_SameRows.At k) (A0 : Option Addr) (c0 : Nat) (l0 : List (S47)) (A1 : Option Addr) (c1 : Nat) (l1 : List (S47)) (r : Bool) (w : World) (hr0 : Kd.C k47 w A0 l0.length l0) (hc0 : l0.length ≤ c0) (hr1 : Kd.C k47 w A1 l1.length l1) (hc1 : l1.length ≤ c1) (h : r3_SameRows.f k l0 l1 = some r) :
  Calls Try.prog 58 #[.slice A0 l0.length c0, .slice A1 l1.length c1] w fun e w' => e = .returned (.bool r) ∧ Below w.heap.size w w' := hAt A0 c0 l0 A1 c1 l1 r w hr0 hc0 hr1 hc1 h
theorem r3_SameStmt.ap (k : Nat) (hAt : r3_SameStmt.At k) (a0_0 : Int) (a0_1 : Int) (A0_2 : Option Addr) (c0_2 : Nat) (l0_2 : List (S96)) (A0_3 : Option Addr) (c0_3 : Nat) (l0_3 : List (S47)) (A0_4 : Option Addr) (c0_4 : Nat) (l0_4 : List (S47)) (a1_0 : Int) (a1_1 : Int) (A1_2 : Option Addr) (c1_2 : Nat) (l1_2 : List (S96)) (A1_3 : Option Addr) (c1_3 : Nat) (l1_3 : List (S47)) (A1_4 : Option Addr) (c1_4 : Nat) (l1_4 : List (S47)) (r : Bool) (w : World) (hr0_2 : Kd.C k96 w A0_2 l0_2.length l0_2) (hc0_2 : l0_2.length ≤ c0_2) (hr0_3 : Kd.C k47 w A0_3 l0_3.length l0_3) (hc0_3 : l0_3.length ≤ c0_3) (hr0_4 : Kd.C k47 w A0_4 l0_4.length l0_4) (hc0_4 : l0_4.length ≤ c0_4) (hr1_2 : Kd.C k96 w A1_2 l1_2.length l1_2) (hc1_2 : l1_2.length ≤ c1_2) (hr1_3 : Kd.C k47 w A1_3 l1_3.length l1_3) (hc1_3 : l1_3.length ≤ c1_3) (hr1_4 : Kd.C k47 w A1_4 l1_4.length l1_4) (hc1_4 : l1_4.length ≤ c1_4) (h : r3_SameStmt.f k a0_0 a0_1 l0_2 l0_3 l0_4 a1_0 a1_1 l1_2 l1_3 l1_4 = some r) :
  Calls Try.prog 27 #[.agg #[.int .i64 a0_0, .int .i64 a0_1, .slice A0_2 l0_2.length c0_2, .slice A0_3 l0_3.length c0_3, .slice A0_4 l0_4.length c0_4], .agg #[.int .i64 a1_0, .int .i64 a1_1, .slice A1_2 l1_2.length c1_2, .slice A1_3 l1_3.length c1_3, .slice A1_4 l1_4.length c1_4]] w fun e w' => e = .returned (.bool r) ∧ Below w.heap.size w w' := hAt a0_0 a0_1 A0_2 c0_2 l0_2 A0_3 c0_3 l0_3 A0_4 c0_4 l0_4 a1_0 a1_1 A1_2 c1_2 l1_2 A1_3 c1_3 l1_3 A1_4 c1_4 l1_4 r w hr0_2 hc0_2 hr0_3 hc0_3 hr0_4 hc0_4 hr1_2 hc1_2 hr1_3 hc1_3 hr1_4 hc1_4 h
theorem r3_SameRows.calls_of (k : Nat) (IH : ∀ m, m ≤ k → r3_SameStmt.At m) : r3_SameRows.At (k + 1) := by
  intro A0 c0 l0 A1 c1 l1 r w hr0 hc0 hr1 hc1 h
  have hu47 := Try.underlying47
  have HR0 := Aside0.mk hr0
  have HC0 := Aside0.mk hc0
  clear hr0 hc0
  have HR1 := Aside0.mk hr1
  have HC1 := Aside0.mk hc1
  clear hr1 hc1
  have HB := Aside0.mk (Below.refl w.heap.size w)
  have H : (if (l0.length : Int) = (l1.length : Int) then (r3_SameRows.l0 k l0 l1 0) else (some false)) = some r := h
  clear h
  by_cases c3 : (l0.length : Int) = (l1.length : Int)
  · rw [if_pos c3] at H
    have c3b0 : ((l0.length : Int) == (l1.length : Int)) = true := beq_iff_eq.mpr c3
    have c3b1 : ((l0.length : Int) != (l1.length : Int)) = false := bne_eq_false_iff_eq.mpr c3
    have c3b2 : (l0.length == l1.length) = true := by first | simpa using c3 | (simp at c3 ⊢; omega)
    clear c3
    have H' := Aside0.mk H
    clear H
    go_enter Try.func58, Try.ntmps58
    go_wp2
    go_loopg [5] k (fun kq v5 w' => ∃ (x5_1 : Int), v5 = .int .i64 x5_1 ∧ Aside0 (r3_SameRows.l0 kq l0 l1 x5_1 = some r) ∧ Aside0 (kq ≤ k) ∧ Aside0 (Below w.heap.size w w'))
    case atStart => exact ⟨(0), rs, H', ⟨Nat.le_refl _⟩, ⟨bb HB⟩⟩
    case round =>
      clear H'
      try clear c1
      try clear p2
      try clear c3
      try clear c3b0
      try clear c3b1
      try clear c3b2
      obtain ⟨x5_1, rfl, HA, HK1, HB⟩ := hrel
      cases gk with
      | zero => exact absurd HA.out (by simp [r3_SameRows.l0])
      | succ k1 =>
        have H := HA.out
        clear HA
        simp only [r3_SameRows.l0] at H
        by_cases c4 : x5_1 < (l0.length : Int)
        · rw [if_pos c4] at H
          have c4b0 : decide (x5_1 < (l0.length : Int)) = true := decide_eq_true c4
          clear c4
          by_cases c5 : 0 ≤ x5_1
          · rw [if_pos c5] at H
            have c5b0 : decide (0 ≤ x5_1) = true := decide_eq_true c5
            clear c5
            by_cases c6 : x5_1 < (l1.length : Int)
            · rw [if_pos c6] at H
              have c6b0 : decide (x5_1 < (l1.length : Int)) = true := decide_eq_true c6
              clear c6
              obtain ⟨t358, A7, H⟩ := be H
              by_cases c8 : t358 = true
              · subst c8
                replace H := it H
                have H' := Aside0.mk H
                clear H
                try go_wp2
                replace HB := Aside0.mk (bd1 HB.out)
                have p356 : 0 ≤ (x5_1 : Int) := od
                have q356 : x5_1 < (l0.length : Int) := od
                obtain ⟨ad356, A356_2, c356_2, A356_3, c356_3, A356_4, c356_4, e356, hx356_0, hx356_1, hx356_2, hx356_3, hx356_4, hl356_2, hi356_2, hl356_3, hi356_3, hl356_4, hi356_4⟩ := at_T47 HR0.out x5_1 p356 q356
                have hw356_4 := hx356_4
                have hw356_3 := hx356_3
                have hw356_2 := hx356_2
                have hw356_1 := hx356_1
                have hw356_0 := hx356_0
                cases e356
                replace hx356_0 := bcell HB.out hx356_0
                replace hx356_1 := bcell HB.out hx356_1
                replace hx356_2 := bcell HB.out hx356_2
                replace hx356_3 := bcell HB.out hx356_3
                replace hx356_4 := bcell HB.out hx356_4
                have HR356_2 := Aside0.mk hi356_2
                have HC356_2 := Aside0.mk hl356_2
                clear hi356_2 hl356_2
                have HR356_3 := Aside0.mk hi356_3
                have HC356_3 := Aside0.mk hl356_3
                clear hi356_3 hl356_3
                have HR356_4 := Aside0.mk hi356_4
                have HC356_4 := Aside0.mk hl356_4
                clear hi356_4 hl356_4
                replace p356 := eq_true p356
                replace q356 := eq_true q356
                have p357 : 0 ≤ (x5_1 : Int) := od
                have q357 : x5_1 < (l1.length : Int) := od
                obtain ⟨ad357, A357_2, c357_2, A357_3, c357_3, A357_4, c357_4, e357, hx357_0, hx357_1, hx357_2, hx357_3, hx357_4, hl357_2, hi357_2, hl357_3, hi357_3, hl357_4, hi357_4⟩ := at_T47 HR1.out x5_1 p357 q357
                have hw357_4 := hx357_4
                have hw357_3 := hx357_3
                have hw357_2 := hx357_2
                have hw357_1 := hx357_1
                have hw357_0 := hx357_0
                cases e357
                replace hx357_0 := bcell HB.out hx357_0
                replace hx357_1 := bcell HB.out hx357_1
                replace hx357_2 := bcell HB.out hx357_2
                replace hx357_3 := bcell HB.out hx357_3
                replace hx357_4 := bcell HB.out hx357_4
                have HR357_2 := Aside0.mk hi357_2
                have HC357_2 := Aside0.mk hl357_2
                clear hi357_2 hl357_2
                have HR357_3 := Aside0.mk hi357_3
                have HC357_3 := Aside0.mk hl357_3
                clear hi357_3 hl357_3
                have HR357_4 := Aside0.mk hi357_4
                have HC357_4 := Aside0.mk hl357_4
                clear hi357_4 hl357_4
                replace p357 := eq_true p357
                replace q357 := eq_true q357
                refine start_ (n := 10) (S := fun w' => w'.cell? (ad356.add ((x5_1).toNat * 5)) = some (.int .i64 ((rd_T47 l0 x5_1).f0)) ∧ w'.cell? ⟨(ad356.add ((x5_1).toNat * 5)).block, (ad356.add ((x5_1).toNat * 5)).off + 1, none⟩ = some (.int .i64 ((rd_T47 l0 x5_1).f1)) ∧ w'.cell? ⟨(ad356.add ((x5_1).toNat * 5)).block, (ad356.add ((x5_1).toNat * 5)).off + 2, none⟩ = some (.slice A356_2 ((rd_T47 l0 x5_1).f2).length c356_2) ∧ w'.cell? ⟨(ad356.add ((x5_1).toNat * 5)).block, (ad356.add ((x5_1).toNat * 5)).off + 3, none⟩ = some (.slice A356_3 ((rd_T47 l0 x5_1).f3).length c356_3) ∧ w'.cell? ⟨(ad356.add ((x5_1).toNat * 5)).block, (ad356.add ((x5_1).toNat * 5)).off + 4, none⟩ = some (.slice A356_4 ((rd_T47 l0 x5_1).f4).length c356_4) ∧ w'.cell? (ad357.add ((x5_1).toNat * 5)) = some (.int .i64 ((rd_T47 l1 x5_1).f0)) ∧ w'.cell? ⟨(ad357.add ((x5_1).toNat * 5)).block, (ad357.add ((x5_1).toNat * 5)).off + 1, none⟩ = some (.int .i64 ((rd_T47 l1 x5_1).f1)) ∧ w'.cell? ⟨(ad357.add ((x5_1).toNat * 5)).block, (ad357.add ((x5_1).toNat * 5)).off + 2, none⟩ = some (.slice A357_2 ((rd_T47 l1 x5_1).f2).length c357_2) ∧ w'.cell? ⟨(ad357.add ((x5_1).toNat * 5)).block, (ad357.add ((x5_1).toNat * 5)).off + 3, none⟩ = some (.slice A357_3 ((rd_T47 l1 x5_1).f3).length c357_3) ∧ w'.cell? ⟨(ad357.add ((x5_1).toNat * 5)).block, (ad357.add ((x5_1).toNat * 5)).off + 4, none⟩ = some (.slice A357_4 ((rd_T47 l1 x5_1).f4).length c357_4)) (ds := []) #[false, false, false, false, false, false, false, false, false, false] (by kernel_rfl) rfl rfl ⟨(bcell HB.out hw356_0), (bcell HB.out hw356_1), (bcell HB.out hw356_2), (bcell HB.out hw356_3), (bcell HB.out hw356_4), (bcell HB.out hw357_0), (bcell HB.out hw357_1), (bcell HB.out hw357_2), (bcell HB.out hw357_3), (bcell HB.out hw357_4)⟩ (fun hHeld => ?_); refine with_tabW r3_SameRows.tab6 r3_SameRows.bits6 (fun HT_ HW_ => ?_)
                generalize wr.drew = w9 at HB HR356_2 HR356_3 HR356_4 HR357_2 HR357_3 HR357_4 hx356_0 hx356_1 hx356_2 hx356_3 hx356_4 hx357_0 hx357_1 hx357_2 hx357_3 hx357_4 hHeld ⊢
                refine pT 0 17 (bl 10 1) HT_ rfl rfl ?_
                refine pT 1 18 (bl 10 3) HT_ rfl rfl ?_
                refine pT 2 19 (bl 10 7) HT_ rfl rfl ?_
                refine pT 4 21 (bl 10 23) HT_ rfl rfl ?_
                refine pT 5 22 (bl 10 55) HT_ rfl rfl ?_
                refine pT 6 23 (bl 10 119) HT_ rfl rfl ?_
                refine tk (i := 3) (N := some 20) (bl 10 127) rfl rfl (take_ofW HT_.out HW_.out (by kernel_rfl)) hHeld ?_
                refine tk (i := 7) (N := some 24) (bl 10 255) rfl rfl (take_ofW HT_.out HW_.out (by kernel_rfl)) hHeld ?_
                refine one_ (i := 8) (N := some 25) (bl 10 511) rfl rfl (one_of HT_.out (by kernel_rfl)) (by decide) (fun K hK => ?_)
                refine gO Try.func27 #[.agg #[.int .i64 ((rd_T47 l0 x5_1).f0), .int .i64 ((rd_T47 l0 x5_1).f1), .slice A356_2 ((rd_T47 l0 x5_1).f2).length c356_2, .slice A356_3 ((rd_T47 l0 x5_1).f3).length c356_3, .slice A356_4 ((rd_T47 l0 x5_1).f4).length c356_4], .agg #[.int .i64 ((rd_T47 l1 x5_1).f0), .int .i64 ((rd_T47 l1 x5_1).f1), .slice A357_2 ((rd_T47 l1 x5_1).f2).length c357_2, .slice A357_3 ((rd_T47 l1 x5_1).f3).length c357_3, .slice A357_4 ((rd_T47 l1 x5_1).f4).length c357_4]] (by rfl) rfl rfl ?_
                with_reducible refine (r3_SameStmt.ap k1 (IH k1 (by first | omega | (have := HK1.out; omega))) ((rd_T47 l0 x5_1).f0) ((rd_T47 l0 x5_1).f1) _ _ ((rd_T47 l0 x5_1).f2) _ _ ((rd_T47 l0 x5_1).f3) _ _ ((rd_T47 l0 x5_1).f4) ((rd_T47 l1 x5_1).f0) ((rd_T47 l1 x5_1).f1) _ _ ((rd_T47 l1 x5_1).f2) _ _ ((rd_T47 l1 x5_1).f3) _ _ ((rd_T47 l1 x5_1).f4) true _ ?side1 ?side2 ?side3 ?side4 ?side5 ?side6 ?side7 ?side8 ?side9 ?side10 ?side11 ?side12 A7.out).mono ?_
                (case side1 => exact cb HR356_2 HB)
                (case side2 => exact HC356_2.out)
                (case side3 => exact cb HR356_3 HB)
                (case side4 => exact HC356_3.out)
                (case side5 => exact cb HR356_4 HB)
                (case side6 => exact HC356_4.out)
                (case side7 => exact cb HR357_2 HB)
                (case side8 => exact HC357_2.out)
                (case side9 => exact cb HR357_3 HB)
                (case side10 => exact HC357_3.out)
                (case side11 => exact cb HR357_4 HB)
                (case side12 => exact HC357_4.out)
                rintro e w10 ⟨rfl, hb⟩
                refine ⟨_, rfl, ?_⟩
                replace HB := sb HB hb
                (try clear hb)
                (try clear hb2)
                (try clear hk)
                (try clear hi)
                refine hK.out _ _ ⟨(bcell HB.out hw356_0), (bcell HB.out hw356_1), (bcell HB.out hw356_2), (bcell HB.out hw356_3), (bcell HB.out hw356_4), (bcell HB.out hw357_0), (bcell HB.out hw357_1), (bcell HB.out hw357_2), (bcell HB.out hw357_3), (bcell HB.out hw357_4)⟩ (fun hHeld => ?_)
                clear hK K
                refine nm 25 ?_
                refine pT 9 26 (bl 10 1023) HT_ rfl rfl ?_
                refine done_ (done_of HT_.out (by kernel_rfl)) ?_
                try go_wp2
                go_roundg k1
                case measure => have := HK1.out; omega
                case rel => exact ⟨(wrap64 (x5_1 + 1)), rs, H', ⟨by have := HK1.out; omega⟩, ⟨bb HB⟩⟩
              · replace c8 := Bool.eq_false_iff.mpr c8
                subst c8
                replace H := fi H
                obtain rfl := Option.some.inj H
                try go_wp2
                replace HB := Aside0.mk (bd1 HB.out)
                have p356 : 0 ≤ (x5_1 : Int) := od
                have q356 : x5_1 < (l0.length : Int) := od
                obtain ⟨ad356, A356_2, c356_2, A356_3, c356_3, A356_4, c356_4, e356, hx356_0, hx356_1, hx356_2, hx356_3, hx356_4, hl356_2, hi356_2, hl356_3, hi356_3, hl356_4, hi356_4⟩ := at_T47 HR0.out x5_1 p356 q356
                have hw356_4 := hx356_4
                have hw356_3 := hx356_3
                have hw356_2 := hx356_2
                have hw356_1 := hx356_1
                have hw356_0 := hx356_0
                cases e356
                replace hx356_0 := bcell HB.out hx356_0
                replace hx356_1 := bcell HB.out hx356_1
                replace hx356_2 := bcell HB.out hx356_2
                replace hx356_3 := bcell HB.out hx356_3
                replace hx356_4 := bcell HB.out hx356_4
                have HR356_2 := Aside0.mk hi356_2
                have HC356_2 := Aside0.mk hl356_2
                clear hi356_2 hl356_2
                have HR356_3 := Aside0.mk hi356_3
                have HC356_3 := Aside0.mk hl356_3
                clear hi356_3 hl356_3
                have HR356_4 := Aside0.mk hi356_4
                have HC356_4 := Aside0.mk hl356_4
                clear hi356_4 hl356_4
                replace p356 := eq_true p356
                replace q356 := eq_true q356
                have p357 : 0 ≤ (x5_1 : Int) := od
                have q357 : x5_1 < (l1.length : Int) := od
                obtain ⟨ad357, A357_2, c357_2, A357_3, c357_3, A357_4, c357_4, e357, hx357_0, hx357_1, hx357_2, hx357_3, hx357_4, hl357_2, hi357_2, hl357_3, hi357_3, hl357_4, hi357_4⟩ := at_T47 HR1.out x5_1 p357 q357
                have hw357_4 := hx357_4
                have hw357_3 := hx357_3
                have hw357_2 := hx357_2
                have hw357_1 := hx357_1
                have hw357_0 := hx357_0
                cases e357
                replace hx357_0 := bcell HB.out hx357_0
                replace hx357_1 := bcell HB.out hx357_1
                replace hx357_2 := bcell HB.out hx357_2
                replace hx357_3 := bcell HB.out hx357_3
                replace hx357_4 := bcell HB.out hx357_4
                have HR357_2 := Aside0.mk hi357_2
                have HC357_2 := Aside0.mk hl357_2
                clear hi357_2 hl357_2
                have HR357_3 := Aside0.mk hi357_3
                have HC357_3 := Aside0.mk hl357_3
                clear hi357_3 hl357_3
                have HR357_4 := Aside0.mk hi357_4
                have HC357_4 := Aside0.mk hl357_4
                clear hi357_4 hl357_4
                replace p357 := eq_true p357
                replace q357 := eq_true q357
                refine start_ (n := 10) (S := fun w' => w'.cell? (ad356.add ((x5_1).toNat * 5)) = some (.int .i64 ((rd_T47 l0 x5_1).f0)) ∧ w'.cell? ⟨(ad356.add ((x5_1).toNat * 5)).block, (ad356.add ((x5_1).toNat * 5)).off + 1, none⟩ = some (.int .i64 ((rd_T47 l0 x5_1).f1)) ∧ w'.cell? ⟨(ad356.add ((x5_1).toNat * 5)).block, (ad356.add ((x5_1).toNat * 5)).off + 2, none⟩ = some (.slice A356_2 ((rd_T47 l0 x5_1).f2).length c356_2) ∧ w'.cell? ⟨(ad356.add ((x5_1).toNat * 5)).block, (ad356.add ((x5_1).toNat * 5)).off + 3, none⟩ = some (.slice A356_3 ((rd_T47 l0 x5_1).f3).length c356_3) ∧ w'.cell? ⟨(ad356.add ((x5_1).toNat * 5)).block, (ad356.add ((x5_1).toNat * 5)).off + 4, none⟩ = some (.slice A356_4 ((rd_T47 l0 x5_1).f4).length c356_4) ∧ w'.cell? (ad357.add ((x5_1).toNat * 5)) = some (.int .i64 ((rd_T47 l1 x5_1).f0)) ∧ w'.cell? ⟨(ad357.add ((x5_1).toNat * 5)).block, (ad357.add ((x5_1).toNat * 5)).off + 1, none⟩ = some (.int .i64 ((rd_T47 l1 x5_1).f1)) ∧ w'.cell? ⟨(ad357.add ((x5_1).toNat * 5)).block, (ad357.add ((x5_1).toNat * 5)).off + 2, none⟩ = some (.slice A357_2 ((rd_T47 l1 x5_1).f2).length c357_2) ∧ w'.cell? ⟨(ad357.add ((x5_1).toNat * 5)).block, (ad357.add ((x5_1).toNat * 5)).off + 3, none⟩ = some (.slice A357_3 ((rd_T47 l1 x5_1).f3).length c357_3) ∧ w'.cell? ⟨(ad357.add ((x5_1).toNat * 5)).block, (ad357.add ((x5_1).toNat * 5)).off + 4, none⟩ = some (.slice A357_4 ((rd_T47 l1 x5_1).f4).length c357_4)) (ds := []) #[false, false, false, false, false, false, false, false, false, false] (by kernel_rfl) rfl rfl ⟨(bcell HB.out hw356_0), (bcell HB.out hw356_1), (bcell HB.out hw356_2), (bcell HB.out hw356_3), (bcell HB.out hw356_4), (bcell HB.out hw357_0), (bcell HB.out hw357_1), (bcell HB.out hw357_2), (bcell HB.out hw357_3), (bcell HB.out hw357_4)⟩ (fun hHeld => ?_); refine with_tabW r3_SameRows.tab6 r3_SameRows.bits6 (fun HT_ HW_ => ?_)
                generalize wr.drew = w11 at HB HR356_2 HR356_3 HR356_4 HR357_2 HR357_3 HR357_4 hx356_0 hx356_1 hx356_2 hx356_3 hx356_4 hx357_0 hx357_1 hx357_2 hx357_3 hx357_4 hHeld ⊢
                refine pT 0 17 (bl 10 1) HT_ rfl rfl ?_
                refine pT 1 18 (bl 10 3) HT_ rfl rfl ?_
                refine pT 2 19 (bl 10 7) HT_ rfl rfl ?_
                refine pT 4 21 (bl 10 23) HT_ rfl rfl ?_
                refine pT 5 22 (bl 10 55) HT_ rfl rfl ?_
                refine pT 6 23 (bl 10 119) HT_ rfl rfl ?_
                refine tk (i := 3) (N := some 20) (bl 10 127) rfl rfl (take_ofW HT_.out HW_.out (by kernel_rfl)) hHeld ?_
                refine tk (i := 7) (N := some 24) (bl 10 255) rfl rfl (take_ofW HT_.out HW_.out (by kernel_rfl)) hHeld ?_
                refine one_ (i := 8) (N := some 25) (bl 10 511) rfl rfl (one_of HT_.out (by kernel_rfl)) (by decide) (fun K hK => ?_)
                refine gO Try.func27 #[.agg #[.int .i64 ((rd_T47 l0 x5_1).f0), .int .i64 ((rd_T47 l0 x5_1).f1), .slice A356_2 ((rd_T47 l0 x5_1).f2).length c356_2, .slice A356_3 ((rd_T47 l0 x5_1).f3).length c356_3, .slice A356_4 ((rd_T47 l0 x5_1).f4).length c356_4], .agg #[.int .i64 ((rd_T47 l1 x5_1).f0), .int .i64 ((rd_T47 l1 x5_1).f1), .slice A357_2 ((rd_T47 l1 x5_1).f2).length c357_2, .slice A357_3 ((rd_T47 l1 x5_1).f3).length c357_3, .slice A357_4 ((rd_T47 l1 x5_1).f4).length c357_4]] (by rfl) rfl rfl ?_
                with_reducible refine (r3_SameStmt.ap k1 (IH k1 (by first | omega | (have := HK1.out; omega))) ((rd_T47 l0 x5_1).f0) ((rd_T47 l0 x5_1).f1) _ _ ((rd_T47 l0 x5_1).f2) _ _ ((rd_T47 l0 x5_1).f3) _ _ ((rd_T47 l0 x5_1).f4) ((rd_T47 l1 x5_1).f0) ((rd_T47 l1 x5_1).f1) _ _ ((rd_T47 l1 x5_1).f2) _ _ ((rd_T47 l1 x5_1).f3) _ _ ((rd_T47 l1 x5_1).f4) false _ ?side1 ?side2 ?side3 ?side4 ?side5 ?side6 ?side7 ?side8 ?side9 ?side10 ?side11 ?side12 A7.out).mono ?_
                (case side1 => exact cb HR356_2 HB)
                (case side2 => exact HC356_2.out)
                (case side3 => exact cb HR356_3 HB)
                (case side4 => exact HC356_3.out)
                (case side5 => exact cb HR356_4 HB)
                (case side6 => exact HC356_4.out)
                (case side7 => exact cb HR357_2 HB)
                (case side8 => exact HC357_2.out)
                (case side9 => exact cb HR357_3 HB)
                (case side10 => exact HC357_3.out)
                (case side11 => exact cb HR357_4 HB)
                (case side12 => exact HC357_4.out)
                rintro e w12 ⟨rfl, hb⟩
                refine ⟨_, rfl, ?_⟩
                replace HB := sb HB hb
                (try clear hb)
                (try clear hb2)
                (try clear hk)
                (try clear hi)
                refine hK.out _ _ ⟨(bcell HB.out hw356_0), (bcell HB.out hw356_1), (bcell HB.out hw356_2), (bcell HB.out hw356_3), (bcell HB.out hw356_4), (bcell HB.out hw357_0), (bcell HB.out hw357_1), (bcell HB.out hw357_2), (bcell HB.out hw357_3), (bcell HB.out hw357_4)⟩ (fun hHeld => ?_)
                clear hK K
                refine nm 25 ?_
                refine pT 9 26 (bl 10 1023) HT_ rfl rfl ?_
                refine done_ (done_of HT_.out (by kernel_rfl)) ?_
                try go_wp2
                go_ret
                exact ⟨rr, bb HB⟩
            · rw [if_neg c6] at H
              exact absurd H (by simp)
          · rw [if_neg c5] at H
            exact absurd H (by simp)
        · rw [if_neg c4] at H
          have c4b0 : decide (x5_1 < (l0.length : Int)) = false := decide_eq_false c4
          clear c4
          obtain rfl := Option.some.inj H
          go_wp2
          go_ret
          exact ⟨rr, bb HB⟩
  · rw [if_neg c3] at H
    have c3b0 : ((l0.length : Int) == (l1.length : Int)) = false := beq_eq_false_iff_ne.mpr c3
    have c3b1 : ((l0.length : Int) != (l1.length : Int)) = true := bne_iff_ne.mpr c3
    have c3b2 : (l0.length == l1.length) = false := by first | simpa using c3 | (simp at c3 ⊢; omega)
    obtain rfl := Option.some.inj H
    go_enter Try.func58, Try.ntmps58
    go_wp2
    go_ret
    exact ⟨rr, bb HB⟩
theorem r3_SameStmt.calls_of (k : Nat) (IH : ∀ m, m ≤ k → r3_SameRows.At m) : r3_SameStmt.At (k + 1) := by
  intro a0_0 a0_1 A0_2 c0_2 l0_2 A0_3 c0_3 l0_3 A0_4 c0_4 l0_4 a1_0 a1_1 A1_2 c1_2 l1_2 A1_3 c1_3 l1_3 A1_4 c1_4 l1_4 r w hr0_2 hc0_2 hr0_3 hc0_3 hr0_4 hc0_4 hr1_2 hc1_2 hr1_3 hc1_3 hr1_4 hc1_4 h
  have hu47 := Try.underlying47
  have HR0_2 := Aside0.mk hr0_2
  have HC0_2 := Aside0.mk hc0_2
  clear hr0_2 hc0_2
  have HR0_3 := Aside0.mk hr0_3
  have HC0_3 := Aside0.mk hc0_3
  clear hr0_3 hc0_3
  have HR0_4 := Aside0.mk hr0_4
  have HC0_4 := Aside0.mk hc0_4
  clear hr0_4 hc0_4
  have HR1_2 := Aside0.mk hr1_2
  have HC1_2 := Aside0.mk hc1_2
  clear hr1_2 hc1_2
  have HR1_3 := Aside0.mk hr1_3
  have HC1_3 := Aside0.mk hc1_3
  clear hr1_3 hc1_3
  have HR1_4 := Aside0.mk hr1_4
  have HC1_4 := Aside0.mk hc1_4
  clear hr1_4 hc1_4
  have HB := Aside0.mk (Below.refl w.heap.size w)
  have H : (if a0_0 = a1_0 then (if a0_1 = a1_1 then ((r3_exprs.f k l0_2 l1_2).bind fun t358 => (if t358 = true then ((r3_SameRows.f k l0_3 l1_3).bind fun t359 => (if t359 = true then ((r3_SameRows.f k l0_4 l1_4).bind fun t360 => (some t360)) else (some false))) else (some false))) else (some false)) else (some false)) = some r := h
  clear h
  by_cases c3 : a0_0 = a1_0
  · rw [if_pos c3] at H
    have c3b0 : (a0_0 == a1_0) = true := beq_iff_eq.mpr c3
    have c3b1 : (a0_0 != a1_0) = false := bne_eq_false_iff_eq.mpr c3
    clear c3
    by_cases c4 : a0_1 = a1_1
    · rw [if_pos c4] at H
      have c4b0 : (a0_1 == a1_1) = true := beq_iff_eq.mpr c4
      have c4b1 : (a0_1 != a1_1) = false := bne_eq_false_iff_eq.mpr c4
      clear c4
      obtain ⟨t358, A5, H⟩ := be H
      by_cases c6 : t358 = true
      · subst c6
        replace H := it H
        obtain ⟨t359, A7, H⟩ := be H
        by_cases c8 : t359 = true
        · subst c8
          replace H := it H
          obtain ⟨t360, A9, H⟩ := be H
          obtain rfl := Option.some.inj H
          go_enter Try.func27, Try.ntmps27
          go_wp2_with (first | ((with_reducible refine gate_dst (N := 2) rfl ?_); refine bx 2 rfl rfl #[.int .i64 a0_0, .int .i64 a0_1, .slice A0_2 l0_2.length c0_2, .slice A0_3 l0_3.length c0_3, .slice A0_4 l0_4.length c0_4] 47 ?_; intro gb356 hg w10 hbox hb; have BK356 := Aside0.mk (hbox); have GE356 := ge HB hg; replace HB := sb HB hb; clear hb hbox hg) | ((with_reducible refine gate_dst (N := 3) rfl ?_); refine bx 3 rfl rfl #[.int .i64 a1_0, .int .i64 a1_1, .slice A1_2 l1_2.length c1_2, .slice A1_3 l1_3.length c1_3, .slice A1_4 l1_4.length c1_4] 47 ?_; intro gb357 hg w11 hbox hb; have BK357 := Aside0.mk (hbox); have GE357 := ge HB hg; have NB356_357 := Aside0.mk ((by rw [hg]; exact Nat.ne_of_lt (blk_lt (kk BK356)) : gb356 ≠ gb357)); have NB357_356 := Aside0.mk ((by rw [hg]; exact Nat.ne_of_gt (blk_lt (kk BK356)) : gb357 ≠ gb356)); replace BK356 := kb BK356 hb; replace HB := sb HB hb; clear hb hbox hg; have hnb12 := NB356_357.out; have hnc12 := NB357_356.out; obtain ⟨hcz13_0, hcz13_1, hcz13_2, hcz13_3, hcz13_4, hfz13_0, hfz13_1, hfz13_2, hfz13_3, hfz13_4⟩ := cf5 BK356.out; obtain ⟨hcz14_0, hcz14_1, hcz14_2, hcz14_3, hcz14_4, hfz14_0, hfz14_1, hfz14_2, hfz14_3, hfz14_4⟩ := cf5 BK357.out) | (go_at_call 57; (with_reducible refine (r3_exprs.calls k _ _ l0_2 _ _ l1_2 true _ ?side1 ?side2 ?side3 ?side4 A5.out).mono ?_); (case side1 => exact cb HR0_2 HB); (case side2 => exact HC0_2.out); (case side3 => exact cb HR1_2 HB); (case side4 => exact HC1_2.out); rintro e w15 ⟨rfl, hb⟩; replace BK356 := kb BK356 hb; replace BK357 := kb BK357 hb; replace HB := sb HB hb; (try clear hb); obtain ⟨hcz16_0, hcz16_1, hcz16_2, hcz16_3, hcz16_4, hfz16_0, hfz16_1, hfz16_2, hfz16_3, hfz16_4⟩ := cf5 BK356.out; obtain ⟨hcz17_0, hcz17_1, hcz17_2, hcz17_3, hcz17_4, hfz17_0, hfz17_1, hfz17_2, hfz17_3, hfz17_4⟩ := cf5 BK357.out) | (go_at_call 58; (with_reducible refine (r3_SameRows.ap k (IH k (by first | omega | (have := HK1.out; omega))) _ _ l0_3 _ _ l1_3 true _ ?side1 ?side2 ?side3 ?side4 A7.out).mono ?_); (case side1 => exact cb HR0_3 HB); (case side2 => exact HC0_3.out); (case side3 => exact cb HR1_3 HB); (case side4 => exact HC1_3.out); rintro e w18 ⟨rfl, hb⟩; replace BK356 := kb BK356 hb; replace BK357 := kb BK357 hb; replace HB := sb HB hb; (try clear hb); obtain ⟨hcz19_0, hcz19_1, hcz19_2, hcz19_3, hcz19_4, hfz19_0, hfz19_1, hfz19_2, hfz19_3, hfz19_4⟩ := cf5 BK356.out; obtain ⟨hcz20_0, hcz20_1, hcz20_2, hcz20_3, hcz20_4, hfz20_0, hfz20_1, hfz20_2, hfz20_3, hfz20_4⟩ := cf5 BK357.out) | (go_at_call 58; (with_reducible refine (r3_SameRows.ap k (IH k (by first | omega | (have := HK1.out; omega))) _ _ l0_4 _ _ l1_4 t360 _ ?side1 ?side2 ?side3 ?side4 A9.out).mono ?_); (case side1 => exact cb HR0_4 HB); (case side2 => exact HC0_4.out); (case side3 => exact cb HR1_4 HB); (case side4 => exact HC1_4.out); rintro e w21 ⟨rfl, hb⟩; replace BK356 := kb BK356 hb; replace BK357 := kb BK357 hb; replace HB := sb HB hb; (try clear hb)))
          go_ret
          exact ⟨rr, bb HB⟩
        · replace c8 := Bool.eq_false_iff.mpr c8
          subst c8
          replace H := fi H
          obtain rfl := Option.some.inj H
          go_enter Try.func27, Try.ntmps27
          go_wp2_with (first | ((with_reducible refine gate_dst (N := 2) rfl ?_); refine bx 2 rfl rfl #[.int .i64 a0_0, .int .i64 a0_1, .slice A0_2 l0_2.length c0_2, .slice A0_3 l0_3.length c0_3, .slice A0_4 l0_4.length c0_4] 47 ?_; intro gb356 hg w22 hbox hb; have BK356 := Aside0.mk (hbox); have GE356 := ge HB hg; replace HB := sb HB hb; clear hb hbox hg) | ((with_reducible refine gate_dst (N := 3) rfl ?_); refine bx 3 rfl rfl #[.int .i64 a1_0, .int .i64 a1_1, .slice A1_2 l1_2.length c1_2, .slice A1_3 l1_3.length c1_3, .slice A1_4 l1_4.length c1_4] 47 ?_; intro gb357 hg w23 hbox hb; have BK357 := Aside0.mk (hbox); have GE357 := ge HB hg; have NB356_357 := Aside0.mk ((by rw [hg]; exact Nat.ne_of_lt (blk_lt (kk BK356)) : gb356 ≠ gb357)); have NB357_356 := Aside0.mk ((by rw [hg]; exact Nat.ne_of_gt (blk_lt (kk BK356)) : gb357 ≠ gb356)); replace BK356 := kb BK356 hb; replace HB := sb HB hb; clear hb hbox hg; have hnb24 := NB356_357.out; have hnc24 := NB357_356.out; obtain ⟨hcz25_0, hcz25_1, hcz25_2, hcz25_3, hcz25_4, hfz25_0, hfz25_1, hfz25_2, hfz25_3, hfz25_4⟩ := cf5 BK356.out; obtain ⟨hcz26_0, hcz26_1, hcz26_2, hcz26_3, hcz26_4, hfz26_0, hfz26_1, hfz26_2, hfz26_3, hfz26_4⟩ := cf5 BK357.out) | (go_at_call 57; (with_reducible refine (r3_exprs.calls k _ _ l0_2 _ _ l1_2 true _ ?side1 ?side2 ?side3 ?side4 A5.out).mono ?_); (case side1 => exact cb HR0_2 HB); (case side2 => exact HC0_2.out); (case side3 => exact cb HR1_2 HB); (case side4 => exact HC1_2.out); rintro e w27 ⟨rfl, hb⟩; replace BK356 := kb BK356 hb; replace BK357 := kb BK357 hb; replace HB := sb HB hb; (try clear hb); obtain ⟨hcz28_0, hcz28_1, hcz28_2, hcz28_3, hcz28_4, hfz28_0, hfz28_1, hfz28_2, hfz28_3, hfz28_4⟩ := cf5 BK356.out; obtain ⟨hcz29_0, hcz29_1, hcz29_2, hcz29_3, hcz29_4, hfz29_0, hfz29_1, hfz29_2, hfz29_3, hfz29_4⟩ := cf5 BK357.out) | (go_at_call 58; (with_reducible refine (r3_SameRows.ap k (IH k (by first | omega | (have := HK1.out; omega))) _ _ l0_3 _ _ l1_3 false _ ?side1 ?side2 ?side3 ?side4 A7.out).mono ?_); (case side1 => exact cb HR0_3 HB); (case side2 => exact HC0_3.out); (case side3 => exact cb HR1_3 HB); (case side4 => exact HC1_3.out); rintro e w30 ⟨rfl, hb⟩; replace BK356 := kb BK356 hb; replace BK357 := kb BK357 hb; replace HB := sb HB hb; (try clear hb)))
          go_ret
          exact ⟨rr, bb HB⟩
      · replace c6 := Bool.eq_false_iff.mpr c6
        subst c6
        replace H := fi H
        obtain rfl := Option.some.inj H
        go_enter Try.func27, Try.ntmps27
        go_wp2_with (first | ((with_reducible refine gate_dst (N := 2) rfl ?_); refine bx 2 rfl rfl #[.int .i64 a0_0, .int .i64 a0_1, .slice A0_2 l0_2.length c0_2, .slice A0_3 l0_3.length c0_3, .slice A0_4 l0_4.length c0_4] 47 ?_; intro gb356 hg w31 hbox hb; have BK356 := Aside0.mk (hbox); have GE356 := ge HB hg; replace HB := sb HB hb; clear hb hbox hg) | ((with_reducible refine gate_dst (N := 3) rfl ?_); refine bx 3 rfl rfl #[.int .i64 a1_0, .int .i64 a1_1, .slice A1_2 l1_2.length c1_2, .slice A1_3 l1_3.length c1_3, .slice A1_4 l1_4.length c1_4] 47 ?_; intro gb357 hg w32 hbox hb; have BK357 := Aside0.mk (hbox); have GE357 := ge HB hg; have NB356_357 := Aside0.mk ((by rw [hg]; exact Nat.ne_of_lt (blk_lt (kk BK356)) : gb356 ≠ gb357)); have NB357_356 := Aside0.mk ((by rw [hg]; exact Nat.ne_of_gt (blk_lt (kk BK356)) : gb357 ≠ gb356)); replace BK356 := kb BK356 hb; replace HB := sb HB hb; clear hb hbox hg; have hnb33 := NB356_357.out; have hnc33 := NB357_356.out; obtain ⟨hcz34_0, hcz34_1, hcz34_2, hcz34_3, hcz34_4, hfz34_0, hfz34_1, hfz34_2, hfz34_3, hfz34_4⟩ := cf5 BK356.out; obtain ⟨hcz35_0, hcz35_1, hcz35_2, hcz35_3, hcz35_4, hfz35_0, hfz35_1, hfz35_2, hfz35_3, hfz35_4⟩ := cf5 BK357.out) | (go_at_call 57; (with_reducible refine (r3_exprs.calls k _ _ l0_2 _ _ l1_2 false _ ?side1 ?side2 ?side3 ?side4 A5.out).mono ?_); (case side1 => exact cb HR0_2 HB); (case side2 => exact HC0_2.out); (case side3 => exact cb HR1_2 HB); (case side4 => exact HC1_2.out); rintro e w36 ⟨rfl, hb⟩; replace BK356 := kb BK356 hb; replace BK357 := kb BK357 hb; replace HB := sb HB hb; (try clear hb)))
        go_ret
        exact ⟨rr, bb HB⟩
    · rw [if_neg c4] at H
      have c4b0 : (a0_1 == a1_1) = false := beq_eq_false_iff_ne.mpr c4
      have c4b1 : (a0_1 != a1_1) = true := bne_iff_ne.mpr c4
      obtain rfl := Option.some.inj H
      go_enter Try.func27, Try.ntmps27
      go_wp2_with (first | ((with_reducible refine gate_dst (N := 2) rfl ?_); refine bx 2 rfl rfl #[.int .i64 a0_0, .int .i64 a0_1, .slice A0_2 l0_2.length c0_2, .slice A0_3 l0_3.length c0_3, .slice A0_4 l0_4.length c0_4] 47 ?_; intro gb356 hg w37 hbox hb; have BK356 := Aside0.mk (hbox); have GE356 := ge HB hg; replace HB := sb HB hb; clear hb hbox hg) | ((with_reducible refine gate_dst (N := 3) rfl ?_); refine bx 3 rfl rfl #[.int .i64 a1_0, .int .i64 a1_1, .slice A1_2 l1_2.length c1_2, .slice A1_3 l1_3.length c1_3, .slice A1_4 l1_4.length c1_4] 47 ?_; intro gb357 hg w38 hbox hb; have BK357 := Aside0.mk (hbox); have GE357 := ge HB hg; have NB356_357 := Aside0.mk ((by rw [hg]; exact Nat.ne_of_lt (blk_lt (kk BK356)) : gb356 ≠ gb357)); have NB357_356 := Aside0.mk ((by rw [hg]; exact Nat.ne_of_gt (blk_lt (kk BK356)) : gb357 ≠ gb356)); replace BK356 := kb BK356 hb; replace HB := sb HB hb; clear hb hbox hg; have hnb39 := NB356_357.out; have hnc39 := NB357_356.out; obtain ⟨hcz40_0, hcz40_1, hcz40_2, hcz40_3, hcz40_4, hfz40_0, hfz40_1, hfz40_2, hfz40_3, hfz40_4⟩ := cf5 BK356.out; obtain ⟨hcz41_0, hcz41_1, hcz41_2, hcz41_3, hcz41_4, hfz41_0, hfz41_1, hfz41_2, hfz41_3, hfz41_4⟩ := cf5 BK357.out))
      go_ret
      exact ⟨rr, bb HB⟩
  · rw [if_neg c3] at H
    have c3b0 : (a0_0 == a1_0) = false := beq_eq_false_iff_ne.mpr c3
    have c3b1 : (a0_0 != a1_0) = true := bne_iff_ne.mpr c3
    obtain rfl := Option.some.inj H
    go_enter Try.func27, Try.ntmps27
    go_wp2_with (first | ((with_reducible refine gate_dst (N := 2) rfl ?_); refine bx 2 rfl rfl #[.int .i64 a0_0, .int .i64 a0_1, .slice A0_2 l0_2.length c0_2, .slice A0_3 l0_3.length c0_3, .slice A0_4 l0_4.length c0_4] 47 ?_; intro gb356 hg w42 hbox hb; have BK356 := Aside0.mk (hbox); have GE356 := ge HB hg; replace HB := sb HB hb; clear hb hbox hg) | ((with_reducible refine gate_dst (N := 3) rfl ?_); refine bx 3 rfl rfl #[.int .i64 a1_0, .int .i64 a1_1, .slice A1_2 l1_2.length c1_2, .slice A1_3 l1_3.length c1_3, .slice A1_4 l1_4.length c1_4] 47 ?_; intro gb357 hg w43 hbox hb; have BK357 := Aside0.mk (hbox); have GE357 := ge HB hg; have NB356_357 := Aside0.mk ((by rw [hg]; exact Nat.ne_of_lt (blk_lt (kk BK356)) : gb356 ≠ gb357)); have NB357_356 := Aside0.mk ((by rw [hg]; exact Nat.ne_of_gt (blk_lt (kk BK356)) : gb357 ≠ gb356)); replace BK356 := kb BK356 hb; replace HB := sb HB hb; clear hb hbox hg; have hnb44 := NB356_357.out; have hnc44 := NB357_356.out; obtain ⟨hcz45_0, hcz45_1, hcz45_2, hcz45_3, hcz45_4, hfz45_0, hfz45_1, hfz45_2, hfz45_3, hfz45_4⟩ := cf5 BK356.out; obtain ⟨hcz46_0, hcz46_1, hcz46_2, hcz46_3, hcz46_4, hfz46_0, hfz46_1, hfz46_2, hfz46_3, hfz46_4⟩ := cf5 BK357.out))
    go_ret
    exact ⟨rr, bb HB⟩
theorem r3_SameStmt.calls_all : ∀ n k, k ≤ n → r3_SameRows.At k ∧ r3_SameStmt.At k
  | n, 0, _ => ⟨by
      intro A0 c0 l0 A1 c1 l1 r w hr0 hc0 hr1 hc1 h
      exact absurd h (by simp [r3_SameRows.f]), by
      intro a0_0 a0_1 A0_2 c0_2 l0_2 A0_3 c0_3 l0_3 A0_4 c0_4 l0_4 a1_0 a1_1 A1_2 c1_2 l1_2 A1_3 c1_3 l1_3 A1_4 c1_4 l1_4 r w hr0_2 hc0_2 hr0_3 hc0_3 hr0_4 hc0_4 hr1_2 hc1_2 hr1_3 hc1_3 hr1_4 hc1_4 h
      exact absurd h (by simp [r3_SameStmt.f])⟩
  | 0, k + 1, h => absurd h (by omega)
  | n + 1, k + 1, h => ⟨r3_SameRows.calls_of k (fun m hm => (r3_SameStmt.calls_all n m (by omega)).2), r3_SameStmt.calls_of k (fun m hm => (r3_SameStmt.calls_all n m (by omega)).1)⟩
theorem r3_SameStmt.calls (k : Nat) (a0_0 : Int) (a0_1 : Int) (A0_2 : Option Addr) (c0_2 : Nat) (l0_2 : List (S96)) (A0_3 : Option Addr) (c0_3 : Nat) (l0_3 : List (S47)) (A0_4 : Option Addr) (c0_4 : Nat) (l0_4 : List (S47)) (a1_0 : Int) (a1_1 : Int) (A1_2 : Option Addr) (c1_2 : Nat) (l1_2 : List (S96)) (A1_3 : Option Addr) (c1_3 : Nat) (l1_3 : List (S47)) (A1_4 : Option Addr) (c1_4 : Nat) (l1_4 : List (S47)) (r : Bool) (w : World) (hr0_2 : Kd.C k96 w A0_2 l0_2.length l0_2) (hc0_2 : l0_2.length ≤ c0_2) (hr0_3 : Kd.C k47 w A0_3 l0_3.length l0_3) (hc0_3 : l0_3.length ≤ c0_3) (hr0_4 : Kd.C k47 w A0_4 l0_4.length l0_4) (hc0_4 : l0_4.length ≤ c0_4) (hr1_2 : Kd.C k96 w A1_2 l1_2.length l1_2) (hc1_2 : l1_2.length ≤ c1_2) (hr1_3 : Kd.C k47 w A1_3 l1_3.length l1_3) (hc1_3 : l1_3.length ≤ c1_3) (hr1_4 : Kd.C k47 w A1_4 l1_4.length l1_4) (hc1_4 : l1_4.length ≤ c1_4) (h : r3_SameStmt.f k a0_0 a0_1 l0_2 l0_3 l0_4 a1_0 a1_1 l1_2 l1_3 l1_4 = some r) :
    Calls Try.prog 27 #[.agg #[.int .i64 a0_0, .int .i64 a0_1, .slice A0_2 l0_2.length c0_2, .slice A0_3 l0_3.length c0_3, .slice A0_4 l0_4.length c0_4], .agg #[.int .i64 a1_0, .int .i64 a1_1, .slice A1_2 l1_2.length c1_2, .slice A1_3 l1_3.length c1_3, .slice A1_4 l1_4.length c1_4]] w fun e w' => e = .returned (.bool r) ∧ Below w.heap.size w w' := (r3_SameStmt.calls_all k k (Nat.le_refl k)).2 a0_0 a0_1 A0_2 c0_2 l0_2 A0_3 c0_3 l0_3 A0_4 c0_4 l0_4 a1_0 a1_1 A1_2 c1_2 l1_2 A1_3 c1_3 l1_3 A1_4 c1_4 l1_4 r w hr0_2 hc0_2 hr0_3 hc0_3 hr0_4 hc0_4 hr1_2 hc1_2 hr1_3 hc1_3 hr1_4 hc1_4 h
theorem eqA82 (d : Nat) (w : World) (x0 y0 : ByteArray) (x1 y1 : Int) (x2 y2 : Int) :
  (Op.equalIn (d + 2) 82 (.agg #[.string x0, .int .i64 x1, .int .i64 x2]) (.agg #[.string y0, .int .i64 y1, .int .i64 y2])).run Try.prog w = .ok (x0.toList == y0.toList && (x1 == y1 && (x2 == y2))) w := by
 refine eqA_of Try.underlying82 (by kernel_rfl) ?_
 refine eqf_cons (by rfl) (by go_simp; rfl) (by go_simp; rfl) (by go_simp) ?_
 refine eqf_cons (by rfl) (by go_simp; rfl) (by go_simp; rfl) (by go_simp) ?_
 exact eqf_last (by rfl) (by go_simp; rfl) (by go_simp; rfl) (by go_simp)
theorem exprs_loop : ∀ (suf pre : List S96), goodEs suf → (pre ++ suf).length ≤ 9223372036854775807 → Tells (fun k => r3_exprs.l0 k (pre ++ suf) (pre ++ suf) (pre.length : Int)) true
  | [], pre, _, _ => by
    refine Tells.succ ?_
    simp only [r3_exprs.l0, pre_nlt, if_false]
    exact Tells.pure _
  | x :: r, pre, hg, hl => by
    refine Tells.succ ?_
    simp only [r3_exprs.l0, pre_lt, pre_pos, if_true, rdE_mid]
    refine Tells.bind (sameE.1 x hg.1) (Tells.ifT rfl ?_)
    rw [pre_next pre x r hl]
    have ih := exprs_loop r (pre ++ [x]) hg.2 (by rw [← pre_app]; exact hl)
    rw [← pre_app] at ih
    exact ih
theorem exprs_tells (l : List S96) (hg : goodEs l) (hl : l.length ≤ 9223372036854775807) : Tells (fun k => r3_exprs.f k l l) true := by
  unfold r3_exprs.f
  exact Tells.ifT rfl (exprs_loop l [] hg hl)
theorem sameS : (∀ x, goodS x → Tells (fun k => r3_SameStmt.f k x.f0 x.f1 x.f2 x.f3 x.f4 x.f0 x.f1 x.f2 x.f3 x.f4) true) ∧
    (∀ suf, goodSs suf → ∀ (pre : List S47), (pre ++ suf).length ≤ 9223372036854775807 → Tells (fun k => r3_SameRows.l0 k (pre ++ suf) (pre ++ suf) (pre.length : Int)) true) := by
  refine S_ind (fun a b l t e iht ihe => ?_) ?_ (fun x r ih1 ih2 => ?_)
  · intro hg
    rw [goodS_mk] at hg
    obtain ⟨⟨g1, g2⟩, ⟨g3, g4⟩, ⟨g5, g6⟩⟩ := hg
    refine Tells.succ ?_
    simp only [r3_SameStmt.f, if_true]
    have rt : ∀ q : List S47, Tells (fun k => r3_SameRows.l0 k q q 0) true → Tells (fun k => r3_SameRows.f k q q) true := by
      intro q h
      refine Tells.succ ?_
      simp only [r3_SameRows.f, if_true]
      exact h
    exact Tells.bind (exprs_tells l g2 g1) (Tells.ifT rfl (Tells.bind (rt t (iht g4 [] g3)) (Tells.ifT rfl (Tells.bind (rt e (ihe g6 [] g5)) (Tells.pure _)))))
  · intro _ pre _
    refine Tells.succ ?_
    simp only [r3_SameRows.l0, pre_nlt, if_false]
    exact Tells.pure _
  · intro hg pre hl
    refine Tells.succ ?_
    simp only [r3_SameRows.l0, pre_lt, pre_pos, if_true, rdS_mid]
    refine Tells.bind (ih1 hg.1) (Tells.ifT rfl ?_)
    rw [pre_next pre x r hl]
    have ih := ih2 hg.2 (pre ++ [x]) (by rw [← pre_app]; exact hl)
    rw [← pre_app] at ih
    exact ih
end Go.Proofs.Ytffcpbgbhkbplaa.Print
