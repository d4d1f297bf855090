/- For any program and any number, prog.At, prog.Inside and prog.All give the statements, the numbers or the error that the document's answer tells; a program of more than 600 nodes is passed over. -/
import Derived.Test.YtffcpbgbhkbplaaZ4
import Derived.Laws.BitsLemmas
import Derived.Orders
import Derived.OrdersHeld
set_option maxRecDepth 100000
set_option maxHeartbeats 16000000
namespace Go.Proofs.Ytffcpbgbhkbplaa.Print
open Go.RowKit Go.Proofs.YtffcpbgbhkbplaaW.PrintWords Go.Proofs.YtffcpbgbhkbplaaW.PrintLast Go.Proofs.YtffcpbgbhkbplaaW.PrintMore
attribute [local go_sem] max2_int min2_int max_two min_two max_three min_three max_four min_four
set_option linter.unusedVariables false
set_option linter.unusedSimpArgs false
def r3_Items.l0 : Nat → List (S47) → Int → List (S57) → Int → Option ((List (S57)))
 | 0, _, _, _, _ => none
 | k + 1, x0, x1, x5, x6 => if x6 < (x0.length : Int) then (if 0 ≤ x6 then (if x5.length < 1466015503701 then ((r3_Count.f k ((rd_T47 x0 x6).f3)).bind fun t361 => ((r3_Count.f k ((rd_T47 x0 x6).f4)).bind fun t363 => (r3_Items.l0 k x0 (wrap64 ((wrap64 ((wrap64 (x1 + 1)) + t361)) + t363)) (x5 ++ [(⟨x1, (⟨(rd_T47 x0 x6).f0, (rd_T47 x0 x6).f1, (rd_T47 x0 x6).f2, (rd_T47 x0 x6).f3, (rd_T47 x0 x6).f4⟩ : S47)⟩ : S57)]) (wrap64 (x6 + 1))))) else (none)) else (none)) else (some x5)
def r3_Items.f (k : Nat) (l0 : List (S47)) (a1 : Int) : Option ((List (S57))) := r3_Items.l0 k l0 a1 ([] : List (S57)) 0
def r3_Items.T6 : Bool × List (List Nat × List Nat) := (true, [([], []), ([0], [0]), ([], []), ([], []), ([2, 3], [2, 3]), ([4], [4]), ([5], [5]), ([6], [6]), ([1, 7], [1, 7]), ([], []), ([], []), ([9, 10], [9, 10]), ([11], [11]), ([12], [12]), ([13, 7], [13]), ([8, 14], [8, 14]), ([15, 14, 0, 1, 2, 3, 4, 5, 6, 7, 8, 9, 10, 11, 12, 13, 14, 15], [0, 15])])
def r3_Items.B6 : List Nat := [0, 1, 0, 0, 12, 28, 60, 124, 255, 0, 0, 1536, 3584, 7680, 16124, 32767, 65535]
theorem r3_Items.tab6 : rtab .any (opsOf Try.f60 6) = r3_Items.T6 := by kernel_rfl
theorem r3_Items.bits6 : waitsOk r3_Items.T6.2 r3_Items.B6 = true := by kernel_rfl
theorem r3_Items.calls (k : Nat) (P0_ : Nat → Prop) (A0 : Option Addr) (c0 : Nat) (l0 : List (S47)) (a1 : Int) (r : List (S57)) (w : World) (hs0 : Kd.V k47 47 w w.heap.size (fun k_ => P0_ k_) (.slice A0 l0.length c0) l0) (h : r3_Items.f k l0 a1 = some r) :
  Calls Try.prog 60 #[.slice A0 l0.length c0, .int .i64 a1] w fun e w' => ∃ v0_ : Value, e = .returned (v0_) ∧ Kd.N k57 57 w' w.heap.size (fun k_ => (P0_ k_ ∨ w.heap.size ≤ k_)) v0_ r ∧ Below w.heap.size w w' := by
 have hu47 := Try.underlying47
 have hu57 := Try.underlying57
 have HO0 := Aside0.mk (show Kd.V k47 47 w w.heap.size (fun k_ => (P0_ k_ ∨ w.heap.size ≤ k_)) (.slice A0 l0.length c0) l0 from Kd.V_mono hs0 (fun k_ hk => .inl hk))
 have HB := Aside0.mk (Below.refl w.heap.size w)
 have H : (r3_Items.l0 k l0 a1 ([] : List (S57)) 0) = some r := h
 clear h
 have H' := Aside0.mk H
 clear H
 go_enter Try.func60, Try.ntmps60
 go_wp2
 go_loopg [1, 5, 6] k (fun kq v1 v5 v6 w' => ∃ (x1_1 : Int) (x5_1 : List (S57)) (x6_1 : Int), v1 = .int .i64 x1_1 ∧ v6 = .int .i64 x6_1 ∧ Aside0 (r3_Items.l0 kq l0 x1_1 x5_1 x6_1 = some r) ∧ Aside0 (kq ≤ k) ∧ Aside0 (Kd.V k47 47 w' w.heap.size (fun k_ => (P0_ k_ ∨ w.heap.size ≤ k_) ∧ some k_ ≠ (v5 : Value).ownBlock) (.slice A0 l0.length c0) l0) ∧ Aside0 (Kd.N k57 57 w' w.heap.size (fun k_ => (P0_ k_ ∨ w.heap.size ≤ k_)) v5 x5_1) ∧ Aside0 (Below w.heap.size w w'))
 case atStart => exact ⟨(a1), (([] : List (S57))), (0), rs, rs, H', ⟨Nat.le_refl _⟩, ⟨by (with_reducible repeat (first | apply Kd.V_alloc | apply Kd.V_drewN | apply Kd.V_drew)); exact Kd.V_mono HO0.out (fun _ hk => ⟨hk, (by simp [Value.ownBlock])⟩)⟩, ⟨by first | exact Kd.R_nil _ _ _ _ _ | exact Kd.N_nil _ _ _ _ _ | exact Kd.V_nil _ _ _ _ _ | exact Kd.Q_nil _ _ _ _ _ | exact Kd.S_nil _ _ _ _ _⟩, ⟨bb HB⟩⟩
 case round =>
  clear H'
  try clear p2
  obtain ⟨x1_1, x5_1, x6_1, rfl, rfl, HA, HK1, HO_0, HO_5, HB⟩ := hrel
  cases gk with
  | zero => exact absurd HA.out (by simp [r3_Items.l0])
  | succ k1 =>
   have H := HA.out
   clear HA
   simp only [r3_Items.l0] at H
   by_cases c3 : x6_1 < (l0.length : Int)
   rotate_left
   ·rw [if_neg c3] at H
    have c3b0 : decide (x6_1 < (l0.length : Int)) = false := decide_eq_false c3
    clear c3
    obtain rfl := Option.some.inj H
    go_wp2
    go_ret
    exact ⟨_, rr, by (with_reducible repeat (first | apply Kd.N_alloc | apply Kd.N_drewN | apply Kd.N_drew)); exact HO_5.out, bb HB⟩
   rw [if_pos c3] at H
   have c3b0 : decide (x6_1 < (l0.length : Int)) = true := decide_eq_true c3
   clear c3
   by_cases c4 : 0 ≤ x6_1
   rotate_left
   ·rw [if_neg c4] at H
    exact absurd H (by simp)
   rw [if_pos c4] at H
   have c4b0 : decide (0 ≤ x6_1) = true := decide_eq_true c4
   clear c4
   by_cases c5 : x5_1.length < 1466015503701
   rotate_left
   ·rw [if_neg c5] at H
    exact absurd H (by simp)
   rw [if_pos c5] at H
   have LMc5 := Aside0.mk c5
   clear c5
   obtain ⟨y357, hy357⟩ : ∃ y_ : List (S57), y_ = (x5_1 ++ [(⟨x1_1, (⟨(rd_T47 l0 x6_1).f0, (rd_T47 l0 x6_1).f1, (rd_T47 l0 x6_1).f2, (rd_T47 l0 x6_1).f3, (rd_T47 l0 x6_1).f4⟩ : S47)⟩ : S57)]) := ⟨_, rfl⟩
   replace H : ((r3_Count.f k1 ((rd_T47 l0 x6_1).f3)).bind fun t361 => ((r3_Count.f k1 ((rd_T47 l0 x6_1).f4)).bind fun t363 => (r3_Items.l0 k1 l0 (wrap64 ((wrap64 ((wrap64 (x1_1 + 1)) + t361)) + t363)) y357 (wrap64 (x6_1 + 1))))) = some r := by first | (rw [hy357]; with_reducible exact H) | (have H2_ := (Option.bind_some _ _).symm.trans H; rw [hy357]; with_reducible exact H2_) | (have H2_ := (Option.bind_some _ _).symm.trans H; with_reducible exact H2_) | with_reducible exact H | (rw [hy357]; exact H) | exact H
   have Ny357 := Aside0.mk hy357
   clear hy357
   obtain ⟨t361, A6, H⟩ := be H
   obtain ⟨t363, A7, H⟩ := be H
   have H' := Aside0.mk H
   clear H
   have p356 : 0 ≤ (x6_1 : Int) := od
   have q356 : x6_1 < (l0.length : Int) := od
   obtain ⟨ad356, A356_2, c356_2, A356_3, c356_3, A356_4, c356_4, e356, hx356_0, hx356_1, hx356_2, hx356_3, hx356_4, hl356_2, hi356_2, hl356_3, hi356_3, hl356_4, hi356_4⟩ := at_T47 (Kd.V_reads' HO_0.out).2.2 x6_1 p356 q356
   cases e356
   obtain ⟨ce356, hce356, hMe356, hcc356⟩ := Kd.V_get HO_0.out z47 x6_1 p356 (by first | exact q356 | exact od | (have e_ := (Kd.V_reads' HO_0.out).1; omega))
   obtain ⟨ua356_2, uc356_2, ua356_3, uc356_3, ua356_4, uc356_4, rfl, ul356_2, ge356_2, ul356_3, ge356_3, ul356_4, ge356_4⟩ := k47_openF hMe356
   have hv356_2 := hcc356 2 _ rfl
   rw [add_field _ _ 2 (by omega)] at hv356_2
   replace hv356_2 := Option.some.inj (hv356_2.symm.trans hx356_2)
   injection hv356_2 with hva_ hvn_ hvc_
   rw [hva_] at ge356_2
   rw [hvc_] at ul356_2
   have HL356_2 := Aside0.mk (show Kd.V k96 96 _ w.heap.size _ _ ((rd_T47 l0 x6_1).f2) from Kd.V_mk ul356_2 ge356_2)
   clear hva_ hvn_ hvc_ ge356_2 ul356_2
   have hv356_3 := hcc356 3 _ rfl
   rw [add_field _ _ 3 (by omega)] at hv356_3
   replace hv356_3 := Option.some.inj (hv356_3.symm.trans hx356_3)
   injection hv356_3 with hva_ hvn_ hvc_
   rw [hva_] at ge356_3
   rw [hvc_] at ul356_3
   have HL356_3 := Aside0.mk (show Kd.V k47 47 _ w.heap.size _ _ ((rd_T47 l0 x6_1).f3) from Kd.V_mk ul356_3 ge356_3)
   clear hva_ hvn_ hvc_ ge356_3 ul356_3
   have hv356_4 := hcc356 4 _ rfl
   rw [add_field _ _ 4 (by omega)] at hv356_4
   replace hv356_4 := Option.some.inj (hv356_4.symm.trans hx356_4)
   injection hv356_4 with hva_ hvn_ hvc_
   rw [hva_] at ge356_4
   rw [hvc_] at ul356_4
   have HL356_4 := Aside0.mk (show Kd.V k47 47 _ w.heap.size _ _ ((rd_T47 l0 x6_1).f4) from Kd.V_mk ul356_4 ge356_4)
   clear hva_ hvn_ hvc_ ge356_4 ul356_4
   clear hcc356 hce356
   have HR356_2 := Aside0.mk hi356_2
   have HC356_2 := Aside0.mk hl356_2
   clear hi356_2 hl356_2
   have HR356_3 := Aside0.mk hi356_3
   have HC356_3 := Aside0.mk hl356_3
   clear hi356_3 hl356_3
   have HR356_4 := Aside0.mk hi356_4
   have HC356_4 := Aside0.mk hl356_4
   clear hi356_4 hl356_4
   replace p356 := eq_true p356
   replace q356 := eq_true q356
   try go_wp2_with (first | ((with_reducible refine gate_builtin (b := .append) (xs := #[.tmp 13, .tmp 20]) rfl ?_); at_builtin; refine Kd.N_append k57 (w0 := w) w.heap.size rfl (.tmp 13) (.tmp 20) 54 57 (.agg #[(.int .i64 0), (.int .i64 0), (.int .i64 0), (.slice none 0 0), (.slice none 0 0), (.slice none 0 0)]) 96 rfl Try.underlying54 info57 rfl (by decide) (by omega) u5 x5_1 (⟨x1_1, (⟨(rd_T47 l0 x6_1).f0, (rd_T47 l0 x6_1).f1, (rd_T47 l0 x6_1).f2, (rd_T47 l0 x6_1).f3, (rd_T47 l0 x6_1).f4⟩ : S47)⟩ : S57) [.int .i64 x1_1, .int .i64 ((rd_T47 l0 x6_1).f0), .int .i64 ((rd_T47 l0 x6_1).f1), .slice A356_2 ((rd_T47 l0 x6_1).f2).length c356_2, .slice A356_3 ((rd_T47 l0 x6_1).f3).length c356_3, .slice A356_4 ((rd_T47 l0 x6_1).f4).length c356_4] (fun k_ => (P0_ k_ ∨ w.heap.size ≤ k_)) (fun k_ => ((fun k_ => (P0_ k_ ∨ w.heap.size ≤ k_))) k_ ∧ some k_ ≠ (u5 : Value).ownBlock) rfl rfl ?aP (fun _ hk => hk) ?aF ?aO ?aB ?aS ?aL ?_; (case aP => exact (k57_mkF _ _ (⟨x1_1, (⟨(rd_T47 l0 x6_1).f0, (rd_T47 l0 x6_1).f1, (rd_T47 l0 x6_1).f2, (rd_T47 l0 x6_1).f3, (rd_T47 l0 x6_1).f4⟩ : S47)⟩ : S57) (Kd.V_reads' (Kd.V_mono (ok' := (fun k_ => ((fun k_ => (P0_ k_ ∨ w.heap.size ≤ k_))) k_ ∧ some k_ ≠ (u5 : Value).ownBlock)) (HL356_2.out) (fun k_ hk => ⟨hk.1, hk.2⟩))).2.1 (Kd.V_F (Kd.V_mono (ok' := (fun k_ => ((fun k_ => (P0_ k_ ∨ w.heap.size ≤ k_))) k_ ∧ some k_ ≠ (u5 : Value).ownBlock)) (HL356_2.out) (fun k_ hk => ⟨hk.1, hk.2⟩))) (Kd.V_reads' (Kd.V_mono (ok' := (fun k_ => ((fun k_ => (P0_ k_ ∨ w.heap.size ≤ k_))) k_ ∧ some k_ ≠ (u5 : Value).ownBlock)) (HL356_3.out) (fun k_ hk => ⟨hk.1, hk.2⟩))).2.1 (Kd.V_F (Kd.V_mono (ok' := (fun k_ => ((fun k_ => (P0_ k_ ∨ w.heap.size ≤ k_))) k_ ∧ some k_ ≠ (u5 : Value).ownBlock)) (HL356_3.out) (fun k_ hk => ⟨hk.1, hk.2⟩))) (Kd.V_reads' (Kd.V_mono (ok' := (fun k_ => ((fun k_ => (P0_ k_ ∨ w.heap.size ≤ k_))) k_ ∧ some k_ ≠ (u5 : Value).ownBlock)) (HL356_4.out) (fun k_ hk => ⟨hk.1, hk.2⟩))).2.1 (Kd.V_F (Kd.V_mono (ok' := (fun k_ => ((fun k_ => (P0_ k_ ∨ w.heap.size ≤ k_))) k_ ∧ some k_ ≠ (u5 : Value).ownBlock)) (HL356_4.out) (fun k_ hk => ⟨hk.1, hk.2⟩))))); (case aB => exact (bb HB)); (case aF => exact (fun k_ hk => (.inr (Nat.le_trans (bsz (bb HB)) hk)))); (case aO => exact (iN HO_5)); (case aS => exact (bsz (bb HB))); (case aL => have := LMc5.out; omega); intro v358 w8 ho hb hg hat; rw [← Ny357.out] at ho; have HO359 := Aside0.mk (ho); replace HO_0 := Aside0.mk (Kd.V_afterv (ok := (fun k_ => (P0_ k_ ∨ w.heap.size ≤ k_))) (by (with_reducible repeat (first | apply Kd.V_alloc | apply Kd.V_drewN | apply Kd.V_drew)); exact HO_0.out) hg hat); replace HL356_2 := Aside0.mk (Kd.V_afterv (ok := (fun k_ => (P0_ k_ ∨ w.heap.size ≤ k_))) (by (with_reducible repeat (first | apply Kd.V_alloc | apply Kd.V_drewN | apply Kd.V_drew)); exact HL356_2.out) hg hat); replace HL356_3 := Aside0.mk (Kd.V_afterv (ok := (fun k_ => (P0_ k_ ∨ w.heap.size ≤ k_))) (by (with_reducible repeat (first | apply Kd.V_alloc | apply Kd.V_drewN | apply Kd.V_drew)); exact HL356_3.out) hg hat); replace HL356_4 := Aside0.mk (Kd.V_afterv (ok := (fun k_ => (P0_ k_ ∨ w.heap.size ≤ k_))) (by (with_reducible repeat (first | apply Kd.V_alloc | apply Kd.V_drewN | apply Kd.V_drew)); exact HL356_4.out) hg hat); replace HB := Aside0.mk (hb); clear HO_5; clear ho hb hg hat))
   replace HO_0 := Aside0.mk (Kd.V_drew HO_0.out)
   replace HL356_2 := Aside0.mk (Kd.V_drew HL356_2.out)
   replace HL356_3 := Aside0.mk (Kd.V_drew HL356_3.out)
   replace HL356_4 := Aside0.mk (Kd.V_drew HL356_4.out)
   replace HO359 := Aside0.mk (Kd.N_drew HO359.out)
   replace HB := Aside0.mk (bd1 HB.out)
   have p360 : 0 ≤ (x6_1 : Int) := od
   have q360 : x6_1 < (l0.length : Int) := od
   obtain ⟨ad360, A360_2, c360_2, A360_3, c360_3, A360_4, c360_4, e360, hx360_0, hx360_1, hx360_2, hx360_3, hx360_4, hl360_2, hi360_2, hl360_3, hi360_3, hl360_4, hi360_4⟩ := at_T47 (Kd.V_reads' HO_0.out).2.2 x6_1 p360 q360
   obtain rfl : ad356 = ad360 := (by injection e360)
   obtain ⟨ce360, hce360, hMe360, hcc360⟩ := Kd.V_get HO_0.out z47 x6_1 p360 (by first | exact q360 | exact od | (have e_ := (Kd.V_reads' HO_0.out).1; omega))
   obtain ⟨ua360_2, uc360_2, ua360_3, uc360_3, ua360_4, uc360_4, rfl, ul360_2, ge360_2, ul360_3, ge360_3, ul360_4, ge360_4⟩ := k47_openF hMe360
   have hv360_2 := hcc360 2 _ rfl
   rw [add_field _ _ 2 (by omega)] at hv360_2
   replace hv360_2 := Option.some.inj (hv360_2.symm.trans hx360_2)
   injection hv360_2 with hva_ hvn_ hvc_
   rw [hva_] at ge360_2
   rw [hvc_] at ul360_2
   have HL360_2 := Aside0.mk (show Kd.V k96 96 _ w.heap.size _ _ ((rd_T47 l0 x6_1).f2) from Kd.V_mk ul360_2 ge360_2)
   clear hva_ hvn_ hvc_ ge360_2 ul360_2
   have hv360_3 := hcc360 3 _ rfl
   rw [add_field _ _ 3 (by omega)] at hv360_3
   replace hv360_3 := Option.some.inj (hv360_3.symm.trans hx360_3)
   injection hv360_3 with hva_ hvn_ hvc_
   rw [hva_] at ge360_3
   rw [hvc_] at ul360_3
   have HL360_3 := Aside0.mk (show Kd.V k47 47 _ w.heap.size _ _ ((rd_T47 l0 x6_1).f3) from Kd.V_mk ul360_3 ge360_3)
   clear hva_ hvn_ hvc_ ge360_3 ul360_3
   have hv360_4 := hcc360 4 _ rfl
   rw [add_field _ _ 4 (by omega)] at hv360_4
   replace hv360_4 := Option.some.inj (hv360_4.symm.trans hx360_4)
   injection hv360_4 with hva_ hvn_ hvc_
   rw [hva_] at ge360_4
   rw [hvc_] at ul360_4
   have HL360_4 := Aside0.mk (show Kd.V k47 47 _ w.heap.size _ _ ((rd_T47 l0 x6_1).f4) from Kd.V_mk ul360_4 ge360_4)
   clear hva_ hvn_ hvc_ ge360_4 ul360_4
   clear hcc360 hce360
   have HR360_2 := Aside0.mk hi360_2
   have HC360_2 := Aside0.mk hl360_2
   clear hi360_2 hl360_2
   have HR360_3 := Aside0.mk hi360_3
   have HC360_3 := Aside0.mk hl360_3
   clear hi360_3 hl360_3
   have HR360_4 := Aside0.mk hi360_4
   have HC360_4 := Aside0.mk hl360_4
   clear hi360_4 hl360_4
   replace p360 := eq_true p360
   replace q360 := eq_true q360
   have p362 : 0 ≤ (x6_1 : Int) := od
   have q362 : x6_1 < (l0.length : Int) := od
   obtain ⟨ad362, A362_2, c362_2, A362_3, c362_3, A362_4, c362_4, e362, hx362_0, hx362_1, hx362_2, hx362_3, hx362_4, hl362_2, hi362_2, hl362_3, hi362_3, hl362_4, hi362_4⟩ := at_T47 (Kd.V_reads' HO_0.out).2.2 x6_1 p362 q362
   obtain rfl : ad356 = ad362 := (by injection e362)
   obtain ⟨ce362, hce362, hMe362, hcc362⟩ := Kd.V_get HO_0.out z47 x6_1 p362 (by first | exact q362 | exact od | (have e_ := (Kd.V_reads' HO_0.out).1; omega))
   obtain ⟨ua362_2, uc362_2, ua362_3, uc362_3, ua362_4, uc362_4, rfl, ul362_2, ge362_2, ul362_3, ge362_3, ul362_4, ge362_4⟩ := k47_openF hMe362
   have hv362_2 := hcc362 2 _ rfl
   rw [add_field _ _ 2 (by omega)] at hv362_2
   replace hv362_2 := Option.some.inj (hv362_2.symm.trans hx362_2)
   injection hv362_2 with hva_ hvn_ hvc_
   rw [hva_] at ge362_2
   rw [hvc_] at ul362_2
   have HL362_2 := Aside0.mk (show Kd.V k96 96 _ w.heap.size _ _ ((rd_T47 l0 x6_1).f2) from Kd.V_mk ul362_2 ge362_2)
   clear hva_ hvn_ hvc_ ge362_2 ul362_2
   have hv362_3 := hcc362 3 _ rfl
   rw [add_field _ _ 3 (by omega)] at hv362_3
   replace hv362_3 := Option.some.inj (hv362_3.symm.trans hx362_3)
   injection hv362_3 with hva_ hvn_ hvc_
   rw [hva_] at ge362_3
   rw [hvc_] at ul362_3
   have HL362_3 := Aside0.mk (show Kd.V k47 47 _ w.heap.size _ _ ((rd_T47 l0 x6_1).f3) from Kd.V_mk ul362_3 ge362_3)
   clear hva_ hvn_ hvc_ ge362_3 ul362_3
   have hv362_4 := hcc362 4 _ rfl
   rw [add_field _ _ 4 (by omega)] at hv362_4
   replace hv362_4 := Option.some.inj (hv362_4.symm.trans hx362_4)
   injection hv362_4 with hva_ hvn_ hvc_
   rw [hva_] at ge362_4
   rw [hvc_] at ul362_4
   have HL362_4 := Aside0.mk (show Kd.V k47 47 _ w.heap.size _ _ ((rd_T47 l0 x6_1).f4) from Kd.V_mk ul362_4 ge362_4)
   clear hva_ hvn_ hvc_ ge362_4 ul362_4
   clear hcc362 hce362
   have HR362_2 := Aside0.mk hi362_2
   have HC362_2 := Aside0.mk hl362_2
   clear hi362_2 hl362_2
   have HR362_3 := Aside0.mk hi362_3
   have HC362_3 := Aside0.mk hl362_3
   clear hi362_3 hl362_3
   have HR362_4 := Aside0.mk hi362_4
   have HC362_4 := Aside0.mk hl362_4
   clear hi362_4 hl362_4
   replace p362 := eq_true p362
   replace q362 := eq_true q362
   have ea_ := Option.some.inj (hx360_2.symm.trans hx362_2)
   injection ea_ with ea_ en_ ec_
   subst ea_
   subst ec_
   clear en_
   have ea_ := Option.some.inj (hx360_3.symm.trans hx362_3)
   injection ea_ with ea_ en_ ec_
   subst ea_
   subst ec_
   clear en_
   have ea_ := Option.some.inj (hx360_4.symm.trans hx362_4)
   injection ea_ with ea_ en_ ec_
   subst ea_
   subst ec_
   clear en_
   refine start_ (n := 17) (S := fun w' => w'.cell? (ad356.add ((x6_1).toNat * 5)) = some (.int .i64 ((rd_T47 l0 x6_1).f0)) ∧ w'.cell? ⟨(ad356.add ((x6_1).toNat * 5)).block, (ad356.add ((x6_1).toNat * 5)).off + 1, none⟩ = some (.int .i64 ((rd_T47 l0 x6_1).f1)) ∧ w'.cell? ⟨(ad356.add ((x6_1).toNat * 5)).block, (ad356.add ((x6_1).toNat * 5)).off + 2, none⟩ = some (.slice A360_2 ((rd_T47 l0 x6_1).f2).length c360_2) ∧ w'.cell? ⟨(ad356.add ((x6_1).toNat * 5)).block, (ad356.add ((x6_1).toNat * 5)).off + 3, none⟩ = some (.slice A360_3 ((rd_T47 l0 x6_1).f3).length c360_3) ∧ w'.cell? ⟨(ad356.add ((x6_1).toNat * 5)).block, (ad356.add ((x6_1).toNat * 5)).off + 4, none⟩ = some (.slice A360_4 ((rd_T47 l0 x6_1).f4).length c360_4) ∧ w'.cell? (ad356.add ((x6_1).toNat * 5)) = some (.int .i64 ((rd_T47 l0 x6_1).f0)) ∧ w'.cell? ⟨(ad356.add ((x6_1).toNat * 5)).block, (ad356.add ((x6_1).toNat * 5)).off + 1, none⟩ = some (.int .i64 ((rd_T47 l0 x6_1).f1)) ∧ w'.cell? ⟨(ad356.add ((x6_1).toNat * 5)).block, (ad356.add ((x6_1).toNat * 5)).off + 2, none⟩ = some (.slice A360_2 ((rd_T47 l0 x6_1).f2).length c360_2) ∧ w'.cell? ⟨(ad356.add ((x6_1).toNat * 5)).block, (ad356.add ((x6_1).toNat * 5)).off + 3, none⟩ = some (.slice A360_3 ((rd_T47 l0 x6_1).f3).length c360_3) ∧ w'.cell? ⟨(ad356.add ((x6_1).toNat * 5)).block, (ad356.add ((x6_1).toNat * 5)).off + 4, none⟩ = some (.slice A360_4 ((rd_T47 l0 x6_1).f4).length c360_4)) (ds := []) #[false, false, false, false, false, false, false, false, false, false, false, false, false, false, false, false, false] (by kernel_rfl) rfl rfl ⟨hx360_0, hx360_1, hx360_2, hx360_3, hx360_4, hx362_0, hx362_1, hx362_2, hx362_3, hx362_4⟩ (fun hHeld => ?_); refine with_tabW r3_Items.tab6 r3_Items.bits6 (fun HT_ HW_ => ?_)
   generalize w8.drew = w9 at HO_0 HL356_2 HL356_3 HL356_4 HO359 HB HL360_2 HL360_3 HL360_4 HL362_2 HL362_3 HL362_4 HR360_2 HR360_3 HR360_4 HR362_2 HR362_3 HR362_4 hx360_0 hx360_1 hx360_2 hx360_3 hx360_4 hx362_0 hx362_1 hx362_2 hx362_3 hx362_4 hHeld ⊢
   refine pT 0 22 (bl 17 1) HT_ rfl rfl ?_
   refine pT 1 23 (bl 17 3) HT_ rfl rfl ?_
   refine pT 2 24 (bl 17 7) HT_ rfl rfl ?_
   refine pT 3 25 (bl 17 15) HT_ rfl rfl ?_
   refine pT 4 26 (bl 17 31) HT_ rfl rfl ?_
   refine pT 5 27 (bl 17 63) HT_ rfl rfl ?_
   refine pT 9 31 (bl 17 575) HT_ rfl rfl ?_
   refine pT 10 32 (bl 17 1599) HT_ rfl rfl ?_
   refine pT 11 33 (bl 17 3647) HT_ rfl rfl ?_
   refine pT 12 34 (bl 17 7743) HT_ rfl rfl ?_
   refine tk (i := 6) (N := some 28) (bl 17 7807) rfl rfl (take_ofW HT_.out HW_.out (by kernel_rfl)) hHeld ?_
   refine tk (i := 13) (N := some 35) (bl 17 15999) rfl rfl (take_ofW HT_.out HW_.out (by kernel_rfl)) hHeld ?_
   refine one_ (i := 7) (N := some 29) (bl 17 16127) rfl rfl (one_of HT_.out (by kernel_rfl)) (by decide) (fun K hK => ?_)
   refine gO Try.func35 #[.slice A360_3 ((rd_T47 l0 x6_1).f3).length c360_3] (by rfl) rfl rfl ?_
   with_reducible refine (r3_Count.calls k1 _ _ ((rd_T47 l0 x6_1).f3) t361 _ ?side1 ?side2 A6.out).mono ?_
   (case side1 => repeat (first | exact (by repeat (first | (with_reducible exact HR360_3.out) | with_reducible first | apply Kd.C_alloc | apply Kd.C_drewN | apply Kd.C_drew | exact HR360_3.out)) | with_reducible first | apply Kd.C_alloc | apply Kd.C_drewN | apply Kd.C_drew))
   (case side2 => exact HC360_3.out)
   rintro e w10 ⟨rfl, hb⟩
   have HS0_ := (hb.cell (World.block_lt_of_cell? _ _ (hHeld.1))).trans (hHeld.1)
   have HS1_ := (hb.cell (World.block_lt_of_cell? _ _ (hHeld.2.1))).trans (hHeld.2.1)
   have HS2_ := (hb.cell (World.block_lt_of_cell? _ _ (hHeld.2.2.1))).trans (hHeld.2.2.1)
   have HS3_ := (hb.cell (World.block_lt_of_cell? _ _ (hHeld.2.2.2.1))).trans (hHeld.2.2.2.1)
   have HS4_ := (hb.cell (World.block_lt_of_cell? _ _ (hHeld.2.2.2.2.1))).trans (hHeld.2.2.2.2.1)
   have HS5_ := (hb.cell (World.block_lt_of_cell? _ _ (hHeld.2.2.2.2.2.1))).trans (hHeld.2.2.2.2.2.1)
   have HS6_ := (hb.cell (World.block_lt_of_cell? _ _ (hHeld.2.2.2.2.2.2.1))).trans (hHeld.2.2.2.2.2.2.1)
   have HS7_ := (hb.cell (World.block_lt_of_cell? _ _ (hHeld.2.2.2.2.2.2.2.1))).trans (hHeld.2.2.2.2.2.2.2.1)
   have HS8_ := (hb.cell (World.block_lt_of_cell? _ _ (hHeld.2.2.2.2.2.2.2.2.1))).trans (hHeld.2.2.2.2.2.2.2.2.1)
   have HS9_ := (hb.cell (World.block_lt_of_cell? _ _ (hHeld.2.2.2.2.2.2.2.2.2))).trans (hHeld.2.2.2.2.2.2.2.2.2)
   refine ⟨_, rfl, ?_⟩
   replace HO_0 := Aside0.mk (Kd.V_below (by (with_reducible repeat (first | apply Kd.V_alloc | apply Kd.V_drewN | apply Kd.V_drew)); exact HO_0.out) hb)
   replace HL356_2 := Aside0.mk (Kd.V_below (by (with_reducible repeat (first | apply Kd.V_alloc | apply Kd.V_drewN | apply Kd.V_drew)); exact HL356_2.out) hb)
   replace HL356_3 := Aside0.mk (Kd.V_below (by (with_reducible repeat (first | apply Kd.V_alloc | apply Kd.V_drewN | apply Kd.V_drew)); exact HL356_3.out) hb)
   replace HL356_4 := Aside0.mk (Kd.V_below (by (with_reducible repeat (first | apply Kd.V_alloc | apply Kd.V_drewN | apply Kd.V_drew)); exact HL356_4.out) hb)
   replace HO359 := Aside0.mk (Kd.N_below (iN HO359) hb)
   replace HL360_2 := Aside0.mk (Kd.V_below (by (with_reducible repeat (first | apply Kd.V_alloc | apply Kd.V_drewN | apply Kd.V_drew)); exact HL360_2.out) hb)
   replace HL360_3 := Aside0.mk (Kd.V_below (by (with_reducible repeat (first | apply Kd.V_alloc | apply Kd.V_drewN | apply Kd.V_drew)); exact HL360_3.out) hb)
   replace HL360_4 := Aside0.mk (Kd.V_below (by (with_reducible repeat (first | apply Kd.V_alloc | apply Kd.V_drewN | apply Kd.V_drew)); exact HL360_4.out) hb)
   replace HL362_2 := Aside0.mk (Kd.V_below (by (with_reducible repeat (first | apply Kd.V_alloc | apply Kd.V_drewN | apply Kd.V_drew)); exact HL362_2.out) hb)
   replace HL362_3 := Aside0.mk (Kd.V_below (by (with_reducible repeat (first | apply Kd.V_alloc | apply Kd.V_drewN | apply Kd.V_drew)); exact HL362_3.out) hb)
   replace HL362_4 := Aside0.mk (Kd.V_below (by (with_reducible repeat (first | apply Kd.V_alloc | apply Kd.V_drewN | apply Kd.V_drew)); exact HL362_4.out) hb)
   replace HR360_2 := Aside0.mk (Kd.C_below (by repeat (first | (with_reducible exact HR360_2.out) | with_reducible first | apply Kd.C_alloc | apply Kd.C_drewN | apply Kd.C_drew | exact HR360_2.out)) hb)
   replace HR360_3 := Aside0.mk (Kd.C_below (by repeat (first | (with_reducible exact HR360_3.out) | with_reducible first | apply Kd.C_alloc | apply Kd.C_drewN | apply Kd.C_drew | exact HR360_3.out)) hb)
   replace HR360_4 := Aside0.mk (Kd.C_below (by repeat (first | (with_reducible exact HR360_4.out) | with_reducible first | apply Kd.C_alloc | apply Kd.C_drewN | apply Kd.C_drew | exact HR360_4.out)) hb)
   replace HR362_2 := Aside0.mk (Kd.C_below (by repeat (first | (with_reducible exact HR362_2.out) | with_reducible first | apply Kd.C_alloc | apply Kd.C_drewN | apply Kd.C_drew | exact HR362_2.out)) hb)
   replace HR362_3 := Aside0.mk (Kd.C_below (by repeat (first | (with_reducible exact HR362_3.out) | with_reducible first | apply Kd.C_alloc | apply Kd.C_drewN | apply Kd.C_drew | exact HR362_3.out)) hb)
   replace HR362_4 := Aside0.mk (Kd.C_below (by repeat (first | (with_reducible exact HR362_4.out) | with_reducible first | apply Kd.C_alloc | apply Kd.C_drewN | apply Kd.C_drew | exact HR362_4.out)) hb)
   replace HB := sb HB hb
   (try clear hb)
   (try clear hb2)
   (try clear hk)
   (try clear hi)
   refine hK.out _ _ ⟨HS0_, HS1_, HS2_, HS3_, HS4_, HS5_, HS6_, HS7_, HS8_, HS9_⟩ (fun hHeld => ?_)
   clear hK K
   refine nm 29 ?_
   refine pT 8 30 (bl 17 16383) HT_ rfl rfl ?_
   refine one_ (i := 14) (N := some 36) (bl 17 32767) rfl rfl (one_of HT_.out (by kernel_rfl)) (by decide) (fun K hK => ?_)
   refine gO Try.func35 #[.slice A360_4 ((rd_T47 l0 x6_1).f4).length c360_4] (by rfl) rfl rfl ?_
   with_reducible refine (r3_Count.calls k1 _ _ ((rd_T47 l0 x6_1).f4) t363 _ ?side1 ?side2 A7.out).mono ?_
   (case side1 => repeat (first | exact (by repeat (first | (with_reducible exact HR362_4.out) | with_reducible first | apply Kd.C_alloc | apply Kd.C_drewN | apply Kd.C_drew | exact HR362_4.out)) | with_reducible first | apply Kd.C_alloc | apply Kd.C_drewN | apply Kd.C_drew))
   (case side2 => exact HC362_4.out)
   rintro e w11 ⟨rfl, hb⟩
   have HS0_ := (hb.cell (World.block_lt_of_cell? _ _ (hHeld.1))).trans (hHeld.1)
   have HS1_ := (hb.cell (World.block_lt_of_cell? _ _ (hHeld.2.1))).trans (hHeld.2.1)
   have HS2_ := (hb.cell (World.block_lt_of_cell? _ _ (hHeld.2.2.1))).trans (hHeld.2.2.1)
   have HS3_ := (hb.cell (World.block_lt_of_cell? _ _ (hHeld.2.2.2.1))).trans (hHeld.2.2.2.1)
   have HS4_ := (hb.cell (World.block_lt_of_cell? _ _ (hHeld.2.2.2.2.1))).trans (hHeld.2.2.2.2.1)
   have HS5_ := (hb.cell (World.block_lt_of_cell? _ _ (hHeld.2.2.2.2.2.1))).trans (hHeld.2.2.2.2.2.1)
   have HS6_ := (hb.cell (World.block_lt_of_cell? _ _ (hHeld.2.2.2.2.2.2.1))).trans (hHeld.2.2.2.2.2.2.1)
   have HS7_ := (hb.cell (World.block_lt_of_cell? _ _ (hHeld.2.2.2.2.2.2.2.1))).trans (hHeld.2.2.2.2.2.2.2.1)
   have HS8_ := (hb.cell (World.block_lt_of_cell? _ _ (hHeld.2.2.2.2.2.2.2.2.1))).trans (hHeld.2.2.2.2.2.2.2.2.1)
   have HS9_ := (hb.cell (World.block_lt_of_cell? _ _ (hHeld.2.2.2.2.2.2.2.2.2))).trans (hHeld.2.2.2.2.2.2.2.2.2)
   refine ⟨_, rfl, ?_⟩
   replace HO_0 := Aside0.mk (Kd.V_below (by (with_reducible repeat (first | apply Kd.V_alloc | apply Kd.V_drewN | apply Kd.V_drew)); exact HO_0.out) hb)
   replace HL356_2 := Aside0.mk (Kd.V_below (by (with_reducible repeat (first | apply Kd.V_alloc | apply Kd.V_drewN | apply Kd.V_drew)); exact HL356_2.out) hb)
   replace HL356_3 := Aside0.mk (Kd.V_below (by (with_reducible repeat (first | apply Kd.V_alloc | apply Kd.V_drewN | apply Kd.V_drew)); exact HL356_3.out) hb)
   replace HL356_4 := Aside0.mk (Kd.V_below (by (with_reducible repeat (first | apply Kd.V_alloc | apply Kd.V_drewN | apply Kd.V_drew)); exact HL356_4.out) hb)
   replace HO359 := Aside0.mk (Kd.N_below (iN HO359) hb)
   replace HL360_2 := Aside0.mk (Kd.V_below (by (with_reducible repeat (first | apply Kd.V_alloc | apply Kd.V_drewN | apply Kd.V_drew)); exact HL360_2.out) hb)
   replace HL360_3 := Aside0.mk (Kd.V_below (by (with_reducible repeat (first | apply Kd.V_alloc | apply Kd.V_drewN | apply Kd.V_drew)); exact HL360_3.out) hb)
   replace HL360_4 := Aside0.mk (Kd.V_below (by (with_reducible repeat (first | apply Kd.V_alloc | apply Kd.V_drewN | apply Kd.V_drew)); exact HL360_4.out) hb)
   replace HL362_2 := Aside0.mk (Kd.V_below (by (with_reducible repeat (first | apply Kd.V_alloc | apply Kd.V_drewN | apply Kd.V_drew)); exact HL362_2.out) hb)
   replace HL362_3 := Aside0.mk (Kd.V_below (by (with_reducible repeat (first | apply Kd.V_alloc | apply Kd.V_drewN | apply Kd.V_drew)); exact HL362_3.out) hb)
   replace HL362_4 := Aside0.mk (Kd.V_below (by (with_reducible repeat (first | apply Kd.V_alloc | apply Kd.V_drewN | apply Kd.V_drew)); exact HL362_4.out) hb)
   replace HR360_2 := Aside0.mk (Kd.C_below (by repeat (first | (with_reducible exact HR360_2.out) | with_reducible first | apply Kd.C_alloc | apply Kd.C_drewN | apply Kd.C_drew | exact HR360_2.out)) hb)
   replace HR360_3 := Aside0.mk (Kd.C_below (by repeat (first | (with_reducible exact HR360_3.out) | with_reducible first | apply Kd.C_alloc | apply Kd.C_drewN | apply Kd.C_drew | exact HR360_3.out)) hb)
   replace HR360_4 := Aside0.mk (Kd.C_below (by repeat (first | (with_reducible exact HR360_4.out) | with_reducible first | apply Kd.C_alloc | apply Kd.C_drewN | apply Kd.C_drew | exact HR360_4.out)) hb)
   replace HR362_2 := Aside0.mk (Kd.C_below (by repeat (first | (with_reducible exact HR362_2.out) | with_reducible first | apply Kd.C_alloc | apply Kd.C_drewN | apply Kd.C_drew | exact HR362_2.out)) hb)
   replace HR362_3 := Aside0.mk (Kd.C_below (by repeat (first | (with_reducible exact HR362_3.out) | with_reducible first | apply Kd.C_alloc | apply Kd.C_drewN | apply Kd.C_drew | exact HR362_3.out)) hb)
   replace HR362_4 := Aside0.mk (Kd.C_below (by repeat (first | (with_reducible exact HR362_4.out) | with_reducible first | apply Kd.C_alloc | apply Kd.C_drewN | apply Kd.C_drew | exact HR362_4.out)) hb)
   replace HB := sb HB hb
   (try clear hb)
   (try clear hb2)
   (try clear hk)
   (try clear hi)
   refine hK.out _ _ ⟨HS0_, HS1_, HS2_, HS3_, HS4_, HS5_, HS6_, HS7_, HS8_, HS9_⟩ (fun hHeld => ?_)
   clear hK K
   refine nm 36 ?_
   refine pT 15 37 (bl 17 65535) HT_ rfl rfl ?_
   refine pT 16 1 (bl 17 131071) HT_ rfl rfl ?_
   refine done_ (done_of HT_.out (by kernel_rfl)) ?_
   try go_wp2
   go_roundg k1
   case measure => have := HK1.out; omega
   case rel => exact ⟨(wrap64 ((wrap64 ((wrap64 (x1_1 + 1)) + t361)) + t363)), (y357), (wrap64 (x6_1 + 1)), rs, rs, H', ⟨by have := HK1.out; omega⟩, ⟨by (with_reducible repeat (first | apply Kd.V_alloc | apply Kd.V_drewN | apply Kd.V_drew)); exact HO_0.out⟩, ⟨by (with_reducible repeat (first | apply Kd.N_alloc | apply Kd.N_drewN | apply Kd.N_drew)); exact HO359.out⟩, ⟨bb HB⟩⟩
def r3_Else.f (k : Nat) (a0_0 : Int) (a0_1 : Int) (a0_2 : Int) (l0_3 : List (S96)) (l0_4 : List (S47)) (l0_5 : List (S47)) : Option ((List (S57))) := (r3_Count.f k l0_4).bind fun t369 => ((r3_Items.f k l0_5 (wrap64 ((wrap64 (a0_0 + 1)) + t369))).bind fun t370 => (some t370))
def r3_Else.T1 : Bool × List (List Nat × List Nat) := (true, [([], []), ([0], [0]), ([1], [1]), ([], []), ([3], [3]), ([4], [4]), ([], []), ([6], [6]), ([7], [7]), ([8], [8]), ([5, 9], [5, 9]), ([2, 10, 9], [2, 10]), ([11, 11, 0, 1, 2, 3, 4, 5, 6, 7, 8, 9, 10, 11], [11])])
def r3_Else.B1 : List Nat := [0, 1, 3, 0, 8, 24, 0, 64, 192, 448, 1016, 2047, 4095]
theorem r3_Else.tab1 : rtab .any (opsOf Try.f32 1) = r3_Else.T1 := by kernel_rfl
theorem r3_Else.bits1 : waitsOk r3_Else.T1.2 r3_Else.B1 = true := by kernel_rfl
theorem r3_Else.calls (k : Nat) (a0_0 : Int) (a0_1 : Int) (a0_2 : Int) (A0_3 : Option Addr) (c0_3 : Nat) (l0_3 : List (S96)) (A0_4 : Option Addr) (c0_4 : Nat) (l0_4 : List (S47)) (P0_5_ : Nat → Prop) (A0_5 : Option Addr) (c0_5 : Nat) (l0_5 : List (S47)) (r : List (S57)) (w : World) (hr0_3 : Kd.C k96 w A0_3 l0_3.length l0_3) (hc0_3 : l0_3.length ≤ c0_3) (hr0_4 : Kd.C k47 w A0_4 l0_4.length l0_4) (hc0_4 : l0_4.length ≤ c0_4) (hs0_5 : Kd.V k47 47 w w.heap.size (fun k_ => P0_5_ k_) (.slice A0_5 l0_5.length c0_5) l0_5) (h : r3_Else.f k a0_0 a0_1 a0_2 l0_3 l0_4 l0_5 = some r) :
  Calls Try.prog 32 #[.agg #[.int .i64 a0_0, .int .i64 a0_1, .int .i64 a0_2, .slice A0_3 l0_3.length c0_3, .slice A0_4 l0_4.length c0_4, .slice A0_5 l0_5.length c0_5]] w fun e w' => ∃ v0_ : Value, e = .returned (v0_) ∧ Kd.N k57 57 w' w.heap.size (fun k_ => (P0_5_ k_ ∨ w.heap.size ≤ k_)) v0_ r ∧ Below w.heap.size w w' := by
 have hu57 := Try.underlying57
 have HR0_3 := Aside0.mk hr0_3
 have HC0_3 := Aside0.mk hc0_3
 clear hr0_3 hc0_3
 have HR0_4 := Aside0.mk hr0_4
 have HC0_4 := Aside0.mk hc0_4
 clear hr0_4 hc0_4
 have HO0_5 := Aside0.mk (show Kd.V k47 47 w w.heap.size (fun k_ => (P0_5_ k_ ∨ w.heap.size ≤ k_)) (.slice A0_5 l0_5.length c0_5) l0_5 from Kd.V_mono hs0_5 (fun k_ hk => .inl hk))
 have HB := Aside0.mk (Below.refl w.heap.size w)
 have H : ((r3_Count.f k l0_4).bind fun t369 => ((r3_Items.f k l0_5 (wrap64 ((wrap64 (a0_0 + 1)) + t369))).bind fun t370 => (some t370))) = some r := h
 clear h
 obtain ⟨t369, A2, H⟩ := be H
 obtain ⟨t370, A3, H⟩ := be H
 obtain rfl := Option.some.inj H
 go_enter Try.func32, Try.ntmps32
 try go_wp2_with (first | ((with_reducible refine gate_dst (N := 1) rfl ?_); refine bx 1 rfl rfl #[.int .i64 a0_0, .int .i64 a0_1, .int .i64 a0_2, .slice A0_3 l0_3.length c0_3, .slice A0_4 l0_4.length c0_4, .slice A0_5 l0_5.length c0_5] 57 ?_; intro gb368 hg w4 hbox hb; have BK368 := Aside0.mk (hbox); have GE368 := ge HB hg; replace HO0_5 := Aside0.mk (Kd.V_below (Kd.V_elderB (by (with_reducible repeat (first | apply Kd.V_alloc | apply Kd.V_drewN | apply Kd.V_drew)); exact HO0_5.out) gb368 (Nat.le_of_eq hg.symm)) hb); replace HB := sb HB hb; clear hb hbox hg))
 replace HO0_5 := Aside0.mk (Kd.V_drew HO0_5.out)
 replace BK368 := Aside0.mk (kdr BK368.out)
 replace HB := Aside0.mk (bd1 HB.out)
 refine start_ (n := 13) (S := fun w' => w'.cell? ⟨gb368, 0, none⟩ = some (.int .i64 a0_0) ∧ w'.cell? ⟨gb368, 1, none⟩ = some (.int .i64 a0_1) ∧ w'.cell? ⟨gb368, 2, none⟩ = some (.int .i64 a0_2) ∧ w'.cell? ⟨gb368, 3, none⟩ = some (.slice A0_3 l0_3.length c0_3) ∧ w'.cell? ⟨gb368, 4, none⟩ = some (.slice A0_4 l0_4.length c0_4) ∧ w'.cell? ⟨gb368, 5, none⟩ = some (.slice A0_5 l0_5.length c0_5)) (ds := []) #[false, false, false, false, false, false, false, false, false, false, false, false, false] (by kernel_rfl) rfl rfl ⟨(blk_cell BK368.out 0).trans rfl, (blk_cell BK368.out 1).trans rfl, (blk_cell BK368.out 2).trans rfl, (blk_cell BK368.out 3).trans rfl, (blk_cell BK368.out 4).trans rfl, (blk_cell BK368.out 5).trans rfl⟩ (fun hHeld => ?_); refine with_tabW r3_Else.tab1 r3_Else.bits1 (fun HT_ HW_ => ?_)
 generalize w4.drew = w5 at HO0_5 BK368 HB hHeld ⊢
 refine pT 0 3 (bl 13 1) HT_ rfl rfl ?_
 refine pT 1 4 (bl 13 3) HT_ rfl rfl ?_
 refine pT 3 6 (bl 13 11) HT_ rfl rfl ?_
 refine pT 6 9 (bl 13 75) HT_ rfl rfl ?_
 refine pT 7 10 (bl 13 203) HT_ rfl rfl ?_
 refine tk (i := 2) (N := some 5) (bl 13 207) rfl rfl (take_ofW HT_.out HW_.out (by kernel_rfl)) hHeld ?_
 refine tk (i := 4) (N := some 7) (bl 13 223) rfl rfl (take_ofW HT_.out HW_.out (by kernel_rfl)) hHeld ?_
 refine pT 5 8 (bl 13 255) HT_ rfl rfl ?_
 refine tk (i := 8) (N := some 11) (bl 13 511) rfl rfl (take_ofW HT_.out HW_.out (by kernel_rfl)) hHeld ?_
 refine one_ (i := 9) (N := some 12) (bl 13 1023) rfl rfl (one_of HT_.out (by kernel_rfl)) (by decide) (fun K hK => ?_)
 refine gO Try.func35 #[.slice A0_4 l0_4.length c0_4] (by rfl) rfl rfl ?_
 with_reducible refine (r3_Count.calls k _ _ l0_4 t369 _ ?side1 ?side2 A2.out).mono ?_
 (case side1 => exact cb HR0_4 HB)
 (case side2 => exact HC0_4.out)
 rintro e w6 ⟨rfl, hb⟩
 refine ⟨_, rfl, ?_⟩
 replace HO0_5 := Aside0.mk (Kd.V_below (by (with_reducible repeat (first | apply Kd.V_alloc | apply Kd.V_drewN | apply Kd.V_drew)); exact HO0_5.out) hb)
 replace BK368 := kb BK368 hb
 replace HB := sb HB hb
 (try clear hb)
 (try clear hb2)
 (try clear hk)
 (try clear hi)
 refine hK.out _ _ ⟨(blk_cell BK368.out 0).trans rfl, (blk_cell BK368.out 1).trans rfl, (blk_cell BK368.out 2).trans rfl, (blk_cell BK368.out 3).trans rfl, (blk_cell BK368.out 4).trans rfl, (blk_cell BK368.out 5).trans rfl⟩ (fun hHeld => ?_)
 clear hK K
 refine nm 12 ?_
 refine pT 10 13 (bl 13 2047) HT_ rfl rfl ?_
 refine one_ (i := 11) (N := some 14) (bl 13 4095) rfl rfl (one_of HT_.out (by kernel_rfl)) (by decide) (fun K hK => ?_)
 refine gO Try.func60 #[.slice A0_5 l0_5.length c0_5, .int .i64 (wrap64 ((wrap64 (a0_0 + 1)) + t369))] (by rfl) rfl rfl ?_
 with_reducible refine (r3_Items.calls k (fun k_ => ((P0_5_ k_ ∨ w.heap.size ≤ k_) ∧ k_ ≠ gb368)) _ _ l0_5 (wrap64 ((wrap64 (a0_0 + 1)) + t369)) t370 _ ?side1 A3.out).mono ?_
 (case side1 => exact HO0_5.out)
 rintro e w7 ⟨v371, rfl, ho0, hb⟩
 refine ⟨_, rfl, ?_⟩
 have HO372 := Aside0.mk (Kd.N_lower (Kd.N_mono (ok' := fun k_ => (P0_5_ k_ ∨ w.heap.size ≤ k_) ∧ k_ ≠ gb368) ho0 (fun k_ hk_ => ⟨Or.elim hk_ (fun hs_ => hs_.1) (fun hn_ => (.inr (Nat.le_trans (bsz (bb HB)) hn_))), Or.elim hk_ (fun hs_ => hs_.2) (fun hn_ => (Kd.freshB (kk BK368) k_ hn_))⟩)) (bsz (bb HB)))
 replace HO0_5 := Aside0.mk (Kd.V_elder' (by (with_reducible repeat (first | apply Kd.V_alloc | apply Kd.V_drewN | apply Kd.V_drew)); exact HO0_5.out) (Kd.N_base ho0) hb)
 replace BK368 := kb BK368 hb
 replace HB := sb HB hb
 (try clear hb)
 (try clear hb2)
 (try clear hk)
 (try clear hi)
 (try clear ho0)
 refine hK.out _ _ ⟨(blk_cell BK368.out 0).trans rfl, (blk_cell BK368.out 1).trans rfl, (blk_cell BK368.out 2).trans rfl, (blk_cell BK368.out 3).trans rfl, (blk_cell BK368.out 4).trans rfl, (blk_cell BK368.out 5).trans rfl⟩ (fun hHeld => ?_)
 clear hK K
 refine nm 14 ?_
 refine pT 12 2 (bl 13 8191) HT_ rfl rfl ?_
 refine done_ (done_of HT_.out (by kernel_rfl)) ?_
 try go_wp2
 go_ret
 exact ⟨_, rr, by (with_reducible repeat (first | apply Kd.N_alloc | apply Kd.N_drewN | apply Kd.N_drew)); exact Kd.N_mono HO372.out (fun _ hk => hk.1), bb HB⟩
def r3_Then.f (k : Nat) (a0_0 : Int) (a0_1 : Int) (a0_2 : Int) (l0_3 : List (S96)) (l0_4 : List (S47)) (l0_5 : List (S47)) : Option ((List (S57))) := (r3_Items.f k l0_4 (wrap64 (a0_0 + 1))).bind fun t365 => (some t365)
theorem r3_Then.calls (k : Nat) (a0_0 : Int) (a0_1 : Int) (a0_2 : Int) (A0_3 : Option Addr) (c0_3 : Nat) (l0_3 : List (S96)) (P0_4_ : Nat → Prop) (A0_4 : Option Addr) (c0_4 : Nat) (l0_4 : List (S47)) (A0_5 : Option Addr) (c0_5 : Nat) (l0_5 : List (S47)) (r : List (S57)) (w : World) (hr0_3 : Kd.C k96 w A0_3 l0_3.length l0_3) (hc0_3 : l0_3.length ≤ c0_3) (hs0_4 : Kd.V k47 47 w w.heap.size (fun k_ => P0_4_ k_) (.slice A0_4 l0_4.length c0_4) l0_4) (hr0_5 : Kd.C k47 w A0_5 l0_5.length l0_5) (hc0_5 : l0_5.length ≤ c0_5) (h : r3_Then.f k a0_0 a0_1 a0_2 l0_3 l0_4 l0_5 = some r) :
  Calls Try.prog 31 #[.agg #[.int .i64 a0_0, .int .i64 a0_1, .int .i64 a0_2, .slice A0_3 l0_3.length c0_3, .slice A0_4 l0_4.length c0_4, .slice A0_5 l0_5.length c0_5]] w fun e w' => ∃ v0_ : Value, e = .returned (v0_) ∧ Kd.N k57 57 w' w.heap.size (fun k_ => (P0_4_ k_ ∨ w.heap.size ≤ k_)) v0_ r ∧ Below w.heap.size w w' := by
 have hu57 := Try.underlying57
 have HR0_3 := Aside0.mk hr0_3
 have HC0_3 := Aside0.mk hc0_3
 clear hr0_3 hc0_3
 have HO0_4 := Aside0.mk (show Kd.V k47 47 w w.heap.size (fun k_ => (P0_4_ k_ ∨ w.heap.size ≤ k_)) (.slice A0_4 l0_4.length c0_4) l0_4 from Kd.V_mono hs0_4 (fun k_ hk => .inl hk))
 have HR0_5 := Aside0.mk hr0_5
 have HC0_5 := Aside0.mk hc0_5
 clear hr0_5 hc0_5
 have HB := Aside0.mk (Below.refl w.heap.size w)
 have H : ((r3_Items.f k l0_4 (wrap64 (a0_0 + 1))).bind fun t365 => (some t365)) = some r := h
 clear h
 obtain ⟨t365, A2, H⟩ := be H
 obtain rfl := Option.some.inj H
 go_enter Try.func31, Try.ntmps31
 go_wp2_with (first | ((with_reducible refine gate_dst (N := 1) rfl ?_); refine bx 1 rfl rfl #[.int .i64 a0_0, .int .i64 a0_1, .int .i64 a0_2, .slice A0_3 l0_3.length c0_3, .slice A0_4 l0_4.length c0_4, .slice A0_5 l0_5.length c0_5] 57 ?_; intro gb364 hg w3 hbox hb; have BK364 := Aside0.mk (hbox); have GE364 := ge HB hg; replace HO0_4 := Aside0.mk (Kd.V_below (Kd.V_elderB (by (with_reducible repeat (first | apply Kd.V_alloc | apply Kd.V_drewN | apply Kd.V_drew)); exact HO0_4.out) gb364 (Nat.le_of_eq hg.symm)) hb); replace HB := sb HB hb; clear hb hbox hg; obtain ⟨hcz4_0, hcz4_1, hcz4_2, hcz4_3, hcz4_4, hcz4_5, hfz4_0, hfz4_1, hfz4_2, hfz4_3, hfz4_4, hfz4_5⟩ := cf6 BK364.out) | ((with_reducible refine gate_callee (f := 60) rfl ?_); refine gL (some 9) rfl rfl Try.func60 #[.slice A0_4 l0_4.length c0_4, .int .i64 (wrap64 (a0_0 + 1))] rfl ?_; (with_reducible refine (r3_Items.calls k (fun k_ => ((P0_4_ k_ ∨ w.heap.size ≤ k_) ∧ k_ ≠ gb364)) _ _ l0_4 (wrap64 (a0_0 + 1)) t365 _ ?side1 A2.out).mono ?_); (case side1 => exact HO0_4.out); rintro e w5 ⟨v366, rfl, ho0, hb⟩; refine ⟨_, rfl, ?_⟩; have HO367 := Aside0.mk (Kd.N_lower (Kd.N_mono (ok' := fun k_ => (P0_4_ k_ ∨ w.heap.size ≤ k_) ∧ k_ ≠ gb364) ho0 (fun k_ hk_ => ⟨Or.elim hk_ (fun hs_ => hs_.1) (fun hn_ => (.inr (Nat.le_trans (bsz (bb HB)) hn_))), Or.elim hk_ (fun hs_ => hs_.2) (fun hn_ => (Kd.freshB (kk BK364) k_ hn_))⟩)) (bsz (bb HB))); replace HO0_4 := Aside0.mk (Kd.V_elder' (by (with_reducible repeat (first | apply Kd.V_alloc | apply Kd.V_drewN | apply Kd.V_drew)); exact HO0_4.out) (Kd.N_base ho0) hb); replace BK364 := kb BK364 hb; replace HB := sb HB hb; (try clear hb); (try clear ho0)))
 go_ret
 exact ⟨_, rr, by (with_reducible repeat (first | apply Kd.N_alloc | apply Kd.N_drewN | apply Kd.N_drew)); exact Kd.N_mono HO367.out (fun _ hk => hk.1), bb HB⟩
mutual
def r3_All.l0 : Nat → List (S57) → List (S57) → Int → Option ((List (S57)))
 | 0, _, _, _ => none
 | k + 1, x0, x3, x4 => if x4 < (x0.length : Int) then (if 0 ≤ x4 then (if x3.length < 1466015503701 then ((some (x3 ++ [(⟨(rd_T57 x0 x4).f0, (⟨(rd_T57 x0 x4).f1.f0, (rd_T57 x0 x4).f1.f1, (rd_T57 x0 x4).f1.f2, (rd_T57 x0 x4).f1.f3, (rd_T57 x0 x4).f1.f4⟩ : S47)⟩ : S57)] : List (S57))).bind fun y374 => ((r3_Then.f k ((rd_T57 x0 x4).f0) ((rd_T57 x0 x4).f1.f0) ((rd_T57 x0 x4).f1.f1) ((rd_T57 x0 x4).f1.f2) ((rd_T57 x0 x4).f1.f3) ((rd_T57 x0 x4).f1.f4)).bind fun t378 => ((r3_All.f k t378).bind fun t381 => (if y374.length + t381.length < 1466015503701 then ((some (y374 ++ t381 : List (S57))).bind fun y384 => ((r3_Else.f k ((rd_T57 x0 x4).f0) ((rd_T57 x0 x4).f1.f0) ((rd_T57 x0 x4).f1.f1) ((rd_T57 x0 x4).f1.f2) ((rd_T57 x0 x4).f1.f3) ((rd_T57 x0 x4).f1.f4)).bind fun t388 => ((r3_All.f k t388).bind fun t391 => (if y384.length + t391.length < 1466015503701 then (r3_All.l0 k x0 (y384 ++ t391) (wrap64 (x4 + 1))) else (none))))) else (none))))) else (none)) else (none)) else (some x3)
def r3_All.f : Nat → List (S57) → Option ((List (S57)))
 | 0, _ => none
 | k + 1, l0 => r3_All.l0 k l0 ([] : List (S57)) 0
end
theorem r3_All.calls (k : Nat) : ∀ (P0_ : Nat → Prop) (A0 : Option Addr) (c0 : Nat) (l0 : List (S57)) (r : List (S57)) (w : World) (hs0 : Kd.V k57 57 w w.heap.size (fun k_ => P0_ k_) (.slice A0 l0.length c0) l0) (h : r3_All.f k l0 = some r),
  Calls Try.prog 59 #[.slice A0 l0.length c0] w fun e w' => ∃ v0_ : Value, e = .returned (v0_) ∧ Kd.N k57 57 w' w.heap.size (fun k_ => (P0_ k_ ∨ w.heap.size ≤ k_)) v0_ r ∧ Below w.heap.size w w' := by
 induction k using Nat.strongRecOn with
 | _ k ih =>
 intro P0_ A0 c0 l0 r w hs0 h
 cases k with
 | zero => exact absurd h (by simp [r3_All.f])
 | succ k =>
 simp only [r3_All.f] at h
 have hu57 := Try.underlying57
 have HO0 := Aside0.mk (show Kd.V k57 57 w w.heap.size (fun k_ => (P0_ k_ ∨ w.heap.size ≤ k_)) (.slice A0 l0.length c0) l0 from Kd.V_mono hs0 (fun k_ hk => .inl hk))
 have HB := Aside0.mk (Below.refl w.heap.size w)
 have H : (r3_All.l0 k l0 ([] : List (S57)) 0) = some r := h
 clear h
 have H' := Aside0.mk H
 clear H
 go_enter Try.func59, Try.ntmps59
 go_wp2
 go_loopg [3, 4] k (fun kq v3 v4 w' => ∃ (x3_1 : List (S57)) (x4_1 : Int), v4 = .int .i64 x4_1 ∧ Aside0 (r3_All.l0 kq l0 x3_1 x4_1 = some r) ∧ Aside0 (kq ≤ k) ∧ Aside0 (Kd.V k57 57 w' w.heap.size (fun k_ => (P0_ k_ ∨ w.heap.size ≤ k_) ∧ some k_ ≠ (v3 : Value).ownBlock) (.slice A0 l0.length c0) l0) ∧ Aside0 (Kd.N k57 57 w' w.heap.size (fun k_ => (P0_ k_ ∨ w.heap.size ≤ k_)) v3 x3_1) ∧ Aside0 (Below w.heap.size w w'))
 case atStart => exact ⟨(([] : List (S57))), (0), rs, H', ⟨Nat.le_refl _⟩, ⟨by (with_reducible repeat (first | apply Kd.V_alloc | apply Kd.V_drewN | apply Kd.V_drew)); exact Kd.V_mono HO0.out (fun _ hk => ⟨hk, (by simp [Value.ownBlock])⟩)⟩, ⟨by first | exact Kd.R_nil _ _ _ _ _ | exact Kd.N_nil _ _ _ _ _ | exact Kd.V_nil _ _ _ _ _ | exact Kd.Q_nil _ _ _ _ _ | exact Kd.S_nil _ _ _ _ _⟩, ⟨bb HB⟩⟩
 case round =>
  clear H'
  obtain ⟨x3_1, x4_1, rfl, HA, HK1, HO_0, HO_3, HB⟩ := hrel
  cases gk with
  | zero => exact absurd HA.out (by simp [r3_All.l0])
  | succ k1 =>
   have H := HA.out
   clear HA
   simp only [r3_All.l0] at H
   by_cases c2 : x4_1 < (l0.length : Int)
   rotate_left
   ·rw [if_neg c2] at H
    have c2b0 : decide (x4_1 < (l0.length : Int)) = false := decide_eq_false c2
    clear c2
    obtain rfl := Option.some.inj H
    go_wp2
    go_ret
    exact ⟨_, rr, by (with_reducible repeat (first | apply Kd.N_alloc | apply Kd.N_drewN | apply Kd.N_drew)); exact HO_3.out, bb HB⟩
   rw [if_pos c2] at H
   have c2b0 : decide (x4_1 < (l0.length : Int)) = true := decide_eq_true c2
   clear c2
   by_cases c3 : 0 ≤ x4_1
   rotate_left
   ·rw [if_neg c3] at H
    exact absurd H (by simp)
   rw [if_pos c3] at H
   have c3b0 : decide (0 ≤ x4_1) = true := decide_eq_true c3
   clear c3
   by_cases c4 : x3_1.length < 1466015503701
   rotate_left
   ·rw [if_neg c4] at H
    exact absurd H (by simp)
   rw [if_pos c4] at H
   have LMc4 := Aside0.mk c4
   clear c4
   obtain ⟨y374, hy374⟩ : ∃ y_ : List (S57), y_ = (x3_1 ++ [(⟨(rd_T57 l0 x4_1).f0, (⟨(rd_T57 l0 x4_1).f1.f0, (rd_T57 l0 x4_1).f1.f1, (rd_T57 l0 x4_1).f1.f2, (rd_T57 l0 x4_1).f1.f3, (rd_T57 l0 x4_1).f1.f4⟩ : S47)⟩ : S57)]) := ⟨_, rfl⟩
   replace H : ((r3_Then.f k1 ((rd_T57 l0 x4_1).f0) ((rd_T57 l0 x4_1).f1.f0) ((rd_T57 l0 x4_1).f1.f1) ((rd_T57 l0 x4_1).f1.f2) ((rd_T57 l0 x4_1).f1.f3) ((rd_T57 l0 x4_1).f1.f4)).bind fun t378 => ((r3_All.f k1 t378).bind fun t381 => (if y374.length + t381.length < 1466015503701 then ((some (y374 ++ t381 : List (S57))).bind fun y384 => ((r3_Else.f k1 ((rd_T57 l0 x4_1).f0) ((rd_T57 l0 x4_1).f1.f0) ((rd_T57 l0 x4_1).f1.f1) ((rd_T57 l0 x4_1).f1.f2) ((rd_T57 l0 x4_1).f1.f3) ((rd_T57 l0 x4_1).f1.f4)).bind fun t388 => ((r3_All.f k1 t388).bind fun t391 => (if y384.length + t391.length < 1466015503701 then (r3_All.l0 k1 l0 (y384 ++ t391) (wrap64 (x4_1 + 1))) else (none))))) else (none)))) = some r := by first | (rw [hy374]; with_reducible exact H) | (have H2_ := (Option.bind_some _ _).symm.trans H; rw [hy374]; with_reducible exact H2_) | (have H2_ := (Option.bind_some _ _).symm.trans H; with_reducible exact H2_) | with_reducible exact H | (rw [hy374]; exact H) | exact H
   have Ny374 := Aside0.mk hy374
   clear hy374
   obtain ⟨t378, A5, H⟩ := be H
   obtain ⟨t381, A6, H⟩ := be H
   by_cases c7 : y374.length + t381.length < 1466015503701
   rotate_left
   ·rw [if_neg c7] at H
    exact absurd H (by simp)
   rw [if_pos c7] at H
   have LMc7 := Aside0.mk c7
   clear c7
   obtain ⟨y384, hy384⟩ : ∃ y_ : List (S57), y_ = (y374 ++ t381) := ⟨_, rfl⟩
   replace H : ((r3_Else.f k1 ((rd_T57 l0 x4_1).f0) ((rd_T57 l0 x4_1).f1.f0) ((rd_T57 l0 x4_1).f1.f1) ((rd_T57 l0 x4_1).f1.f2) ((rd_T57 l0 x4_1).f1.f3) ((rd_T57 l0 x4_1).f1.f4)).bind fun t388 => ((r3_All.f k1 t388).bind fun t391 => (if y384.length + t391.length < 1466015503701 then (r3_All.l0 k1 l0 (y384 ++ t391) (wrap64 (x4_1 + 1))) else (none)))) = some r := by first | (rw [hy384]; with_reducible exact H) | (have H2_ := (Option.bind_some _ _).symm.trans H; rw [hy384]; with_reducible exact H2_) | (have H2_ := (Option.bind_some _ _).symm.trans H; with_reducible exact H2_) | with_reducible exact H | (rw [hy384]; exact H) | exact H
   have Ny384 := Aside0.mk hy384
   clear hy384
   obtain ⟨t388, A8, H⟩ := be H
   obtain ⟨t391, A9, H⟩ := be H
   by_cases c10 : y384.length + t391.length < 1466015503701
   rotate_left
   ·rw [if_neg c10] at H
    exact absurd H (by simp)
   rw [if_pos c10] at H
   have LMc10 := Aside0.mk c10
   clear c10
   obtain ⟨y394, hy394⟩ : ∃ y_ : List (S57), y_ = (y384 ++ t391) := ⟨_, rfl⟩
   replace H : (r3_All.l0 k1 l0 y394 (wrap64 (x4_1 + 1))) = some r := by first | (rw [hy394]; with_reducible exact H) | (have H2_ := (Option.bind_some _ _).symm.trans H; rw [hy394]; with_reducible exact H2_) | (have H2_ := (Option.bind_some _ _).symm.trans H; with_reducible exact H2_) | with_reducible exact H | (rw [hy394]; exact H) | exact H
   have Ny394 := Aside0.mk hy394
   clear hy394
   have H' := Aside0.mk H
   clear H
   have p373 : 0 ≤ (x4_1 : Int) := od
   have q373 : x4_1 < (l0.length : Int) := od
   obtain ⟨ad373, A373_3, c373_3, A373_4, c373_4, A373_5, c373_5, e373, hx373_0, hx373_1, hx373_2, hx373_3, hx373_4, hx373_5, hl373_3, hi373_3, hl373_4, hi373_4, hl373_5, hi373_5⟩ := at_T57 (Kd.V_reads' HO_0.out).2.2 x4_1 p373 q373
   cases e373
   obtain ⟨ce373, hce373, hMe373, hcc373⟩ := Kd.V_get HO_0.out z57 x4_1 p373 (by first | exact q373 | exact od | (have e_ := (Kd.V_reads' HO_0.out).1; omega))
   obtain ⟨ua373_3, uc373_3, ua373_4, uc373_4, ua373_5, uc373_5, rfl, ul373_3, ge373_3, ul373_4, ge373_4, ul373_5, ge373_5⟩ := k57_openF hMe373
   have hv373_3 := hcc373 3 _ rfl
   rw [add_field _ _ 3 (by omega)] at hv373_3
   replace hv373_3 := Option.some.inj (hv373_3.symm.trans hx373_3)
   injection hv373_3 with hva_ hvn_ hvc_
   rw [hva_] at ge373_3
   rw [hvc_] at ul373_3
   have HL373_3 := Aside0.mk (show Kd.V k96 96 _ w.heap.size _ _ ((rd_T57 l0 x4_1).f1.f2) from Kd.V_mk ul373_3 ge373_3)
   clear hva_ hvn_ hvc_ ge373_3 ul373_3
   have hv373_4 := hcc373 4 _ rfl
   rw [add_field _ _ 4 (by omega)] at hv373_4
   replace hv373_4 := Option.some.inj (hv373_4.symm.trans hx373_4)
   injection hv373_4 with hva_ hvn_ hvc_
   rw [hva_] at ge373_4
   rw [hvc_] at ul373_4
   have HL373_4 := Aside0.mk (show Kd.V k47 47 _ w.heap.size _ _ ((rd_T57 l0 x4_1).f1.f3) from Kd.V_mk ul373_4 ge373_4)
   clear hva_ hvn_ hvc_ ge373_4 ul373_4
   have hv373_5 := hcc373 5 _ rfl
   rw [add_field _ _ 5 (by omega)] at hv373_5
   replace hv373_5 := Option.some.inj (hv373_5.symm.trans hx373_5)
   injection hv373_5 with hva_ hvn_ hvc_
   rw [hva_] at ge373_5
   rw [hvc_] at ul373_5
   have HL373_5 := Aside0.mk (show Kd.V k47 47 _ w.heap.size _ _ ((rd_T57 l0 x4_1).f1.f4) from Kd.V_mk ul373_5 ge373_5)
   clear hva_ hvn_ hvc_ ge373_5 ul373_5
   clear hcc373 hce373
   have HR373_3 := Aside0.mk hi373_3
   have HC373_3 := Aside0.mk hl373_3
   clear hi373_3 hl373_3
   have HR373_4 := Aside0.mk hi373_4
   have HC373_4 := Aside0.mk hl373_4
   clear hi373_4 hl373_4
   have HR373_5 := Aside0.mk hi373_5
   have HC373_5 := Aside0.mk hl373_5
   clear hi373_5 hl373_5
   replace p373 := eq_true p373
   replace q373 := eq_true q373
   go_wp2_with (first | ((with_reducible refine gate_builtin (b := .append) (xs := #[.tmp 11, .tmp 16]) rfl ?_); at_builtin; refine Kd.N_append k57 (w0 := w) w.heap.size rfl (.tmp 11) (.tmp 16) 54 57 (.agg #[(.int .i64 0), (.int .i64 0), (.int .i64 0), (.slice none 0 0), (.slice none 0 0), (.slice none 0 0)]) 96 rfl Try.underlying54 info57 rfl (by decide) (by omega) u3 x3_1 (⟨(rd_T57 l0 x4_1).f0, (⟨(rd_T57 l0 x4_1).f1.f0, (rd_T57 l0 x4_1).f1.f1, (rd_T57 l0 x4_1).f1.f2, (rd_T57 l0 x4_1).f1.f3, (rd_T57 l0 x4_1).f1.f4⟩ : S47)⟩ : S57) [.int .i64 ((rd_T57 l0 x4_1).f0), .int .i64 ((rd_T57 l0 x4_1).f1.f0), .int .i64 ((rd_T57 l0 x4_1).f1.f1), .slice A373_3 ((rd_T57 l0 x4_1).f1.f2).length c373_3, .slice A373_4 ((rd_T57 l0 x4_1).f1.f3).length c373_4, .slice A373_5 ((rd_T57 l0 x4_1).f1.f4).length c373_5] (fun k_ => (P0_ k_ ∨ w.heap.size ≤ k_)) (fun k_ => ((fun k_ => (P0_ k_ ∨ w.heap.size ≤ k_))) k_ ∧ some k_ ≠ (u3 : Value).ownBlock) rfl rfl ?aP (fun _ hk => hk) ?aF ?aO ?aB ?aS ?aL ?_; (case aP => exact (k57_mkF _ _ (⟨(rd_T57 l0 x4_1).f0, (⟨(rd_T57 l0 x4_1).f1.f0, (rd_T57 l0 x4_1).f1.f1, (rd_T57 l0 x4_1).f1.f2, (rd_T57 l0 x4_1).f1.f3, (rd_T57 l0 x4_1).f1.f4⟩ : S47)⟩ : S57) (Kd.V_reads' (Kd.V_mono (ok' := (fun k_ => ((fun k_ => (P0_ k_ ∨ w.heap.size ≤ k_))) k_ ∧ some k_ ≠ (u3 : Value).ownBlock)) (HL373_3.out) (fun k_ hk => ⟨hk.1, hk.2⟩))).2.1 (Kd.V_F (Kd.V_mono (ok' := (fun k_ => ((fun k_ => (P0_ k_ ∨ w.heap.size ≤ k_))) k_ ∧ some k_ ≠ (u3 : Value).ownBlock)) (HL373_3.out) (fun k_ hk => ⟨hk.1, hk.2⟩))) (Kd.V_reads' (Kd.V_mono (ok' := (fun k_ => ((fun k_ => (P0_ k_ ∨ w.heap.size ≤ k_))) k_ ∧ some k_ ≠ (u3 : Value).ownBlock)) (HL373_4.out) (fun k_ hk => ⟨hk.1, hk.2⟩))).2.1 (Kd.V_F (Kd.V_mono (ok' := (fun k_ => ((fun k_ => (P0_ k_ ∨ w.heap.size ≤ k_))) k_ ∧ some k_ ≠ (u3 : Value).ownBlock)) (HL373_4.out) (fun k_ hk => ⟨hk.1, hk.2⟩))) (Kd.V_reads' (Kd.V_mono (ok' := (fun k_ => ((fun k_ => (P0_ k_ ∨ w.heap.size ≤ k_))) k_ ∧ some k_ ≠ (u3 : Value).ownBlock)) (HL373_5.out) (fun k_ hk => ⟨hk.1, hk.2⟩))).2.1 (Kd.V_F (Kd.V_mono (ok' := (fun k_ => ((fun k_ => (P0_ k_ ∨ w.heap.size ≤ k_))) k_ ∧ some k_ ≠ (u3 : Value).ownBlock)) (HL373_5.out) (fun k_ hk => ⟨hk.1, hk.2⟩))))); (case aB => exact (bb HB)); (case aF => exact (fun k_ hk => (.inr (Nat.le_trans (bsz (bb HB)) hk)))); (case aO => exact (iN HO_3)); (case aS => exact (bsz (bb HB))); (case aL => have := LMc4.out; omega); intro v375 w11 ho hb hg hat; rw [← Ny374.out] at ho; have HO376 := Aside0.mk (ho); replace HO_0 := Aside0.mk (Kd.V_afterv (ok := (fun k_ => (P0_ k_ ∨ w.heap.size ≤ k_))) (by (with_reducible repeat (first | apply Kd.V_alloc | apply Kd.V_drewN | apply Kd.V_drew)); exact HO_0.out) hg hat); replace HL373_3 := Aside0.mk (Kd.V_afterv (ok := (fun k_ => (P0_ k_ ∨ w.heap.size ≤ k_))) (by (with_reducible repeat (first | apply Kd.V_alloc | apply Kd.V_drewN | apply Kd.V_drew)); exact HL373_3.out) hg hat); replace HL373_4 := Aside0.mk (Kd.V_afterv (ok := (fun k_ => (P0_ k_ ∨ w.heap.size ≤ k_))) (by (with_reducible repeat (first | apply Kd.V_alloc | apply Kd.V_drewN | apply Kd.V_drew)); exact HL373_4.out) hg hat); replace HL373_5 := Aside0.mk (Kd.V_afterv (ok := (fun k_ => (P0_ k_ ∨ w.heap.size ≤ k_))) (by (with_reducible repeat (first | apply Kd.V_alloc | apply Kd.V_drewN | apply Kd.V_drew)); exact HL373_5.out) hg hat); replace HB := Aside0.mk (hb); clear HO_3; clear ho hb hg hat; have p377 : 0 ≤ (x4_1 : Int) := od; have q377 : x4_1 < (l0.length : Int) := od; obtain ⟨ad377, A377_3, c377_3, A377_4, c377_4, A377_5, c377_5, e377, hx377_0, hx377_1, hx377_2, hx377_3, hx377_4, hx377_5, hl377_3, hi377_3, hl377_4, hi377_4, hl377_5, hi377_5⟩ := at_T57 (Kd.V_reads' HO_0.out).2.2 x4_1 p377 q377; obtain rfl : ad373 = ad377 := (by injection e377); obtain ⟨ce377, hce377, hMe377, hcc377⟩ := Kd.V_get HO_0.out z57 x4_1 p377 (by first | exact q377 | exact od | (have e_ := (Kd.V_reads' HO_0.out).1; omega)); obtain ⟨ua377_3, uc377_3, ua377_4, uc377_4, ua377_5, uc377_5, rfl, ul377_3, ge377_3, ul377_4, ge377_4, ul377_5, ge377_5⟩ := k57_openF hMe377; have hv377_3 := hcc377 3 _ rfl; rw [add_field _ _ 3 (by omega)] at hv377_3; replace hv377_3 := Option.some.inj (hv377_3.symm.trans hx377_3); injection hv377_3 with hva_ hvn_ hvc_; rw [hva_] at ge377_3; rw [hvc_] at ul377_3; have HL377_3 := Aside0.mk (show Kd.V k96 96 _ w.heap.size _ _ ((rd_T57 l0 x4_1).f1.f2) from Kd.V_mk ul377_3 ge377_3); clear hva_ hvn_ hvc_ ge377_3 ul377_3; have hv377_4 := hcc377 4 _ rfl; rw [add_field _ _ 4 (by omega)] at hv377_4; replace hv377_4 := Option.some.inj (hv377_4.symm.trans hx377_4); injection hv377_4 with hva_ hvn_ hvc_; rw [hva_] at ge377_4; rw [hvc_] at ul377_4; have HL377_4 := Aside0.mk (show Kd.V k47 47 _ w.heap.size _ _ ((rd_T57 l0 x4_1).f1.f3) from Kd.V_mk ul377_4 ge377_4); clear hva_ hvn_ hvc_ ge377_4 ul377_4; have hv377_5 := hcc377 5 _ rfl; rw [add_field _ _ 5 (by omega)] at hv377_5; replace hv377_5 := Option.some.inj (hv377_5.symm.trans hx377_5); injection hv377_5 with hva_ hvn_ hvc_; rw [hva_] at ge377_5; rw [hvc_] at ul377_5; have HL377_5 := Aside0.mk (show Kd.V k47 47 _ w.heap.size _ _ ((rd_T57 l0 x4_1).f1.f4) from Kd.V_mk ul377_5 ge377_5); clear hva_ hvn_ hvc_ ge377_5 ul377_5; clear hcc377 hce377; have HR377_3 := Aside0.mk hi377_3; have HC377_3 := Aside0.mk hl377_3; clear hi377_3 hl377_3; have HR377_4 := Aside0.mk hi377_4; have HC377_4 := Aside0.mk hl377_4; clear hi377_4 hl377_4; have HR377_5 := Aside0.mk hi377_5; have HC377_5 := Aside0.mk hl377_5; clear hi377_5 hl377_5; replace p377 := eq_true p377; replace q377 := eq_true q377) | ((with_reducible refine gate_callee (f := 31) rfl ?_); refine gL (some 23) rfl rfl Try.func31 #[.agg #[.int .i64 ((rd_T57 l0 x4_1).f0), .int .i64 ((rd_T57 l0 x4_1).f1.f0), .int .i64 ((rd_T57 l0 x4_1).f1.f1), .slice A377_3 ((rd_T57 l0 x4_1).f1.f2).length c377_3, .slice A377_4 ((rd_T57 l0 x4_1).f1.f3).length c377_4, .slice A377_5 ((rd_T57 l0 x4_1).f1.f4).length c377_5]] rfl ?_; (with_reducible refine (r3_Then.calls k1 ((rd_T57 l0 x4_1).f0) ((rd_T57 l0 x4_1).f1.f0) ((rd_T57 l0 x4_1).f1.f1) _ _ ((rd_T57 l0 x4_1).f1.f2) (fun k_ => ((P0_ k_ ∨ w.heap.size ≤ k_) ∧ some k_ ≠ (v375 : Value).ownBlock)) _ _ ((rd_T57 l0 x4_1).f1.f3) _ _ ((rd_T57 l0 x4_1).f1.f4) t378 _ ?side1 ?side2 ?side3 ?side4 ?side5 A5.out).mono ?_); (case side1 => repeat (first | exact (by repeat (first | (with_reducible exact HR377_3.out) | with_reducible first | apply Kd.C_alloc | apply Kd.C_drewN | apply Kd.C_drew | exact HR377_3.out)) | with_reducible first | apply Kd.C_alloc | apply Kd.C_drewN | apply Kd.C_drew)); (case side2 => exact HC377_3.out); (case side3 => exact HL377_4.out); (case side4 => repeat (first | exact (by repeat (first | (with_reducible exact HR377_5.out) | with_reducible first | apply Kd.C_alloc | apply Kd.C_drewN | apply Kd.C_drew | exact HR377_5.out)) | with_reducible first | apply Kd.C_alloc | apply Kd.C_drewN | apply Kd.C_drew)); (case side5 => exact HC377_5.out); rintro e w12 ⟨v379, rfl, ho0, hb⟩; refine ⟨_, rfl, ?_⟩; have HO380 := Aside0.mk (Kd.N_lower (Kd.N_mono (ok' := fun k_ => (P0_ k_ ∨ w.heap.size ≤ k_) ∧ some k_ ≠ (v375 : Value).ownBlock) ho0 (fun k_ hk_ => ⟨Or.elim hk_ (fun hs_ => hs_.1) (fun hn_ => (.inr (Nat.le_trans (bsz (bb HB)) hn_))), Or.elim hk_ (fun hs_ => hs_.2) (fun hn_ => (Kd.fresh' (Kd.N_lt (iN HO376)) k_ hn_))⟩)) (bsz (bb HB))); replace HO_0 := Aside0.mk (Kd.V_elder' (by (with_reducible repeat (first | apply Kd.V_alloc | apply Kd.V_drewN | apply Kd.V_drew)); exact HO_0.out) (Kd.N_base ho0) hb); replace HL373_3 := Aside0.mk (Kd.V_elder' (by (with_reducible repeat (first | apply Kd.V_alloc | apply Kd.V_drewN | apply Kd.V_drew)); exact HL373_3.out) (Kd.N_base ho0) hb); replace HL373_4 := Aside0.mk (Kd.V_elder' (by (with_reducible repeat (first | apply Kd.V_alloc | apply Kd.V_drewN | apply Kd.V_drew)); exact HL373_4.out) (Kd.N_base ho0) hb); replace HL373_5 := Aside0.mk (Kd.V_elder' (by (with_reducible repeat (first | apply Kd.V_alloc | apply Kd.V_drewN | apply Kd.V_drew)); exact HL373_5.out) (Kd.N_base ho0) hb); replace HO376 := Aside0.mk (Kd.N_elder' (iN HO376) (Kd.N_base ho0) hb); replace HL377_3 := Aside0.mk (Kd.V_elder' (by (with_reducible repeat (first | apply Kd.V_alloc | apply Kd.V_drewN | apply Kd.V_drew)); exact HL377_3.out) (Kd.N_base ho0) hb); replace HL377_4 := Aside0.mk (Kd.V_elder' (by (with_reducible repeat (first | apply Kd.V_alloc | apply Kd.V_drewN | apply Kd.V_drew)); exact HL377_4.out) (Kd.N_base ho0) hb); replace HL377_5 := Aside0.mk (Kd.V_elder' (by (with_reducible repeat (first | apply Kd.V_alloc | apply Kd.V_drewN | apply Kd.V_drew)); exact HL377_5.out) (Kd.N_base ho0) hb); replace HR377_3 := Aside0.mk (Kd.C_below (by repeat (first | (with_reducible exact HR377_3.out) | with_reducible first | apply Kd.C_alloc | apply Kd.C_drewN | apply Kd.C_drew | exact HR377_3.out)) hb); replace HR377_4 := Aside0.mk (Kd.C_below (by repeat (first | (with_reducible exact HR377_4.out) | with_reducible first | apply Kd.C_alloc | apply Kd.C_drewN | apply Kd.C_drew | exact HR377_4.out)) hb); replace HR377_5 := Aside0.mk (Kd.C_below (by repeat (first | (with_reducible exact HR377_5.out) | with_reducible first | apply Kd.C_alloc | apply Kd.C_drewN | apply Kd.C_drew | exact HR377_5.out)) hb); replace HB := sb HB hb; (try clear hb); (try clear ho0); obtain ⟨Ao13, co13, eo13⟩ := Kd.N_slice HO380.out; subst eo13) | ((with_reducible refine gate_callee (f := 59) rfl ?_); refine gL (some 24) rfl rfl Try.func59 #[.slice Ao13 t378.length co13] rfl ?_; (with_reducible refine (ih k1 (by have := HK1.out; omega) (fun k_ => ((P0_ k_ ∨ w.heap.size ≤ k_) ∧ some k_ ≠ (v375 : Value).ownBlock)) _ _ t378 t381 _ ?side1 A6.out).mono ?_); (case side1 => exact Kd.N_V (HO380.out)); rintro e w14 ⟨v382, rfl, ho0, hb⟩; refine ⟨_, rfl, ?_⟩; have HO383 := Aside0.mk (Kd.N_lower (Kd.N_mono (ok' := fun k_ => (P0_ k_ ∨ w.heap.size ≤ k_) ∧ some k_ ≠ (v375 : Value).ownBlock) ho0 (fun k_ hk_ => ⟨Or.elim hk_ (fun hs_ => hs_.1) (fun hn_ => (.inr (Nat.le_trans (bsz (bb HB)) hn_))), Or.elim hk_ (fun hs_ => hs_.2) (fun hn_ => (Kd.fresh' (Kd.N_lt (iN HO376)) k_ hn_))⟩)) (bsz (bb HB))); replace HO_0 := Aside0.mk (Kd.V_elder' (by (with_reducible repeat (first | apply Kd.V_alloc | apply Kd.V_drewN | apply Kd.V_drew)); exact HO_0.out) (Kd.N_base ho0) hb); replace HL373_3 := Aside0.mk (Kd.V_elder' (by (with_reducible repeat (first | apply Kd.V_alloc | apply Kd.V_drewN | apply Kd.V_drew)); exact HL373_3.out) (Kd.N_base ho0) hb); replace HL373_4 := Aside0.mk (Kd.V_elder' (by (with_reducible repeat (first | apply Kd.V_alloc | apply Kd.V_drewN | apply Kd.V_drew)); exact HL373_4.out) (Kd.N_base ho0) hb); replace HL373_5 := Aside0.mk (Kd.V_elder' (by (with_reducible repeat (first | apply Kd.V_alloc | apply Kd.V_drewN | apply Kd.V_drew)); exact HL373_5.out) (Kd.N_base ho0) hb); replace HO376 := Aside0.mk (Kd.N_elder' (iN HO376) (Kd.N_base ho0) hb); replace HL377_3 := Aside0.mk (Kd.V_elder' (by (with_reducible repeat (first | apply Kd.V_alloc | apply Kd.V_drewN | apply Kd.V_drew)); exact HL377_3.out) (Kd.N_base ho0) hb); replace HL377_4 := Aside0.mk (Kd.V_elder' (by (with_reducible repeat (first | apply Kd.V_alloc | apply Kd.V_drewN | apply Kd.V_drew)); exact HL377_4.out) (Kd.N_base ho0) hb); replace HL377_5 := Aside0.mk (Kd.V_elder' (by (with_reducible repeat (first | apply Kd.V_alloc | apply Kd.V_drewN | apply Kd.V_drew)); exact HL377_5.out) (Kd.N_base ho0) hb); replace HO380 := Aside0.mk (Kd.N_elder' (iN HO380) (Kd.N_base ho0) hb); replace HR377_3 := Aside0.mk (Kd.C_below (by repeat (first | (with_reducible exact HR377_3.out) | with_reducible first | apply Kd.C_alloc | apply Kd.C_drewN | apply Kd.C_drew | exact HR377_3.out)) hb); replace HR377_4 := Aside0.mk (Kd.C_below (by repeat (first | (with_reducible exact HR377_4.out) | with_reducible first | apply Kd.C_alloc | apply Kd.C_drewN | apply Kd.C_drew | exact HR377_4.out)) hb); replace HR377_5 := Aside0.mk (Kd.C_below (by repeat (first | (with_reducible exact HR377_5.out) | with_reducible first | apply Kd.C_alloc | apply Kd.C_drewN | apply Kd.C_drew | exact HR377_5.out)) hb); replace HB := sb HB hb; (try clear hb); (try clear ho0); obtain ⟨Ao16, co16, eo16⟩ := Kd.N_slice HO383.out; subst eo16) | ((with_reducible refine gate_builtin (b := .append) (xs := #[.tmp 18, .tmp 24]) rfl ?_); at_builtin; refine Kd.N_append_rows k57 (w0 := w) w.heap.size rfl (.tmp 18) (.tmp 24) 54 57 (.agg #[(.int .i64 0), (.int .i64 0), (.int .i64 0), (.slice none 0 0), (.slice none 0 0), (.slice none 0 0)]) 96 rfl Try.underlying54 info57 rfl (by decide) (by omega) v375 y374 t381 _ _ _ (fun k_ => (P0_ k_ ∨ w.heap.size ≤ k_)) (fun k_ => ((fun k_ => (P0_ k_ ∨ w.heap.size ≤ k_))) k_ ∧ some k_ ≠ (v375 : Value).ownBlock) rfl rfl ?aO ?aR (fun _ hk => hk) ?aF ?aB ?aS ?aL ?_; (case aR => exact (by skip; exact Kd.N_F (Kd.N_mono (ok' := (fun k_ => ((fun k_ => (P0_ k_ ∨ w.heap.size ≤ k_))) k_ ∧ some k_ ≠ (v375 : Value).ownBlock)) (HO383.out) (fun k_ hk => ⟨hk.1, hk.2⟩)))); (case aB => exact (bb HB)); (case aF => exact (fun k_ hk => (.inr (Nat.le_trans (bsz (bb HB)) hk)))); (case aO => exact (by (with_reducible repeat (first | apply Kd.N_alloc | apply Kd.N_drewN | apply Kd.N_drew)); exact Kd.N_mono HO376.out (fun _ hk => hk.1.1))); (case aS => exact (bsz (bb HB))); (case aL => have := LMc7.out; omega); intro v385 w15 ho hb hg hat; rw [← Ny384.out] at ho; have HO386 := Aside0.mk (ho); replace HO_0 := Aside0.mk (Kd.V_afterv (ok := (fun k_ => (P0_ k_ ∨ w.heap.size ≤ k_) ∧ some k_ ≠ (.slice Ao13 t378.length co13 : Value).ownBlock ∧ some k_ ≠ (.slice Ao16 t381.length co16 : Value).ownBlock)) (by (with_reducible repeat (first | apply Kd.V_alloc | apply Kd.V_drewN | apply Kd.V_drew)); exact Kd.V_mono HO_0.out (fun _ hk => ⟨⟨hk.1.1.1, ⟨hk.1.2, hk.2⟩⟩, hk.1.1.2⟩)) hg hat); replace HL373_3 := Aside0.mk (Kd.V_afterv (ok := (fun k_ => (P0_ k_ ∨ w.heap.size ≤ k_) ∧ some k_ ≠ (.slice Ao13 t378.length co13 : Value).ownBlock ∧ some k_ ≠ (.slice Ao16 t381.length co16 : Value).ownBlock)) (by (with_reducible repeat (first | apply Kd.V_alloc | apply Kd.V_drewN | apply Kd.V_drew)); exact Kd.V_mono HL373_3.out (fun _ hk => ⟨⟨hk.1.1.1, ⟨hk.1.2, hk.2⟩⟩, hk.1.1.2⟩)) hg hat); replace HL373_4 := Aside0.mk (Kd.V_afterv (ok := (fun k_ => (P0_ k_ ∨ w.heap.size ≤ k_) ∧ some k_ ≠ (.slice Ao13 t378.length co13 : Value).ownBlock ∧ some k_ ≠ (.slice Ao16 t381.length co16 : Value).ownBlock)) (by (with_reducible repeat (first | apply Kd.V_alloc | apply Kd.V_drewN | apply Kd.V_drew)); exact Kd.V_mono HL373_4.out (fun _ hk => ⟨⟨hk.1.1.1, ⟨hk.1.2, hk.2⟩⟩, hk.1.1.2⟩)) hg hat); replace HL373_5 := Aside0.mk (Kd.V_afterv (ok := (fun k_ => (P0_ k_ ∨ w.heap.size ≤ k_) ∧ some k_ ≠ (.slice Ao13 t378.length co13 : Value).ownBlock ∧ some k_ ≠ (.slice Ao16 t381.length co16 : Value).ownBlock)) (by (with_reducible repeat (first | apply Kd.V_alloc | apply Kd.V_drewN | apply Kd.V_drew)); exact Kd.V_mono HL373_5.out (fun _ hk => ⟨⟨hk.1.1.1, ⟨hk.1.2, hk.2⟩⟩, hk.1.1.2⟩)) hg hat); replace HL377_3 := Aside0.mk (Kd.V_afterv (ok := (fun k_ => (P0_ k_ ∨ w.heap.size ≤ k_) ∧ some k_ ≠ (.slice Ao13 t378.length co13 : Value).ownBlock ∧ some k_ ≠ (.slice Ao16 t381.length co16 : Value).ownBlock)) (by (with_reducible repeat (first | apply Kd.V_alloc | apply Kd.V_drewN | apply Kd.V_drew)); exact Kd.V_mono HL377_3.out (fun _ hk => ⟨⟨hk.1.1.1, ⟨hk.1.2, hk.2⟩⟩, hk.1.1.2⟩)) hg hat); replace HL377_4 := Aside0.mk (Kd.V_afterv (ok := (fun k_ => (P0_ k_ ∨ w.heap.size ≤ k_) ∧ some k_ ≠ (.slice Ao13 t378.length co13 : Value).ownBlock ∧ some k_ ≠ (.slice Ao16 t381.length co16 : Value).ownBlock)) (by (with_reducible repeat (first | apply Kd.V_alloc | apply Kd.V_drewN | apply Kd.V_drew)); exact Kd.V_mono HL377_4.out (fun _ hk => ⟨⟨hk.1.1.1, ⟨hk.1.2, hk.2⟩⟩, hk.1.1.2⟩)) hg hat); replace HL377_5 := Aside0.mk (Kd.V_afterv (ok := (fun k_ => (P0_ k_ ∨ w.heap.size ≤ k_) ∧ some k_ ≠ (.slice Ao13 t378.length co13 : Value).ownBlock ∧ some k_ ≠ (.slice Ao16 t381.length co16 : Value).ownBlock)) (by (with_reducible repeat (first | apply Kd.V_alloc | apply Kd.V_drewN | apply Kd.V_drew)); exact Kd.V_mono HL377_5.out (fun _ hk => ⟨⟨hk.1.1.1, ⟨hk.1.2, hk.2⟩⟩, hk.1.1.2⟩)) hg hat); replace HO380 := Aside0.mk (Kd.N_afterv (ok := (fun k_ => (P0_ k_ ∨ w.heap.size ≤ k_) ∧ some k_ ≠ (.slice Ao16 t381.length co16 : Value).ownBlock)) (by (with_reducible repeat (first | apply Kd.N_alloc | apply Kd.N_drewN | apply Kd.N_drew)); exact Kd.N_mono HO380.out (fun _ hk => ⟨⟨hk.1.1, hk.2⟩, hk.1.2⟩)) hg hat); replace HO383 := Aside0.mk (Kd.N_afterv (ok := (fun k_ => (P0_ k_ ∨ w.heap.size ≤ k_))) (iN HO383) hg hat); replace HB := Aside0.mk (hb); clear HO376; clear ho hb hg hat; have p387 : 0 ≤ (x4_1 : Int) := od; have q387 : x4_1 < (l0.length : Int) := od; obtain ⟨ad387, A387_3, c387_3, A387_4, c387_4, A387_5, c387_5, e387, hx387_0, hx387_1, hx387_2, hx387_3, hx387_4, hx387_5, hl387_3, hi387_3, hl387_4, hi387_4, hl387_5, hi387_5⟩ := at_T57 (Kd.V_reads' HO_0.out).2.2 x4_1 p387 q387; obtain rfl : ad373 = ad387 := (by injection e387); obtain ⟨ce387, hce387, hMe387, hcc387⟩ := Kd.V_get HO_0.out z57 x4_1 p387 (by first | exact q387 | exact od | (have e_ := (Kd.V_reads' HO_0.out).1; omega)); obtain ⟨ua387_3, uc387_3, ua387_4, uc387_4, ua387_5, uc387_5, rfl, ul387_3, ge387_3, ul387_4, ge387_4, ul387_5, ge387_5⟩ := k57_openF hMe387; have hv387_3 := hcc387 3 _ rfl; rw [add_field _ _ 3 (by omega)] at hv387_3; replace hv387_3 := Option.some.inj (hv387_3.symm.trans hx387_3); injection hv387_3 with hva_ hvn_ hvc_; rw [hva_] at ge387_3; rw [hvc_] at ul387_3; have HL387_3 := Aside0.mk (show Kd.V k96 96 _ w.heap.size _ _ ((rd_T57 l0 x4_1).f1.f2) from Kd.V_mk ul387_3 ge387_3); clear hva_ hvn_ hvc_ ge387_3 ul387_3; have hv387_4 := hcc387 4 _ rfl; rw [add_field _ _ 4 (by omega)] at hv387_4; replace hv387_4 := Option.some.inj (hv387_4.symm.trans hx387_4); injection hv387_4 with hva_ hvn_ hvc_; rw [hva_] at ge387_4; rw [hvc_] at ul387_4; have HL387_4 := Aside0.mk (show Kd.V k47 47 _ w.heap.size _ _ ((rd_T57 l0 x4_1).f1.f3) from Kd.V_mk ul387_4 ge387_4); clear hva_ hvn_ hvc_ ge387_4 ul387_4; have hv387_5 := hcc387 5 _ rfl; rw [add_field _ _ 5 (by omega)] at hv387_5; replace hv387_5 := Option.some.inj (hv387_5.symm.trans hx387_5); injection hv387_5 with hva_ hvn_ hvc_; rw [hva_] at ge387_5; rw [hvc_] at ul387_5; have HL387_5 := Aside0.mk (show Kd.V k47 47 _ w.heap.size _ _ ((rd_T57 l0 x4_1).f1.f4) from Kd.V_mk ul387_5 ge387_5); clear hva_ hvn_ hvc_ ge387_5 ul387_5; clear hcc387 hce387; have HR387_3 := Aside0.mk hi387_3; have HC387_3 := Aside0.mk hl387_3; clear hi387_3 hl387_3; have HR387_4 := Aside0.mk hi387_4; have HC387_4 := Aside0.mk hl387_4; clear hi387_4 hl387_4; have HR387_5 := Aside0.mk hi387_5; have HC387_5 := Aside0.mk hl387_5; clear hi387_5 hl387_5; replace p387 := eq_true p387; replace q387 := eq_true q387) | ((with_reducible refine gate_callee (f := 32) rfl ?_); refine gL (some 31) rfl rfl Try.func32 #[.agg #[.int .i64 ((rd_T57 l0 x4_1).f0), .int .i64 ((rd_T57 l0 x4_1).f1.f0), .int .i64 ((rd_T57 l0 x4_1).f1.f1), .slice A387_3 ((rd_T57 l0 x4_1).f1.f2).length c387_3, .slice A387_4 ((rd_T57 l0 x4_1).f1.f3).length c387_4, .slice A387_5 ((rd_T57 l0 x4_1).f1.f4).length c387_5]] rfl ?_; (with_reducible refine (r3_Else.calls k1 ((rd_T57 l0 x4_1).f0) ((rd_T57 l0 x4_1).f1.f0) ((rd_T57 l0 x4_1).f1.f1) _ _ ((rd_T57 l0 x4_1).f1.f2) _ _ ((rd_T57 l0 x4_1).f1.f3) (fun k_ => (((P0_ k_ ∨ w.heap.size ≤ k_) ∧ (some k_ ≠ (.slice Ao13 t378.length co13 : Value).ownBlock ∧ some k_ ≠ (.slice Ao16 t381.length co16 : Value).ownBlock)) ∧ some k_ ≠ (v385 : Value).ownBlock)) _ _ ((rd_T57 l0 x4_1).f1.f4) t388 _ ?side1 ?side2 ?side3 ?side4 ?side5 A8.out).mono ?_); (case side1 => repeat (first | exact (by repeat (first | (with_reducible exact HR387_3.out) | with_reducible first | apply Kd.C_alloc | apply Kd.C_drewN | apply Kd.C_drew | exact HR387_3.out)) | with_reducible first | apply Kd.C_alloc | apply Kd.C_drewN | apply Kd.C_drew)); (case side2 => exact HC387_3.out); (case side3 => repeat (first | exact (by repeat (first | (with_reducible exact HR387_4.out) | with_reducible first | apply Kd.C_alloc | apply Kd.C_drewN | apply Kd.C_drew | exact HR387_4.out)) | with_reducible first | apply Kd.C_alloc | apply Kd.C_drewN | apply Kd.C_drew)); (case side4 => exact HC387_4.out); (case side5 => exact HL387_5.out); rintro e w17 ⟨v389, rfl, ho0, hb⟩; refine ⟨_, rfl, ?_⟩; have HO390 := Aside0.mk (Kd.N_lower (Kd.N_mono (ok' := fun k_ => (P0_ k_ ∨ w.heap.size ≤ k_) ∧ some k_ ≠ (.slice Ao13 t378.length co13 : Value).ownBlock ∧ some k_ ≠ (.slice Ao16 t381.length co16 : Value).ownBlock ∧ some k_ ≠ (v385 : Value).ownBlock) ho0 (fun k_ hk_ => ⟨Or.elim hk_ (fun hs_ => hs_.1.1) (fun hn_ => (.inr (Nat.le_trans (bsz (bb HB)) hn_))), Or.elim hk_ (fun hs_ => hs_.1.2.1) (fun hn_ => (Kd.fresh' (Kd.N_lt (iN HO380)) k_ hn_)), Or.elim hk_ (fun hs_ => hs_.1.2.2) (fun hn_ => (Kd.fresh' (Kd.N_lt (iN HO383)) k_ hn_)), Or.elim hk_ (fun hs_ => hs_.2) (fun hn_ => (Kd.fresh' (Kd.N_lt (iN HO386)) k_ hn_))⟩)) (bsz (bb HB))); replace HO_0 := Aside0.mk (Kd.V_elder' (by (with_reducible repeat (first | apply Kd.V_alloc | apply Kd.V_drewN | apply Kd.V_drew)); exact HO_0.out) (Kd.N_base ho0) hb); replace HL373_3 := Aside0.mk (Kd.V_elder' (by (with_reducible repeat (first | apply Kd.V_alloc | apply Kd.V_drewN | apply Kd.V_drew)); exact HL373_3.out) (Kd.N_base ho0) hb); replace HL373_4 := Aside0.mk (Kd.V_elder' (by (with_reducible repeat (first | apply Kd.V_alloc | apply Kd.V_drewN | apply Kd.V_drew)); exact HL373_4.out) (Kd.N_base ho0) hb); replace HL373_5 := Aside0.mk (Kd.V_elder' (by (with_reducible repeat (first | apply Kd.V_alloc | apply Kd.V_drewN | apply Kd.V_drew)); exact HL373_5.out) (Kd.N_base ho0) hb); replace HL377_3 := Aside0.mk (Kd.V_elder' (by (with_reducible repeat (first | apply Kd.V_alloc | apply Kd.V_drewN | apply Kd.V_drew)); exact HL377_3.out) (Kd.N_base ho0) hb); replace HL377_4 := Aside0.mk (Kd.V_elder' (by (with_reducible repeat (first | apply Kd.V_alloc | apply Kd.V_drewN | apply Kd.V_drew)); exact HL377_4.out) (Kd.N_base ho0) hb); replace HL377_5 := Aside0.mk (Kd.V_elder' (by (with_reducible repeat (first | apply Kd.V_alloc | apply Kd.V_drewN | apply Kd.V_drew)); exact HL377_5.out) (Kd.N_base ho0) hb); replace HO380 := Aside0.mk (Kd.N_elder' (iN HO380) (Kd.N_base ho0) hb); replace HO383 := Aside0.mk (Kd.N_elder' (iN HO383) (Kd.N_base ho0) hb); replace HO386 := Aside0.mk (Kd.N_elder' (iN HO386) (Kd.N_base ho0) hb); replace HL387_3 := Aside0.mk (Kd.V_elder' (by (with_reducible repeat (first | apply Kd.V_alloc | apply Kd.V_drewN | apply Kd.V_drew)); exact HL387_3.out) (Kd.N_base ho0) hb); replace HL387_4 := Aside0.mk (Kd.V_elder' (by (with_reducible repeat (first | apply Kd.V_alloc | apply Kd.V_drewN | apply Kd.V_drew)); exact HL387_4.out) (Kd.N_base ho0) hb); replace HL387_5 := Aside0.mk (Kd.V_elder' (by (with_reducible repeat (first | apply Kd.V_alloc | apply Kd.V_drewN | apply Kd.V_drew)); exact HL387_5.out) (Kd.N_base ho0) hb); replace HR387_3 := Aside0.mk (Kd.C_below (by repeat (first | (with_reducible exact HR387_3.out) | with_reducible first | apply Kd.C_alloc | apply Kd.C_drewN | apply Kd.C_drew | exact HR387_3.out)) hb); replace HR387_4 := Aside0.mk (Kd.C_below (by repeat (first | (with_reducible exact HR387_4.out) | with_reducible first | apply Kd.C_alloc | apply Kd.C_drewN | apply Kd.C_drew | exact HR387_4.out)) hb); replace HR387_5 := Aside0.mk (Kd.C_below (by repeat (first | (with_reducible exact HR387_5.out) | with_reducible first | apply Kd.C_alloc | apply Kd.C_drewN | apply Kd.C_drew | exact HR387_5.out)) hb); replace HB := sb HB hb; (try clear hb); (try clear ho0); obtain ⟨Ao18, co18, eo18⟩ := Kd.N_slice HO390.out; subst eo18) | ((with_reducible refine gate_callee (f := 59) rfl ?_); refine gL (some 32) rfl rfl Try.func59 #[.slice Ao18 t388.length co18] rfl ?_; (with_reducible refine (ih k1 (by have := HK1.out; omega) (fun k_ => ((P0_ k_ ∨ w.heap.size ≤ k_) ∧ (some k_ ≠ (.slice Ao13 t378.length co13 : Value).ownBlock ∧ (some k_ ≠ (.slice Ao16 t381.length co16 : Value).ownBlock ∧ some k_ ≠ (v385 : Value).ownBlock)))) _ _ t388 t391 _ ?side1 A9.out).mono ?_); (case side1 => exact Kd.N_V (HO390.out)); rintro e w19 ⟨v392, rfl, ho0, hb⟩; refine ⟨_, rfl, ?_⟩; have HO393 := Aside0.mk (Kd.N_lower (Kd.N_mono (ok' := fun k_ => (P0_ k_ ∨ w.heap.size ≤ k_) ∧ some k_ ≠ (.slice Ao13 t378.length co13 : Value).ownBlock ∧ some k_ ≠ (.slice Ao16 t381.length co16 : Value).ownBlock ∧ some k_ ≠ (v385 : Value).ownBlock) ho0 (fun k_ hk_ => ⟨Or.elim hk_ (fun hs_ => hs_.1) (fun hn_ => (.inr (Nat.le_trans (bsz (bb HB)) hn_))), Or.elim hk_ (fun hs_ => hs_.2.1) (fun hn_ => (Kd.fresh' (Kd.N_lt (iN HO380)) k_ hn_)), Or.elim hk_ (fun hs_ => hs_.2.2.1) (fun hn_ => (Kd.fresh' (Kd.N_lt (iN HO383)) k_ hn_)), Or.elim hk_ (fun hs_ => hs_.2.2.2) (fun hn_ => (Kd.fresh' (Kd.N_lt (iN HO386)) k_ hn_))⟩)) (bsz (bb HB))); replace HO_0 := Aside0.mk (Kd.V_elder' (by (with_reducible repeat (first | apply Kd.V_alloc | apply Kd.V_drewN | apply Kd.V_drew)); exact HO_0.out) (Kd.N_base ho0) hb); replace HL373_3 := Aside0.mk (Kd.V_elder' (by (with_reducible repeat (first | apply Kd.V_alloc | apply Kd.V_drewN | apply Kd.V_drew)); exact HL373_3.out) (Kd.N_base ho0) hb); replace HL373_4 := Aside0.mk (Kd.V_elder' (by (with_reducible repeat (first | apply Kd.V_alloc | apply Kd.V_drewN | apply Kd.V_drew)); exact HL373_4.out) (Kd.N_base ho0) hb); replace HL373_5 := Aside0.mk (Kd.V_elder' (by (with_reducible repeat (first | apply Kd.V_alloc | apply Kd.V_drewN | apply Kd.V_drew)); exact HL373_5.out) (Kd.N_base ho0) hb); replace HL377_3 := Aside0.mk (Kd.V_elder' (by (with_reducible repeat (first | apply Kd.V_alloc | apply Kd.V_drewN | apply Kd.V_drew)); exact HL377_3.out) (Kd.N_base ho0) hb); replace HL377_4 := Aside0.mk (Kd.V_elder' (by (with_reducible repeat (first | apply Kd.V_alloc | apply Kd.V_drewN | apply Kd.V_drew)); exact HL377_4.out) (Kd.N_base ho0) hb); replace HL377_5 := Aside0.mk (Kd.V_elder' (by (with_reducible repeat (first | apply Kd.V_alloc | apply Kd.V_drewN | apply Kd.V_drew)); exact HL377_5.out) (Kd.N_base ho0) hb); replace HO380 := Aside0.mk (Kd.N_elder' (iN HO380) (Kd.N_base ho0) hb); replace HO383 := Aside0.mk (Kd.N_elder' (iN HO383) (Kd.N_base ho0) hb); replace HO386 := Aside0.mk (Kd.N_elder' (iN HO386) (Kd.N_base ho0) hb); replace HL387_3 := Aside0.mk (Kd.V_elder' (by (with_reducible repeat (first | apply Kd.V_alloc | apply Kd.V_drewN | apply Kd.V_drew)); exact HL387_3.out) (Kd.N_base ho0) hb); replace HL387_4 := Aside0.mk (Kd.V_elder' (by (with_reducible repeat (first | apply Kd.V_alloc | apply Kd.V_drewN | apply Kd.V_drew)); exact HL387_4.out) (Kd.N_base ho0) hb); replace HL387_5 := Aside0.mk (Kd.V_elder' (by (with_reducible repeat (first | apply Kd.V_alloc | apply Kd.V_drewN | apply Kd.V_drew)); exact HL387_5.out) (Kd.N_base ho0) hb); replace HO390 := Aside0.mk (Kd.N_elder' (iN HO390) (Kd.N_base ho0) hb); replace HR387_3 := Aside0.mk (Kd.C_below (by repeat (first | (with_reducible exact HR387_3.out) | with_reducible first | apply Kd.C_alloc | apply Kd.C_drewN | apply Kd.C_drew | exact HR387_3.out)) hb); replace HR387_4 := Aside0.mk (Kd.C_below (by repeat (first | (with_reducible exact HR387_4.out) | with_reducible first | apply Kd.C_alloc | apply Kd.C_drewN | apply Kd.C_drew | exact HR387_4.out)) hb); replace HR387_5 := Aside0.mk (Kd.C_below (by repeat (first | (with_reducible exact HR387_5.out) | with_reducible first | apply Kd.C_alloc | apply Kd.C_drewN | apply Kd.C_drew | exact HR387_5.out)) hb); replace HB := sb HB hb; (try clear hb); (try clear ho0); obtain ⟨Ao21, co21, eo21⟩ := Kd.N_slice HO393.out; subst eo21) | ((with_reducible refine gate_builtin (b := .append) (xs := #[.tmp 26, .tmp 32]) rfl ?_); at_builtin; refine Kd.N_append_rows k57 (w0 := w) w.heap.size rfl (.tmp 26) (.tmp 32) 54 57 (.agg #[(.int .i64 0), (.int .i64 0), (.int .i64 0), (.slice none 0 0), (.slice none 0 0), (.slice none 0 0)]) 96 rfl Try.underlying54 info57 rfl (by decide) (by omega) v385 y384 t391 _ _ _ (fun k_ => (P0_ k_ ∨ w.heap.size ≤ k_)) (fun k_ => ((fun k_ => (P0_ k_ ∨ w.heap.size ≤ k_))) k_ ∧ some k_ ≠ (v385 : Value).ownBlock) rfl rfl ?aO ?aR (fun _ hk => hk) ?aF ?aB ?aS ?aL ?_; (case aR => exact (by skip; exact Kd.N_F (Kd.N_mono (ok' := (fun k_ => ((fun k_ => (P0_ k_ ∨ w.heap.size ≤ k_))) k_ ∧ some k_ ≠ (v385 : Value).ownBlock)) (HO393.out) (fun k_ hk => ⟨hk.1, hk.2.2.2⟩)))); (case aB => exact (bb HB)); (case aF => exact (fun k_ hk => (.inr (Nat.le_trans (bsz (bb HB)) hk)))); (case aO => exact (by (with_reducible repeat (first | apply Kd.N_alloc | apply Kd.N_drewN | apply Kd.N_drew)); exact Kd.N_mono HO386.out (fun _ hk => hk.1.1))); (case aS => exact (bsz (bb HB))); (case aL => have := LMc10.out; omega); intro v395 w20 ho hb hg hat; rw [← Ny394.out] at ho; have HO396 := Aside0.mk (ho); replace HO_0 := Aside0.mk (Kd.V_afterv (ok := (fun k_ => (P0_ k_ ∨ w.heap.size ≤ k_) ∧ some k_ ≠ (.slice Ao13 t378.length co13 : Value).ownBlock ∧ some k_ ≠ (.slice Ao16 t381.length co16 : Value).ownBlock ∧ some k_ ≠ (.slice Ao18 t388.length co18 : Value).ownBlock ∧ some k_ ≠ (.slice Ao21 t391.length co21 : Value).ownBlock)) (by (with_reducible repeat (first | apply Kd.V_alloc | apply Kd.V_drewN | apply Kd.V_drew)); exact Kd.V_mono HO_0.out (fun _ hk => ⟨⟨hk.1.1.1.1, ⟨hk.1.1.1.2.1, ⟨hk.1.1.1.2.2, ⟨hk.1.2, hk.2⟩⟩⟩⟩, hk.1.1.2⟩)) hg hat); replace HL373_3 := Aside0.mk (Kd.V_afterv (ok := (fun k_ => (P0_ k_ ∨ w.heap.size ≤ k_) ∧ some k_ ≠ (.slice Ao13 t378.length co13 : Value).ownBlock ∧ some k_ ≠ (.slice Ao16 t381.length co16 : Value).ownBlock ∧ some k_ ≠ (.slice Ao18 t388.length co18 : Value).ownBlock ∧ some k_ ≠ (.slice Ao21 t391.length co21 : Value).ownBlock)) (by (with_reducible repeat (first | apply Kd.V_alloc | apply Kd.V_drewN | apply Kd.V_drew)); exact Kd.V_mono HL373_3.out (fun _ hk => ⟨⟨hk.1.1.1.1, ⟨hk.1.1.1.2.1, ⟨hk.1.1.1.2.2, ⟨hk.1.2, hk.2⟩⟩⟩⟩, hk.1.1.2⟩)) hg hat); replace HL373_4 := Aside0.mk (Kd.V_afterv (ok := (fun k_ => (P0_ k_ ∨ w.heap.size ≤ k_) ∧ some k_ ≠ (.slice Ao13 t378.length co13 : Value).ownBlock ∧ some k_ ≠ (.slice Ao16 t381.length co16 : Value).ownBlock ∧ some k_ ≠ (.slice Ao18 t388.length co18 : Value).ownBlock ∧ some k_ ≠ (.slice Ao21 t391.length co21 : Value).ownBlock)) (by (with_reducible repeat (first | apply Kd.V_alloc | apply Kd.V_drewN | apply Kd.V_drew)); exact Kd.V_mono HL373_4.out (fun _ hk => ⟨⟨hk.1.1.1.1, ⟨hk.1.1.1.2.1, ⟨hk.1.1.1.2.2, ⟨hk.1.2, hk.2⟩⟩⟩⟩, hk.1.1.2⟩)) hg hat); replace HL373_5 := Aside0.mk (Kd.V_afterv (ok := (fun k_ => (P0_ k_ ∨ w.heap.size ≤ k_) ∧ some k_ ≠ (.slice Ao13 t378.length co13 : Value).ownBlock ∧ some k_ ≠ (.slice Ao16 t381.length co16 : Value).ownBlock ∧ some k_ ≠ (.slice Ao18 t388.length co18 : Value).ownBlock ∧ some k_ ≠ (.slice Ao21 t391.length co21 : Value).ownBlock)) (by (with_reducible repeat (first | apply Kd.V_alloc | apply Kd.V_drewN | apply Kd.V_drew)); exact Kd.V_mono HL373_5.out (fun _ hk => ⟨⟨hk.1.1.1.1, ⟨hk.1.1.1.2.1, ⟨hk.1.1.1.2.2, ⟨hk.1.2, hk.2⟩⟩⟩⟩, hk.1.1.2⟩)) hg hat); replace HL377_3 := Aside0.mk (Kd.V_afterv (ok := (fun k_ => (P0_ k_ ∨ w.heap.size ≤ k_) ∧ some k_ ≠ (.slice Ao13 t378.length co13 : Value).ownBlock ∧ some k_ ≠ (.slice Ao16 t381.length co16 : Value).ownBlock ∧ some k_ ≠ (.slice Ao18 t388.length co18 : Value).ownBlock ∧ some k_ ≠ (.slice Ao21 t391.length co21 : Value).ownBlock)) (by (with_reducible repeat (first | apply Kd.V_alloc | apply Kd.V_drewN | apply Kd.V_drew)); exact Kd.V_mono HL377_3.out (fun _ hk => ⟨⟨hk.1.1.1.1, ⟨hk.1.1.1.2.1, ⟨hk.1.1.1.2.2, ⟨hk.1.2, hk.2⟩⟩⟩⟩, hk.1.1.2⟩)) hg hat); replace HL377_4 := Aside0.mk (Kd.V_afterv (ok := (fun k_ => (P0_ k_ ∨ w.heap.size ≤ k_) ∧ some k_ ≠ (.slice Ao13 t378.length co13 : Value).ownBlock ∧ some k_ ≠ (.slice Ao16 t381.length co16 : Value).ownBlock ∧ some k_ ≠ (.slice Ao18 t388.length co18 : Value).ownBlock ∧ some k_ ≠ (.slice Ao21 t391.length co21 : Value).ownBlock)) (by (with_reducible repeat (first | apply Kd.V_alloc | apply Kd.V_drewN | apply Kd.V_drew)); exact Kd.V_mono HL377_4.out (fun _ hk => ⟨⟨hk.1.1.1.1, ⟨hk.1.1.1.2.1, ⟨hk.1.1.1.2.2, ⟨hk.1.2, hk.2⟩⟩⟩⟩, hk.1.1.2⟩)) hg hat); replace HL377_5 := Aside0.mk (Kd.V_afterv (ok := (fun k_ => (P0_ k_ ∨ w.heap.size ≤ k_) ∧ some k_ ≠ (.slice Ao13 t378.length co13 : Value).ownBlock ∧ some k_ ≠ (.slice Ao16 t381.length co16 : Value).ownBlock ∧ some k_ ≠ (.slice Ao18 t388.length co18 : Value).ownBlock ∧ some k_ ≠ (.slice Ao21 t391.length co21 : Value).ownBlock)) (by (with_reducible repeat (first | apply Kd.V_alloc | apply Kd.V_drewN | apply Kd.V_drew)); exact Kd.V_mono HL377_5.out (fun _ hk => ⟨⟨hk.1.1.1.1, ⟨hk.1.1.1.2.1, ⟨hk.1.1.1.2.2, ⟨hk.1.2, hk.2⟩⟩⟩⟩, hk.1.1.2⟩)) hg hat); replace HO380 := Aside0.mk (Kd.N_afterv (ok := (fun k_ => (P0_ k_ ∨ w.heap.size ≤ k_) ∧ some k_ ≠ (.slice Ao16 t381.length co16 : Value).ownBlock ∧ some k_ ≠ (.slice Ao18 t388.length co18 : Value).ownBlock ∧ some k_ ≠ (.slice Ao21 t391.length co21 : Value).ownBlock)) (by (with_reducible repeat (first | apply Kd.N_alloc | apply Kd.N_drewN | apply Kd.N_drew)); exact Kd.N_mono HO380.out (fun _ hk => ⟨⟨hk.1.1.1.1, ⟨hk.1.1.1.2, ⟨hk.1.2, hk.2⟩⟩⟩, hk.1.1.2⟩)) hg hat); replace HO383 := Aside0.mk (Kd.N_afterv (ok := (fun k_ => (P0_ k_ ∨ w.heap.size ≤ k_) ∧ some k_ ≠ (.slice Ao18 t388.length co18 : Value).ownBlock ∧ some k_ ≠ (.slice Ao21 t391.length co21 : Value).ownBlock)) (by (with_reducible repeat (first | apply Kd.N_alloc | apply Kd.N_drewN | apply Kd.N_drew)); exact Kd.N_mono HO383.out (fun _ hk => ⟨⟨hk.1.1.1, ⟨hk.1.2, hk.2⟩⟩, hk.1.1.2⟩)) hg hat); replace HL387_3 := Aside0.mk (Kd.V_afterv (ok := (fun k_ => (P0_ k_ ∨ w.heap.size ≤ k_) ∧ some k_ ≠ (.slice Ao13 t378.length co13 : Value).ownBlock ∧ some k_ ≠ (.slice Ao16 t381.length co16 : Value).ownBlock ∧ some k_ ≠ (.slice Ao18 t388.length co18 : Value).ownBlock ∧ some k_ ≠ (.slice Ao21 t391.length co21 : Value).ownBlock)) (by (with_reducible repeat (first | apply Kd.V_alloc | apply Kd.V_drewN | apply Kd.V_drew)); exact Kd.V_mono HL387_3.out (fun _ hk => ⟨⟨hk.1.1.1.1, ⟨hk.1.1.1.2.1, ⟨hk.1.1.1.2.2, ⟨hk.1.2, hk.2⟩⟩⟩⟩, hk.1.1.2⟩)) hg hat); replace HL387_4 := Aside0.mk (Kd.V_afterv (ok := (fun k_ => (P0_ k_ ∨ w.heap.size ≤ k_) ∧ some k_ ≠ (.slice Ao13 t378.length co13 : Value).ownBlock ∧ some k_ ≠ (.slice Ao16 t381.length co16 : Value).ownBlock ∧ some k_ ≠ (.slice Ao18 t388.length co18 : Value).ownBlock ∧ some k_ ≠ (.slice Ao21 t391.length co21 : Value).ownBlock)) (by (with_reducible repeat (first | apply Kd.V_alloc | apply Kd.V_drewN | apply Kd.V_drew)); exact Kd.V_mono HL387_4.out (fun _ hk => ⟨⟨hk.1.1.1.1, ⟨hk.1.1.1.2.1, ⟨hk.1.1.1.2.2, ⟨hk.1.2, hk.2⟩⟩⟩⟩, hk.1.1.2⟩)) hg hat); replace HL387_5 := Aside0.mk (Kd.V_afterv (ok := (fun k_ => (P0_ k_ ∨ w.heap.size ≤ k_) ∧ some k_ ≠ (.slice Ao13 t378.length co13 : Value).ownBlock ∧ some k_ ≠ (.slice Ao16 t381.length co16 : Value).ownBlock ∧ some k_ ≠ (.slice Ao18 t388.length co18 : Value).ownBlock ∧ some k_ ≠ (.slice Ao21 t391.length co21 : Value).ownBlock)) (by (with_reducible repeat (first | apply Kd.V_alloc | apply Kd.V_drewN | apply Kd.V_drew)); exact Kd.V_mono HL387_5.out (fun _ hk => ⟨⟨hk.1.1.1.1, ⟨hk.1.1.1.2.1, ⟨hk.1.1.1.2.2, ⟨hk.1.2, hk.2⟩⟩⟩⟩, hk.1.1.2⟩)) hg hat); replace HO390 := Aside0.mk (Kd.N_afterv (ok := (fun k_ => (P0_ k_ ∨ w.heap.size ≤ k_) ∧ some k_ ≠ (.slice Ao13 t378.length co13 : Value).ownBlock ∧ some k_ ≠ (.slice Ao16 t381.length co16 : Value).ownBlock ∧ some k_ ≠ (.slice Ao21 t391.length co21 : Value).ownBlock)) (by (with_reducible repeat (first | apply Kd.N_alloc | apply Kd.N_drewN | apply Kd.N_drew)); exact Kd.N_mono HO390.out (fun _ hk => ⟨⟨hk.1.1, ⟨hk.1.2.1, ⟨hk.1.2.2.1, hk.2⟩⟩⟩, hk.1.2.2.2⟩)) hg hat); replace HO393 := Aside0.mk (Kd.N_afterv (ok := (fun k_ => (P0_ k_ ∨ w.heap.size ≤ k_) ∧ some k_ ≠ (.slice Ao13 t378.length co13 : Value).ownBlock ∧ some k_ ≠ (.slice Ao16 t381.length co16 : Value).ownBlock)) (by (with_reducible repeat (first | apply Kd.N_alloc | apply Kd.N_drewN | apply Kd.N_drew)); exact Kd.N_mono HO393.out (fun _ hk => ⟨⟨hk.1, ⟨hk.2.1, hk.2.2.1⟩⟩, hk.2.2.2⟩)) hg hat); replace HB := Aside0.mk (hb); clear HO386; clear ho hb hg hat))
   go_roundg k1
   case measure => have := HK1.out; omega
   case rel => exact ⟨(y394), (wrap64 (x4_1 + 1)), rs, H', ⟨by have := HK1.out; omega⟩, ⟨by (with_reducible repeat (first | apply Kd.V_alloc | apply Kd.V_drewN | apply Kd.V_drew)); exact Kd.V_mono HO_0.out (fun _ hk => ⟨hk.1.1, hk.2⟩)⟩, ⟨by (with_reducible repeat (first | apply Kd.N_alloc | apply Kd.N_drewN | apply Kd.N_drew)); exact HO396.out⟩, ⟨bb HB⟩⟩
def r3_Every.f (k : Nat) (a0_0 : Int) (l0_1 : List (S82)) (l0_2 : List (S47)) : Option ((List (S57))) := (r3_Items.f k l0_2 0).bind fun t398 => ((r3_All.f k t398).bind fun t401 => (some t401))
theorem r3_Every.calls (k : Nat) (a0_0 : Int) (A0_1 : Option Addr) (c0_1 : Nat) (l0_1 : List (S82)) (P0_2_ : Nat → Prop) (A0_2 : Option Addr) (c0_2 : Nat) (l0_2 : List (S47)) (r : List (S57)) (w : World) (hr0_1 : Kd.C k82 w A0_1 l0_1.length l0_1) (hc0_1 : l0_1.length ≤ c0_1) (hs0_2 : Kd.V k47 47 w w.heap.size (fun k_ => P0_2_ k_) (.slice A0_2 l0_2.length c0_2) l0_2) (h : r3_Every.f k a0_0 l0_1 l0_2 = some r) :
  Calls Try.prog 29 #[.agg #[.int .i64 a0_0, .slice A0_1 l0_1.length c0_1, .slice A0_2 l0_2.length c0_2]] w fun e w' => ∃ v0_ : Value, e = .returned (v0_) ∧ Kd.N k57 57 w' w.heap.size (fun k_ => (P0_2_ k_ ∨ w.heap.size ≤ k_)) v0_ r ∧ Below w.heap.size w w' := by
 have hu25 := Try.underlying25
 have HR0_1 := Aside0.mk hr0_1
 have HC0_1 := Aside0.mk hc0_1
 clear hr0_1 hc0_1
 have HO0_2 := Aside0.mk (show Kd.V k47 47 w w.heap.size (fun k_ => (P0_2_ k_ ∨ w.heap.size ≤ k_)) (.slice A0_2 l0_2.length c0_2) l0_2 from Kd.V_mono hs0_2 (fun k_ hk => .inl hk))
 have HB := Aside0.mk (Below.refl w.heap.size w)
 have H : ((r3_Items.f k l0_2 0).bind fun t398 => ((r3_All.f k t398).bind fun t401 => (some t401))) = some r := h
 clear h
 obtain ⟨t398, A2, H⟩ := be H
 obtain ⟨t401, A3, H⟩ := be H
 obtain rfl := Option.some.inj H
 go_enter Try.func29, Try.ntmps29
 go_wp2_with (first | ((with_reducible refine gate_dst (N := 1) rfl ?_); refine bx 1 rfl rfl #[.int .i64 a0_0, .slice A0_1 l0_1.length c0_1, .slice A0_2 l0_2.length c0_2] 25 ?_; intro gb397 hg w4 hbox hb; have BK397 := Aside0.mk (hbox); have GE397 := ge HB hg; replace HO0_2 := Aside0.mk (Kd.V_below (Kd.V_elderB (by (with_reducible repeat (first | apply Kd.V_alloc | apply Kd.V_drewN | apply Kd.V_drew)); exact HO0_2.out) gb397 (Nat.le_of_eq hg.symm)) hb); replace HB := sb HB hb; clear hb hbox hg; obtain ⟨hcz5_0, hcz5_1, hcz5_2, hfz5_0, hfz5_1, hfz5_2⟩ := cf3 BK397.out) | ((with_reducible refine gate_callee (f := 60) rfl ?_); refine gL (some 5) rfl rfl Try.func60 #[.slice A0_2 l0_2.length c0_2, .int .i64 0] rfl ?_; (with_reducible refine (r3_Items.calls k (fun k_ => ((P0_2_ k_ ∨ w.heap.size ≤ k_) ∧ k_ ≠ gb397)) _ _ l0_2 0 t398 _ ?side1 A2.out).mono ?_); (case side1 => exact HO0_2.out); rintro e w6 ⟨v399, rfl, ho0, hb⟩; refine ⟨_, rfl, ?_⟩; have HO400 := Aside0.mk (Kd.N_lower (Kd.N_mono (ok' := fun k_ => (P0_2_ k_ ∨ w.heap.size ≤ k_) ∧ k_ ≠ gb397) ho0 (fun k_ hk_ => ⟨Or.elim hk_ (fun hs_ => hs_.1) (fun hn_ => (.inr (Nat.le_trans (bsz (bb HB)) hn_))), Or.elim hk_ (fun hs_ => hs_.2) (fun hn_ => (Kd.freshB (kk BK397) k_ hn_))⟩)) (bsz (bb HB))); replace HO0_2 := Aside0.mk (Kd.V_elder' (by (with_reducible repeat (first | apply Kd.V_alloc | apply Kd.V_drewN | apply Kd.V_drew)); exact HO0_2.out) (Kd.N_base ho0) hb); replace BK397 := kb BK397 hb; replace HB := sb HB hb; (try clear hb); (try clear ho0); obtain ⟨Ao7, co7, eo7⟩ := Kd.N_slice HO400.out; subst eo7) | ((with_reducible refine gate_callee (f := 59) rfl ?_); refine gL (some 6) rfl rfl Try.func59 #[.slice Ao7 t398.length co7] rfl ?_; (with_reducible refine (r3_All.calls k (fun k_ => ((P0_2_ k_ ∨ w.heap.size ≤ k_) ∧ k_ ≠ gb397)) _ _ t398 t401 _ ?side1 A3.out).mono ?_); (case side1 => exact Kd.N_V (HO400.out)); rintro e w8 ⟨v402, rfl, ho0, hb⟩; refine ⟨_, rfl, ?_⟩; have HO403 := Aside0.mk (Kd.N_lower (Kd.N_mono (ok' := fun k_ => (P0_2_ k_ ∨ w.heap.size ≤ k_) ∧ k_ ≠ gb397) ho0 (fun k_ hk_ => ⟨Or.elim hk_ (fun hs_ => hs_.1) (fun hn_ => (.inr (Nat.le_trans (bsz (bb HB)) hn_))), Or.elim hk_ (fun hs_ => hs_.2) (fun hn_ => (Kd.freshB (kk BK397) k_ hn_))⟩)) (bsz (bb HB))); replace HO0_2 := Aside0.mk (Kd.V_elder' (by (with_reducible repeat (first | apply Kd.V_alloc | apply Kd.V_drewN | apply Kd.V_drew)); exact HO0_2.out) (Kd.N_base ho0) hb); replace HO400 := Aside0.mk (Kd.N_elder' (iN HO400) (Kd.N_base ho0) hb); replace BK397 := kb BK397 hb; replace HB := sb HB hb; (try clear hb); (try clear ho0)))
 go_ret
 exact ⟨_, rr, by (with_reducible repeat (first | apply Kd.N_alloc | apply Kd.N_drewN | apply Kd.N_drew)); exact Kd.N_mono HO403.out (fun _ hk => hk.1), bb HB⟩
def r3_Numbers.l0 : Nat → List (S57) → List Int → Int → Option (List Int)
 | 0, _, _, _ => none
 | k + 1, x0, x3, x4 => if x4 < (x0.length : Int) then (if 0 ≤ x4 then (if x3.length < 17592186044416 then (r3_Numbers.l0 k x0 (x3 ++ [(rd_T57 x0 x4).f0]) (wrap64 (x4 + 1))) else (none)) else (none)) else (some x3)
def r3_Numbers.f (k : Nat) (l0 : List (S57)) : Option (List Int) := r3_Numbers.l0 k l0 ([] : List Int) 0
theorem r3_Numbers.calls (k : Nat) (A0 : Option Addr) (c0 : Nat) (l0 : List (S57)) (r : List Int) (w : World) (hr0 : Kd.C k57 w A0 l0.length l0) (hc0 : l0.length ≤ c0) (h : r3_Numbers.f k l0 = some r) :
  Calls Try.prog 30 #[.slice A0 l0.length c0] w fun e w' => ∃ v0_ : Value, e = .returned (v0_) ∧ Kd.R (Kd.int .i64) 3 w' w.heap.size (fun _ => True) v0_ r ∧ Below w.heap.size w w' := by
 have HR0 := Aside0.mk hr0
 have HC0 := Aside0.mk hc0
 clear hr0 hc0
 have HB := Aside0.mk (Below.refl w.heap.size w)
 have H : (r3_Numbers.l0 k l0 ([] : List Int) 0) = some r := h
 clear h
 have H' := Aside0.mk H
 clear H
 go_enter Try.func30, Try.ntmps30
 go_wp2
 go_loopg [3, 4] k (fun kq v3 v4 w' => ∃ (x3_1 : List Int) (x4_1 : Int), v4 = .int .i64 x4_1 ∧ Aside0 (r3_Numbers.l0 kq l0 x3_1 x4_1 = some r) ∧ Aside0 (kq ≤ k) ∧ Aside0 (Kd.R (Kd.int .i64) 3 w' w.heap.size (fun _ => True) v3 x3_1) ∧ Aside0 (Below w.heap.size w w'))
 case atStart => exact ⟨(([] : List Int)), (0), rs, H', ⟨Nat.le_refl _⟩, ⟨by first | exact Kd.R_nil _ _ _ _ _ | exact Kd.N_nil _ _ _ _ _ | exact Kd.V_nil _ _ _ _ _ | exact Kd.Q_nil _ _ _ _ _ | exact Kd.S_nil _ _ _ _ _⟩, ⟨bb HB⟩⟩
 case round =>
  clear H'
  obtain ⟨x3_1, x4_1, rfl, HA, HK1, HO_3, HB⟩ := hrel
  cases gk with
  | zero => exact absurd HA.out (by simp [r3_Numbers.l0])
  | succ k1 =>
   have H := HA.out
   clear HA
   simp only [r3_Numbers.l0] at H
   by_cases c2 : x4_1 < (l0.length : Int)
   rotate_left
   ·rw [if_neg c2] at H
    have c2b0 : decide (x4_1 < (l0.length : Int)) = false := decide_eq_false c2
    clear c2
    obtain rfl := Option.some.inj H
    go_wp2
    go_ret
    exact ⟨_, rr, by (with_reducible repeat (first | apply Kd.R_alloc | apply Kd.R_drewN | apply Kd.R_drew)); exact HO_3.out, bb HB⟩
   rw [if_pos c2] at H
   have c2b0 : decide (x4_1 < (l0.length : Int)) = true := decide_eq_true c2
   clear c2
   by_cases c3 : 0 ≤ x4_1
   rotate_left
   ·rw [if_neg c3] at H
    exact absurd H (by simp)
   rw [if_pos c3] at H
   have c3b0 : decide (0 ≤ x4_1) = true := decide_eq_true c3
   clear c3
   by_cases c4 : x3_1.length < 17592186044416
   rotate_left
   ·rw [if_neg c4] at H
    exact absurd H (by simp)
   rw [if_pos c4] at H
   have LMc4 := Aside0.mk c4
   clear c4
   obtain ⟨y405, hy405⟩ : ∃ y_ : List Int, y_ = (x3_1 ++ [(rd_T57 l0 x4_1).f0]) := ⟨_, rfl⟩
   replace H : (r3_Numbers.l0 k1 l0 y405 (wrap64 (x4_1 + 1))) = some r := by first | (rw [hy405]; with_reducible exact H) | (have H2_ := (Option.bind_some _ _).symm.trans H; rw [hy405]; with_reducible exact H2_) | (have H2_ := (Option.bind_some _ _).symm.trans H; with_reducible exact H2_) | with_reducible exact H | (rw [hy405]; exact H) | exact H
   have Ny405 := Aside0.mk hy405
   clear hy405
   have H' := Aside0.mk H
   clear H
   have p404 : 0 ≤ (x4_1 : Int) := od
   have q404 : x4_1 < (l0.length : Int) := od
   obtain ⟨ad404, A404_3, c404_3, A404_4, c404_4, A404_5, c404_5, e404, hx404_0, hx404_1, hx404_2, hx404_3, hx404_4, hx404_5, hl404_3, hi404_3, hl404_4, hi404_4, hl404_5, hi404_5⟩ := at_T57 HR0.out x4_1 p404 q404
   cases e404
   replace hx404_0 := bcell HB.out hx404_0
   replace hx404_1 := bcell HB.out hx404_1
   replace hx404_2 := bcell HB.out hx404_2
   replace hx404_3 := bcell HB.out hx404_3
   replace hx404_4 := bcell HB.out hx404_4
   replace hx404_5 := bcell HB.out hx404_5
   have HR404_3 := Aside0.mk hi404_3
   have HC404_3 := Aside0.mk hl404_3
   clear hi404_3 hl404_3
   have HR404_4 := Aside0.mk hi404_4
   have HC404_4 := Aside0.mk hl404_4
   clear hi404_4 hl404_4
   have HR404_5 := Aside0.mk hi404_5
   have HC404_5 := Aside0.mk hl404_5
   clear hi404_5 hl404_5
   replace p404 := eq_true p404
   replace q404 := eq_true q404
   go_wp2_with (first | ((with_reducible refine gate_builtin (b := .append) (xs := #[.tmp 11, .tmp 17]) rfl ?_); at_builtin; refine Kd.R_append (Kd.int .i64) (w0 := w) w.heap.size rfl (.tmp 11) (.tmp 17) 26 3 (.int .i64 0) 8 rfl Try.underlying26 info3 rfl (by decide) (by omega) u3 x3_1 ((rd_T57 l0 x4_1).f0) [.int .i64 ((rd_T57 l0 x4_1).f0)] (fun _ => True) (fun _ => False) rfl rfl ?aP (fun _ hk => hk.elim) ?aF ?aO ?aB ?aS ?aL ?_; (case aP => exact rfl); (case aB => exact (bb HB)); (case aF => exact (fun _ _ => trivial)); (case aO => exact (iR HO_3)); (case aS => exact (bsz (bb HB))); (case aL => have := LMc4.out; omega); intro v406 w5 ho hb hg hat; rw [← Ny405.out] at ho; have HO407 := Aside0.mk (ho); replace HB := Aside0.mk (hb); clear HO_3; clear ho hb hg hat))
   go_roundg k1
   case measure => have := HK1.out; omega
   case rel => exact ⟨(y405), (wrap64 (x4_1 + 1)), rs, H', ⟨by have := HK1.out; omega⟩, ⟨by (with_reducible repeat (first | apply Kd.R_alloc | apply Kd.R_drewN | apply Kd.R_drew)); exact HO407.out⟩, ⟨bb HB⟩⟩
def itm (x : Int × S47) : S57 := ⟨x.1, x.2⟩
def itemsOf (n : Int) : List S47 → List S57
  | [] => []
  | x :: r => ⟨n, x⟩ :: itemsOf (n + sC x) r
theorem itemsOf_length : ∀ (l : List S47) (n : Int), (itemsOf n l).length = l.length
  | [], _ => rfl
  | x :: r, n => by rw [itemsOf, List.length_cons, List.length_cons, itemsOf_length r]
theorem s_eta (x : S47) : (⟨x.f0, x.f1, x.f2, x.f3, x.f4⟩ : S47) = x := by cases x; rfl
theorem rdI_mid (pre : List S57) (x : S57) (r : List S57) : rd_T57 (pre ++ x :: r) (pre.length : Int) = x := getD_mid pre x _ r
theorem items_loop : ∀ (suf pre : List S47) (n : Int) (acc : List S57), goodSs suf → (pre ++ suf).length ≤ 9223372036854775807 → sNs suf ≤ 1000 → 0 ≤ n → n + sCs suf ≤ 1000000 → acc.length + suf.length ≤ 2000 →
    Tells (fun k => r3_Items.l0 k (pre ++ suf) n acc (pre.length : Int)) (acc ++ itemsOf n suf)
  | [], pre, n, acc, _, _, _, _, _, _ => by
    refine Tells.succ ?_
    simp only [r3_Items.l0, pre_nlt, if_false, itemsOf]
    rw [List.append_nil]
    exact Tells.pure _
  | x :: r, pre, n, acc, hg, hl, hs, h0, hn, ha => by
    rw [goodSs_cons] at hg
    rw [sNs_cons] at hs
    rw [sCs_cons] at hn
    rw [List.length_cons] at ha
    have hle := (s_le.1 x).1
    have hsc := sC_eq x
    obtain ⟨t1, t2⟩ := rcount_tells.1 x hg.1 (by omega)
    have t3 := items_loop r (pre ++ [x]) (n + sC x) (acc ++ [⟨n, x⟩]) hg.2 (by rw [← pre_app]; exact hl) (by omega) (by omega) (by omega) (by rw [List.length_append, List.length_singleton]; omega)
    rw [← pre_app, List.append_assoc] at t3
    refine Tells.succ ?_
    simp only [r3_Items.l0, pre_lt, pre_pos, if_true, rdS_mid, s_eta]
    refine Tells.ifT (by omega) (Tells.bind t1 (Tells.bind t2 ?_))
    rw [pre_next pre x r hl, w64 (n := n + 1) (by omega) (by omega), w64 (n := n + 1 + (sCs x.f3 : Int)) (by omega) (by omega), w64 (n := n + 1 + (sCs x.f3 : Int) + (sCs x.f4 : Int)) (by omega) (by omega), show n + 1 + (sCs x.f3 : Int) + (sCs x.f4 : Int) = n + sC x by omega]
    exact t3
theorem items_tells (l : List S47) (n : Int) (hg : goodSs l) (hl : l.length ≤ 9223372036854775807) (hs : sNs l ≤ 1000) (h0 : 0 ≤ n) (h1 : n ≤ 900000) : Tells (fun k => r3_Items.f k l n) (itemsOf n l) := by
  unfold r3_Items.f
  have h2 := sNs_len l
  have h3 := (s_le.2 l).1
  exact items_loop l [] n [] hg hl hs h0 (by omega) (by rw [List.length_nil]; omega)
theorem then_tells (x : S47) (n : Int) (hg : goodS x) (hs : sN x ≤ 1000) (h0 : 0 ≤ n) (h1 : n ≤ 800000) : Tells (fun k => r3_Then.f k n x.f0 x.f1 x.f2 x.f3 x.f4) (itemsOf (n + 1) x.f3) := by
  rw [goodS_eq] at hg
  rw [sN_eq] at hs
  unfold r3_Then.f
  rw [w64 (n := n + 1) (by omega) (by omega)]
  exact Tells.bind (items_tells x.f3 (n + 1) hg.2.1.2 hg.2.1.1 (by omega) (by omega) (by omega)) (Tells.pure _)
theorem else_tells (x : S47) (n : Int) (hg : goodS x) (hs : sN x ≤ 1000) (h0 : 0 ≤ n) (h1 : n ≤ 800000) : Tells (fun k => r3_Else.f k n x.f0 x.f1 x.f2 x.f3 x.f4) (itemsOf (n + 1 + sCs x.f3) x.f4) := by
  obtain ⟨t1, _⟩ := rcount_tells.1 x hg (by omega)
  rw [goodS_eq] at hg
  rw [sN_eq] at hs
  have h3 := (s_le.2 x.f3).1
  unfold r3_Else.f
  refine Tells.bind t1 ?_
  rw [w64 (n := n + 1) (by omega) (by omega), w64 (n := n + 1 + (sCs x.f3 : Int)) (by omega) (by omega)]
  exact Tells.bind (items_tells x.f4 (n + 1 + sCs x.f3) hg.2.2.2 hg.2.2.1 (by omega) (by omega) (by omega)) (Tells.pure _)
theorem all_items : (∀ x, goodS x → sN x ≤ 1000 → ∀ n : Int, 0 ≤ n → n + sN x ≤ 702000 → Tells (fun k => r3_All.f k (itemsOf (n + 1) x.f3)) ((wks (n + 1) x.f3).map itm) ∧ Tells (fun k => r3_All.f k (itemsOf (n + 1 + sCs x.f3) x.f4)) ((wks (n + 1 + sCs x.f3) x.f4).map itm)) ∧
    (∀ suf, goodSs suf → sNs suf ≤ 1000 → ∀ (pre acc : List S57) (n : Int), 0 ≤ n → n + sNs suf ≤ 702000 → (pre ++ itemsOf n suf).length ≤ 9223372036854775807 → acc.length + sCs suf ≤ 100000 →
      Tells (fun k => r3_All.l0 k (pre ++ itemsOf n suf) acc (pre.length : Int)) (acc ++ (wks n suf).map itm)) := by
  refine S_ind (fun a b l t e h1 h2 => ?_) ?_ (fun x r ih1 ih2 => ?_)
  · intro hg hs n h0 h1n
    rw [goodS_mk] at hg
    rw [sN_eq] at hs h1n
    simp only at hs h1n ⊢
    have l3 := (s_le.2 t).1
    have l4 := (s_le.2 e).1
    constructor
    · refine Tells.succ ?_
      simp only [r3_All.f]
      exact h1 hg.2.1.2 (by omega) [] [] (n + 1) (by omega) (by omega) (by rw [List.nil_append, itemsOf_length]; exact hg.2.1.1) (by rw [List.length_nil]; omega)
    · refine Tells.succ ?_
      simp only [r3_All.f]
      exact h2 hg.2.2.2 (by omega) [] [] (n + 1 + sCs t) (by omega) (by omega) (by rw [List.nil_append, itemsOf_length]; exact hg.2.2.1) (by rw [List.length_nil]; omega)
  · intro _ _ pre acc n _ _ _ _
    refine Tells.succ ?_
    simp only [itemsOf, wks_nil, List.map_nil, r3_All.l0, pre_nlt, if_false]
    rw [List.append_nil]
    exact Tells.pure _
  · intro hg hs pre acc n h0 hn hl ha
    rw [goodSs_cons] at hg
    rw [sNs_cons] at hs hn
    rw [sCs_cons] at ha
    have hle := (s_le.1 x).1
    have hsc := sC_eq x
    obtain ⟨t1, t2⟩ := ih1 hg.1 (by omega) n h0 (by omega)
    have t3 := ih2 hg.2 (by omega) (pre ++ [⟨n, x⟩]) (acc ++ [⟨n, x⟩] ++ (wks (n + 1) x.f3).map itm ++ (wks (n + 1 + sCs x.f3) x.f4).map itm) (n + sC x) (by omega) (by omega) (by rw [← pre_app]; exact hl)
      (by simp only [List.length_append, List.length_singleton, List.length_map, (wks_len.1 x).1, (wks_len.1 x).2]; omega)
    rw [← pre_app] at t3
    have hL : (acc ++ [(⟨n, x⟩ : S57)]).length = acc.length + 1 := by rw [List.length_append, List.length_singleton]
    refine Tells.succ ?_
    rw [itemsOf] at hl ⊢
    simp only [r3_All.l0, pre_lt, pre_pos, if_true, rdI_mid, s_eta, Option.bind_some]
    refine Tells.ifT (by omega) (Tells.bind (then_tells x n hg.1 (by omega) h0 (by omega)) (Tells.bind t1 (Tells.ifT ?_ (Tells.bind (else_tells x n hg.1 (by omega) h0 (by omega)) (Tells.bind t2 (Tells.ifT ?_ ?_))))))
    · rw [hL, List.length_map, (wks_len.1 x).1]; omega
    · rw [List.length_append, hL, List.length_map, List.length_map, (wks_len.1 x).1, (wks_len.1 x).2]; omega
    · rw [pre_next pre (⟨n, x⟩ : S57) _ hl]
      have e : acc ++ [(⟨n, x⟩ : S57)] ++ (wks (n + 1) x.f3).map itm ++ (wks (n + 1 + sCs x.f3) x.f4).map itm ++ (wks (n + sC x) r).map itm = acc ++ (wks n (x :: r)).map itm := by
        rw [wks_cons, wkS_eq, List.map_append, List.map_cons, List.map_append]
        simp only [List.append_assoc, List.cons_append, List.nil_append, itm]
      rw [e] at t3
      exact t3
theorem every_tells (w : Int) (vars : List S82) (l : List S47) (hg : goodSs l) (hl : l.length ≤ 9223372036854775807) (hs : sNs l ≤ 1000) : Tells (fun k => r3_Every.f k w vars l) ((wks 0 l).map itm) := by
  unfold r3_Every.f
  refine Tells.bind (items_tells l 0 hg hl hs (by decide) (by decide)) (Tells.bind ?_ (Tells.pure _))
  refine Tells.succ ?_
  simp only [r3_All.f]
  have h3 := (s_le.2 l).1
  exact all_items.2 l hg hs [] [] 0 (by decide) (by omega) (by rw [List.nil_append, itemsOf_length]; exact hl) (by rw [List.length_nil]; omega)
theorem nums_loop : ∀ (suf : List S47) (pre : List S57) (n : Int) (acc : List Int), (pre ++ itemsOf n suf).length ≤ 9223372036854775807 → acc.length + suf.length ≤ 100000 →
    Tells (fun k => r3_Numbers.l0 k (pre ++ itemsOf n suf) acc (pre.length : Int)) (acc ++ heads n suf)
  | [], pre, n, acc, _, _ => by
    refine Tells.succ ?_
    simp only [itemsOf, heads, r3_Numbers.l0, pre_nlt, if_false]
    rw [List.append_nil]
    exact Tells.pure _
  | x :: r, pre, n, acc, hl, ha => by
    rw [List.length_cons] at ha
    have t3 := nums_loop r (pre ++ [⟨n, x⟩]) (n + sC x) (acc ++ [n]) (by rw [← pre_app]; exact hl) (by rw [List.length_append, List.length_singleton]; omega)
    rw [← pre_app, List.append_assoc] at t3
    refine Tells.succ ?_
    rw [itemsOf] at hl ⊢
    simp only [r3_Numbers.l0, pre_lt, pre_pos, if_true, rdI_mid]
    refine Tells.ifT (by omega) ?_
    rw [pre_next pre (⟨n, x⟩ : S57) _ hl]
    exact t3
theorem nums_tells (l : List S47) (n : Int) (hs : sNs l ≤ 1000) : Tells (fun k => r3_Numbers.f k (itemsOf n l)) (heads n l) := by
  unfold r3_Numbers.f
  have h2 := sNs_len l
  exact nums_loop l [] n [] (by rw [List.nil_append, itemsOf_length]; omega) (by rw [List.length_nil]; omega)
theorem wks_ok (w : Int) (vars : List S82) : (∀ x : S47, sOK w vars x = true → (∀ n, ∀ y ∈ wks n x.f3, sOK w vars y.2 = true) ∧ (∀ n, ∀ y ∈ wks n x.f4, sOK w vars y.2 = true)) ∧ (∀ l, sOKs w vars l = true → ∀ n, ∀ y ∈ wks n l, sOK w vars y.2 = true) := by
  refine S_ind (fun a b l t e h1 h2 hg => ?_) (fun _ n y hy => by rw [wks_nil] at hy; cases hy) (fun x r ih1 ih2 => ?_)
  · rw [sOK_eq] at hg
    simp only [Bool.and_eq_true] at hg
    exact ⟨h1 hg.2.1, h2 hg.2.2.1⟩
  · intro hg n y hy
    rw [sOKs_cons, Bool.and_eq_true] at hg
    rw [wks_cons, wkS_eq, List.mem_append, List.mem_cons, List.mem_append] at hy
    rcases hy with (rfl | hy | hy) | hy
    · exact hg.1
    · exact (ih1 hg.1).1 _ y hy
    · exact (ih1 hg.1).2 _ y hy
    · exact ih2 hg.2 _ y hy
theorem not_zero (w : Int) (vars : List S82) (x : S47) (h : sOK w vars x = true) : Tells (fun k => r3_SameStmt.f k x.f0 x.f1 x.f2 x.f3 x.f4 0 0 [] [] []) false := by
  rw [sOK_eq, Bool.and_eq_true] at h
  have hh := h.1
  unfold headB at hh
  rw [Bool.and_eq_true, decide_eq_true_eq] at hh
  refine Tells.succ ?_
  simp only [r3_SameStmt.f]
  by_cases h0 : x.f0 = 0
  · refine Tells.ifT h0 ?_
    by_cases h1 : x.f1 = 0
    · refine Tells.ifT h1 ?_
      have hne : ¬ ((x.f2.length : Int) = (([] : List S96).length : Int)) := by
        have := hh.1
        rw [h0, h1] at this
        unfold argVal at this
        rw [if_pos rfl] at this
        rw [List.length_nil]
        split at this
        · split at this <;> omega
        · omega
      refine Tells.bind (x := false) ?_ (Tells.ifF (by decide) (Tells.pure _))
      unfold r3_exprs.f
      exact Tells.ifF hne (Tells.pure _)
    · exact Tells.ifF h1 (Tells.pure _)
  · exact Tells.ifF h0 (Tells.pure _)
def cs (l : List S82) : Int := (l.map (·.f2)).sum
def r1_Same.l0 : Nat → List Int → List Int → Int → Option (Bool)
 | 0, _, _, _ => none
 | k + 1, x0, x1, x5 => if x5 < (x0.length : Int) then (if 0 ≤ x5 then (if x5 < (x1.length : Int) then (if (rd x0 x5) = (rd x1 x5) then (r1_Same.l0 k x0 x1 (wrap64 (x5 + 1))) else (some false)) else (none)) else (none)) else (some true)
def r1_Same.f (k : Nat) (l0 : List Int) (l1 : List Int) : Option (Bool) := if (l0.length : Int) = (l1.length : Int) then (r1_Same.l0 k l0 l1 0) else (some false)
theorem r1_Same.calls (k : Nat) (A0 : Option Addr) (c0 : Nat) (l0 : List Int) (A1 : Option Addr) (c1 : Nat) (l1 : List Int) (r : Bool) (w : World) (hr0 : Kd.C (Kd.int .i64) w A0 l0.length l0) (hc0 : l0.length ≤ c0) (hr1 : Kd.C (Kd.int .i64) w A1 l1.length l1) (hc1 : l1.length ≤ c1) (h : r1_Same.f k l0 l1 = some r) :
  Calls Try.prog 19 #[.slice A0 l0.length c0, .slice A1 l1.length c1] w fun e w' => e = .returned (.bool r) ∧ Drawn0 w w' := by
 have HR0 := Aside0.mk hr0
 have HC0 := Aside0.mk hc0
 clear hr0 hc0
 have HR1 := Aside0.mk hr1
 have HC1 := Aside0.mk hc1
 clear hr1 hc1
 have H : (if (l0.length : Int) = (l1.length : Int) then (r1_Same.l0 k l0 l1 0) else (some false)) = some r := h
 clear h
 by_cases c3 : (l0.length : Int) = (l1.length : Int)
 rotate_left
 ·rw [if_neg c3] at H
  have c3b0 : ((l0.length : Int) == (l1.length : Int)) = false := beq_eq_false_iff_ne.mpr c3
  have c3b1 : ((l0.length : Int) != (l1.length : Int)) = true := bne_iff_ne.mpr c3
  have c3b2 : (l0.length == l1.length) = false := by first | simpa using c3 | (simp at c3 ⊢; omega)
  obtain rfl := Option.some.inj H
  go_enter Try.func19, Try.ntmps19
  go_wp2
  repeat (go_quiet (fail); try go_wp2)
  go_ret
  exact ⟨rs, dr⟩
 rw [if_pos c3] at H
 have c3b0 : ((l0.length : Int) == (l1.length : Int)) = true := beq_iff_eq.mpr c3
 have c3b1 : ((l0.length : Int) != (l1.length : Int)) = false := bne_eq_false_iff_eq.mpr c3
 have c3b2 : (l0.length == l1.length) = true := by first | simpa using c3 | (simp at c3 ⊢; omega)
 clear c3
 have H' := Aside0.mk H
 clear H
 go_enter Try.func19, Try.ntmps19
 go_wp2
 repeat (go_quiet (fail); try go_wp2)
 go_loopg [5] k (fun kq v5 w' => ∃ (x5_1 : Int), v5 = .int .i64 x5_1 ∧ Aside0 (r1_Same.l0 kq l0 l1 x5_1 = some r) ∧ Aside0 (kq ≤ k) ∧ Drawn0 w w')
 case atStart => exact ⟨(0), rs, H', ⟨Nat.le_refl _⟩, dr⟩
 case round =>
  clear H'
  try clear c1
  try clear p2
  try clear c3
  try clear c3b0
  try clear c3b1
  try clear c3b2
  obtain ⟨x5_1, rfl, HA, HK1, ⟨m1, rfl⟩⟩ := hrel
  cases gk with
  | zero => exact absurd HA.out (by simp [r1_Same.l0])
  | succ k1 =>
   have H := HA.out
   clear HA
   simp only [r1_Same.l0] at H
   by_cases c4 : x5_1 < (l0.length : Int)
   rotate_left
   ·rw [if_neg c4] at H
    have c4b0 : decide (x5_1 < (l0.length : Int)) = false := decide_eq_false c4
    clear c4
    obtain rfl := Option.some.inj H
    go_wp2
    repeat (go_quiet (fail); try go_wp2)
    go_ret
    exact ⟨rs, dr⟩
   rw [if_pos c4] at H
   have c4b0 : decide (x5_1 < (l0.length : Int)) = true := decide_eq_true c4
   clear c4
   by_cases c5 : 0 ≤ x5_1
   rotate_left
   ·rw [if_neg c5] at H
    exact absurd H (by simp)
   rw [if_pos c5] at H
   have c5b0 : decide (0 ≤ x5_1) = true := decide_eq_true c5
   clear c5
   by_cases c6 : x5_1 < (l1.length : Int)
   rotate_left
   ·rw [if_neg c6] at H
    exact absurd H (by simp)
   rw [if_pos c6] at H
   have c6b0 : decide (x5_1 < (l1.length : Int)) = true := decide_eq_true c6
   clear c6
   by_cases c7 : (rd l0 x5_1) = (rd l1 x5_1)
   rotate_left
   ·rw [if_neg c7] at H
    have c7b0 : ((rd l0 x5_1) == (rd l1 x5_1)) = false := beq_eq_false_iff_ne.mpr c7
    have c7b1 : ((rd l0 x5_1) != (rd l1 x5_1)) = true := bne_iff_ne.mpr c7
    obtain rfl := Option.some.inj H
    have p163 : 0 ≤ (x5_1 : Int) := od
    have q163 : x5_1 < (l0.length : Int) := od
    obtain ⟨ad163, e163, hx163_0⟩ := Kd.at_int HR0.out x5_1 p163 q163
    cases e163
    replace p163 := eq_true p163
    replace q163 := eq_true q163
    have p164 : 0 ≤ (x5_1 : Int) := od
    have q164 : x5_1 < (l1.length : Int) := od
    obtain ⟨ad164, e164, hx164_0⟩ := Kd.at_int HR1.out x5_1 p164 q164
    cases e164
    replace p164 := eq_true p164
    replace q164 := eq_true q164
    go_wp2
    repeat (go_quiet (fail); try go_wp2)
    go_ret
    exact ⟨rs, dr⟩
   rw [if_pos c7] at H
   have c7b0 : ((rd l0 x5_1) == (rd l1 x5_1)) = true := beq_iff_eq.mpr c7
   have c7b1 : ((rd l0 x5_1) != (rd l1 x5_1)) = false := bne_eq_false_iff_eq.mpr c7
   clear c7
   have H' := Aside0.mk H
   clear H
   have p163 : 0 ≤ (x5_1 : Int) := od
   have q163 : x5_1 < (l0.length : Int) := od
   obtain ⟨ad163, e163, hx163_0⟩ := Kd.at_int HR0.out x5_1 p163 q163
   cases e163
   replace p163 := eq_true p163
   replace q163 := eq_true q163
   have p164 : 0 ≤ (x5_1 : Int) := od
   have q164 : x5_1 < (l1.length : Int) := od
   obtain ⟨ad164, e164, hx164_0⟩ := Kd.at_int HR1.out x5_1 p164 q164
   cases e164
   replace p164 := eq_true p164
   replace q164 := eq_true q164
   go_wp2
   repeat (go_quiet (fail); try go_wp2)
   go_roundg k1
   case measure => have := HK1.out; omega
   case rel => exact ⟨(wrap64 (x5_1 + 1)), rs, H', ⟨by have := HK1.out; omega⟩, dr⟩
theorem rd_mid (pre : List Int) (x : Int) (r : List Int) : rd (pre ++ x :: r) (pre.length : Int) = x := getD_mid pre x _ r
theorem same_loop : ∀ (suf pre : List Int), (pre ++ suf).length ≤ 9223372036854775807 → Tells (fun k => r1_Same.l0 k (pre ++ suf) (pre ++ suf) (pre.length : Int)) true
  | [], pre, _ => by
    refine Tells.succ ?_
    simp only [r1_Same.l0, pre_nlt, if_false]
    exact Tells.pure _
  | s :: r, pre, hl => by
    refine Tells.succ ?_
    simp only [r1_Same.l0, pre_lt, pre_pos, if_true, rd_mid]
    have ih := same_loop r (pre ++ [s]) (by rw [← pre_app]; exact hl)
    rw [← pre_app] at ih
    rw [pre_next pre s r hl]
    exact ih
theorem same_tells (l : List Int) (hl : l.length ≤ 9223372036854775807) : Tells (fun k => r1_Same.f k l l) true := by
  unfold r1_Same.f
  exact Tells.ifT rfl (same_loop l [] hl)
end Go.Proofs.Ytffcpbgbhkbplaa.Print
namespace Go.Proofs.Ytffcpbgbhkbplaa.Print
open Go.RowKit Go.Proofs.YtffcpbgbhkbplaaW.PrintWords Go.Proofs.YtffcpbgbhkbplaaW.PrintLast Go.Proofs.YtffcpbgbhkbplaaW.PrintMore
attribute [local go_sem] max2_int min2_int max_two min_two max_three min_three max_four min_four
set_option linter.unusedVariables false
set_option linter.unusedSimpArgs false
open Go.Shelf Go.RowKit
def SeqW {α : Type} (P : Program) (gf : Nat) (lb : Array Value) (E : α → Array Value → World → Prop) (its : List α) (w0 : World) (Pre : World → Prop) : Prop :=
  ∀ (m l : Nat) (J Jx : List α → World → Prop) (go : List α → α → Bool) (W : World), Below w0.heap.size w0 W → Pre W →
    (∀ pre A B, J pre A → Below W.heap.size A B → J pre B) →
    (∀ pre A (j : Nat) (o o' : Obj), W.heap.size ≤ j → Jx pre A → A.heap[j]? = some o → o.isCells = false → Jx pre (A.putObj j o')) →
    (∀ pre x av A, J pre A → E x av A → Below w0.heap.size w0 A → W.heap.size ≤ A.heap.size → (pre ++ [x]) <+: its → YieldAt Fence.wide m P l av A fun e B =>
      e = .returned (.bool (go pre x)) ∧ (go pre x = true → J (pre ++ [x]) B ∧ Keeps W.heap.size none A B ∧ Below w0.heap.size w0 B) ∧ (go pre x = false → Jx (pre ++ [x]) B ∧ ∀ k, W.heap.size ≤ k → k < A.heap.size → B.heap[k]? = A.heap[k]?)) →
    J [] W →
    CallsIn Fence.wide m P gf (#[.func (.yield l) #[] #[]] ++ lb) W fun e W' => (∃ v, e = .returned v) ∧
      ((stopAt go [] its = none ∧ J its W' ∧ Below w0.heap.size w0 W') ∨ (∃ q, stopAt go [] its = some q ∧ Jx q W'))
theorem wpIn_rangeW {α : Type} {n : Nat} {P : Program} {g : Operand} {ps : Array Tmp} {assign body : Code} {Q : Exit → Act → World → Prop} {a : Act} {w : World} {gf : Nat} {lb : Array Value}
    (hg : a.eval g = .func (.func gf) #[] lb) (eg : ∀ args w, (callFunc gf args).run P w = .ok (.enter gf args) w)
    {E : α → Array Value → World → Prop} {its : List α} {w0 : World} {Pre : World → Prop} (hseq : SeqW P gf lb E its w0 Pre) (hpre : ∀ W1, Below w.heap.size w W1 → Pre W1) (hb0 : Below w0.heap.size w0 w) (hps : ∀ x av A, E x av A → av.size = ps.size)
    (go : List α → α → Bool) (I : List α → World → Prop) (Ix : Code → List α → World → Prop)
    (hI : ∀ pre A B, I pre A → Below w.heap.size A B → I pre B) (hIx : ∀ c pre A (j : Nat) (o o' : Obj), w.heap.size ≤ j → Ix c pre A → A.heap[j]? = some o → o.isCells = false → Ix c pre (A.putObj j o')) (h0 : I [] w)
    (hround : ∀ l pre x av W, I pre W → E x av W → (pre ++ [x]) <+: its → Below w0.heap.size w0 W → w.heap.size + 2 ≤ W.heap.size →
      assign.wpIn (Fence.wide.inRound l) n P (Exit.then (fun a1 W1 => W.grownBy W1 none ∧ ∀ W2, W1.grownBy W2 (some (w.heap.size + 1)) → W2.heap.size = W1.heap.size → I pre W2 → Below w0.heap.size w0 W2 →
        body.wpIn (Fence.wide.inRound l) n P (roundBy w.heap.size w0 I Ix go pre x W W2) a1 W2) (fun _ _ _ => False)) { tmps := (ps.zip av).foldl (fun t (p, v) => t.setIfInBounds p v) a.tmps, defers := [] } W)
    (hdone : ∀ W, stopAt go [] its = none → I its W → Below w0.heap.size w0 W → W.heap[w.heap.size]? = some (.deferred (some [])) → Q .normal { a with defers := { target := .collected w.heap.size, args := #[] } :: a.defers } W)
    (hstop : ∀ c q W, stopAt go [] its = some q → Ix c q W → W.heap[w.heap.size]? = some (.deferred (some [])) → c.wpIn Fence.wide n P Q { a with defers := { target := .collected w.heap.size, args := #[] } :: a.defers } W) :
    (Code.rangeFunc g ps assign body).wpIn Fence.wide n P Q a w := by
  refine wpIn_rangeFunc ?_
  intro fn hfn
  obtain ⟨rec, hrec⟩ : ∃ rec : LoopState → Option Code → Loop, rec = fun st pe => { state := st, pending := pe, fn, tmps := a.tmps, params := ps, assign, body, defers := w.heap.size } := ⟨_, rfl⟩
  obtain ⟨W1, hW1⟩ : ∃ W1, (w.alloc (.deferred (some []))).alloc (.loop (rec .ready none)) = W1 := ⟨_, rfl⟩
  have hL1 : W1.heap[w.heap.size + 1]? = some (.loop (rec .ready none)) := by
    rw [← hW1]; have := World.alloc_heap_new (w.alloc (.deferred (some []))) (.loop (rec .ready none)); rwa [World.size_alloc] at this
  have hK1 : W1.heap[w.heap.size]? = some (.deferred (some [])) := by
    rw [← hW1]; exact (Below.heap_alloc _ _ _ (by simp)).trans (World.alloc_heap_new w _)
  have hS1 : W1.heap.size = w.heap.size + 2 := by rw [← hW1]; simp
  have hw1 : Below w.heap.size w W1 := by
    rw [← hW1]; exact ((Below.refl _ w).alloc (Nat.le_refl _) _).alloc (by simp) _
  have hI1 : I [] W1 := hI _ _ _ h0 hw1
  have hb1 : Below w0.heap.size w0 W1 := hb0.trans (hw1.mono hb0.size)
  have hB0 : w0.heap.size ≤ w.heap.size := hb0.size
  refine ⟨w.heap.size + 1, [{ target := .collected w.heap.size, args := #[] }], W1, { target := .fn (.func gf) lb, args := #[.func (.yield (w.heap.size + 1)) #[] #[]] }, W1, gf,
    #[.func (.yield (w.heap.size + 1)) #[] #[]] ++ lb, W1, ?_, ?_, ?_, ?_, wide_depth, ?_⟩
  · rw [← hW1, hrec]; exact run_enterLoop_outer _ _ _ _ _
  · simp only [resolve, hg]
    simp [go_sem]
  · intro f' hf'; trivial
  · simp [invoke, go_sem, eg]
  refine (hseq (n - 1) (w.heap.size + 1)
    (fun pre W => I pre W ∧ W.heap[w.heap.size + 1]? = some (.loop (rec .ready none)) ∧ W.heap[w.heap.size]? = some (.deferred (some [])))
    (fun pre W => ∃ c, Ix c pre W ∧ W.heap[w.heap.size + 1]? = some (.loop (rec .done (some c))) ∧ W.heap[w.heap.size]? = some (.deferred (some [])))
    go W1 hb1 (hpre W1 hw1)
    (fun pre A B hs hb => ⟨hI _ _ _ hs.1 (hb.mono (by omega)), (hb.block _ (by omega)).trans hs.2.1, (hb.block _ (by omega)).trans hs.2.2⟩)
    (fun pre A j o o' hj hs hA ho => by
      obtain ⟨c, h1, h2, h3⟩ := hs
      exact ⟨c, hIx _ _ _ _ _ _ (by omega) h1 hA ho, (World.putObj_heap_other (by omega)).trans h2, (World.putObj_heap_other (by omega)).trans h3⟩)
    ?_ ⟨hI1, hL1, hK1⟩).mono ?_
  · rintro pre x av W ⟨hi, hl, hk⟩ hE hbW hsz hpre
    have hlt : w.heap.size + 1 < W.heap.size := (Array.getElem?_eq_some_iff.1 hl).1
    have hy := run_yield (P := P) (args := av) hl (by rw [hrec]; exact hps x av W hE)
    rw [hrec] at hy
    refine ⟨fn, _, assign, body, hy, round_any (roundIn_of_wpIn (n := n) trivial ?_)⟩
    refine wpIn_mono (hround (w.heap.size + 1) pre x av W hi hE hpre hbW (by omega)) ?_
    rintro e a1 Wa hp
    cases e with
    | normal =>
      obtain ⟨hga, hbd⟩ := hp
      have hla := (hga.block _ hlt (by simp)).trans hl
      have hka := (hga.block _ (by omega : w.heap.size < W.heap.size) (by simp)).trans hk
      have hgs := hga.size
      have hlta : w.heap.size + 1 < Wa.heap.size := by omega
      refine ⟨_, run_beginRound hla (by rw [hrec]), ?_⟩
      have hg2 := grownBy_putObj' Wa (w.heap.size + 1) (.loop { rec .ready none with state := .busy })
      have hl2 : (Wa.putObj (w.heap.size + 1) (.loop { rec .ready none with state := .busy })).heap[w.heap.size + 1]? = some (.loop { rec .ready none with state := .busy }) := World.putObj_heap_same hlta
      have hk2 : (Wa.putObj (w.heap.size + 1) (.loop { rec .ready none with state := .busy })).heap[w.heap.size]? = some (.deferred (some [])) := (World.putObj_heap_other (by omega)).trans hka
      have hs2 : (Wa.putObj (w.heap.size + 1) (.loop { rec .ready none with state := .busy })).heap.size = Wa.heap.size := by simp
      have hba : Below w.heap.size W Wa := ⟨hga.os, hga.tape, hga.output, hga.size, fun k hk => hga.block k (by omega) (by simp)⟩
      have hb2 : Below w.heap.size W (Wa.putObj (w.heap.size + 1) (.loop { rec .ready none with state := .busy })) := hba.trans (below_put _ _ _ (by omega))
      generalize Wa.putObj (w.heap.size + 1) (.loop { rec .ready none with state := .busy }) = W2 at hg2 hl2 hk2 hs2 hb2 ⊢
      refine wpIn_mono (hbd W2 hg2 hs2 (hI _ _ _ hi hb2) (hbW.trans (hb2.mono hB0))) ?_
      have fin : ∀ (jump : Option Code) (W3 : World), (∀ k, w.heap.size ≤ k → k < W.heap.size → W3.heap[k]? = W2.heap[k]?) →
          (Instr.endRound (w.heap.size + 1) jump).run P W3 = .ok (.bool jump.isNone) (W3.putObj (w.heap.size + 1) (.loop (rec (if jump.isNone then .ready else .done) jump))) ∧
          (W3.putObj (w.heap.size + 1) (.loop (rec (if jump.isNone then .ready else .done) jump))).heap[w.heap.size + 1]? = some (.loop (rec (if jump.isNone then .ready else .done) jump)) ∧
          (W3.putObj (w.heap.size + 1) (.loop (rec (if jump.isNone then .ready else .done) jump))).heap[w.heap.size]? = some (.deferred (some [])) ∧ W3.heap[w.heap.size + 1]? = some (.loop { rec .ready none with state := .busy }) := fun jump W3 hk3 => by
        have hl3 := (hk3 _ (by omega) hlt).trans hl2
        have := run_endRound (P := P) jump hl3
        rw [hrec] at this ⊢
        exact ⟨this, World.putObj_heap_same (Array.getElem?_eq_some_iff.1 hl3).1, (World.putObj_heap_other (by omega)).trans ((hk3 _ (Nat.le_refl _) (by omega)).trans hk2), by rw [hrec] at hl3; exact hl3⟩
      rintro e3 a3 W3 hq
      cases e3 with
      | normal =>
        obtain ⟨hgo, hsz3, hk3, hb3, hi3⟩ := hq
        obtain ⟨hr, hl4, hk4, hl3⟩ := fin none W3 hk3
        have hp3 := below_put w.heap.size W3 (.loop (rec .ready none)) (by omega : w.heap.size ≤ w.heap.size + 1)
        have hg3 := grownBy_putObj' W3 (w.heap.size + 1) (.loop (rec .ready none))
        refine ⟨_, _, hr, by rw [hgo]; rfl, fun _ => ⟨⟨hI _ _ _ hi3 hp3, hl4, hk4⟩, ⟨?_, ?_⟩, hb3.trans (hp3.mono hB0)⟩, fun h => by rw [hgo] at h; cases h⟩
        · have := hg3.size; simp only [Option.isNone_none, if_true]; omega
        · intro k h1 h2 _
          simp only [Option.isNone_none, if_true]
          rw [World.putObj_heap_other (by omega), hk3 k (by omega) h2, hg2.block k (by omega) (by intro e; injection e with e; omega)]
          exact hga.block k h2 (by simp)
      | ret =>
        obtain ⟨hgo, hk3, hi3⟩ := hq
        obtain ⟨hr, hl4, hk4, hl3⟩ := fin (some .ret) W3 hk3
        exact ⟨_, _, hr, by rw [hgo]; rfl, fun h => (by rw [hgo] at h; cases h), fun _ => ⟨⟨.ret, hIx _ _ _ _ _ _ (by omega) hi3 hl3 rfl, hl4, hk4⟩, fun k h1 h2 => by
          rw [World.putObj_heap_other (by omega), hk3 k (by omega) h2, hg2.block k (by omega) (by intro e; injection e with e; omega)]
          exact hga.block k h2 (by simp)⟩⟩
      | exit id =>
        obtain ⟨hgo, hk3, hi3⟩ := hq
        obtain ⟨hr, hl4, hk4, hl3⟩ := fin (some (.exit id)) W3 hk3
        exact ⟨_, _, hr, by rw [hgo]; rfl, fun h => (by rw [hgo] at h; cases h), fun _ => ⟨⟨.exit id, hIx _ _ _ _ _ _ (by omega) hi3 hl3 rfl, hl4, hk4⟩, fun k h1 h2 => by
          rw [World.putObj_heap_other (by omega), hk3 k (by omega) h2, hg2.block k (by omega) (by intro e; injection e with e; omega)]
          exact hga.block k h2 (by simp)⟩⟩
      | goto t => exact hq.elim
      | panic ch => exact hq.elim
      | outgrown => exact hq.elim
    | ret => exact hp.elim
    | exit id => exact hp.elim
    | goto t => exact hp.elim
    | panic ch => exact hp.elim
    | outgrown => exact hp.elim
  · rintro e W2 ⟨⟨v, rfl⟩, (⟨hS, ⟨hi, hl, hk⟩, hb2⟩ | ⟨q, hS, c, hi, hl, hk⟩)⟩
    · have hp3 := below_put w.heap.size W2 (.loop (rec .exhausted none)) (by omega : w.heap.size ≤ w.heap.size + 1)
      exact ⟨none, _, by have := run_endLoop (P := P) hl (by rw [hrec]; simp); rw [hrec] at this; exact this, hdone _ hS (hI _ _ _ hi (below_put _ _ _ (by omega))) (hb2.trans ((below_put _ _ _ (by omega)).mono hB0)) ((World.putObj_heap_other (by omega)).trans hk)⟩
    · exact ⟨some c, _, by have := run_endLoop (P := P) hl (by rw [hrec]; simp); rw [hrec] at this; exact this, hstop c q _ hS (hIx _ _ _ _ _ _ (by omega) hi hl rfl) ((World.putObj_heap_other (by omega)).trans hk)⟩
end Go.Proofs.Ytffcpbgbhkbplaa.Print
namespace Go.Proofs.Ytffcpbgbhkbplaa.Print
open Go.RowKit Go.Proofs.YtffcpbgbhkbplaaW.PrintWords Go.Proofs.YtffcpbgbhkbplaaW.PrintLast Go.Proofs.YtffcpbgbhkbplaaW.PrintMore
attribute [local go_sem] max2_int min2_int max_two min_two max_three min_three max_four min_four
set_option linter.unusedVariables false
set_option linter.unusedSimpArgs false
open Go.Shelf Go.RowKit
attribute [local go_sem] Oper.semAt_some
theorem prog_All.fn (a b c : Value) (w : World) :
    Calls Try.prog 34 #[.agg #[a, b, c]] w fun e w' => e = .returned (.func (.func 62) #[] #[.pointer (some ⟨w.heap.size, 0, none⟩)]) ∧ Below w.heap.size w w' ∧ w'.heap[w.heap.size]? = some (.cells #[a, b, c] 25 (0, 0)) := by
  have huP := Try.underlying25
  refine calls_of_wp Try.func34 rfl ?_
  simp only [Try.ntmps34, List.size_toArray, List.length_cons, List.length_nil, Nat.reduceAdd, Nat.reduceSub, Array.replicate_succ, Array.replicate_zero, List.push_toArray, List.append_toArray, List.nil_append, List.cons_append]
  go_wp2
  go_ret
  exact ⟨rfl, (Below.refl _ _).alloc (Nat.le_refl _) _, heap_alloc_new _ _⟩
theorem prog_each.seqW (w0 : World) (bp : Nat) (A : Option Addr) (c : Nat) (l : List S47) (its : List (Int × S47)) (n' : Int) (k : Nat)
    (hr : Kd.C k47 w0 A l.length l) (hc : l.length ≤ c) (h : prog_walk.f k l 0 = some (its, n')) :
    SeqW Try.prog 76 #[.pointer (some ⟨bp, 0, none⟩)] (fun x av _ => itemAt w0 x av) its w0 (fun W => W.cell? ⟨bp, 2, none⟩ = some (.slice A l.length c)) := by
  intro m rl J Jx go W hb hcw hJ _ hY hJ0
  refine callsIn_of_wp Try.func76 rfl trivial ?_ rfl
  simp only [Try.ntmps76, List.size_toArray, List.length_cons, List.length_nil, Nat.reduceAdd, Nat.reduceSub, Array.replicate_succ, Array.replicate_zero, List.push_toArray, List.append_toArray, List.nil_append, List.cons_append]
  have hlt := World.block_lt_of_cell? W _ hcw
  have hS := hb.size
  have key : ∀ W2 : World, Below W.heap.size W W2 → W2.heap[W.heap.size]? = some (.cells #[.int .i64 0] 3 (0, 0)) →
      CallsIn Fence.wide m Try.prog 77 #[.slice A l.length c, .pointer (some ⟨W.heap.size, 0, none⟩), .func (.yield rl) #[] #[]] W2 (fun e W' => ∃ b, e = .returned (.bool b) ∧ ((stopAt go [] its = none ∧ J its W' ∧ Below w0.heap.size w0 W') ∨ (∃ q, stopAt go [] its = some q ∧ Jx q W'))) := by
    intro W2 h1 h2
    refine (prog_walk.walkIn w0 rl W.heap.size m J Jx go its hS hJ ?_ k l 0 its n' [] W2 W.heap.size A c h hr hc (hb.trans (h1.mono hS)) h2 (Nat.le_refl _) (hJ _ _ _ hJ0 h1) (by simp)).mono ?post
    case post =>
      rintro e W3 (⟨h0, rfl, hj, _, _, hb3⟩ | ⟨q, h0, rfl, hx⟩)
      · exact ⟨_, rfl, .inl ⟨h0, by simpa using hj, hb3⟩⟩
      · exact ⟨_, rfl, .inr ⟨q, h0, by simpa using hx⟩⟩
    intro pre x v A1 hj hv hb1 hsz hp
    obtain ⟨fn, tmps, assign, body, y1, y2⟩ := hY pre x _ A1 hj ⟨v, rfl, hv⟩ hb1 hsz hp
    exact ⟨fn, tmps, assign, body, y1, y2.mono (fun e B h => ⟨h.1, h.2.1, fun g => (h.2.2 g).1⟩)⟩
  gi_wp2_with (first | (refine ⟨trivial, wide_depth, ?_⟩; refine (calls_any (m' := m - 1) (key _ ?k1 ?k2)).mono ?_; (case k1 => exact (Below.refl _ _).alloc (Nat.le_refl _) _); (case k2 => exact heap_alloc_new _ _); rintro e W3 ⟨b, rfl, hw⟩))
  go_end0
  exact ⟨⟨_, rfl⟩, hw⟩
end Go.Proofs.Ytffcpbgbhkbplaa.Print
namespace Go.Proofs.Ytffcpbgbhkbplaa.Print
open Go.RowKit Go.Proofs.YtffcpbgbhkbplaaW.PrintWords Go.Proofs.YtffcpbgbhkbplaaW.PrintLast Go.Proofs.YtffcpbgbhkbplaaW.PrintMore
attribute [local go_sem] max2_int min2_int max_two min_two max_three min_three max_four min_four
set_option linter.unusedVariables false
set_option linter.unusedSimpArgs false
open Go.RowKit
def Wr (W : World) (B sz : Nat) (A : Option Addr) (n : Nat) : Prop := n ≤ 9223372036854775807 ∧ (0 < n → ∃ (b : Nat) (t : TypeId) (cur : Array Value), A = some ⟨b, 0, none⟩ ∧ B ≤ b ∧ W.heap[b]? = some (.cells cur t (0, 0)) ∧ n * sz ≤ cur.size)
theorem Wr.move {W W1 : World} {B sz : Nat} {A : Option Addr} {n : Nat} (h : Wr W B sz A n) (hm : ∀ (b : Nat) (t : TypeId) (cur : Array Value), W.heap[b]? = some (.cells cur t (0, 0)) → ∃ cur' : Array Value, W1.heap[b]? = some (.cells cur' t (0, 0)) ∧ cur'.size = cur.size) : Wr W1 B sz A n :=
  ⟨h.1, fun hn => by
    obtain ⟨b, t, cur, h1, h2, h3, h4⟩ := h.2 hn
    obtain ⟨cur', h5, h6⟩ := hm b t cur h3
    exact ⟨b, t, cur', h1, h2, h5, by rw [h6]; exact h4⟩⟩
theorem Wr.moveB {W W1 : World} {B sz : Nat} {A : Option Addr} {n : Nat} (h : Wr W B sz A n) (hm : ∀ (b : Nat), B ≤ b → b < W.heap.size → W1.heap[b]? = W.heap[b]?) : Wr W1 B sz A n :=
  ⟨h.1, fun hn => by
    obtain ⟨b, t, cur, h1, h2, h3, h4⟩ := h.2 hn
    exact ⟨b, t, cur, h1, h2, (hm b h2 (blk_lt h3)).trans h3, h4⟩⟩
theorem Wr.below {W W1 : World} {B sz : Nat} {A : Option Addr} {n : Nat} (h : Wr W B sz A n) (hb : Below W.heap.size W W1) : Wr W1 B sz A n := h.move fun b _ cur hc => ⟨cur, (hb.block _ (blk_lt hc)).trans hc, rfl⟩
theorem Wr.lower {W : World} {B B' sz : Nat} {A : Option Addr} {n : Nat} (h : Wr W B sz A n) (hB : B' ≤ B) : Wr W B' sz A n := ⟨h.1, fun hn => by
  obtain ⟨b, t, cur, h1, h2, h3, h4⟩ := h.2 hn
  exact ⟨b, t, cur, h1, Nat.le_trans hB h2, h3, h4⟩⟩
theorem wr_of_R {α : Type} {d : Kd α} {e : Nat} {W : World} {B : Nat} {ok : Nat → Prop} {A : Option Addr} {n c : Nat} {xs : List α} {sz : Nat} (h : d.R e W B ok (.slice A n c) xs) (hs : d.sz = sz) : Wr W B sz A n := by
  obtain ⟨_, inner, ⟨_, ho⟩, _⟩ := h
  rcases ho with ⟨hv, _⟩ | ⟨g, cap, cur, hv, h1, h2, h3, h4, h5, _⟩
  · injection hv with e1 e2 e3
    subst e2
    exact ⟨Nat.zero_le _, fun hn => absurd hn (by omega)⟩
  · injection hv with e1 e2 e3
    subst e1
    subst e2
    subst e3
    unfold maxLen at h4
    refine ⟨by omega, fun _ => ⟨g, e, cur, rfl, h1, h2, ?_⟩⟩
    rw [h5, hs]
    exact Nat.mul_le_mul h3 (Nat.le_refl _)
theorem sized_set (W : World) (p : Addr) (v : Value) (hp : p.spot = none) : ∀ (b : Nat) (t : TypeId) (cur : Array Value), W.heap[b]? = some (.cells cur t (0, 0)) → ∃ cur' : Array Value, (W.setCell p v).heap[b]? = some (.cells cur' t (0, 0)) ∧ cur'.size = cur.size := by
  intro b t cur h
  by_cases e : b = p.block
  · obtain ⟨pb, po, pp⟩ := p
    simp only at hp e
    subst hp
    subst e
    exact ⟨_, blk_set h po v, by simp⟩
  · exact ⟨cur, (Below.heap_setCell _ _ _ _ e).trans h, rfl⟩
def Sp (w : World) (B : Nat) (x0 x1 : Int) (A2 : Option Addr) (n2 c2 : Nat) (A3 : Option Addr) (n3 c3 : Nat) (A4 : Option Addr) (n4 c4 : Nat) (W : World) : Prop :=
  W.heap[w.heap.size]? = some (.cells #[.int .i64 x0, .int .i64 x1, .slice A2 n2 c2, .slice A3 n3 c3, .slice A4 n4 c4] 47 (0, 0)) ∧ Wr W B 4 A2 n2 ∧ Wr W B 5 A3 n3 ∧ Wr W B 5 A4 n4 ∧ Below B w W ∧
  (∀ (b : Nat) (t : TypeId) (cur : Array Value), w.heap[b]? = some (.cells cur t (0, 0)) → ∃ cur' : Array Value, W.heap[b]? = some (.cells cur' t (0, 0)) ∧ cur'.size = cur.size) ∧ (∀ (k : Nat) (o : Obj), w.heap[k]? = some o → o.isCells = false → W.heap[k]? = some o)
theorem Sp.set {w : World} {B : Nat} {x0 x1 : Int} {A2 : Option Addr} {n2 c2 : Nat} {A3 : Option Addr} {n3 c3 : Nat} {A4 : Option Addr} {n4 c4 : Nat} {W : World} {b : Nat}
    (h : Sp w B x0 x1 A2 n2 c2 A3 n3 c3 A4 n4 c4 W ∧ ∃ (t : TypeId) (cur : Array Value), W.heap[b]? = some (.cells cur t (0, 0))) (hB : B ≤ b) (hne : b ≠ w.heap.size) (i : Nat) (v : Value) :
    Sp w B x0 x1 A2 n2 c2 A3 n3 c3 A4 n4 c4 (W.setCell ⟨b, i, none⟩ v) ∧ ∃ (t : TypeId) (cur : Array Value), (W.setCell ⟨b, i, none⟩ v).heap[b]? = some (.cells cur t (0, 0)) := by
  obtain ⟨⟨h1, h2, h3, h4, h5, h6, h7⟩, tq, curq, hq⟩ := h
  have hm := sized_set W ⟨b, i, none⟩ v rfl
  refine ⟨⟨(Below.heap_setCell _ _ _ _ (fun e => hne e.symm)).trans h1, h2.move hm, h3.move hm, h4.move hm, h5.trans ((Below.refl _ _).setCell hB _), fun b' t cur hc => ?_, fun k o hk ho => ?_⟩, ?_⟩
  · obtain ⟨cur', q1, q2⟩ := h6 b' t cur hc
    obtain ⟨cur2, q3, q4⟩ := hm b' t cur' q1
    exact ⟨cur2, q3, q4.trans q2⟩
  · have := h7 k o hk ho
    refine (Below.heap_setCell _ _ _ _ (fun e => ?_)).trans this
    simp only at e
    subst e
    rw [hq] at this
    cases this
    cases ho
  · exact ⟨_, _, blk_set hq i v⟩
end Go.Proofs.Ytffcpbgbhkbplaa.Print
namespace Go.Proofs.Ytffcpbgbhkbplaa.Print
open Go.RowKit Go.Proofs.YtffcpbgbhkbplaaW.PrintWords Go.Proofs.YtffcpbgbhkbplaaW.PrintLast Go.Proofs.YtffcpbgbhkbplaaW.PrintMore
attribute [local go_sem] max2_int min2_int max_two min_two max_three min_three max_four min_four
set_option linter.unusedVariables false
set_option linter.unusedSimpArgs false
open Go.Shelf Go.RowKit
def roundM {α : Type} (S0 : Nat) (w0 : World) (I : List α → World → Prop) (Ix : Code → List α → World → Prop) (go : List α → α → Bool) (pre : List α) (x : α) (M : Nat) (W2 : World) : Exit → Act → World → Prop
  | .normal, _, W3 => go pre x = true ∧ W2.heap.size ≤ W3.heap.size ∧ (∀ k, S0 ≤ k → k < M → W3.heap[k]? = W2.heap[k]?) ∧ Below w0.heap.size w0 W3 ∧ I (pre ++ [x]) W3
  | .ret, _, W3 => go pre x = false ∧ (∀ k, S0 ≤ k → k < M → W3.heap[k]? = W2.heap[k]?) ∧ Ix .ret (pre ++ [x]) W3
  | .exit id, _, W3 => go pre x = false ∧ (∀ k, S0 ≤ k → k < M → W3.heap[k]? = W2.heap[k]?) ∧ Ix (.exit id) (pre ++ [x]) W3
  | _, _, _ => False
def SeqM {α : Type} (P : Program) (gf : Nat) (lb : Array Value) (E : α → Array Value → World → Nat → Prop) (its : List α) (w0 : World) (Pre : World → Prop) : Prop :=
  ∀ (m l : Nat) (J Jx : List α → World → Prop) (go : List α → α → Bool) (W : World), Below w0.heap.size w0 W → Pre W →
    (∀ pre A B, J pre A → Below W.heap.size A B → J pre B) →
    (∀ pre A (j : Nat) (o o' : Obj), W.heap.size ≤ j → Jx pre A → A.heap[j]? = some o → o.isCells = false → Jx pre (A.putObj j o')) →
    (∀ pre x av A M, J pre A → E x av A M → Below w0.heap.size w0 A → W.heap.size ≤ M → M ≤ A.heap.size → (pre ++ [x]) <+: its → YieldAt Fence.wide m P l av A fun e B =>
      e = .returned (.bool (go pre x)) ∧ (go pre x = true → J (pre ++ [x]) B ∧ (A.heap.size ≤ B.heap.size ∧ ∀ k, W.heap.size ≤ k → k < M → B.heap[k]? = A.heap[k]?) ∧ Below w0.heap.size w0 B) ∧ (go pre x = false → Jx (pre ++ [x]) B ∧ ∀ k, W.heap.size ≤ k → k < M → B.heap[k]? = A.heap[k]?)) →
    J [] W →
    CallsIn Fence.wide m P gf (#[.func (.yield l) #[] #[]] ++ lb) W fun e W' => (∃ v, e = .returned v) ∧
      ((stopAt go [] its = none ∧ J its W' ∧ Below w0.heap.size w0 W') ∨ (∃ q, stopAt go [] its = some q ∧ Jx q W'))
theorem wpIn_rangeM {α : Type} {n : Nat} {P : Program} {g : Operand} {ps : Array Tmp} {assign body : Code} {Q : Exit → Act → World → Prop} {a : Act} {w : World} {gf : Nat} {lb : Array Value}
    (hg : a.eval g = .func (.func gf) #[] lb) (eg : ∀ args w, (callFunc gf args).run P w = .ok (.enter gf args) w)
    {E : α → Array Value → World → Nat → Prop} {its : List α} {w0 : World} {Pre : World → Prop} (hseq : SeqM P gf lb E its w0 Pre) (hpre : ∀ W1, Below w.heap.size w W1 → Pre W1) (hb0 : Below w0.heap.size w0 w) (hps : ∀ x av A M, E x av A M → av.size = ps.size)
    (go : List α → α → Bool) (I : List α → World → Prop) (Ix : Code → List α → World → Prop)
    (hI : ∀ pre A B, I pre A → Below w.heap.size A B → I pre B) (hIx : ∀ c pre A (j : Nat) (o o' : Obj), w.heap.size ≤ j → Ix c pre A → A.heap[j]? = some o → o.isCells = false → Ix c pre (A.putObj j o')) (h0 : I [] w)
    (hround : ∀ l pre x av W M, I pre W → E x av W M → (pre ++ [x]) <+: its → Below w0.heap.size w0 W → w.heap.size + 2 ≤ M → M ≤ W.heap.size →
      assign.wpIn (Fence.wide.inRound l) n P (Exit.then (fun a1 W1 => W.grownBy W1 none ∧ ∀ W2, W1.grownBy W2 (some (w.heap.size + 1)) → W2.heap.size = W1.heap.size → I pre W2 → Below w0.heap.size w0 W2 →
        body.wpIn (Fence.wide.inRound l) n P (roundM w.heap.size w0 I Ix go pre x M W2) a1 W2) (fun _ _ _ => False)) { tmps := (ps.zip av).foldl (fun t (p, v) => t.setIfInBounds p v) a.tmps, defers := [] } W)
    (hdone : ∀ W, stopAt go [] its = none → I its W → Below w0.heap.size w0 W → W.heap[w.heap.size]? = some (.deferred (some [])) → Q .normal { a with defers := { target := .collected w.heap.size, args := #[] } :: a.defers } W)
    (hstop : ∀ c q W, stopAt go [] its = some q → Ix c q W → W.heap[w.heap.size]? = some (.deferred (some [])) → c.wpIn Fence.wide n P Q { a with defers := { target := .collected w.heap.size, args := #[] } :: a.defers } W) :
    (Code.rangeFunc g ps assign body).wpIn Fence.wide n P Q a w := by
  refine wpIn_rangeFunc ?_
  intro fn hfn
  obtain ⟨rec, hrec⟩ : ∃ rec : LoopState → Option Code → Loop, rec = fun st pe => { state := st, pending := pe, fn, tmps := a.tmps, params := ps, assign, body, defers := w.heap.size } := ⟨_, rfl⟩
  obtain ⟨W1, hW1⟩ : ∃ W1, (w.alloc (.deferred (some []))).alloc (.loop (rec .ready none)) = W1 := ⟨_, rfl⟩
  have hL1 : W1.heap[w.heap.size + 1]? = some (.loop (rec .ready none)) := by
    rw [← hW1]; have := World.alloc_heap_new (w.alloc (.deferred (some []))) (.loop (rec .ready none)); rwa [World.size_alloc] at this
  have hK1 : W1.heap[w.heap.size]? = some (.deferred (some [])) := by
    rw [← hW1]; exact (Below.heap_alloc _ _ _ (by simp)).trans (World.alloc_heap_new w _)
  have hS1 : W1.heap.size = w.heap.size + 2 := by rw [← hW1]; simp
  have hw1 : Below w.heap.size w W1 := by
    rw [← hW1]; exact ((Below.refl _ w).alloc (Nat.le_refl _) _).alloc (by simp) _
  have hI1 : I [] W1 := hI _ _ _ h0 hw1
  have hb1 : Below w0.heap.size w0 W1 := hb0.trans (hw1.mono hb0.size)
  have hB0 : w0.heap.size ≤ w.heap.size := hb0.size
  refine ⟨w.heap.size + 1, [{ target := .collected w.heap.size, args := #[] }], W1, { target := .fn (.func gf) lb, args := #[.func (.yield (w.heap.size + 1)) #[] #[]] }, W1, gf,
    #[.func (.yield (w.heap.size + 1)) #[] #[]] ++ lb, W1, ?_, ?_, ?_, ?_, wide_depth, ?_⟩
  · rw [← hW1, hrec]; exact run_enterLoop_outer _ _ _ _ _
  · simp only [resolve, hg]
    simp [go_sem]
  · intro f' hf'; trivial
  · simp [invoke, go_sem, eg]
  refine (hseq (n - 1) (w.heap.size + 1)
    (fun pre W => I pre W ∧ W.heap[w.heap.size + 1]? = some (.loop (rec .ready none)) ∧ W.heap[w.heap.size]? = some (.deferred (some [])))
    (fun pre W => ∃ c, Ix c pre W ∧ W.heap[w.heap.size + 1]? = some (.loop (rec .done (some c))) ∧ W.heap[w.heap.size]? = some (.deferred (some [])))
    go W1 hb1 (hpre W1 hw1)
    (fun pre A B hs hb => ⟨hI _ _ _ hs.1 (hb.mono (by omega)), (hb.block _ (by omega)).trans hs.2.1, (hb.block _ (by omega)).trans hs.2.2⟩)
    (fun pre A j o o' hj hs hA ho => by
      obtain ⟨c, h1, h2, h3⟩ := hs
      exact ⟨c, hIx _ _ _ _ _ _ (by omega) h1 hA ho, (World.putObj_heap_other (by omega)).trans h2, (World.putObj_heap_other (by omega)).trans h3⟩)
    ?_ ⟨hI1, hL1, hK1⟩).mono ?_
  · rintro pre x av W M ⟨hi, hl, hk⟩ hE hbW hM1 hM2 hpre
    have hlt : w.heap.size + 1 < W.heap.size := (Array.getElem?_eq_some_iff.1 hl).1
    have hy := run_yield (P := P) (args := av) hl (by rw [hrec]; exact hps x av W M hE)
    rw [hrec] at hy
    refine ⟨fn, _, assign, body, hy, round_any (roundIn_of_wpIn (n := n) trivial ?_)⟩
    refine wpIn_mono (hround (w.heap.size + 1) pre x av W M hi hE hpre hbW (by omega) hM2) ?_
    rintro e a1 Wa hp
    cases e with
    | normal =>
      obtain ⟨hga, hbd⟩ := hp
      have hla := (hga.block _ hlt (by simp)).trans hl
      have hka := (hga.block _ (by omega : w.heap.size < W.heap.size) (by simp)).trans hk
      have hgs := hga.size
      have hlta : w.heap.size + 1 < Wa.heap.size := by omega
      refine ⟨_, run_beginRound hla (by rw [hrec]), ?_⟩
      have hg2 := grownBy_putObj' Wa (w.heap.size + 1) (.loop { rec .ready none with state := .busy })
      have hl2 : (Wa.putObj (w.heap.size + 1) (.loop { rec .ready none with state := .busy })).heap[w.heap.size + 1]? = some (.loop { rec .ready none with state := .busy }) := World.putObj_heap_same hlta
      have hk2 : (Wa.putObj (w.heap.size + 1) (.loop { rec .ready none with state := .busy })).heap[w.heap.size]? = some (.deferred (some [])) := (World.putObj_heap_other (by omega)).trans hka
      have hs2 : (Wa.putObj (w.heap.size + 1) (.loop { rec .ready none with state := .busy })).heap.size = Wa.heap.size := by simp
      have hba : Below w.heap.size W Wa := ⟨hga.os, hga.tape, hga.output, hga.size, fun k hk => hga.block k (by omega) (by simp)⟩
      have hb2 : Below w.heap.size W (Wa.putObj (w.heap.size + 1) (.loop { rec .ready none with state := .busy })) := hba.trans (below_put _ _ _ (by omega))
      generalize Wa.putObj (w.heap.size + 1) (.loop { rec .ready none with state := .busy }) = W2 at hg2 hl2 hk2 hs2 hb2 ⊢
      refine wpIn_mono (hbd W2 hg2 hs2 (hI _ _ _ hi hb2) (hbW.trans (hb2.mono hB0))) ?_
      have fin : ∀ (jump : Option Code) (W3 : World), (∀ k, w.heap.size ≤ k → k < M → W3.heap[k]? = W2.heap[k]?) →
          (Instr.endRound (w.heap.size + 1) jump).run P W3 = .ok (.bool jump.isNone) (W3.putObj (w.heap.size + 1) (.loop (rec (if jump.isNone then .ready else .done) jump))) ∧
          (W3.putObj (w.heap.size + 1) (.loop (rec (if jump.isNone then .ready else .done) jump))).heap[w.heap.size + 1]? = some (.loop (rec (if jump.isNone then .ready else .done) jump)) ∧
          (W3.putObj (w.heap.size + 1) (.loop (rec (if jump.isNone then .ready else .done) jump))).heap[w.heap.size]? = some (.deferred (some [])) ∧ W3.heap[w.heap.size + 1]? = some (.loop { rec .ready none with state := .busy }) := fun jump W3 hk3 => by
        have hl3 := (hk3 _ (by omega) (by omega)).trans hl2
        have := run_endRound (P := P) jump hl3
        rw [hrec] at this ⊢
        exact ⟨this, World.putObj_heap_same (Array.getElem?_eq_some_iff.1 hl3).1, (World.putObj_heap_other (by omega)).trans ((hk3 _ (Nat.le_refl _) (by omega)).trans hk2), by rw [hrec] at hl3; exact hl3⟩
      rintro e3 a3 W3 hq
      cases e3 with
      | normal =>
        obtain ⟨hgo, hsz3, hk3, hb3, hi3⟩ := hq
        obtain ⟨hr, hl4, hk4, hl3⟩ := fin none W3 hk3
        have hp3 := below_put w.heap.size W3 (.loop (rec .ready none)) (by omega : w.heap.size ≤ w.heap.size + 1)
        have hg3 := grownBy_putObj' W3 (w.heap.size + 1) (.loop (rec .ready none))
        refine ⟨_, _, hr, by rw [hgo]; rfl, fun _ => ⟨⟨hI _ _ _ hi3 hp3, hl4, hk4⟩, ⟨?_, ?_⟩, hb3.trans (hp3.mono hB0)⟩, fun h => by rw [hgo] at h; cases h⟩
        · have := hg3.size; simp only [Option.isNone_none, if_true]; omega
        · intro k h1 h2
          simp only [Option.isNone_none, if_true]
          rw [World.putObj_heap_other (by omega), hk3 k (by omega) h2, hg2.block k (by omega) (by intro e; injection e with e; omega)]
          exact hga.block k (by omega) (by simp)
      | ret =>
        obtain ⟨hgo, hk3, hi3⟩ := hq
        obtain ⟨hr, hl4, hk4, hl3⟩ := fin (some .ret) W3 hk3
        exact ⟨_, _, hr, by rw [hgo]; rfl, fun h => (by rw [hgo] at h; cases h), fun _ => ⟨⟨.ret, hIx _ _ _ _ _ _ (by omega) hi3 hl3 rfl, hl4, hk4⟩, fun k h1 h2 => by
          rw [World.putObj_heap_other (by omega), hk3 k (by omega) h2, hg2.block k (by omega) (by intro e; injection e with e; omega)]
          exact hga.block k (by omega) (by simp)⟩⟩
      | exit id =>
        obtain ⟨hgo, hk3, hi3⟩ := hq
        obtain ⟨hr, hl4, hk4, hl3⟩ := fin (some (.exit id)) W3 hk3
        exact ⟨_, _, hr, by rw [hgo]; rfl, fun h => (by rw [hgo] at h; cases h), fun _ => ⟨⟨.exit id, hIx _ _ _ _ _ _ (by omega) hi3 hl3 rfl, hl4, hk4⟩, fun k h1 h2 => by
          rw [World.putObj_heap_other (by omega), hk3 k (by omega) h2, hg2.block k (by omega) (by intro e; injection e with e; omega)]
          exact hga.block k (by omega) (by simp)⟩⟩
      | goto t => exact hq.elim
      | panic ch => exact hq.elim
      | outgrown => exact hq.elim
    | ret => exact hp.elim
    | exit id => exact hp.elim
    | goto t => exact hp.elim
    | panic ch => exact hp.elim
    | outgrown => exact hp.elim
  · rintro e W2 ⟨⟨v, rfl⟩, (⟨hS, ⟨hi, hl, hk⟩, hb2⟩ | ⟨q, hS, c, hi, hl, hk⟩)⟩
    · have hp3 := below_put w.heap.size W2 (.loop (rec .exhausted none)) (by omega : w.heap.size ≤ w.heap.size + 1)
      exact ⟨none, _, by have := run_endLoop (P := P) hl (by rw [hrec]; simp); rw [hrec] at this; exact this, hdone _ hS (hI _ _ _ hi (below_put _ _ _ (by omega))) (hb2.trans ((below_put _ _ _ (by omega)).mono hB0)) ((World.putObj_heap_other (by omega)).trans hk)⟩
    · exact ⟨some c, _, by have := run_endLoop (P := P) hl (by rw [hrec]; simp); rw [hrec] at this; exact this, hstop c q _ hS (hIx _ _ _ _ _ _ (by omega) hi hl rfl) ((World.putObj_heap_other (by omega)).trans hk)⟩
end Go.Proofs.Ytffcpbgbhkbplaa.Print
namespace Go.Proofs.Ytffcpbgbhkbplaa.Print
open Go.RowKit Go.Proofs.YtffcpbgbhkbplaaW.PrintWords Go.Proofs.YtffcpbgbhkbplaaW.PrintLast Go.Proofs.YtffcpbgbhkbplaaW.PrintMore
attribute [local go_sem] max2_int min2_int max_two min_two max_three min_three max_four min_four
set_option linter.unusedVariables false
set_option linter.unusedSimpArgs false
open Go.Shelf Go.RowKit
attribute [local go_sem] Oper.semAt_some
def WrF {α : Type} (d : Kd α) (W : World) (B sz : Nat) (A : Option Addr) (n c : Nat) (xs : List α) : Prop := Wr W B sz A n ∧ n ≤ c ∧ Kd.F d W (fun k => B ≤ k) A n xs
theorem wrF_of_R {α : Type} {d : Kd α} {e : Nat} {W : World} {B : Nat} {ok : Nat → Prop} {A : Option Addr} {n c : Nat} {xs : List α} {sz : Nat} (h : d.R e W B ok (.slice A n c) xs) (hs : d.sz = sz) : WrF d W B sz A n c xs :=
  ⟨wr_of_R h hs, (Kd.R_reads' h).2.1, Kd.R_F (Kd.R_mono (Kd.R_bound h) (ok' := fun k => B ≤ k) (fun k hk => hk.2.1))⟩
theorem WrF.lower {α : Type} {d : Kd α} {W : World} {B B' sz : Nat} {A : Option Addr} {n c : Nat} {xs : List α} (h : WrF d W B sz A n c xs) (hB : B' ≤ B) : WrF d W B' sz A n c xs := ⟨h.1.lower hB, h.2.1, Kd.F_mono h.2.2 (fun _ hk => Nat.le_trans hB hk)⟩
theorem WrF.moveB {α : Type} {d : Kd α} {W W1 : World} {B sz : Nat} {A : Option Addr} {n c : Nat} {xs : List α} (h : WrF d W B sz A n c xs) (hm : ∀ (b : Nat), B ≤ b → b < W.heap.size → W1.heap[b]? = W.heap[b]?) : WrF d W1 B sz A n c xs := ⟨h.1.moveB hm, h.2.1, Kd.F_step h.2.2 hm⟩
def copyOwn (k : Nat) (x : Int × S47) (av : Array Value) (A : World) (M : Nat) : Prop := ∃ (r1 r2 : Int) (r3 : List S96) (r4 r5 : List S47) (A3 : Option Addr) (c3 : Nat) (A4 : Option Addr) (c4 : Nat) (A5 : Option Addr) (c5 : Nat),
  prog_Copied.f k x.2.f0 x.2.f1 x.2.f2 x.2.f3 x.2.f4 = some (r1, r2, r3, r4, r5) ∧ av = #[.int .i64 x.1, .agg #[.int .i64 r1, .int .i64 r2, .slice A3 r3.length c3, .slice A4 r4.length c4, .slice A5 r5.length c5]] ∧
  WrF k96 A M 4 A3 r3.length c3 r3 ∧ WrF k47 A M 5 A4 r4.length c4 r4 ∧ WrF k47 A M 5 A5 r5.length c5 r5
theorem prog_All.seqOwn (w0 : World) (bp : Nat) (a0 : Int) (A1 : Option Addr) (c1 : Nat) (l1 : List S82) (A2 : Option Addr) (c2 : Nat) (l2 : List S47) (tc : Int) (its : List (Int × S47)) (n' : Int) (k : Nat)
    (hr1 : Kd.C k82 w0 A1 l1.length l1) (hc1 : l1.length ≤ c1) (hr2 : Kd.C k47 w0 A2 l2.length l2) (hc2 : l2.length ≤ c2) (hch : prog_Check.f k a0 l1 l2 = some tc) (hw : prog_walk.f k l2 0 = some (its, n'))
    (hcp : ∀ x ∈ its, ∃ r, prog_Copied.f k x.2.f0 x.2.f1 x.2.f2 x.2.f3 x.2.f4 = some r) :
    SeqM Try.prog 62 #[.pointer (some ⟨bp, 0, none⟩)] (copyOwn k) (if tc = 0 then its else []) w0 (fun W => W.heap[bp]? = some (.cells #[.int .i64 a0, .slice A1 l1.length c1, .slice A2 l2.length c2] 25 (0, 0))) := by
  intro m rl J Jx go W hb hp hJ hJx hY hJ0
  have huP := Try.underlying25
  refine callsIn_of_wp_marks Try.func62 rfl trivial ?_ rfl
  simp only [Try.ntmps62, List.size_toArray, List.length_cons, List.length_nil, Nat.reduceAdd, Nat.reduceSub, Array.replicate_succ, Array.replicate_zero, List.push_toArray, List.append_toArray, List.nil_append, List.cons_append]
  obtain ⟨q0, q1, q2⟩ := cells3 hp
  have hlt := blk_lt hp
  have HY := Aside0.mk hY
  have HJ := Aside0.mk hJ
  have HJX := Aside0.mk hJx
  have HB := Aside0.mk hb
  have HP := Aside0.mk hp
  clear hY hJ hJx hb hp
  have y1 := heap_alloc_new W (.cells #[.func (.yield rl) #[] #[]] 93)
  have b1 : Below W.heap.size W (W.alloc (.cells #[.func (.yield rl) #[] #[]] 93)) := (Below.refl _ _).alloc (Nat.le_refl _) _
  gi_wp2
  generalize W.alloc (.cells #[.func (.yield rl) #[] #[]] 93) = W1 at y1 b1 ⊢
  have B1 := HB.out.trans (b1.mono HB.out.size)
  refine ⟨trivial, wide_depth, ?_⟩
  refine (callsIn_wide.2 (prog_Check.calls k a0 _ _ l1 _ _ l2 tc W1 (Kd.C_below hr1 B1) hc1 (Kd.C_below hr2 B1) hc2 hch)).mono ?_
  rintro e W2 ⟨rfl, hb2⟩
  have b2 := b1.trans (hb2.mono b1.size)
  have y2 := (hb2.block _ (blk_lt y1)).trans y1
  have p2 := (b2.block _ (blk_lt HP.out)).trans HP.out
  clear y1 q0 q1 q2 hb2
  by_cases htc : tc = 0
  case neg =>
    have g1 : (tc == 0) = false := beq_eq_false_iff_ne.mpr htc
    have g2 : (tc != 0) = true := bne_iff_ne.mpr htc
    gi_wp2
    exact ⟨_, results_none rfl _ _ _, ⟨_, rfl⟩, .inl ⟨rfl, HJ.out _ _ _ hJ0 b2, HB.out.trans (b2.mono HB.out.size)⟩⟩
  case pos =>
    subst htc
    obtain ⟨q0, q1, q2⟩ := cells3 p2
    gi_wp2_with (first | (refine ⟨trivial, wide_depth, ?_⟩; refine (callsIn_wide.2 (prog_each.fn _ _ _ W2)).mono ?_; rintro e W3 ⟨rfl, hb3, q3⟩))
    have b3 := b2.trans (hb3.mono b2.size)
    have y3 := (hb3.block _ (blk_lt y2)).trans y2
    have B3 := HB.out.trans (b3.mono HB.out.size)
    have hS2 := blk_lt y2
    have hS3 := blk_lt q3
    clear q0 q1 q2 y2 p2
    refine wpIn_rangeW (gf := 76) (lb := #[.pointer (some ⟨W2.heap.size, 0, none⟩)]) rfl (enters_of Try.func76 (by kernel_rfl) rfl)
      (prog_each.seqW w0 W2.heap.size A2 c2 l2 its n' k hr2 hc2 hw) (fun W4 h4 => (blk_cell ((h4.block _ hS3).trans q3) 2).trans rfl) B3 (by rintro x av A ⟨v, rfl, _⟩; rfl)
      go
      (fun pre A => J pre A ∧ A.heap[W.heap.size]? = some (.cells #[.func (.yield rl) #[] #[]] 93 (0, 0)))
      (fun c pre A => c = .ret ∧ Jx pre A)
      (fun pre A B h hb => ⟨HJ.out _ _ _ h.1 (hb.mono b3.size), (hb.block _ (by omega)).trans h.2⟩)
      (fun c pre A j o o' hj h hA ho => ⟨h.1, HJX.out _ _ _ _ _ (by have := b3.size; omega) h.2 hA ho⟩)
      ⟨HJ.out _ _ _ hJ0 b3, y3⟩ ?round ?done ?stop
    case done =>
      rintro A hst ⟨hj, hy⟩ hb4 hD
      gi_wp2
      refine ⟨by simp, .inl ⟨_, _, rfl, run_takeDeferred hD, ?_⟩⟩
      exact ⟨_, results_none rfl _ _ _, ⟨_, rfl⟩, HJ.out _ _ _ hj (below_put _ _ _ (by omega)), hb4.trans (below_put _ _ _ (by have := B3.size; omega))⟩
    case stop =>
      rintro c q A hst ⟨rfl, hx⟩ hD
      gi_wp2
      refine ⟨by simp, .inl ⟨_, _, rfl, run_takeDeferred hD, ?_⟩⟩
      exact ⟨_, results_none rfl _ _ _, ⟨_, rfl⟩, HJX.out _ _ _ _ _ (by omega) hx hD rfl⟩
    case round =>
      rintro l pre x av A ⟨hj, hy⟩ ⟨v, rfl, hv⟩ hpre hbA hsz
      obtain ⟨A2', z2, A3', z3, A4', z4, rfl, ql2, qr2, ql3, qr3, ql4, qr4⟩ := hv
      gi_wp2
      refine ⟨World.grownBy_alloc _ _ _, ?_⟩
      intro A4w hg4 hs4 hi4 hb4
      have x4 : A4w.heap[A.heap.size]? = some (.cells #[.int .i64 x.2.f0, .int .i64 x.2.f1, .slice A2' x.2.f2.length z2, .slice A3' x.2.f3.length z3, .slice A4' x.2.f4.length z4] 47 (0, 0)) :=
        (hg4.block A.heap.size (by simp) (by intro e; injection e with e; omega)).trans (heap_alloc_new _ _)
      obtain ⟨m0, m1, m2, m3, m4⟩ := cells5 x4
      have hsW : A4w.heap.size = A.heap.size + 1 := by rw [hs4]; simp
      have yq : A4w.cell? ⟨W.heap.size, 0, none⟩ = some (.func (.yield rl) #[] #[]) := (blk_cell hi4.2 0).trans rfl
      obtain ⟨⟨r1, r2, r3, r4, r5⟩, CP⟩ := hcp x (hpre.subset (by simp))
      have BD : Below w0.heap.size w0 A4w.drew := bd1 hb4
      gi_wp2
      refine wpIn_region_any (by kernel_rfl) ?_
      change wpAnyIn _ _ _ _ _ _ _ _ _ (World.drew _)
      refine (fun (key : ?KeyT) => ?main) ?key
      case main =>
        skip
        refine wpAnyIn_ready (rs := [0, 1, 2]) (by kernel_rfl) (by simp) ?_
        refine (AllReadyIn.cons rfl (fun K hK => ?_) (AllReadyIn.cons rfl (fun K hK => ?_) (AllReadyIn.cons rfl (fun K hK => ?_) AllReadyIn.nil)))
        · go_simp
          refine hK _ _ ?_
          clear hK K
          refine wpAnyIn_ready (rs := [1, 2]) (by kernel_rfl) (by simp) ?_
          refine (AllReadyIn.cons rfl (fun K hK => ?_) (AllReadyIn.cons rfl (fun K hK => ?_) AllReadyIn.nil))
          · go_simp
            refine hK _ _ ?_
            clear hK K
            refine wpAnyIn_ready (rs := [2]) (by kernel_rfl) (by simp) (AllReadyIn.cons rfl (fun K hK => ?_) AllReadyIn.nil)
            go_simp
            refine hK _ _ ?_
            clear hK K
            refine wpAnyIn_ready (rs := [3]) (by kernel_rfl) (by simp) (AllReadyIn.cons rfl (fun K hK => ?_) AllReadyIn.nil)
            go_simp
            refine ⟨trivial, wide_depth, ?_⟩
            refine CallsIn.inRound l ((callsIn_wide.2 (prog_Copied.calls k x.2.f0 x.2.f1 A2' z2 x.2.f2 A3' z3 x.2.f3 A4' z4 x.2.f4 _ _ _ _ _ A4w.drew (Kd.C_below qr2 BD) ql2 (Kd.C_below qr3 BD) ql3 (Kd.C_below qr4 BD) ql4 CP)).mono ?_)
            rintro e W5 ⟨v3, v4, v5, rfl, o3, o4, o5, hb5⟩
            obtain ⟨D3, d3, ev3, el3, oc3⟩ := Kd.R_reads o3
            obtain ⟨D4, d4, ev4, el4, oc4⟩ := Kd.R_reads o4
            obtain ⟨D5, d5, ev5, el5, oc5⟩ := Kd.R_reads o5
            subst ev3 ev4 ev5
            have wr3 := (wrF_of_R (sz := 4) o3 rfl).lower (B' := A4w.heap.size) (Nat.le_refl _)
            have wr4 := (wrF_of_R (sz := 5) o4 rfl).lower (B' := A4w.heap.size) (Nat.le_refl _)
            have wr5 := (wrF_of_R (sz := 5) o5 rfl).lower (B' := A4w.heap.size) (Nat.le_refl _)
            clear o3 o4 o5
            have hb5' : Below A4w.heap.size A4w W5 := (bd1 (Below.refl _ _)).trans hb5
            clear hb5
            refine hK _ _ ?_
            clear hK K
            revert wr5 wr4 wr3 hb5' oc5 el5 oc4 el4 oc3 el3
            revert D3 d3 D4 d4 D5 d5 W5
            exact key
          · go_simp
            refine hK _ _ ?_
            clear hK K
            refine wpAnyIn_ready (rs := [1, 3]) (by kernel_rfl) (by simp) ?_
            refine (AllReadyIn.cons rfl (fun K hK => ?_) (AllReadyIn.cons rfl (fun K hK => ?_) AllReadyIn.nil))
            · go_simp
              refine hK _ _ ?_
              clear hK K
              refine wpAnyIn_ready (rs := [3]) (by kernel_rfl) (by simp) (AllReadyIn.cons rfl (fun K hK => ?_) AllReadyIn.nil)
              go_simp
              refine ⟨trivial, wide_depth, ?_⟩
              refine CallsIn.inRound l ((callsIn_wide.2 (prog_Copied.calls k x.2.f0 x.2.f1 A2' z2 x.2.f2 A3' z3 x.2.f3 A4' z4 x.2.f4 _ _ _ _ _ A4w.drew (Kd.C_below qr2 BD) ql2 (Kd.C_below qr3 BD) ql3 (Kd.C_below qr4 BD) ql4 CP)).mono ?_)
              rintro e W5 ⟨v3, v4, v5, rfl, o3, o4, o5, hb5⟩
              obtain ⟨D3, d3, ev3, el3, oc3⟩ := Kd.R_reads o3
              obtain ⟨D4, d4, ev4, el4, oc4⟩ := Kd.R_reads o4
              obtain ⟨D5, d5, ev5, el5, oc5⟩ := Kd.R_reads o5
              subst ev3 ev4 ev5
              have wr3 := (wrF_of_R (sz := 4) o3 rfl).lower (B' := A4w.heap.size) (Nat.le_refl _)
              have wr4 := (wrF_of_R (sz := 5) o4 rfl).lower (B' := A4w.heap.size) (Nat.le_refl _)
              have wr5 := (wrF_of_R (sz := 5) o5 rfl).lower (B' := A4w.heap.size) (Nat.le_refl _)
              clear o3 o4 o5
              have hb5' : Below A4w.heap.size A4w W5 := (bd1 (Below.refl _ _)).trans hb5
              clear hb5
              refine hK _ _ ?_
              clear hK K
              revert wr5 wr4 wr3 hb5' oc5 el5 oc4 el4 oc3 el3
              revert D3 d3 D4 d4 D5 d5 W5
              exact key
            · go_simp
              refine ⟨trivial, wide_depth, ?_⟩
              refine CallsIn.inRound l ((callsIn_wide.2 (prog_Copied.calls k x.2.f0 x.2.f1 A2' z2 x.2.f2 A3' z3 x.2.f3 A4' z4 x.2.f4 _ _ _ _ _ A4w.drew (Kd.C_below qr2 BD) ql2 (Kd.C_below qr3 BD) ql3 (Kd.C_below qr4 BD) ql4 CP)).mono ?_)
              rintro e W5 ⟨v3, v4, v5, rfl, o3, o4, o5, hb5⟩
              obtain ⟨D3, d3, ev3, el3, oc3⟩ := Kd.R_reads o3
              obtain ⟨D4, d4, ev4, el4, oc4⟩ := Kd.R_reads o4
              obtain ⟨D5, d5, ev5, el5, oc5⟩ := Kd.R_reads o5
              subst ev3 ev4 ev5
              have wr3 := (wrF_of_R (sz := 4) o3 rfl).lower (B' := A4w.heap.size) (Nat.le_refl _)
              have wr4 := (wrF_of_R (sz := 5) o4 rfl).lower (B' := A4w.heap.size) (Nat.le_refl _)
              have wr5 := (wrF_of_R (sz := 5) o5 rfl).lower (B' := A4w.heap.size) (Nat.le_refl _)
              clear o3 o4 o5
              have hb5' : Below A4w.heap.size A4w W5 := (bd1 (Below.refl _ _)).trans hb5
              clear hb5
              refine hK _ _ ?_
              clear hK K
              refine wpAnyIn_ready (rs := [1]) (by kernel_rfl) (by simp) (AllReadyIn.cons rfl (fun K hK => ?_) AllReadyIn.nil)
              go_simp
              refine hK _ _ ?_
              clear hK K
              revert wr5 wr4 wr3 hb5' oc5 el5 oc4 el4 oc3 el3
              revert D3 d3 D4 d4 D5 d5 W5
              exact key
        · go_simp
          refine hK _ _ ?_
          clear hK K
          refine wpAnyIn_ready (rs := [0, 2]) (by kernel_rfl) (by simp) ?_
          refine (AllReadyIn.cons rfl (fun K hK => ?_) (AllReadyIn.cons rfl (fun K hK => ?_) AllReadyIn.nil))
          · go_simp
            refine hK _ _ ?_
            clear hK K
            refine wpAnyIn_ready (rs := [2]) (by kernel_rfl) (by simp) (AllReadyIn.cons rfl (fun K hK => ?_) AllReadyIn.nil)
            go_simp
            refine hK _ _ ?_
            clear hK K
            refine wpAnyIn_ready (rs := [3]) (by kernel_rfl) (by simp) (AllReadyIn.cons rfl (fun K hK => ?_) AllReadyIn.nil)
            go_simp
            refine ⟨trivial, wide_depth, ?_⟩
            refine CallsIn.inRound l ((callsIn_wide.2 (prog_Copied.calls k x.2.f0 x.2.f1 A2' z2 x.2.f2 A3' z3 x.2.f3 A4' z4 x.2.f4 _ _ _ _ _ A4w.drew (Kd.C_below qr2 BD) ql2 (Kd.C_below qr3 BD) ql3 (Kd.C_below qr4 BD) ql4 CP)).mono ?_)
            rintro e W5 ⟨v3, v4, v5, rfl, o3, o4, o5, hb5⟩
            obtain ⟨D3, d3, ev3, el3, oc3⟩ := Kd.R_reads o3
            obtain ⟨D4, d4, ev4, el4, oc4⟩ := Kd.R_reads o4
            obtain ⟨D5, d5, ev5, el5, oc5⟩ := Kd.R_reads o5
            subst ev3 ev4 ev5
            have wr3 := (wrF_of_R (sz := 4) o3 rfl).lower (B' := A4w.heap.size) (Nat.le_refl _)
            have wr4 := (wrF_of_R (sz := 5) o4 rfl).lower (B' := A4w.heap.size) (Nat.le_refl _)
            have wr5 := (wrF_of_R (sz := 5) o5 rfl).lower (B' := A4w.heap.size) (Nat.le_refl _)
            clear o3 o4 o5
            have hb5' : Below A4w.heap.size A4w W5 := (bd1 (Below.refl _ _)).trans hb5
            clear hb5
            refine hK _ _ ?_
            clear hK K
            revert wr5 wr4 wr3 hb5' oc5 el5 oc4 el4 oc3 el3
            revert D3 d3 D4 d4 D5 d5 W5
            exact key
          · go_simp
            refine hK _ _ ?_
            clear hK K
            refine wpAnyIn_ready (rs := [0, 3]) (by kernel_rfl) (by simp) ?_
            refine (AllReadyIn.cons rfl (fun K hK => ?_) (AllReadyIn.cons rfl (fun K hK => ?_) AllReadyIn.nil))
            · go_simp
              refine hK _ _ ?_
              clear hK K
              refine wpAnyIn_ready (rs := [3]) (by kernel_rfl) (by simp) (AllReadyIn.cons rfl (fun K hK => ?_) AllReadyIn.nil)
              go_simp
              refine ⟨trivial, wide_depth, ?_⟩
              refine CallsIn.inRound l ((callsIn_wide.2 (prog_Copied.calls k x.2.f0 x.2.f1 A2' z2 x.2.f2 A3' z3 x.2.f3 A4' z4 x.2.f4 _ _ _ _ _ A4w.drew (Kd.C_below qr2 BD) ql2 (Kd.C_below qr3 BD) ql3 (Kd.C_below qr4 BD) ql4 CP)).mono ?_)
              rintro e W5 ⟨v3, v4, v5, rfl, o3, o4, o5, hb5⟩
              obtain ⟨D3, d3, ev3, el3, oc3⟩ := Kd.R_reads o3
              obtain ⟨D4, d4, ev4, el4, oc4⟩ := Kd.R_reads o4
              obtain ⟨D5, d5, ev5, el5, oc5⟩ := Kd.R_reads o5
              subst ev3 ev4 ev5
              have wr3 := (wrF_of_R (sz := 4) o3 rfl).lower (B' := A4w.heap.size) (Nat.le_refl _)
              have wr4 := (wrF_of_R (sz := 5) o4 rfl).lower (B' := A4w.heap.size) (Nat.le_refl _)
              have wr5 := (wrF_of_R (sz := 5) o5 rfl).lower (B' := A4w.heap.size) (Nat.le_refl _)
              clear o3 o4 o5
              have hb5' : Below A4w.heap.size A4w W5 := (bd1 (Below.refl _ _)).trans hb5
              clear hb5
              refine hK _ _ ?_
              clear hK K
              revert wr5 wr4 wr3 hb5' oc5 el5 oc4 el4 oc3 el3
              revert D3 d3 D4 d4 D5 d5 W5
              exact key
            · go_simp
              refine ⟨trivial, wide_depth, ?_⟩
              refine CallsIn.inRound l ((callsIn_wide.2 (prog_Copied.calls k x.2.f0 x.2.f1 A2' z2 x.2.f2 A3' z3 x.2.f3 A4' z4 x.2.f4 _ _ _ _ _ A4w.drew (Kd.C_below qr2 BD) ql2 (Kd.C_below qr3 BD) ql3 (Kd.C_below qr4 BD) ql4 CP)).mono ?_)
              rintro e W5 ⟨v3, v4, v5, rfl, o3, o4, o5, hb5⟩
              obtain ⟨D3, d3, ev3, el3, oc3⟩ := Kd.R_reads o3
              obtain ⟨D4, d4, ev4, el4, oc4⟩ := Kd.R_reads o4
              obtain ⟨D5, d5, ev5, el5, oc5⟩ := Kd.R_reads o5
              subst ev3 ev4 ev5
              have wr3 := (wrF_of_R (sz := 4) o3 rfl).lower (B' := A4w.heap.size) (Nat.le_refl _)
              have wr4 := (wrF_of_R (sz := 5) o4 rfl).lower (B' := A4w.heap.size) (Nat.le_refl _)
              have wr5 := (wrF_of_R (sz := 5) o5 rfl).lower (B' := A4w.heap.size) (Nat.le_refl _)
              clear o3 o4 o5
              have hb5' : Below A4w.heap.size A4w W5 := (bd1 (Below.refl _ _)).trans hb5
              clear hb5
              refine hK _ _ ?_
              clear hK K
              have y5 := (hb5'.block _ (blk_lt hi4.2)).trans hi4.2
              have yc : W5.cell? ⟨W.heap.size, 0, none⟩ = some (.func (.yield rl) #[] #[]) := (blk_cell y5 0).trans rfl
              refine wpAnyIn_ready (rs := [0]) (by kernel_rfl) (by simp) (AllReadyIn.cons rfl (fun K hK => ?_) AllReadyIn.nil)
              go_simp
              refine hK _ _ ?_
              clear hK K
              clear yc y5
              revert wr5 wr4 wr3 hb5' oc5 el5 oc4 el4 oc3 el3
              revert D3 d3 D4 d4 D5 d5 W5
              exact key
        · go_simp
          refine hK _ _ ?_
          clear hK K
          refine wpAnyIn_ready (rs := [0, 1, 3]) (by kernel_rfl) (by simp) ?_
          refine (AllReadyIn.cons rfl (fun K hK => ?_) (AllReadyIn.cons rfl (fun K hK => ?_) (AllReadyIn.cons rfl (fun K hK => ?_) AllReadyIn.nil)))
          · go_simp
            refine hK _ _ ?_
            clear hK K
            refine wpAnyIn_ready (rs := [1, 3]) (by kernel_rfl) (by simp) ?_
            refine (AllReadyIn.cons rfl (fun K hK => ?_) (AllReadyIn.cons rfl (fun K hK => ?_) AllReadyIn.nil))
            · go_simp
              refine hK _ _ ?_
              clear hK K
              refine wpAnyIn_ready (rs := [3]) (by kernel_rfl) (by simp) (AllReadyIn.cons rfl (fun K hK => ?_) AllReadyIn.nil)
              go_simp
              refine ⟨trivial, wide_depth, ?_⟩
              refine CallsIn.inRound l ((callsIn_wide.2 (prog_Copied.calls k x.2.f0 x.2.f1 A2' z2 x.2.f2 A3' z3 x.2.f3 A4' z4 x.2.f4 _ _ _ _ _ A4w.drew (Kd.C_below qr2 BD) ql2 (Kd.C_below qr3 BD) ql3 (Kd.C_below qr4 BD) ql4 CP)).mono ?_)
              rintro e W5 ⟨v3, v4, v5, rfl, o3, o4, o5, hb5⟩
              obtain ⟨D3, d3, ev3, el3, oc3⟩ := Kd.R_reads o3
              obtain ⟨D4, d4, ev4, el4, oc4⟩ := Kd.R_reads o4
              obtain ⟨D5, d5, ev5, el5, oc5⟩ := Kd.R_reads o5
              subst ev3 ev4 ev5
              have wr3 := (wrF_of_R (sz := 4) o3 rfl).lower (B' := A4w.heap.size) (Nat.le_refl _)
              have wr4 := (wrF_of_R (sz := 5) o4 rfl).lower (B' := A4w.heap.size) (Nat.le_refl _)
              have wr5 := (wrF_of_R (sz := 5) o5 rfl).lower (B' := A4w.heap.size) (Nat.le_refl _)
              clear o3 o4 o5
              have hb5' : Below A4w.heap.size A4w W5 := (bd1 (Below.refl _ _)).trans hb5
              clear hb5
              refine hK _ _ ?_
              clear hK K
              revert wr5 wr4 wr3 hb5' oc5 el5 oc4 el4 oc3 el3
              revert D3 d3 D4 d4 D5 d5 W5
              exact key
            · go_simp
              refine ⟨trivial, wide_depth, ?_⟩
              refine CallsIn.inRound l ((callsIn_wide.2 (prog_Copied.calls k x.2.f0 x.2.f1 A2' z2 x.2.f2 A3' z3 x.2.f3 A4' z4 x.2.f4 _ _ _ _ _ A4w.drew (Kd.C_below qr2 BD) ql2 (Kd.C_below qr3 BD) ql3 (Kd.C_below qr4 BD) ql4 CP)).mono ?_)
              rintro e W5 ⟨v3, v4, v5, rfl, o3, o4, o5, hb5⟩
              obtain ⟨D3, d3, ev3, el3, oc3⟩ := Kd.R_reads o3
              obtain ⟨D4, d4, ev4, el4, oc4⟩ := Kd.R_reads o4
              obtain ⟨D5, d5, ev5, el5, oc5⟩ := Kd.R_reads o5
              subst ev3 ev4 ev5
              have wr3 := (wrF_of_R (sz := 4) o3 rfl).lower (B' := A4w.heap.size) (Nat.le_refl _)
              have wr4 := (wrF_of_R (sz := 5) o4 rfl).lower (B' := A4w.heap.size) (Nat.le_refl _)
              have wr5 := (wrF_of_R (sz := 5) o5 rfl).lower (B' := A4w.heap.size) (Nat.le_refl _)
              clear o3 o4 o5
              have hb5' : Below A4w.heap.size A4w W5 := (bd1 (Below.refl _ _)).trans hb5
              clear hb5
              refine hK _ _ ?_
              clear hK K
              refine wpAnyIn_ready (rs := [1]) (by kernel_rfl) (by simp) (AllReadyIn.cons rfl (fun K hK => ?_) AllReadyIn.nil)
              go_simp
              refine hK _ _ ?_
              clear hK K
              revert wr5 wr4 wr3 hb5' oc5 el5 oc4 el4 oc3 el3
              revert D3 d3 D4 d4 D5 d5 W5
              exact key
          · go_simp
            refine hK _ _ ?_
            clear hK K
            refine wpAnyIn_ready (rs := [0, 3]) (by kernel_rfl) (by simp) ?_
            refine (AllReadyIn.cons rfl (fun K hK => ?_) (AllReadyIn.cons rfl (fun K hK => ?_) AllReadyIn.nil))
            · go_simp
              refine hK _ _ ?_
              clear hK K
              refine wpAnyIn_ready (rs := [3]) (by kernel_rfl) (by simp) (AllReadyIn.cons rfl (fun K hK => ?_) AllReadyIn.nil)
              go_simp
              refine ⟨trivial, wide_depth, ?_⟩
              refine CallsIn.inRound l ((callsIn_wide.2 (prog_Copied.calls k x.2.f0 x.2.f1 A2' z2 x.2.f2 A3' z3 x.2.f3 A4' z4 x.2.f4 _ _ _ _ _ A4w.drew (Kd.C_below qr2 BD) ql2 (Kd.C_below qr3 BD) ql3 (Kd.C_below qr4 BD) ql4 CP)).mono ?_)
              rintro e W5 ⟨v3, v4, v5, rfl, o3, o4, o5, hb5⟩
              obtain ⟨D3, d3, ev3, el3, oc3⟩ := Kd.R_reads o3
              obtain ⟨D4, d4, ev4, el4, oc4⟩ := Kd.R_reads o4
              obtain ⟨D5, d5, ev5, el5, oc5⟩ := Kd.R_reads o5
              subst ev3 ev4 ev5
              have wr3 := (wrF_of_R (sz := 4) o3 rfl).lower (B' := A4w.heap.size) (Nat.le_refl _)
              have wr4 := (wrF_of_R (sz := 5) o4 rfl).lower (B' := A4w.heap.size) (Nat.le_refl _)
              have wr5 := (wrF_of_R (sz := 5) o5 rfl).lower (B' := A4w.heap.size) (Nat.le_refl _)
              clear o3 o4 o5
              have hb5' : Below A4w.heap.size A4w W5 := (bd1 (Below.refl _ _)).trans hb5
              clear hb5
              refine hK _ _ ?_
              clear hK K
              revert wr5 wr4 wr3 hb5' oc5 el5 oc4 el4 oc3 el3
              revert D3 d3 D4 d4 D5 d5 W5
              exact key
            · go_simp
              refine ⟨trivial, wide_depth, ?_⟩
              refine CallsIn.inRound l ((callsIn_wide.2 (prog_Copied.calls k x.2.f0 x.2.f1 A2' z2 x.2.f2 A3' z3 x.2.f3 A4' z4 x.2.f4 _ _ _ _ _ A4w.drew (Kd.C_below qr2 BD) ql2 (Kd.C_below qr3 BD) ql3 (Kd.C_below qr4 BD) ql4 CP)).mono ?_)
              rintro e W5 ⟨v3, v4, v5, rfl, o3, o4, o5, hb5⟩
              obtain ⟨D3, d3, ev3, el3, oc3⟩ := Kd.R_reads o3
              obtain ⟨D4, d4, ev4, el4, oc4⟩ := Kd.R_reads o4
              obtain ⟨D5, d5, ev5, el5, oc5⟩ := Kd.R_reads o5
              subst ev3 ev4 ev5
              have wr3 := (wrF_of_R (sz := 4) o3 rfl).lower (B' := A4w.heap.size) (Nat.le_refl _)
              have wr4 := (wrF_of_R (sz := 5) o4 rfl).lower (B' := A4w.heap.size) (Nat.le_refl _)
              have wr5 := (wrF_of_R (sz := 5) o5 rfl).lower (B' := A4w.heap.size) (Nat.le_refl _)
              clear o3 o4 o5
              have hb5' : Below A4w.heap.size A4w W5 := (bd1 (Below.refl _ _)).trans hb5
              clear hb5
              refine hK _ _ ?_
              clear hK K
              have y5 := (hb5'.block _ (blk_lt hi4.2)).trans hi4.2
              have yc : W5.cell? ⟨W.heap.size, 0, none⟩ = some (.func (.yield rl) #[] #[]) := (blk_cell y5 0).trans rfl
              refine wpAnyIn_ready (rs := [0]) (by kernel_rfl) (by simp) (AllReadyIn.cons rfl (fun K hK => ?_) AllReadyIn.nil)
              go_simp
              refine hK _ _ ?_
              clear hK K
              clear yc y5
              revert wr5 wr4 wr3 hb5' oc5 el5 oc4 el4 oc3 el3
              revert D3 d3 D4 d4 D5 d5 W5
              exact key
          · go_simp
            refine ⟨trivial, wide_depth, ?_⟩
            refine CallsIn.inRound l ((callsIn_wide.2 (prog_Copied.calls k x.2.f0 x.2.f1 A2' z2 x.2.f2 A3' z3 x.2.f3 A4' z4 x.2.f4 _ _ _ _ _ A4w.drew (Kd.C_below qr2 BD) ql2 (Kd.C_below qr3 BD) ql3 (Kd.C_below qr4 BD) ql4 CP)).mono ?_)
            rintro e W5 ⟨v3, v4, v5, rfl, o3, o4, o5, hb5⟩
            obtain ⟨D3, d3, ev3, el3, oc3⟩ := Kd.R_reads o3
            obtain ⟨D4, d4, ev4, el4, oc4⟩ := Kd.R_reads o4
            obtain ⟨D5, d5, ev5, el5, oc5⟩ := Kd.R_reads o5
            subst ev3 ev4 ev5
            have wr3 := (wrF_of_R (sz := 4) o3 rfl).lower (B' := A4w.heap.size) (Nat.le_refl _)
            have wr4 := (wrF_of_R (sz := 5) o4 rfl).lower (B' := A4w.heap.size) (Nat.le_refl _)
            have wr5 := (wrF_of_R (sz := 5) o5 rfl).lower (B' := A4w.heap.size) (Nat.le_refl _)
            clear o3 o4 o5
            have hb5' : Below A4w.heap.size A4w W5 := (bd1 (Below.refl _ _)).trans hb5
            clear hb5
            refine hK _ _ ?_
            clear hK K
            have y5 := (hb5'.block _ (blk_lt hi4.2)).trans hi4.2
            have yc : W5.cell? ⟨W.heap.size, 0, none⟩ = some (.func (.yield rl) #[] #[]) := (blk_cell y5 0).trans rfl
            refine wpAnyIn_ready (rs := [0, 1]) (by kernel_rfl) (by simp) ?_
            refine (AllReadyIn.cons rfl (fun K hK => ?_) (AllReadyIn.cons rfl (fun K hK => ?_) AllReadyIn.nil))
            · go_simp
              refine hK _ _ ?_
              clear hK K
              refine wpAnyIn_ready (rs := [1]) (by kernel_rfl) (by simp) (AllReadyIn.cons rfl (fun K hK => ?_) AllReadyIn.nil)
              go_simp
              refine hK _ _ ?_
              clear hK K
              clear yc y5
              revert wr5 wr4 wr3 hb5' oc5 el5 oc4 el4 oc3 el3
              revert D3 d3 D4 d4 D5 d5 W5
              exact key
            · go_simp
              refine hK _ _ ?_
              clear hK K
              refine wpAnyIn_ready (rs := [0]) (by kernel_rfl) (by simp) (AllReadyIn.cons rfl (fun K hK => ?_) AllReadyIn.nil)
              go_simp
              refine hK _ _ ?_
              clear hK K
              clear yc y5
              revert wr5 wr4 wr3 hb5' oc5 el5 oc4 el4 oc3 el3
              revert D3 d3 D4 d4 D5 d5 W5
              exact key
      intro W5 D3 d3 D4 d4 D5 d5 el3 oc3 el4 oc4 el5 oc5 wr3 wr4 wr5 hb5'
      have hJ5 := HJ.out _ _ _ hi4.1 (hb5'.mono (by have := b3.size; omega))
      have hyl := HY.out pre x _ W5 A4w.heap.size hJ5 ⟨r1, r2, r3, r4, r5, D3, d3, D4, d4, D5, d5, CP, rfl, wr3, wr4, wr5⟩ (hb4.trans (hb5'.mono (by have := hb4.size; omega))) (by have := b3.size; omega) hb5'.size (by simpa using hpre)
      obtain ⟨fn, tmps, assign, body, hyd, hR0⟩ := hyl
      refine wpAnyIn_ready (rs := [4]) (by kernel_rfl) (by simp) (AllReadyIn.cons rfl (fun K hK => ?_) AllReadyIn.nil)
      go_simp
      gi_wp2_with (first | (refine ⟨wide_depth, ?_⟩; refine (round_any hR0).mono ?_; rintro e W6 ⟨rfl, hx, hx2⟩))
      have hs5 := hb5'.size
      have hs3 := b3.size
      cases hgo : go pre x with
      | false =>
        replace hx2 := hx2 hgo
        clear hx
        refine wpAnyIn_ready (rs := [5]) (by kernel_rfl) (by simp) (AllReadyIn.cons rfl (fun K hK => ?_) AllReadyIn.nil)
        go_simp
        refine hK _ _ ?_
        clear hK K
        refine wpAnyIn_done (by kernel_rfl) ?_ _
        gi_wp2
        exact ⟨hgo, fun k h1 h2 => (hx2.2 k (by omega) (by omega)).trans (hb5'.block k (by omega)), rfl, hx2.1⟩
      | true =>
        obtain ⟨j6, k6, b6⟩ := hx hgo
        clear hx hx2
        refine wpAnyIn_ready (rs := [5]) (by kernel_rfl) (by simp) (AllReadyIn.cons rfl (fun K hK => ?_) AllReadyIn.nil)
        go_simp
        refine hK _ _ ?_
        clear hK K
        refine wpAnyIn_done (by kernel_rfl) ?_ _
        gi_wp2
        have hk6 := k6.1
        refine ⟨hgo, by omega, fun k h1 h2 => (k6.2 k (by omega) (by omega)).trans (hb5'.block k (by omega)), b6, j6, ?_⟩
        exact (k6.2 _ (Nat.le_refl _) (by omega)).trans ((hb5'.block _ (blk_lt hi4.2)).trans hi4.2)
end Go.Proofs.Ytffcpbgbhkbplaa.Print
namespace Go.Proofs.Ytffcpbgbhkbplaa.Print
open Go.RowKit Go.Proofs.YtffcpbgbhkbplaaW.PrintWords Go.Proofs.YtffcpbgbhkbplaaW.PrintLast Go.Proofs.YtffcpbgbhkbplaaW.PrintMore
attribute [local go_sem] max2_int min2_int max_two min_two max_three min_three max_four min_four
set_option linter.unusedVariables false
set_option linter.unusedSimpArgs false
def unlisted (n : Nat) (listed : Array Bool) : Nat := ((List.range n).filter fun j => !listed.getD j true).length
theorem unlisted_set {n i : Nat} {listed : Array Bool} (hi : i < n) (h : listed.getD i true = false) : unlisted n (listed.setIfInBounds i true) < unlisted n listed := by
  have hsz : i < listed.size := by
    rcases Nat.lt_or_ge i listed.size with h' | h'
    · exact h'
    · simp [Array.getD, Nat.not_lt.mpr h'] at h
  unfold unlisted
  have key : ∀ l : List Nat, (l.filter fun j => !(listed.setIfInBounds i true).getD j true).length + (l.filter fun j => decide (j = i)).length = (l.filter fun j => !listed.getD j true).length := by
    intro l
    induction l with
    | nil => rfl
    | cons x r ih =>
      by_cases hx : x = i
      · subst hx
        have e1 : (listed.setIfInBounds x true).getD x true = true := by simp [Array.getD, hsz]
        simp only [List.filter_cons, e1, h, decide_true, Bool.not_true, Bool.not_false, if_true, Bool.false_eq_true, if_false, List.length_cons]
        omega
      · have e1 : (listed.setIfInBounds i true).getD x true = listed.getD x true := getD_set_ne true (Ne.symm hx)
        have e2 : ((!(listed.setIfInBounds i true).getD x true) = true) = ((!listed.getD x true) = true) := by rw [e1]
        simp only [List.filter_cons, e2, decide_eq_false hx, Bool.false_eq_true, if_false]
        by_cases hh : (!listed.getD x true) = true
        · rw [if_pos hh, if_pos hh, List.length_cons, List.length_cons]; omega
        · rw [if_neg hh, if_neg hh]; exact ih
  have h1 := key (List.range n)
  have h2 : 0 < ((List.range n).filter fun j => decide (j = i)).length := by
    rw [List.length_pos_iff_exists_mem]
    exact ⟨i, by simp [hi]⟩
  omega
section
variable {P : Program} {ops : Array Oper} {Q : Exit → Act → World → Prop} {md : Region.Mode}
def backward (ops : Array Oper) : Bool := (List.range ops.size).all fun j => match ops[j]? with | none => true | some o => o.after.all fun e => decide (e.on < j)
theorem all_listed (hb : backward ops = true) {listed : Array Bool} (hr : Region.ready md ops listed = []) : ∀ j, j < ops.size → listed.getD j true = true := by
  intro j
  induction j using Nat.strongRecOn with
  | _ j ih =>
  intro hj
  rcases hl : listed.getD j true with _ | _
  · exfalso
    have hm : j ∈ Region.ready md ops listed := by
      rw [mem_ready]
      refine ⟨hl, ops[j], Array.getElem?_eq_getElem hj, fun e he _ => ?_⟩
      have h1 := List.all_eq_true.1 hb j (List.mem_range.2 hj)
      rw [Array.getElem?_eq_getElem hj] at h1
      have h2 := Array.all_eq_true'.1 h1 e he
      have h3 : e.on < j := of_decide_eq_true h2
      have h4 := ih e.on h3 (by omega)
      rcases Nat.lt_or_ge e.on listed.size with h' | h'
      · simp [Array.getD, h'] at h4 ⊢
        exact h4
      · have : listed.getD j true = true := by
          have : ¬ j < listed.size := by omega
          simp [Array.getD, this]
        rw [hl] at this
        cases this
    rw [hr] at hm
    cases hm
  · rfl
theorem wpAny_inv (hb : backward ops = true) (Inv : Array Bool → Act → World → Prop)
    (hend : ∀ listed a w, Inv listed a w → (∀ j, j < ops.size → listed.getD j true = true) → Q .normal a w)
    (step : ∀ listed a w i o, Inv listed a w → ops[i]? = some o → listed.getD i true = false → (∀ e ∈ o.after, Region.binds md e = true → listed.getD e.on false = true) →
      wpOp P ops Q i (fun a' w' => Inv (listed.setIfInBounds i true) a' w') a w) :
    ∀ (fuel : Nat) (listed : Array Bool) (a : Act) (w : World), unlisted ops.size listed ≤ fuel → Inv listed a w → wpAny P md ops Q fuel listed a w := by
  intro fuel
  induction fuel with
  | zero =>
    intro listed a w hu hI
    have hr : Region.ready md ops listed = [] := by
      rw [List.eq_nil_iff_forall_not_mem]
      intro j hj
      obtain ⟨h0, o, ho, _⟩ := mem_ready.1 hj
      have hlt := (Array.getElem?_eq_some_iff.1 ho).1
      have := unlisted_set hlt h0
      omega
    exact ⟨hr, hend _ _ _ hI (all_listed hb hr)⟩
  | succ fuel ih =>
    intro listed a w hu hI
    refine ⟨fun hr => hend _ _ _ hI (all_listed hb hr), fun i hi => ?_⟩
    obtain ⟨h0, o, ho, hall⟩ := mem_ready.1 hi
    have hlt := (Array.getElem?_eq_some_iff.1 ho).1
    have hu2 := unlisted_set hlt h0
    exact wpOp_mono (fun a' w' h' => ih _ a' w' (by omega) h') (step listed a w i o hI ho h0 hall)
end
end Go.Proofs.Ytffcpbgbhkbplaa.Print
namespace Go.Proofs.Ytffcpbgbhkbplaa.Print
open Go.RowKit Go.Proofs.YtffcpbgbhkbplaaW.PrintWords Go.Proofs.YtffcpbgbhkbplaaW.PrintLast Go.Proofs.YtffcpbgbhkbplaaW.PrintMore
attribute [local go_sem] max2_int min2_int max_two min_two max_three min_three max_four min_four
set_option linter.unusedVariables false
set_option linter.unusedSimpArgs false
open Go.RowKit
section
variable {α : Type} {d : Kd α} {e : Nat} {W W1 : World} {v : Value}
theorem flatten_get {sz : Nat} : ∀ (css : List (List Value)) (j : Nat) (c : List Value) (i : Nat), (∀ c ∈ css, c.length = sz) → css[j]? = some c → i < sz → css.flatten[j * sz + i]? = c[i]?
  | [], j, c, i, _, h, _ => by simp at h
  | x :: r, 0, c, i, hl, h, hi => by
    obtain rfl : x = c := by simpa using h
    have := hl x (by simp)
    simp only [List.flatten_cons, Nat.zero_mul, Nat.zero_add]
    rw [List.getElem?_append_left (by omega)]
  | x :: r, j + 1, c, i, hl, h, hi => by
    have h1 := hl x (by simp)
    have h2 : r[j]? = some c := by simpa using h
    simp only [List.flatten_cons]
    have e1 : (j + 1) * sz + i = x.length + (j * sz + i) := by rw [h1, Nat.succ_mul]; omega
    rw [e1, List.getElem?_append_right (by omega), Nat.add_sub_cancel_left]
    exact flatten_get r j c i (fun c hc => hl c (by simp [hc])) h2 hi
def Is (d : Kd α) (B : Nat) (W : World) (v : Value) (x : α) : Prop := ∃ cs : List Value, v = .agg cs.toArray ∧ Kd.FK d W (fun k => B ≤ k ∧ k < W.heap.size) x cs
def IsRow (d : Kd α) (B : Nat) (e : Nat) (W : World) (v : Value) (l : List α) : Prop :=
  ∃ (b : Nat) (css : List (List Value)), v = .slice (some ⟨b, 0, none⟩) l.length l.length ∧ W.heap[b]? = some (.cells css.flatten.toArray e (0, 0)) ∧ B ≤ b ∧ css.length = l.length ∧ l.length ≤ 9223372036854775807 ∧
    ∀ (j : Nat) (x : α) (c : List Value), l[j]? = some x → css[j]? = some c → Kd.FK d W (fun k => B ≤ k ∧ k < b) x c
variable {B : Nat}
theorem Is.below {x : α} (h : Is d B W v x) (hb : Below W.heap.size W W1) : Is d B W1 v x := by
  obtain ⟨cs, e1, h⟩ := h
  exact ⟨cs, e1, Kd.FK_mono (Kd.FK_below h hb) (fun k hk => ⟨hk.1, Nat.lt_of_lt_of_le hk.2 hb.size⟩)⟩
theorem IsRow.below {l : List α} (h : IsRow d B e W v l) (hb : Below W.heap.size W W1) : IsRow d B e W1 v l := by
  obtain ⟨b, css, e1, h1, h0, h2, h3, h4⟩ := h
  exact ⟨b, css, e1, (hb.block _ (blk_lt h1)).trans h1, h0, h2, h3, fun j x c hj hc => Kd.FK_below (h4 j x c hj hc) hb⟩
theorem IsRow.far {l : List α} (h : IsRow d B e W v l) {p : Addr} (hp : p.block < B) (u : Value) : IsRow d B e (W.setCell p u) v l := by
  obtain ⟨b, css, e1, h1, h0, h2, h3, h4⟩ := h
  exact ⟨b, css, e1, (Below.heap_setCell _ _ _ _ (by omega)).trans h1, h0, h2, h3, fun j x c hj hc => Kd.FK_step (h4 j x c hj hc) (fun k hk _ => Below.heap_setCell _ _ _ _ (by have := hk.1; omega))⟩
theorem IsRow.F {l : List α} {b : Nat} {css : List (List Value)} (h1 : W.heap[b]? = some (.cells css.flatten.toArray e (0, 0))) (h0 : B ≤ b) (h2 : css.length = l.length) (h3 : l.length ≤ 9223372036854775807)
    (h4 : ∀ (j : Nat) (x : α) (c : List Value), l[j]? = some x → css[j]? = some c → Kd.FK d W (fun k => B ≤ k ∧ k < b) x c) : Kd.F d W (fun k => B ≤ k ∧ k < W.heap.size) (some ⟨b, 0, none⟩) l.length l := by
  intro W' hW'
  have hb := blk_lt h1
  have hlen : ∀ c ∈ css, c.length = d.sz := by
    intro c hc
    obtain ⟨j, hj, e2⟩ := List.mem_iff_getElem.1 hc
    have hj2 : j < l.length := by omega
    exact d.K_len (Kd.FK_now (h4 j l[j] c (List.getElem?_eq_getElem hj2) (by rw [List.getElem?_eq_getElem hj, e2])))
  refine ⟨rfl, h3, fun _ => ⟨_, rfl, fun j x hj => ?_⟩⟩
  have hj2 : j < css.length := by have := (List.getElem?_eq_some_iff.1 hj).1; omega
  have hc := List.getElem?_eq_getElem hj2
  have hk := h4 j x _ hj hc
  refine ⟨css[j], hlen _ (List.getElem_mem hj2), hk W' (fun k hk' hk2 => hW' k ⟨hk'.1, hk2⟩ hk2), fun i u hu => ?_⟩
  have hi : i < d.sz := by have := (List.getElem?_eq_some_iff.1 hu).1; rw [hlen _ (List.getElem_mem hj2)] at this; exact this
  have hg := flatten_get css j _ i hlen hc hi
  have hB := (hW' b ⟨h0, hb⟩ hb).trans h1
  have : (⟨b, 0, none⟩ : Addr).add (j * d.sz + i) = ⟨b, j * d.sz + i, none⟩ := by unfold Addr.add; split <;> simp_all
  rw [this, blk_cell hB (j * d.sz + i)]
  simpa [hg] using hu
theorem IsRow.foot {l : List α} (h : IsRow d B e W v l) : ∃ A, v = .slice A l.length l.length ∧ Kd.F d W (fun k => B ≤ k ∧ k < W.heap.size) A l.length l := by
  obtain ⟨b, css, e1, h1, h0, h2, h3, h4⟩ := h
  exact ⟨_, e1, IsRow.F h1 h0 h2 h3 h4⟩
theorem IsRow.C {l : List α} (h : IsRow d B e W v l) : ∃ A, v = .slice A l.length l.length ∧ d.C W A l.length l := by
  obtain ⟨A, e1, h1⟩ := h.foot
  exact ⟨A, e1, Kd.F_now h1⟩
theorem IsRow.new {l : List α} (hB : B ≤ W.heap.size) (css : List (List Value)) {cs : Array Value} (hcs : cs = css.flatten.toArray) (h2 : css.length = l.length) (h3 : l.length ≤ 9223372036854775807) (h4 : ∀ (j : Nat) (x : α) (c : List Value), l[j]? = some x → css[j]? = some c → Kd.FK d W (fun k => B ≤ k ∧ k < W.heap.size) x c) :
    IsRow d B e (W.alloc (.cells cs e)) (.slice (some ⟨W.heap.size, 0, none⟩) l.length l.length) l := by
  subst hcs
  exact ⟨_, css, rfl, heap_alloc_new _ _, hB, h2, h3, fun j x c hj hc => Kd.FK_below (h4 j x c hj hc) (bal (Below.refl _ _) _)⟩
theorem F_zero (A : Option Addr) (ok : Nat → Prop) : Kd.F d W ok A ([] : List α).length [] := fun W' _ => ⟨rfl, by simp, fun h => by simp at h⟩
end
end Go.Proofs.Ytffcpbgbhkbplaa.Print
namespace Go.Proofs.Ytffcpbgbhkbplaa.Print
open Go.RowKit Go.Proofs.YtffcpbgbhkbplaaW.PrintWords Go.Proofs.YtffcpbgbhkbplaaW.PrintLast Go.Proofs.YtffcpbgbhkbplaaW.PrintMore
attribute [local go_sem] max2_int min2_int max_two min_two max_three min_three max_four min_four
set_option linter.unusedVariables false
set_option linter.unusedSimpArgs false
def r2_Const.f (a0 : Int) : Option (Int × Int × Int × (List (S96))) := some (0, a0, 0, ([] : List (S96)))
theorem r2_Const.calls (a0 : Int) (r1 : Int) (r2 : Int) (r3 : Int) (r4 : List (S96)) (w : World) (h : r2_Const.f a0 = some (r1, r2, r3, r4)) :
  Calls Try.prog 69 #[.int .i64 a0] w fun e w' => ∃ v3_ : Value, e = .returned (.agg #[.int .i64 r1, .int .i64 r2, .int .i64 r3, v3_]) ∧ Kd.R k96 96 w' w.heap.size (fun _ => True) v3_ r4 ∧ Below w.heap.size w w' := by
 have hu96 := Try.underlying96
 have HB := Aside0.mk (Below.refl w.heap.size w)
 have H : (some (0, a0, 0, ([] : List (S96)))) = some (r1, r2, r3, r4) := h
 clear h
 simp only [Option.some.injEq, Prod.mk.injEq] at H
 obtain ⟨rfl, rfl, rfl, rfl⟩ := H
 go_enter Try.func69, Try.ntmps69
 go_wp2_with (first | ((with_reducible refine gate_dst (N := 2) rfl ?_); refine bx 2 rfl rfl #[.int .i64 0, .int .i64 0, .int .i64 0, .slice none 0 0] 96 ?_; intro gb248 hg w2 hbox hb; have BK248 := Aside0.mk (hbox); have GE248 := ge HB hg; replace HB := sb HB hb; clear hb hbox hg; obtain ⟨hcz3_0, hcz3_1, hcz3_2, hcz3_3, hfz3_0, hfz3_1, hfz3_2, hfz3_3⟩ := cf4 BK248.out))
 refine bodyPost_ret (results_cell_row rfl _ _ gb248 96 #[.int .i64 0, .int .i64 a0, .int .i64 0, .slice none 0 0] (0, 0) _ rfl (by (with_reducible repeat (first | refine kdN ?_ _ | refine kdr ?_ | refine kal ?_ _)); refine blk_put (cs := #[.int .i64 0, .int .i64 a0, .int .i64 0, .slice none 0 0]) ?_ 3 _ rfl; (with_reducible repeat (first | refine kdN ?_ _ | refine kdr ?_ | refine kal ?_ _)); refine blk_put (cs := #[.int .i64 0, .int .i64 a0, .int .i64 0, .slice none 0 0]) ?_ 2 _ rfl; (with_reducible repeat (first | refine kdN ?_ _ | refine kdr ?_ | refine kal ?_ _)); refine blk_put (cs := #[.int .i64 0, .int .i64 0, .int .i64 0, .slice none 0 0]) ?_ 1 _ rfl; (with_reducible repeat (first | refine kdN ?_ _ | refine kdr ?_ | refine kal ?_ _)); refine blk_put (cs := #[.int .i64 0, .int .i64 0, .int .i64 0, .slice none 0 0]) ?_ 0 _ rfl; (with_reducible repeat (first | refine kdN ?_ _ | refine kdr ?_ | refine kal ?_ _)); exact BK248.out) Try.underlying96 rfl (by kernel_rfl)) rfl ?_
 exact ⟨_, rr, by first | exact Kd.R_nil _ _ _ _ _ | exact Kd.N_nil _ _ _ _ _ | exact Kd.V_nil _ _ _ _ _ | exact Kd.Q_nil _ _ _ _ _ | exact Kd.S_nil _ _ _ _ _, bb HB⟩
def r2_Read.f (a0 : Int) (a1 : Int) : Option (Int × Int × Int × (List (S96))) := some (1, a0, a1, ([] : List (S96)))
theorem r2_Read.calls (a0 : Int) (a1 : Int) (r1 : Int) (r2 : Int) (r3 : Int) (r4 : List (S96)) (w : World) (h : r2_Read.f a0 a1 = some (r1, r2, r3, r4)) :
  Calls Try.prog 68 #[.int .i64 a0, .int .i64 a1] w fun e w' => ∃ v3_ : Value, e = .returned (.agg #[.int .i64 r1, .int .i64 r2, .int .i64 r3, v3_]) ∧ Kd.R k96 96 w' w.heap.size (fun _ => True) v3_ r4 ∧ Below w.heap.size w w' := by
 have hu96 := Try.underlying96
 have HB := Aside0.mk (Below.refl w.heap.size w)
 have H : (some (1, a0, a1, ([] : List (S96)))) = some (r1, r2, r3, r4) := h
 clear h
 simp only [Option.some.injEq, Prod.mk.injEq] at H
 obtain ⟨rfl, rfl, rfl, rfl⟩ := H
 go_enter Try.func68, Try.ntmps68
 go_wp2_with (first | ((with_reducible refine gate_dst (N := 4) rfl ?_); refine bx 4 rfl rfl #[.int .i64 0, .int .i64 0, .int .i64 0, .slice none 0 0] 96 ?_; intro gb247 hg w3 hbox hb; have BK247 := Aside0.mk (hbox); have GE247 := ge HB hg; replace HB := sb HB hb; clear hb hbox hg; obtain ⟨hcz4_0, hcz4_1, hcz4_2, hcz4_3, hfz4_0, hfz4_1, hfz4_2, hfz4_3⟩ := cf4 BK247.out))
 refine bodyPost_ret (results_cell_row rfl _ _ gb247 96 #[.int .i64 1, .int .i64 a0, .int .i64 a1, .slice none 0 0] (0, 0) _ rfl (by (with_reducible repeat (first | refine kdN ?_ _ | refine kdr ?_ | refine kal ?_ _)); refine blk_put (cs := #[.int .i64 1, .int .i64 a0, .int .i64 a1, .slice none 0 0]) ?_ 3 _ rfl; (with_reducible repeat (first | refine kdN ?_ _ | refine kdr ?_ | refine kal ?_ _)); refine blk_put (cs := #[.int .i64 1, .int .i64 a0, .int .i64 0, .slice none 0 0]) ?_ 2 _ rfl; (with_reducible repeat (first | refine kdN ?_ _ | refine kdr ?_ | refine kal ?_ _)); refine blk_put (cs := #[.int .i64 1, .int .i64 0, .int .i64 0, .slice none 0 0]) ?_ 1 _ rfl; (with_reducible repeat (first | refine kdN ?_ _ | refine kdr ?_ | refine kal ?_ _)); refine blk_put (cs := #[.int .i64 0, .int .i64 0, .int .i64 0, .slice none 0 0]) ?_ 0 _ rfl; (with_reducible repeat (first | refine kdN ?_ _ | refine kdr ?_ | refine kal ?_ _)); exact BK247.out) Try.underlying96 rfl (by kernel_rfl)) rfl ?_
 exact ⟨_, rr, by first | exact Kd.R_nil _ _ _ _ _ | exact Kd.N_nil _ _ _ _ _ | exact Kd.V_nil _ _ _ _ _ | exact Kd.Q_nil _ _ _ _ _ | exact Kd.S_nil _ _ _ _ _, bb HB⟩
end Go.Proofs.Ytffcpbgbhkbplaa.Print
namespace Go.Proofs.Ytffcpbgbhkbplaa.Print
open Go.RowKit Go.Proofs.YtffcpbgbhkbplaaW.PrintWords Go.Proofs.YtffcpbgbhkbplaaW.PrintLast Go.Proofs.YtffcpbgbhkbplaaW.PrintMore
attribute [local go_sem] max2_int min2_int max_two min_two max_three min_three max_four min_four
set_option linter.unusedVariables false
set_option linter.unusedSimpArgs false
open Go.RowKit
inductive Shape
  | v (x : S82) | ex (x : S96) | s (x : S47) | rv (l : List S82) | re (l : List S96) | rs (l : List S47) | p (n : Int) (l : List S82) (m : List S47)
def Shape.at (B : Nat) (W : World) (v : Value) : Shape → Prop
  | .v x => Is k82 B W v x
  | .ex x => Is k96 B W v x
  | .s x => Is k47 B W v x
  | .rv l => IsRow k82 B 82 W v l
  | .re l => IsRow k96 B 96 W v l
  | .rs l => IsRow k47 B 47 W v l
  | .p n l m => ∃ v2 v3, v = .agg #[.int .i64 n, v2, v3] ∧ IsRow k82 B 82 W v2 l ∧ IsRow k47 B 47 W v3 m
theorem Shape.at.below {B : Nat} {W W1 : World} {v : Value} : ∀ {q : Shape}, q.at B W v → Below W.heap.size W W1 → q.at B W1 v
  | .v _, h, hb => Is.below h hb
  | .ex _, h, hb => Is.below h hb
  | .s _, h, hb => Is.below h hb
  | .rv _, h, hb => IsRow.below h hb
  | .re _, h, hb => IsRow.below h hb
  | .rs _, h, hb => IsRow.below h hb
  | .p _ _ _, ⟨v2, v3, e1, h2, h3⟩, hb => ⟨v2, v3, e1, IsRow.below h2 hb, IsRow.below h3 hb⟩
def one_c1 : S96 := ⟨0, 1, 0, []⟩
def one_c2 : S96 := ⟨0, 2, 0, []⟩
def one_r0 : S96 := ⟨1, 0, 0, []⟩
def one_r1 : S96 := ⟨1, 1, 0, []⟩
def one_x0 : S82 := ⟨{ data := #[104] }, 1, 1⟩
def one_x1 : S82 := ⟨{ data := #[108] }, 0, 1⟩
def one_s5 : S47 := ⟨0, 0, [one_c1], [], []⟩
def one_s10 : S47 := ⟨0, 1, [one_c2], [], []⟩
def one_s13 : S47 := ⟨3, 0, [one_r1], [], []⟩
def one_s17 : S47 := ⟨5, 0, [one_r1], [], []⟩
def one_s19 : S47 := ⟨1, 0, [one_r0], [one_s10, one_s13], [one_s17]⟩
def one_s22 : S47 := ⟨6, 0, [one_c1], [], []⟩
def one_vars : List S82 := [one_x0, one_x1]
def one_body : List S47 := [one_s5, one_s19, one_s22]
def oneShape : Nat → Shape
  | 0 => .v one_x0 | 1 => .v one_x1 | 2 => .rv one_vars | 3 => .ex one_c1 | 4 => .re [one_c1] | 5 => .s one_s5 | 6 => .ex one_r0 | 7 => .re [one_r0] | 8 => .ex one_c2 | 9 => .re [one_c2] | 10 => .s one_s10
  | 11 => .ex one_r1 | 12 => .re [one_r1] | 13 => .s one_s13 | 14 => .rs [one_s10, one_s13] | 15 => .ex one_r1 | 16 => .re [one_r1] | 17 => .s one_s17 | 18 => .rs [one_s17] | 19 => .s one_s19 | 20 => .ex one_c1
  | 21 => .re [one_c1] | 22 => .s one_s22 | 23 => .rs one_body | _ => .p 2 one_vars one_body
structure OneInv (w : World) (g1 g2 : Nat) (L : Array Bool) (a : Act) (W : World) : Prop where
  len : L.size = 26
  size : a.tmps.size = 30
  defers : a.defers = []
  t0 : a.tmps.getD 0 undef = .pointer (some ⟨w.heap.size, 0, none⟩)
  t1 : a.tmps.getD 1 undef = .pointer (some ⟨g1, 0, none⟩)
  t2 : a.tmps.getD 2 undef = .pointer (some ⟨g2, 0, none⟩)
  below : Below w.heap.size w W
  b1 : ∃ D d, W.heap[g1]? = some (.cells #[.int .i64 1, .int .i64 0, .int .i64 0, .slice D 0 d] 96 (0, 0))
  b2 : ∃ D d, W.heap[g2]? = some (.cells #[.int .i64 1, .int .i64 1, .int .i64 0, .slice D 0 d] 96 (0, 0))
  lt : w.heap.size + 1 ≤ W.heap.size
  all : L.getD 25 false = true → ∀ j, j < 25 → L.getD j true = true
  facts : L.getD 25 false = false → ∀ j, j < 25 → L.getD j false = true → (oneShape j).at (w.heap.size + 1) W (a.tmps.getD (5 + j) undef)
  done : L.getD 25 false = true → ∃ v2 v3, W.heap[w.heap.size]? = some (.cells #[.int .i64 2, v2, v3] 25 (0, 0)) ∧ IsRow k82 (w.heap.size + 1) 82 W v2 one_vars ∧ IsRow k47 (w.heap.size + 1) 47 W v3 one_body
  open_ : L.getD 25 false = false → W.heap[w.heap.size]? = some (.cells #[.int .i64 0, .slice none 0 0, .slice none 0 0] 25 (0, 0))
theorem getD_set {α : Type} (A : Array α) (i j : Nat) (x d : α) (hi : i < A.size) : (A.setIfInBounds i x).getD j d = if j = i then x else A.getD j d := by
  by_cases h : j = i
  · subst h
    simp [Array.getD, hi]
  · rw [if_neg h]
    simp only [Array.getD_eq_getD_getElem?, Array.getElem?_setIfInBounds]
    rw [if_neg (Ne.symm h)]
theorem size_lit (W : World) (o : Obj) : (W.alloc o).heap.size = W.heap.size + 1 := by simp
theorem OneInv.no {w W : World} {g1 g2 : Nat} {L : Array Bool} {a : Act} {i : Nat} (h : OneInv w g1 g2 L a W) (hi : i < 25) (hl : L.getD i true = false) : L.getD 25 false = false := by
  cases h25 : L.getD 25 false with
  | false => rfl
  | true =>
    have := h.all h25 i hi
    rw [hl] at this
    cases this
theorem OneInv.put {w W W1 : World} {g1 g2 : Nat} {L : Array Bool} {a : Act} {v : Value} {i d : Nat} (h : OneInv w g1 g2 L a W) (hi : i < 25) (hd : d = 5 + i) (hb : Below W.heap.size W W1) (hv : (oneShape i).at (w.heap.size + 1) W1 v) : OneInv w g1 g2 (L.setIfInBounds i true) (a.put (some d) v) W1 := by
  subst hd
  have hs : 5 + i < a.tmps.size := by rw [h.size]; omega
  have g : ∀ j, (a.put (some (5 + i)) v).tmps.getD j undef = if j = 5 + i then v else a.tmps.getD j undef := fun j => getD_set _ _ _ _ _ hs
  have l25 : (L.setIfInBounds i true).getD 25 false = L.getD 25 false := by
    simp only [Array.getD_eq_getD_getElem?, Array.getElem?_setIfInBounds]
    rw [if_neg (by omega)]
  refine ⟨by simp [h.len], by simp [Act.put, h.size], h.defers, ?_, ?_, ?_, h.below.trans (hb.mono h.below.size), ?_, ?_, Nat.le_trans h.lt hb.size, ?_, ?_, ?_, ?_⟩
  · rw [g, if_neg (by omega)]; exact h.t0
  · rw [g, if_neg (by omega)]; exact h.t1
  · rw [g, if_neg (by omega)]; exact h.t2
  · obtain ⟨D, d, e⟩ := h.b1
    exact ⟨D, d, (hb.block _ (blk_lt e)).trans e⟩
  · obtain ⟨D, d, e⟩ := h.b2
    exact ⟨D, d, (hb.block _ (blk_lt e)).trans e⟩
  · intro h25 j hj
    have h1 := h.all (l25 ▸ h25) j hj
    by_cases hji : j = i
    · subst hji
      rcases Nat.lt_or_ge j L.size with hs | hs
      · simp [Array.getD, hs]
      · simp [Array.getD, Nat.not_lt.mpr hs]
    · have : (L.setIfInBounds i true).getD j true = L.getD j true := by
        simp only [Array.getD_eq_getD_getElem?, Array.getElem?_setIfInBounds]
        rw [if_neg (by omega)]
      rw [this]
      exact h1
  · intro h25 j hj hl
    rw [g]
    by_cases hji : j = i
    · subst hji
      rw [if_pos rfl]
      exact hv
    · rw [if_neg (by omega)]
      refine (h.facts (l25 ▸ h25) j hj ?_).below hb
      have : (L.setIfInBounds i true).getD j false = L.getD j false := by
        simp only [Array.getD_eq_getD_getElem?, Array.getElem?_setIfInBounds]
        rw [if_neg (by omega)]
      rw [← this]
      exact hl
  · intro hl
    obtain ⟨v2, v3, e, r2, r3⟩ := h.done (l25 ▸ hl)
    exact ⟨v2, v3, (hb.block _ (blk_lt e)).trans e, r2.below hb, r3.below hb⟩
  · intro hl
    have e := h.open_ (l25 ▸ hl)
    exact (hb.block _ (blk_lt e)).trans e
theorem step_value {P : Program} {ops : Array Oper} {Q : Exit → Act → World → Prop} {i : Nat} {K : Act → World → Prop} {a : Act} {W W1 : World} {o : Oper} {v : Value} (ho : ops[i]? = some o) (hg : o.guard = none) (hrun : (execOp a.eval o).run P W = .ok (.value v) W1) (hK : K (a.put o.dst v) W1) : wpOp P ops Q i K a W := by
  unfold wpOp
  rw [ho]
  have hw : Region.wanted o (yielded ops a.tmps) = true := by simp [Region.wanted, hg]
  simp only [hw, if_true]
  left
  unfold Oper.wp
  rw [hrun]
  exact hK
theorem step_enter {P : Program} {ops : Array Oper} {Q : Exit → Act → World → Prop} {i : Nat} {K : Act → World → Prop} {a : Act} {W W1 : World} {o : Oper} {f : FuncId} {args : Array Value} (ho : ops[i]? = some o) (hg : o.guard = none) (hrun : (execOp a.eval o).run P W = .ok (.enter f args) W1)
    (hc : Calls P f args W1 fun e w' => ∃ v, e = .returned v ∧ K (a.put o.dst v) w') : wpOp P ops Q i K a W := by
  unfold wpOp
  rw [ho]
  have hw : Region.wanted o (yielded ops a.tmps) = true := by simp [Region.wanted, hg]
  simp only [hw, if_true]
  left
  unfold Oper.wp
  rw [hrun]
  refine hc.mono ?_
  rintro e w' ⟨v, rfl, hk⟩
  exact hk
theorem step_skip {P : Program} {ops : Array Oper} {Q : Exit → Act → World → Prop} {i : Nat} {K : Act → World → Prop} {a : Act} {W W1 : World} {o : Oper} (ho : ops[i]? = some o) (hg : o.guard = none) (hrun : (execOp a.eval o).run P W = .ok .skip W1) (hK : K (a.put o.dst undef) W1) : wpOp P ops Q i K a W := by
  unfold wpOp
  rw [ho]
  have hw : Region.wanted o (yielded ops a.tmps) = true := by simp [Region.wanted, hg]
  simp only [hw, if_true]
  left
  unfold Oper.wp
  rw [hrun]
  exact hK
theorem getD_tf {L : Array Bool} {i : Nat} (h : L.getD i true = false) : L.getD i false = false := by
  rcases Nat.lt_or_ge i L.size with hs | hs
  · simp [Array.getD, hs] at h ⊢
    exact h
  · simp [Array.getD, Nat.not_lt.mpr hs] at h
theorem getD_ft {L : Array Bool} {i : Nat} (h : L.getD i false = true) : L.getD i true = true := by
  rcases Nat.lt_or_ge i L.size with hs | hs
  · simp [Array.getD, hs] at h ⊢
    exact h
  · simp [Array.getD, Nat.not_lt.mpr hs] at h
theorem lit_below {n B i : Nat} (W : World) (u : Value) (h : n ≤ B) : Below n W (W.setCell ⟨B, i, none⟩ u) := ⟨rfl, rfl, rfl, by simp [World.setCell], fun k hk => Below.heap_setCell _ _ _ _ (by intro e; simp at e; omega)⟩
theorem OneInv.close {w W : World} {g1 g2 : Nat} {L : Array Bool} {a : Act} {v2 v3 : Value} (h : OneInv w g1 g2 L a W) (h1 : w.heap.size < g1) (h2 : w.heap.size < g2) (hl : L.getD 25 true = false) (hA : ∀ j, j < 25 → L.getD j false = true)
    (r2 : IsRow k82 (w.heap.size + 1) 82 W v2 one_vars) (r3 : IsRow k47 (w.heap.size + 1) 47 W v3 one_body) :
    OneInv w g1 g2 (L.setIfInBounds 25 true) a (((W.setCell ⟨w.heap.size, 0, none⟩ (.int .i64 2)).setCell ⟨w.heap.size, 1, none⟩ v2).setCell ⟨w.heap.size, 2, none⟩ v3) := by
  have hO := h.open_ (getD_tf hl)
  have k0 := blk_put hO 0 (.int .i64 2) (cs' := #[.int .i64 2, .slice none 0 0, .slice none 0 0]) rfl
  have k1 := blk_put k0 1 v2 (cs' := #[.int .i64 2, v2, .slice none 0 0]) rfl
  have k2 := blk_put k1 2 v3 (cs' := #[.int .i64 2, v2, v3]) rfl
  have hs : 25 < L.size := by
    rcases Nat.lt_or_ge 25 L.size with hs | hs
    · exact hs
    · simp [Array.getD, Nat.not_lt.mpr hs] at hl
  have t25 : (L.setIfInBounds 25 true).getD 25 false = true := by simp [Array.getD, hs]
  have far : ∀ k, k ≠ w.heap.size → (((W.setCell ⟨w.heap.size, 0, none⟩ (.int .i64 2)).setCell ⟨w.heap.size, 1, none⟩ v2).setCell ⟨w.heap.size, 2, none⟩ v3).heap[k]? = W.heap[k]? := fun k hk => by
    rw [Below.heap_setCell _ _ _ _ hk, Below.heap_setCell _ _ _ _ hk, Below.heap_setCell _ _ _ _ hk]
  have hb : Below w.heap.size W (((W.setCell ⟨w.heap.size, 0, none⟩ (.int .i64 2)).setCell ⟨w.heap.size, 1, none⟩ v2).setCell ⟨w.heap.size, 2, none⟩ v3) :=
    ((lit_below W _ (Nat.le_refl _)).trans (lit_below _ _ (Nat.le_refl _))).trans (lit_below _ _ (Nat.le_refl _))
  refine ⟨by simp [h.len], h.size, h.defers, h.t0, h.t1, h.t2, h.below.trans hb, ?_, ?_, Nat.le_trans h.lt hb.size, ?_, ?_, ?_, ?_⟩
  · obtain ⟨D, d, e⟩ := h.b1
    exact ⟨D, d, (far _ (by omega)).trans e⟩
  · obtain ⟨D, d, e⟩ := h.b2
    exact ⟨D, d, (far _ (by omega)).trans e⟩
  · intro _ j hj
    have : (L.setIfInBounds 25 true).getD j true = L.getD j true := by
      simp only [Array.getD_eq_getD_getElem?, Array.getElem?_setIfInBounds]
      rw [if_neg (by omega)]
    rw [this]
    exact getD_ft (hA j hj)
  · intro hn
    rw [t25] at hn
    cases hn
  · intro _
    exact ⟨v2, v3, k2, ((r2.far (Nat.lt_succ_self _) _).far (Nat.lt_succ_self _) _).far (Nat.lt_succ_self _) _, ((r3.far (Nat.lt_succ_self _) _).far (Nat.lt_succ_self _) _).far (Nat.lt_succ_self _) _⟩
  · intro hn
    rw [t25] at hn
    cases hn
theorem Is.openV {B : Nat} {W : World} {v : Value} {x : S82} (h : Is k82 B W v x) : v = .agg #[.string x.f0, .int .i64 x.f1, .int .i64 x.f2] := by
  obtain ⟨cs, rfl, hk⟩ := h
  obtain rfl := k82_open (Kd.FK_now hk)
  rfl
theorem Is.openE {B : Nat} {W : World} {v : Value} {x : S96} (h : Is k96 B W v x) : ∃ A c, v = .agg #[.int .i64 x.f0, .int .i64 x.f1, .int .i64 x.f2, .slice A x.f3.length c] ∧ x.f3.length ≤ c ∧ Kd.F k96 W (fun k => B ≤ k ∧ k < W.heap.size) A x.f3.length x.f3 := by
  obtain ⟨cs, rfl, hk⟩ := h
  obtain ⟨A3, c3, rfl, h1, h2⟩ := k96_openF hk
  exact ⟨A3, c3, rfl, h1, h2⟩
theorem Is.openS {B : Nat} {W : World} {v : Value} {x : S47} (h : Is k47 B W v x) : ∃ A2 c2 A3 c3 A4 c4, v = .agg #[.int .i64 x.f0, .int .i64 x.f1, .slice A2 x.f2.length c2, .slice A3 x.f3.length c3, .slice A4 x.f4.length c4] ∧ Kd.FK k47 W (fun k => B ≤ k ∧ k < W.heap.size) x [.int .i64 x.f0, .int .i64 x.f1, .slice A2 x.f2.length c2, .slice A3 x.f3.length c3, .slice A4 x.f4.length c4] := by
  obtain ⟨cs, rfl, hk⟩ := h
  obtain ⟨A2, c2, A3, c3, A4, c4, rfl, _⟩ := k47_openF hk
  exact ⟨A2, c2, A3, c3, A4, c4, rfl, hk⟩
theorem each1 {α : Type} {R : α → List Value → Prop} {x0 : α} {c0 : List Value} (h0 : R x0 c0) : ∀ (j : Nat) (x : α) (c : List Value), [x0][j]? = some x → [c0][j]? = some c → R x c
  | 0, x, c, h1, h2 => by cases h1; cases h2; exact h0
  | j + 1, x, c, h1, h2 => by simp at h1
theorem each2 {α : Type} {R : α → List Value → Prop} {x0 x1 : α} {c0 c1 : List Value} (h0 : R x0 c0) (h1' : R x1 c1) : ∀ (j : Nat) (x : α) (c : List Value), [x0, x1][j]? = some x → [c0, c1][j]? = some c → R x c
  | 0, x, c, h1, h2 => by cases h1; cases h2; exact h0
  | j + 1, x, c, h1, h2 => each1 h1' j x c (by simpa using h1) (by simpa using h2)
theorem each3 {α : Type} {R : α → List Value → Prop} {x0 x1 x2 : α} {c0 c1 c2 : List Value} (h0 : R x0 c0) (h1' : R x1 c1) (h2' : R x2 c2) : ∀ (j : Nat) (x : α) (c : List Value), [x0, x1, x2][j]? = some x → [c0, c1, c2][j]? = some c → R x c
  | 0, x, c, h1, h2 => by cases h1; cases h2; exact h0
  | j + 1, x, c, h1, h2 => each2 h1' h2' j x c (by simpa using h1) (by simpa using h2)
theorem tmp_q {a : Act} {n : Nat} {v : Value} (h : a.tmps.getD n undef = v) : a.tmps[n]?.getD undef = v := by simpa using h
theorem w3_one.lit (w : World) : Calls Try.prog 44 #[] w fun e w' => ∃ v2 v3 : Value, e = .returned (.agg #[.int .i64 2, v2, v3]) ∧ IsRow k82 (w.heap.size + 1) 82 w' v2 one_vars ∧ IsRow k47 (w.heap.size + 1) 47 w' v3 one_body ∧ Below w.heap.size w w' := by
  have huP := Try.underlying25
  have huS := Try.underlying47
  have huV := Try.underlying82
  have huE := Try.underlying96
  refine calls_of_wp Try.func44 rfl ?_
  simp only [Try.ntmps44, List.size_toArray, List.length_cons, List.length_nil, Nat.reduceAdd, Nat.reduceSub, Array.replicate_succ, Array.replicate_zero, List.push_toArray, List.append_toArray, List.nil_append, List.cons_append]
  go_wp2_with (first | (go_at_call 68; (with_reducible refine (r2_Read.calls 0 0 _ _ _ _ _ rfl).mono ?_); rintro e w1 ⟨v1, rfl, o1, hb1⟩; obtain ⟨D1, d1, ev⟩ := Kd.R_slice o1; subst ev) | (go_at_call 68; (with_reducible refine (r2_Read.calls 1 0 _ _ _ _ _ rfl).mono ?_); rintro e w2 ⟨v2, rfl, o2, hb2⟩; obtain ⟨D2, d2, ev⟩ := Kd.R_slice o2; subst ev))
  have hx1 := hb1.size
  have hx2 := hb2.size
  simp only [size_lit] at hx1
  have hg : w.heap.size < w2.heap.size := by omega
  refine wp_region_any (by kernel_rfl) ?_
  refine wpAny_inv (by kernel_rfl) (OneInv w w2.heap.size (w2.heap.size + 1)) ?hend ?step _ _ _ _ (by decide) ?start
  case start =>
    have z0 : (w.alloc (.cells #[.int .i64 0, .slice none 0 0, .slice none 0 0] 25)).heap[w.heap.size]? = some (.cells #[.int .i64 0, .slice none 0 0, .slice none 0 0] 25 (0, 0)) := heap_alloc_new _ _
    have z1 := (hb1.block _ (blk_lt z0)).trans z0
    have z2 := (hb2.block _ (blk_lt z1)).trans z1
    have bw : Below w.heap.size w w2 := (bal (Below.refl _ _) _).trans ((hb1.mono (by simp only [size_lit]; omega)).trans (hb2.mono (by omega)))
    refine ⟨rfl, rfl, rfl, rfl, rfl, rfl, ?_, ⟨D1, d1, ?_⟩, ⟨D2, d2, ?_⟩, ?_, ?_, ?_, ?_, ?_⟩
    · exact bd1 (bal (bal bw _) _)
    · exact kdr (kal (heap_alloc_new _ _) _)
    · refine kdr ?_
      have := heap_alloc_new (w2.alloc (.cells #[.int .i64 1, .int .i64 0, .int .i64 0, .slice D1 0 d1] 96)) (.cells #[.int .i64 1, .int .i64 1, .int .i64 0, .slice D2 0 d2] 96)
      simpa using this
    · show w.heap.size + 1 ≤ ((w2.alloc _).alloc _).heap.size
      simp only [size_lit]
      omega
    · intro h
      exact absurd h (by decide)
    · intro _ j hj h
      refine absurd h ?_
      match j, hj with
      | j, hj => simp [Array.getD]
    · intro h
      exact absurd h (by decide)
    · intro _
      exact kdr (kal (kal z2 _) _)
  case hend =>
    intro L a W hI hL
    obtain ⟨v2, v3, hk, r2, r3⟩ := hI.done (by
      have h1 := hL 25 (by decide)
      cases h2 : L.getD 25 false with
      | true => rfl
      | false => simp [Array.getD, hI.len] at h1 h2; rw [h1] at h2; cases h2)
    go_wp2
    exact bodyPost_ret (results_cell_row rfl _ _ w.heap.size 25 #[.int .i64 2, v2, v3] (0, 0) _ hI.t0 hk huP rfl rfl) hI.defers ⟨v2, v3, rfl, r2, r3, hI.below⟩
  case step =>
    intro L a W i o hI ho hl hall
    have hi : i < 26 := (Array.getElem?_eq_some_iff.1 ho).1
    match i, hi with
    | 0, _ =>
      cases ho
      have hno : L.getD 25 false = false := hI.no (by omega) hl
      refine step_value (v := .agg #[.string one_x0.f0, .int .i64 one_x0.f1, .int .i64 one_x0.f2]) (W1 := W) rfl rfl (by go_simp; exact ⟨rfl, rfl, rfl⟩) ?_
      exact hI.put (i := 0) (by omega) rfl (Below.refl _ _) ⟨_, rfl, k82_mkF _ _ _⟩
    | 1, _ =>
      cases ho
      have hno : L.getD 25 false = false := hI.no (by omega) hl
      refine step_value (v := .agg #[.string one_x1.f0, .int .i64 one_x1.f1, .int .i64 one_x1.f2]) (W1 := W) rfl rfl (by go_simp; exact ⟨rfl, rfl, rfl⟩) ?_
      exact hI.put (i := 1) (by omega) rfl (Below.refl _ _) ⟨_, rfl, k82_mkF _ _ _⟩
    | 2, _ =>
      cases ho
      have hno : L.getD 25 false = false := hI.no (by omega) hl
      have q5 := tmp_q (Is.openV (hI.facts hno 0 (by omega) (hall ⟨0, .data⟩ (by simp) rfl)))
      have q6 := tmp_q (Is.openV (hI.facts hno 1 (by omega) (hall ⟨1, .data⟩ (by simp) rfl)))
      refine step_value (v := .slice (some ⟨W.heap.size, 0, none⟩) 2 2) (W1 := W.alloc (.cells #[.string one_x0.f0, .int .i64 one_x0.f1, .int .i64 one_x0.f2, .string one_x1.f0, .int .i64 one_x1.f1, .int .i64 one_x1.f2] 82)) rfl rfl (by go_simp; done) ?_
      exact hI.put (i := 2) (by omega) rfl (bal (Below.refl _ _) _) (IsRow.new hI.lt (l := one_vars) [[.string one_x0.f0, .int .i64 one_x0.f1, .int .i64 one_x0.f2], [.string one_x1.f0, .int .i64 one_x1.f1, .int .i64 one_x1.f2]] rfl rfl (by decide) (each2 (k82_mkF _ _ _) (k82_mkF _ _ _)))
    | 3, _ =>
      cases ho
      have hno : L.getD 25 false = false := hI.no (by omega) hl
      refine step_enter (f := 69) (args := #[.int .i64 1]) (W1 := W) rfl rfl (by go_simp; done) ?_
      refine (r2_Const.calls 1 _ _ _ _ W rfl).mono ?_
      rintro e w' ⟨v3, rfl, o3, hb⟩
      obtain ⟨D3, d3, rfl⟩ := Kd.R_slice o3
      exact ⟨_, rfl, hI.put (i := 3) (by omega) rfl hb ⟨[.int .i64 0, .int .i64 1, .int .i64 0, .slice D3 0 d3], rfl, k96_mkF _ _ one_c1 (Nat.zero_le _) (F_zero _ _)⟩⟩
    | 4, _ =>
      cases ho
      have hno : L.getD 25 false = false := hI.no (by omega) hl
      obtain ⟨A8, z8, q8, l8, f8⟩ := Is.openE (hI.facts hno 3 (by omega) (hall ⟨3, .data⟩ (by simp) rfl))
      have q8' := tmp_q q8
      refine step_value (v := .slice (some ⟨W.heap.size, 0, none⟩) 1 1) (W1 := W.alloc (.cells #[.int .i64 one_c1.f0, .int .i64 one_c1.f1, .int .i64 one_c1.f2, .slice A8 one_c1.f3.length z8] 96)) rfl rfl (by go_simp; done) ?_
      exact hI.put (i := 4) (by omega) rfl (bal (Below.refl _ _) _) (IsRow.new hI.lt (l := [one_c1]) [[.int .i64 one_c1.f0, .int .i64 one_c1.f1, .int .i64 one_c1.f2, .slice A8 one_c1.f3.length z8]] rfl rfl (by decide) (each1 (k96_mkF _ _ _ l8 f8)))
    | 5, _ =>
      cases ho
      have hno : L.getD 25 false = false := hI.no (by omega) hl
      obtain ⟨A9, q9, f9⟩ := IsRow.foot (hI.facts hno 4 (by omega) (hall ⟨4, .data⟩ (by simp) rfl))
      have q9' := tmp_q q9
      refine step_value (v := .agg #[.int .i64 0, .int .i64 0, .slice A9 1 1, .slice none 0 0, .slice none 0 0]) (W1 := W) rfl rfl (by go_simp; done) ?_
      exact hI.put (i := 5) (by omega) rfl (Below.refl _ _) ⟨[.int .i64 0, .int .i64 0, .slice A9 1 1, .slice none 0 0, .slice none 0 0], rfl, k47_mkF _ _ one_s5 (A2 := A9) (c2 := 1) (Nat.le_refl _) f9 (A3 := none) (c3 := 0) (Nat.le_refl _) (F_zero _ _) (A4 := none) (c4 := 0) (Nat.le_refl _) (F_zero _ _)⟩
    | 6, _ =>
      cases ho
      have hno : L.getD 25 false = false := hI.no (by omega) hl
      obtain ⟨D3, d3, hb⟩ := hI.b1
      have q0 := tmp_q hI.t1
      have c0 : W.cell? ⟨w2.heap.size, 0, none⟩ = some (.int .i64 1) := (blk_cell hb 0).trans rfl
      have c1 : W.cell? ⟨w2.heap.size, 1, none⟩ = some (.int .i64 0) := (blk_cell hb 1).trans rfl
      have c2 : W.cell? ⟨w2.heap.size, 2, none⟩ = some (.int .i64 0) := (blk_cell hb 2).trans rfl
      have c3 : W.cell? ⟨w2.heap.size, 3, none⟩ = some (.slice D3 0 d3) := (blk_cell hb 3).trans rfl
      refine step_value (v := .agg #[.int .i64 1, .int .i64 0, .int .i64 0, .slice D3 0 d3]) (W1 := W) rfl rfl (by go_simp; done) ?_
      exact hI.put (i := 6) (by omega) rfl (Below.refl _ _) ⟨[.int .i64 1, .int .i64 0, .int .i64 0, .slice D3 0 d3], rfl, k96_mkF _ _ one_r0 (Nat.zero_le _) (F_zero _ _)⟩
    | 7, _ =>
      cases ho
      have hno : L.getD 25 false = false := hI.no (by omega) hl
      obtain ⟨A8, z8, q8, l8, f8⟩ := Is.openE (hI.facts hno 6 (by omega) (hall ⟨6, .data⟩ (by simp) rfl))
      have q8' := tmp_q q8
      refine step_value (v := .slice (some ⟨W.heap.size, 0, none⟩) 1 1) (W1 := W.alloc (.cells #[.int .i64 one_r0.f0, .int .i64 one_r0.f1, .int .i64 one_r0.f2, .slice A8 one_r0.f3.length z8] 96)) rfl rfl (by go_simp; done) ?_
      exact hI.put (i := 7) (by omega) rfl (bal (Below.refl _ _) _) (IsRow.new hI.lt (l := [one_r0]) [[.int .i64 one_r0.f0, .int .i64 one_r0.f1, .int .i64 one_r0.f2, .slice A8 one_r0.f3.length z8]] rfl rfl (by decide) (each1 (k96_mkF _ _ _ l8 f8)))
    | 8, _ =>
      cases ho
      have hno : L.getD 25 false = false := hI.no (by omega) hl
      refine step_enter (f := 69) (args := #[.int .i64 2]) (W1 := W) rfl rfl (by go_simp; done) ?_
      refine (r2_Const.calls 2 _ _ _ _ W rfl).mono ?_
      rintro e w' ⟨v3, rfl, o3, hb⟩
      obtain ⟨D3, d3, rfl⟩ := Kd.R_slice o3
      exact ⟨_, rfl, hI.put (i := 8) (by omega) rfl hb ⟨[.int .i64 0, .int .i64 2, .int .i64 0, .slice D3 0 d3], rfl, k96_mkF _ _ one_c2 (Nat.zero_le _) (F_zero _ _)⟩⟩
    | 9, _ =>
      cases ho
      have hno : L.getD 25 false = false := hI.no (by omega) hl
      obtain ⟨A8, z8, q8, l8, f8⟩ := Is.openE (hI.facts hno 8 (by omega) (hall ⟨8, .data⟩ (by simp) rfl))
      have q8' := tmp_q q8
      refine step_value (v := .slice (some ⟨W.heap.size, 0, none⟩) 1 1) (W1 := W.alloc (.cells #[.int .i64 one_c2.f0, .int .i64 one_c2.f1, .int .i64 one_c2.f2, .slice A8 one_c2.f3.length z8] 96)) rfl rfl (by go_simp; done) ?_
      exact hI.put (i := 9) (by omega) rfl (bal (Below.refl _ _) _) (IsRow.new hI.lt (l := [one_c2]) [[.int .i64 one_c2.f0, .int .i64 one_c2.f1, .int .i64 one_c2.f2, .slice A8 one_c2.f3.length z8]] rfl rfl (by decide) (each1 (k96_mkF _ _ _ l8 f8)))
    | 10, _ =>
      cases ho
      have hno : L.getD 25 false = false := hI.no (by omega) hl
      obtain ⟨A9, q9, f9⟩ := IsRow.foot (hI.facts hno 9 (by omega) (hall ⟨9, .data⟩ (by simp) rfl))
      have q9' := tmp_q q9
      refine step_value (v := .agg #[.int .i64 0, .int .i64 1, .slice A9 1 1, .slice none 0 0, .slice none 0 0]) (W1 := W) rfl rfl (by go_simp; done) ?_
      exact hI.put (i := 10) (by omega) rfl (Below.refl _ _) ⟨[.int .i64 0, .int .i64 1, .slice A9 1 1, .slice none 0 0, .slice none 0 0], rfl, k47_mkF _ _ one_s10 (A2 := A9) (c2 := 1) (Nat.le_refl _) f9 (A3 := none) (c3 := 0) (Nat.le_refl _) (F_zero _ _) (A4 := none) (c4 := 0) (Nat.le_refl _) (F_zero _ _)⟩
    | 11, _ =>
      cases ho
      have hno : L.getD 25 false = false := hI.no (by omega) hl
      obtain ⟨D3, d3, hb⟩ := hI.b2
      have q0 := tmp_q hI.t2
      have c0 : W.cell? ⟨w2.heap.size + 1, 0, none⟩ = some (.int .i64 1) := (blk_cell hb 0).trans rfl
      have c1 : W.cell? ⟨w2.heap.size + 1, 1, none⟩ = some (.int .i64 1) := (blk_cell hb 1).trans rfl
      have c2 : W.cell? ⟨w2.heap.size + 1, 2, none⟩ = some (.int .i64 0) := (blk_cell hb 2).trans rfl
      have c3 : W.cell? ⟨w2.heap.size + 1, 3, none⟩ = some (.slice D3 0 d3) := (blk_cell hb 3).trans rfl
      refine step_value (v := .agg #[.int .i64 1, .int .i64 1, .int .i64 0, .slice D3 0 d3]) (W1 := W) rfl rfl (by go_simp; done) ?_
      exact hI.put (i := 11) (by omega) rfl (Below.refl _ _) ⟨[.int .i64 1, .int .i64 1, .int .i64 0, .slice D3 0 d3], rfl, k96_mkF _ _ one_r1 (Nat.zero_le _) (F_zero _ _)⟩
    | 12, _ =>
      cases ho
      have hno : L.getD 25 false = false := hI.no (by omega) hl
      obtain ⟨A8, z8, q8, l8, f8⟩ := Is.openE (hI.facts hno 11 (by omega) (hall ⟨11, .data⟩ (by simp) rfl))
      have q8' := tmp_q q8
      refine step_value (v := .slice (some ⟨W.heap.size, 0, none⟩) 1 1) (W1 := W.alloc (.cells #[.int .i64 one_r1.f0, .int .i64 one_r1.f1, .int .i64 one_r1.f2, .slice A8 one_r1.f3.length z8] 96)) rfl rfl (by go_simp; done) ?_
      exact hI.put (i := 12) (by omega) rfl (bal (Below.refl _ _) _) (IsRow.new hI.lt (l := [one_r1]) [[.int .i64 one_r1.f0, .int .i64 one_r1.f1, .int .i64 one_r1.f2, .slice A8 one_r1.f3.length z8]] rfl rfl (by decide) (each1 (k96_mkF _ _ _ l8 f8)))
    | 13, _ =>
      cases ho
      have hno : L.getD 25 false = false := hI.no (by omega) hl
      obtain ⟨A9, q9, f9⟩ := IsRow.foot (hI.facts hno 12 (by omega) (hall ⟨12, .data⟩ (by simp) rfl))
      have q9' := tmp_q q9
      refine step_value (v := .agg #[.int .i64 3, .int .i64 0, .slice A9 1 1, .slice none 0 0, .slice none 0 0]) (W1 := W) rfl rfl (by go_simp; done) ?_
      exact hI.put (i := 13) (by omega) rfl (Below.refl _ _) ⟨[.int .i64 3, .int .i64 0, .slice A9 1 1, .slice none 0 0, .slice none 0 0], rfl, k47_mkF _ _ one_s13 (A2 := A9) (c2 := 1) (Nat.le_refl _) f9 (A3 := none) (c3 := 0) (Nat.le_refl _) (F_zero _ _) (A4 := none) (c4 := 0) (Nat.le_refl _) (F_zero _ _)⟩
    | 14, _ =>
      cases ho
      have hno : L.getD 25 false = false := hI.no (by omega) hl
      obtain ⟨A02, z02, A03, z03, A04, z04, q0, f0⟩ := Is.openS (hI.facts hno 10 (by omega) (hall ⟨10, .data⟩ (by simp) rfl))
      have q0' := tmp_q q0
      obtain ⟨A12, z12, A13, z13, A14, z14, q1, f1⟩ := Is.openS (hI.facts hno 13 (by omega) (hall ⟨13, .data⟩ (by simp) rfl))
      have q1' := tmp_q q1
      refine step_value (v := .slice (some ⟨W.heap.size, 0, none⟩) 2 2) (W1 := W.alloc (.cells #[.int .i64 one_s10.f0, .int .i64 one_s10.f1, .slice A02 one_s10.f2.length z02, .slice A03 one_s10.f3.length z03, .slice A04 one_s10.f4.length z04, .int .i64 one_s13.f0, .int .i64 one_s13.f1, .slice A12 one_s13.f2.length z12, .slice A13 one_s13.f3.length z13, .slice A14 one_s13.f4.length z14] 47)) rfl rfl (by go_simp; done) ?_
      exact hI.put (i := 14) (by omega) rfl (bal (Below.refl _ _) _) (IsRow.new hI.lt (l := [one_s10, one_s13]) [[.int .i64 one_s10.f0, .int .i64 one_s10.f1, .slice A02 one_s10.f2.length z02, .slice A03 one_s10.f3.length z03, .slice A04 one_s10.f4.length z04], [.int .i64 one_s13.f0, .int .i64 one_s13.f1, .slice A12 one_s13.f2.length z12, .slice A13 one_s13.f3.length z13, .slice A14 one_s13.f4.length z14]] rfl rfl (by decide) (each2 f0 f1))
    | 15, _ =>
      cases ho
      have hno : L.getD 25 false = false := hI.no (by omega) hl
      obtain ⟨D3, d3, hb⟩ := hI.b2
      have q0 := tmp_q hI.t2
      have c0 : W.cell? ⟨w2.heap.size + 1, 0, none⟩ = some (.int .i64 1) := (blk_cell hb 0).trans rfl
      have c1 : W.cell? ⟨w2.heap.size + 1, 1, none⟩ = some (.int .i64 1) := (blk_cell hb 1).trans rfl
      have c2 : W.cell? ⟨w2.heap.size + 1, 2, none⟩ = some (.int .i64 0) := (blk_cell hb 2).trans rfl
      have c3 : W.cell? ⟨w2.heap.size + 1, 3, none⟩ = some (.slice D3 0 d3) := (blk_cell hb 3).trans rfl
      refine step_value (v := .agg #[.int .i64 1, .int .i64 1, .int .i64 0, .slice D3 0 d3]) (W1 := W) rfl rfl (by go_simp; done) ?_
      exact hI.put (i := 15) (by omega) rfl (Below.refl _ _) ⟨[.int .i64 1, .int .i64 1, .int .i64 0, .slice D3 0 d3], rfl, k96_mkF _ _ one_r1 (Nat.zero_le _) (F_zero _ _)⟩
    | 16, _ =>
      cases ho
      have hno : L.getD 25 false = false := hI.no (by omega) hl
      obtain ⟨A8, z8, q8, l8, f8⟩ := Is.openE (hI.facts hno 15 (by omega) (hall ⟨15, .data⟩ (by simp) rfl))
      have q8' := tmp_q q8
      refine step_value (v := .slice (some ⟨W.heap.size, 0, none⟩) 1 1) (W1 := W.alloc (.cells #[.int .i64 one_r1.f0, .int .i64 one_r1.f1, .int .i64 one_r1.f2, .slice A8 one_r1.f3.length z8] 96)) rfl rfl (by go_simp; done) ?_
      exact hI.put (i := 16) (by omega) rfl (bal (Below.refl _ _) _) (IsRow.new hI.lt (l := [one_r1]) [[.int .i64 one_r1.f0, .int .i64 one_r1.f1, .int .i64 one_r1.f2, .slice A8 one_r1.f3.length z8]] rfl rfl (by decide) (each1 (k96_mkF _ _ _ l8 f8)))
    | 17, _ =>
      cases ho
      have hno : L.getD 25 false = false := hI.no (by omega) hl
      obtain ⟨A9, q9, f9⟩ := IsRow.foot (hI.facts hno 16 (by omega) (hall ⟨16, .data⟩ (by simp) rfl))
      have q9' := tmp_q q9
      refine step_value (v := .agg #[.int .i64 5, .int .i64 0, .slice A9 1 1, .slice none 0 0, .slice none 0 0]) (W1 := W) rfl rfl (by go_simp; done) ?_
      exact hI.put (i := 17) (by omega) rfl (Below.refl _ _) ⟨[.int .i64 5, .int .i64 0, .slice A9 1 1, .slice none 0 0, .slice none 0 0], rfl, k47_mkF _ _ one_s17 (A2 := A9) (c2 := 1) (Nat.le_refl _) f9 (A3 := none) (c3 := 0) (Nat.le_refl _) (F_zero _ _) (A4 := none) (c4 := 0) (Nat.le_refl _) (F_zero _ _)⟩
    | 18, _ =>
      cases ho
      have hno : L.getD 25 false = false := hI.no (by omega) hl
      obtain ⟨A02, z02, A03, z03, A04, z04, q0, f0⟩ := Is.openS (hI.facts hno 17 (by omega) (hall ⟨17, .data⟩ (by simp) rfl))
      have q0' := tmp_q q0
      refine step_value (v := .slice (some ⟨W.heap.size, 0, none⟩) 1 1) (W1 := W.alloc (.cells #[.int .i64 one_s17.f0, .int .i64 one_s17.f1, .slice A02 one_s17.f2.length z02, .slice A03 one_s17.f3.length z03, .slice A04 one_s17.f4.length z04] 47)) rfl rfl (by go_simp; done) ?_
      exact hI.put (i := 18) (by omega) rfl (bal (Below.refl _ _) _) (IsRow.new hI.lt (l := [one_s17]) [[.int .i64 one_s17.f0, .int .i64 one_s17.f1, .slice A02 one_s17.f2.length z02, .slice A03 one_s17.f3.length z03, .slice A04 one_s17.f4.length z04]] rfl rfl (by decide) (each1 f0))
    | 19, _ =>
      cases ho
      have hno : L.getD 25 false = false := hI.no (by omega) hl
      obtain ⟨A2, q2, f2⟩ := IsRow.foot (hI.facts hno 7 (by omega) (hall ⟨7, .data⟩ (by simp) rfl))
      have q2' := tmp_q q2
      obtain ⟨A3, q3, f3⟩ := IsRow.foot (hI.facts hno 14 (by omega) (hall ⟨14, .data⟩ (by simp) rfl))
      have q3' := tmp_q q3
      obtain ⟨A4, q4, f4⟩ := IsRow.foot (hI.facts hno 18 (by omega) (hall ⟨18, .data⟩ (by simp) rfl))
      have q4' := tmp_q q4
      refine step_value (v := .agg #[.int .i64 1, .int .i64 0, .slice A2 1 1, .slice A3 2 2, .slice A4 1 1]) (W1 := W) rfl rfl (by go_simp; done) ?_
      exact hI.put (i := 19) (by omega) rfl (Below.refl _ _) ⟨[.int .i64 1, .int .i64 0, .slice A2 1 1, .slice A3 2 2, .slice A4 1 1], rfl, k47_mkF _ _ one_s19 (A2 := A2) (c2 := 1) (Nat.le_refl _) f2 (A3 := A3) (c3 := 2) (Nat.le_refl _) f3 (A4 := A4) (c4 := 1) (Nat.le_refl _) f4⟩
    | 20, _ =>
      cases ho
      have hno : L.getD 25 false = false := hI.no (by omega) hl
      refine step_enter (f := 69) (args := #[.int .i64 1]) (W1 := W) rfl rfl (by go_simp; done) ?_
      refine (r2_Const.calls 1 _ _ _ _ W rfl).mono ?_
      rintro e w' ⟨v3, rfl, o3, hb⟩
      obtain ⟨D3, d3, rfl⟩ := Kd.R_slice o3
      exact ⟨_, rfl, hI.put (i := 20) (by omega) rfl hb ⟨[.int .i64 0, .int .i64 1, .int .i64 0, .slice D3 0 d3], rfl, k96_mkF _ _ one_c1 (Nat.zero_le _) (F_zero _ _)⟩⟩
    | 21, _ =>
      cases ho
      have hno : L.getD 25 false = false := hI.no (by omega) hl
      obtain ⟨A8, z8, q8, l8, f8⟩ := Is.openE (hI.facts hno 20 (by omega) (hall ⟨20, .data⟩ (by simp) rfl))
      have q8' := tmp_q q8
      refine step_value (v := .slice (some ⟨W.heap.size, 0, none⟩) 1 1) (W1 := W.alloc (.cells #[.int .i64 one_c1.f0, .int .i64 one_c1.f1, .int .i64 one_c1.f2, .slice A8 one_c1.f3.length z8] 96)) rfl rfl (by go_simp; done) ?_
      exact hI.put (i := 21) (by omega) rfl (bal (Below.refl _ _) _) (IsRow.new hI.lt (l := [one_c1]) [[.int .i64 one_c1.f0, .int .i64 one_c1.f1, .int .i64 one_c1.f2, .slice A8 one_c1.f3.length z8]] rfl rfl (by decide) (each1 (k96_mkF _ _ _ l8 f8)))
    | 22, _ =>
      cases ho
      have hno : L.getD 25 false = false := hI.no (by omega) hl
      obtain ⟨A9, q9, f9⟩ := IsRow.foot (hI.facts hno 21 (by omega) (hall ⟨21, .data⟩ (by simp) rfl))
      have q9' := tmp_q q9
      refine step_value (v := .agg #[.int .i64 6, .int .i64 0, .slice A9 1 1, .slice none 0 0, .slice none 0 0]) (W1 := W) rfl rfl (by go_simp; done) ?_
      exact hI.put (i := 22) (by omega) rfl (Below.refl _ _) ⟨[.int .i64 6, .int .i64 0, .slice A9 1 1, .slice none 0 0, .slice none 0 0], rfl, k47_mkF _ _ one_s22 (A2 := A9) (c2 := 1) (Nat.le_refl _) f9 (A3 := none) (c3 := 0) (Nat.le_refl _) (F_zero _ _) (A4 := none) (c4 := 0) (Nat.le_refl _) (F_zero _ _)⟩
    | 23, _ =>
      cases ho
      have hno : L.getD 25 false = false := hI.no (by omega) hl
      obtain ⟨A02, z02, A03, z03, A04, z04, q0, f0⟩ := Is.openS (hI.facts hno 5 (by omega) (hall ⟨5, .data⟩ (by simp) rfl))
      have q0' := tmp_q q0
      obtain ⟨A12, z12, A13, z13, A14, z14, q1, f1⟩ := Is.openS (hI.facts hno 19 (by omega) (hall ⟨19, .data⟩ (by simp) rfl))
      have q1' := tmp_q q1
      obtain ⟨A22, z22, A23, z23, A24, z24, q2, f2⟩ := Is.openS (hI.facts hno 22 (by omega) (hall ⟨22, .data⟩ (by simp) rfl))
      have q2' := tmp_q q2
      refine step_value (v := .slice (some ⟨W.heap.size, 0, none⟩) 3 3) (W1 := W.alloc (.cells #[.int .i64 one_s5.f0, .int .i64 one_s5.f1, .slice A02 one_s5.f2.length z02, .slice A03 one_s5.f3.length z03, .slice A04 one_s5.f4.length z04, .int .i64 one_s19.f0, .int .i64 one_s19.f1, .slice A12 one_s19.f2.length z12, .slice A13 one_s19.f3.length z13, .slice A14 one_s19.f4.length z14, .int .i64 one_s22.f0, .int .i64 one_s22.f1, .slice A22 one_s22.f2.length z22, .slice A23 one_s22.f3.length z23, .slice A24 one_s22.f4.length z24] 47)) rfl rfl (by go_simp; done) ?_
      exact hI.put (i := 23) (by omega) rfl (bal (Below.refl _ _) _) (IsRow.new hI.lt (l := [one_s5, one_s19, one_s22]) [[.int .i64 one_s5.f0, .int .i64 one_s5.f1, .slice A02 one_s5.f2.length z02, .slice A03 one_s5.f3.length z03, .slice A04 one_s5.f4.length z04], [.int .i64 one_s19.f0, .int .i64 one_s19.f1, .slice A12 one_s19.f2.length z12, .slice A13 one_s19.f3.length z13, .slice A14 one_s19.f4.length z14], [.int .i64 one_s22.f0, .int .i64 one_s22.f1, .slice A22 one_s22.f2.length z22, .slice A23 one_s22.f3.length z23, .slice A24 one_s22.f4.length z24]] rfl rfl (by decide) (each3 f0 f1 f2))
    | 24, _ =>
      cases ho
      have hno : L.getD 25 false = false := hI.no (by omega) hl
      have r2 := (hI.facts hno 2 (by omega) (hall ⟨2, .data⟩ (by simp) rfl))
      have r3 := (hI.facts hno 23 (by omega) (hall ⟨23, .data⟩ (by simp) rfl))
      obtain ⟨A2, q2, _⟩ := IsRow.foot r2
      have q2' := tmp_q q2
      obtain ⟨A3, q3, _⟩ := IsRow.foot r3
      have q3' := tmp_q q3
      refine step_value (v := .agg #[.int .i64 2, .slice A2 2 2, .slice A3 3 3]) (W1 := W) rfl rfl (by go_simp; exact ⟨rfl, rfl⟩) ?_
      exact hI.put (i := 24) (by omega) rfl (Below.refl _ _) ⟨_, _, rfl, by rw [← show _ = Value.slice A2 2 2 from q2]; exact r2, by rw [← show _ = Value.slice A3 3 3 from q3]; exact r3⟩
    | 25, _ =>
      cases ho
      have hA : ∀ j, j < 25 → L.getD j false = true := by
        intro j hj
        match j, hj with
        | 0, _ => first | exact hall ⟨0, .phase⟩ (by simp) rfl | exact hall ⟨0, .data⟩ (by simp) rfl
        | 1, _ => first | exact hall ⟨1, .phase⟩ (by simp) rfl | exact hall ⟨1, .data⟩ (by simp) rfl
        | 2, _ => first | exact hall ⟨2, .phase⟩ (by simp) rfl | exact hall ⟨2, .data⟩ (by simp) rfl
        | 3, _ => first | exact hall ⟨3, .phase⟩ (by simp) rfl | exact hall ⟨3, .data⟩ (by simp) rfl
        | 4, _ => first | exact hall ⟨4, .phase⟩ (by simp) rfl | exact hall ⟨4, .data⟩ (by simp) rfl
        | 5, _ => first | exact hall ⟨5, .phase⟩ (by simp) rfl | exact hall ⟨5, .data⟩ (by simp) rfl
        | 6, _ => first | exact hall ⟨6, .phase⟩ (by simp) rfl | exact hall ⟨6, .data⟩ (by simp) rfl
        | 7, _ => first | exact hall ⟨7, .phase⟩ (by simp) rfl | exact hall ⟨7, .data⟩ (by simp) rfl
        | 8, _ => first | exact hall ⟨8, .phase⟩ (by simp) rfl | exact hall ⟨8, .data⟩ (by simp) rfl
        | 9, _ => first | exact hall ⟨9, .phase⟩ (by simp) rfl | exact hall ⟨9, .data⟩ (by simp) rfl
        | 10, _ => first | exact hall ⟨10, .phase⟩ (by simp) rfl | exact hall ⟨10, .data⟩ (by simp) rfl
        | 11, _ => first | exact hall ⟨11, .phase⟩ (by simp) rfl | exact hall ⟨11, .data⟩ (by simp) rfl
        | 12, _ => first | exact hall ⟨12, .phase⟩ (by simp) rfl | exact hall ⟨12, .data⟩ (by simp) rfl
        | 13, _ => first | exact hall ⟨13, .phase⟩ (by simp) rfl | exact hall ⟨13, .data⟩ (by simp) rfl
        | 14, _ => first | exact hall ⟨14, .phase⟩ (by simp) rfl | exact hall ⟨14, .data⟩ (by simp) rfl
        | 15, _ => first | exact hall ⟨15, .phase⟩ (by simp) rfl | exact hall ⟨15, .data⟩ (by simp) rfl
        | 16, _ => first | exact hall ⟨16, .phase⟩ (by simp) rfl | exact hall ⟨16, .data⟩ (by simp) rfl
        | 17, _ => first | exact hall ⟨17, .phase⟩ (by simp) rfl | exact hall ⟨17, .data⟩ (by simp) rfl
        | 18, _ => first | exact hall ⟨18, .phase⟩ (by simp) rfl | exact hall ⟨18, .data⟩ (by simp) rfl
        | 19, _ => first | exact hall ⟨19, .phase⟩ (by simp) rfl | exact hall ⟨19, .data⟩ (by simp) rfl
        | 20, _ => first | exact hall ⟨20, .phase⟩ (by simp) rfl | exact hall ⟨20, .data⟩ (by simp) rfl
        | 21, _ => first | exact hall ⟨21, .phase⟩ (by simp) rfl | exact hall ⟨21, .data⟩ (by simp) rfl
        | 22, _ => first | exact hall ⟨22, .phase⟩ (by simp) rfl | exact hall ⟨22, .data⟩ (by simp) rfl
        | 23, _ => first | exact hall ⟨23, .phase⟩ (by simp) rfl | exact hall ⟨23, .data⟩ (by simp) rfl
        | 24, _ => first | exact hall ⟨24, .phase⟩ (by simp) rfl | exact hall ⟨24, .data⟩ (by simp) rfl
        | j + 25, h => exact absurd h (by omega)
      have hl25 := getD_tf hl
      obtain ⟨v2, v3, e29, r2, r3⟩ := hI.facts hl25 24 (by omega) (hA 24 (by omega))
      obtain ⟨A2, q2, _⟩ := IsRow.foot r2
      obtain ⟨A3, q3, _⟩ := IsRow.foot r3
      subst q2 q3
      have q0 := tmp_q hI.t0
      have q29 := tmp_q e29
      have hO := hI.open_ hl25
      have c0 : W.cell? ⟨w.heap.size, 0, none⟩ = some (.int .i64 0) := (blk_cell hO 0).trans rfl
      have c1 : W.cell? ⟨w.heap.size, 1, none⟩ = some (.slice none 0 0) := (blk_cell hO 1).trans rfl
      have c2 : W.cell? ⟨w.heap.size, 2, none⟩ = some (.slice none 0 0) := (blk_cell hO 2).trans rfl
      have f0 := blk_frozen hO 0
      have f1 := blk_frozen hO 1
      have f2 := blk_frozen hO 2
      refine step_skip (W1 := ((W.setCell ⟨w.heap.size, 0, none⟩ (.int .i64 2)).setCell ⟨w.heap.size, 1, none⟩ (.slice A2 2 2)).setCell ⟨w.heap.size, 2, none⟩ (.slice A3 3 3)) rfl rfl (by go_simp; rfl) ?_
      exact hI.close (by omega) (by omega) hl hA r2 r3
    | i + 26, h => exact absurd h (by omega)
end Go.Proofs.Ytffcpbgbhkbplaa.Print
namespace Go.Proofs.Ytffcpbgbhkbplaa.Print
open Go.RowKit Go.Proofs.YtffcpbgbhkbplaaW.PrintWords Go.Proofs.YtffcpbgbhkbplaaW.PrintLast Go.Proofs.YtffcpbgbhkbplaaW.PrintMore
attribute [local go_sem] max2_int min2_int max_two min_two max_three min_three max_four min_four
set_option linter.unusedVariables false
set_option linter.unusedSimpArgs false
def prog_cells.l0 : Nat → Int → List (S82) → Int → Int → Option (Int)
 | 0, _, _, _, _ => none
 | k + 1, x3, x7, x8, x9 => if x9 < x8 then (if 0 ≤ x9 then (if x9 < (x7.length : Int) then (prog_cells.l0 k (wrap64 (x3 + ((rd_T82 x7 x9).f2))) x7 x8 (wrap64 (x9 + 1))) else (none)) else (none)) else (some x3)
def prog_cells.f (k : Nat) (a0_0 : Int) (l0_1 : List (S82)) (l0_2 : List (S47)) : Option (Int) := prog_cells.l0 k 0 l0_1 (l0_1.length : Int) 0
theorem prog_cells.calls (k : Nat) (a0_0 : Int) (A0_1 : Option Addr) (c0_1 : Nat) (l0_1 : List (S82)) (A0_2 : Option Addr) (c0_2 : Nat) (l0_2 : List (S47)) (r : Int) (w : World) (hr0_1 : Kd.C k82 w A0_1 l0_1.length l0_1) (hc0_1 : l0_1.length ≤ c0_1) (hr0_2 : Kd.C k47 w A0_2 l0_2.length l0_2) (hc0_2 : l0_2.length ≤ c0_2) (h : prog_cells.f k a0_0 l0_1 l0_2 = some r) :
  Calls Try.prog 45 #[.agg #[.int .i64 a0_0, .slice A0_1 l0_1.length c0_1, .slice A0_2 l0_2.length c0_2]] w fun e w' => e = .returned (.int .i64 r) ∧ Below w.heap.size w w' := by
 have hu25 := Try.underlying25
 have hu82 := Try.underlying82
 have HR0_1 := Aside0.mk hr0_1
 have HC0_1 := Aside0.mk hc0_1
 clear hr0_1 hc0_1
 have HR0_2 := Aside0.mk hr0_2
 have HC0_2 := Aside0.mk hc0_2
 clear hr0_2 hc0_2
 have HB := Aside0.mk (Below.refl w.heap.size w)
 have H : (prog_cells.l0 k 0 l0_1 (l0_1.length : Int) 0) = some r := h
 clear h
 have H' := Aside0.mk H
 clear H
 go_enter Try.func45, Try.ntmps45
 go_wp2_with (first | ((with_reducible refine gate_dst (N := 1) rfl ?_); refine bx 1 rfl rfl #[.int .i64 a0_0, .slice A0_1 l0_1.length c0_1, .slice A0_2 l0_2.length c0_2] 25 ?_; intro gb142 hg w2 hbox hb; have BK142 := Aside0.mk (hbox); have GE142 := ge HB hg; replace HB := sb HB hb; clear hb hbox hg; obtain ⟨hcz3_0, hcz3_1, hcz3_2, hfz3_0, hfz3_1, hfz3_2⟩ := cf3 BK142.out))
 go_loopg [3, 9] k (fun kq v3 v9 w' => ∃ (x3_1 : Int) (x9_1 : Int), v3 = .int .i64 x3_1 ∧ v9 = .int .i64 x9_1 ∧ Aside0 (prog_cells.l0 kq x3_1 l0_1 (l0_1.length : Int) x9_1 = some r) ∧ Aside0 (kq ≤ k) ∧ Aside0 (w'.heap[gb142]? = some (.cells #[.int .i64 a0_0, (.slice A0_1 l0_1.length c0_1), (.slice A0_2 l0_2.length c0_2)] 25 (0, 0))) ∧ Aside0 (Below w.heap.size w w'))
 case atStart => exact ⟨(0), (0), rs, rs, H', ⟨Nat.le_refl _⟩, ⟨kk BK142⟩, ⟨bb HB⟩⟩
 case round =>
  clear H'
  try clear p2
  try clear hcz3_0 hcz3_1 hcz3_2 hfz3_0 hfz3_1 hfz3_2
  obtain ⟨x3_1, x9_1, rfl, rfl, HA, HK1, BK142, HB⟩ := hrel
  cases gk with
  | zero => exact absurd HA.out (by simp [prog_cells.l0])
  | succ k1 =>
   have H := HA.out
   clear HA
   simp only [prog_cells.l0] at H
   by_cases c4 : x9_1 < (l0_1.length : Int)
   rotate_left
   ·rw [if_neg c4] at H
    have c4b0 : decide (x9_1 < (l0_1.length : Int)) = false := decide_eq_false c4
    clear c4
    obtain rfl := Option.some.inj H
    go_wp2
    go_ret
    exact ⟨rr, bb HB⟩
   rw [if_pos c4] at H
   have c4b0 : decide (x9_1 < (l0_1.length : Int)) = true := decide_eq_true c4
   clear c4
   by_cases c5 : 0 ≤ x9_1
   rotate_left
   ·rw [if_neg c5] at H
    exact absurd H (by simp)
   rw [if_pos c5] at H
   have c5b0 : decide (0 ≤ x9_1) = true := decide_eq_true c5
   clear c5
   by_cases c6 : x9_1 < (l0_1.length : Int)
   rotate_left
   ·rw [if_neg c6] at H
    exact absurd H (by simp)
   rw [if_pos c6] at H
   have c6b0 : decide (x9_1 < (l0_1.length : Int)) = true := decide_eq_true c6
   clear c6
   have H' := Aside0.mk H
   clear H
   have p143 : 0 ≤ (x9_1 : Int) := od
   have q143 : x9_1 < (l0_1.length : Int) := od
   obtain ⟨ad143, e143, hx143_0, hx143_1, hx143_2⟩ := at_T82 HR0_1.out x9_1 p143 q143
   cases e143
   replace hx143_0 := bcell HB.out hx143_0
   replace hx143_1 := bcell HB.out hx143_1
   replace hx143_2 := bcell HB.out hx143_2
   replace p143 := eq_true p143
   replace q143 := eq_true q143
   go_wp2_with (first | ((with_reducible refine gate_dst (N := 5) rfl ?_); refine bx 5 rfl rfl #[.string (⟨#[]⟩ : ByteArray), .int .i64 0, .int .i64 0] 82 ?_; intro gb144 hg w7 hbox hb; have BK144 := Aside0.mk (hbox); have GE144 := ge HB hg; have NB142_144 := Aside0.mk ((by rw [hg]; exact Nat.ne_of_lt (blk_lt (kk BK142)) : gb142 ≠ gb144)); have NB144_142 := Aside0.mk ((by rw [hg]; exact Nat.ne_of_gt (blk_lt (kk BK142)) : gb144 ≠ gb142)); replace BK142 := kb BK142 hb; replace HB := sb HB hb; clear hb hbox hg; have hnb8 := NB144_142.out; have hnc8 := NB142_144.out; obtain ⟨hcz9_0, hcz9_1, hcz9_2, hfz9_0, hfz9_1, hfz9_2⟩ := cf3 BK144.out))
   go_roundg k1
   case measure => have := HK1.out; omega
   case rel => exact ⟨(wrap64 (x3_1 + ((rd_T82 l0_1 x9_1).f2))), (wrap64 (x9_1 + 1)), rs, rs, H', ⟨by have := HK1.out; omega⟩, ⟨kk BK142⟩, ⟨bb HB⟩⟩
def prog_Space.f (k : Nat) (a0_0 : Int) (l0_1 : List (S82)) (l0_2 : List (S47)) : Option (Int × Int) := (prog_Check.f k a0_0 l0_1 l0_2).bind fun t146 => (if t146 = 0 then ((prog_cells.f k a0_0 l0_1 l0_2).bind fun t147 => (if (wrap64 (a0_0 * t147)) > 60 then (some (0, 5)) else ((prog_cells.f k a0_0 l0_1 l0_2).bind fun t148 => (if 0 ≤ (IntKind.u64.wrap (wrap64 (a0_0 * t148))) then (some (shl .i64 1 (IntKind.u64.wrap (wrap64 (a0_0 * t148))), 0)) else (none))))) else (some (0, 30)))
def prog_Space.T5 : Bool × List (List Nat × List Nat) := (true, [([], []), ([0], [0]), ([], []), ([2], [2]), ([1, 3], [1, 3]), ([4], [4]), ([5], [5]), ([6, 3, 0, 1, 2, 3, 4, 5, 6], [6]), ([7, 0, 1, 2, 3, 4, 5, 6, 7], [])])
def prog_Space.B5 : List Nat := [0, 1, 0, 4, 15, 31, 63, 127, 255]
theorem prog_Space.tab5 : rtab .any (opsOf Try.f13 5) = prog_Space.T5 := by kernel_rfl
theorem prog_Space.bits5 : waitsOk prog_Space.T5.2 prog_Space.B5 = true := by kernel_rfl
theorem prog_Space.calls (k : Nat) (a0_0 : Int) (A0_1 : Option Addr) (c0_1 : Nat) (l0_1 : List (S82)) (A0_2 : Option Addr) (c0_2 : Nat) (l0_2 : List (S47)) (r1 : Int) (r2 : Int) (w : World) (hr0_1 : Kd.C k82 w A0_1 l0_1.length l0_1) (hc0_1 : l0_1.length ≤ c0_1) (hr0_2 : Kd.C k47 w A0_2 l0_2.length l0_2) (hc0_2 : l0_2.length ≤ c0_2) (h : prog_Space.f k a0_0 l0_1 l0_2 = some (r1, r2)) :
  Calls Try.prog 13 #[.agg #[.int .i64 a0_0, .slice A0_1 l0_1.length c0_1, .slice A0_2 l0_2.length c0_2]] w fun e w' => e = .returned (.tuple #[.int .i64 r1, .int .i64 r2]) ∧ Below w.heap.size w w' := by
 have hu25 := Try.underlying25
 have HR0_1 := Aside0.mk hr0_1
 have HC0_1 := Aside0.mk hc0_1
 clear hr0_1 hc0_1
 have HR0_2 := Aside0.mk hr0_2
 have HC0_2 := Aside0.mk hc0_2
 clear hr0_2 hc0_2
 have HB := Aside0.mk (Below.refl w.heap.size w)
 have H : ((prog_Check.f k a0_0 l0_1 l0_2).bind fun t146 => (if t146 = 0 then ((prog_cells.f k a0_0 l0_1 l0_2).bind fun t147 => (if (wrap64 (a0_0 * t147)) > 60 then (some (0, 5)) else ((prog_cells.f k a0_0 l0_1 l0_2).bind fun t148 => (if 0 ≤ (IntKind.u64.wrap (wrap64 (a0_0 * t148))) then (some (shl .i64 1 (IntKind.u64.wrap (wrap64 (a0_0 * t148))), 0)) else (none))))) else (some (0, 30)))) = some (r1, r2) := h
 clear h
 obtain ⟨t146, A2, H⟩ := be H
 by_cases c3 : t146 = 0
 rotate_left
 ·rw [if_neg c3] at H
  have c3b0 : (t146 == 0) = false := beq_eq_false_iff_ne.mpr c3
  have c3b1 : (t146 != 0) = true := bne_iff_ne.mpr c3
  simp only [Option.some.injEq, Prod.mk.injEq] at H
  obtain ⟨rfl, rfl⟩ := H
  go_enter Try.func13, Try.ntmps13
  go_wp2_with (first | ((with_reducible refine gate_dst (N := 1) rfl ?_); refine bx 1 rfl rfl #[.int .i64 a0_0, .slice A0_1 l0_1.length c0_1, .slice A0_2 l0_2.length c0_2] 25 ?_; intro gb145 hg w22 hbox hb; have BK145 := Aside0.mk (hbox); have GE145 := ge HB hg; replace HB := sb HB hb; clear hb hbox hg; obtain ⟨hcz23_0, hcz23_1, hcz23_2, hfz23_0, hfz23_1, hfz23_2⟩ := cf3 BK145.out) | ((with_reducible refine gate_callee (f := 39) rfl ?_); refine gL (some 5) rfl rfl Try.func39 #[.agg #[.int .i64 a0_0, .slice A0_1 l0_1.length c0_1, .slice A0_2 l0_2.length c0_2]] rfl ?_; (with_reducible refine (prog_Check.calls k a0_0 _ _ l0_1 _ _ l0_2 t146 _ ?side1 ?side2 ?side3 ?side4 A2.out).mono ?_); (case side1 => exact cb HR0_1 HB); (case side2 => exact HC0_1.out); (case side3 => exact cb HR0_2 HB); (case side4 => exact HC0_2.out); rintro e w24 ⟨rfl, hb⟩; refine ⟨_, rfl, ?_⟩; replace BK145 := kb BK145 hb; replace HB := sb HB hb; (try clear hb)))
  go_ret2
  exact ⟨rr, bb HB⟩
 rw [if_pos c3] at H
 have c3b0 : (t146 == 0) = true := beq_iff_eq.mpr c3
 have c3b1 : (t146 != 0) = false := bne_eq_false_iff_eq.mpr c3
 clear c3
 obtain ⟨t147, A4, H⟩ := be H
 by_cases c5 : (wrap64 (a0_0 * t147)) > 60
 ·rw [if_pos c5] at H
  have c5b0 : decide (60 < (wrap64 (a0_0 * t147))) = true := decide_eq_true c5
  clear c5
  simp only [Option.some.injEq, Prod.mk.injEq] at H
  obtain ⟨rfl, rfl⟩ := H
  go_enter Try.func13, Try.ntmps13
  try go_wp2_with (first | ((with_reducible refine gate_dst (N := 1) rfl ?_); refine bx 1 rfl rfl #[.int .i64 a0_0, .slice A0_1 l0_1.length c0_1, .slice A0_2 l0_2.length c0_2] 25 ?_; intro gb145 hg w6 hbox hb; have BK145 := Aside0.mk (hbox); have GE145 := ge HB hg; replace HB := sb HB hb; clear hb hbox hg; obtain ⟨hcz7_0, hcz7_1, hcz7_2, hfz7_0, hfz7_1, hfz7_2⟩ := cf3 BK145.out) | ((with_reducible refine gate_callee (f := 39) rfl ?_); refine gL (some 5) rfl rfl Try.func39 #[.agg #[.int .i64 a0_0, .slice A0_1 l0_1.length c0_1, .slice A0_2 l0_2.length c0_2]] rfl ?_; (with_reducible refine (prog_Check.calls k a0_0 _ _ l0_1 _ _ l0_2 t146 _ ?side1 ?side2 ?side3 ?side4 A2.out).mono ?_); (case side1 => exact cb HR0_1 HB); (case side2 => exact HC0_1.out); (case side3 => exact cb HR0_2 HB); (case side4 => exact HC0_2.out); rintro e w8 ⟨rfl, hb⟩; refine ⟨_, rfl, ?_⟩; replace BK145 := kb BK145 hb; replace HB := sb HB hb; (try clear hb)))
  replace BK145 := Aside0.mk (kdr BK145.out)
  replace HB := Aside0.mk (bd1 HB.out)
  refine start_ (n := 6) (S := fun w' => w'.cell? ⟨gb145, 0, none⟩ = some (.int .i64 a0_0) ∧ w'.cell? ⟨gb145, 1, none⟩ = some (.slice A0_1 l0_1.length c0_1) ∧ w'.cell? ⟨gb145, 2, none⟩ = some (.slice A0_2 l0_2.length c0_2)) (ds := []) #[false, false, false, false, false, false] (by kernel_rfl) rfl rfl ⟨(blk_cell BK145.out 0).trans rfl, (blk_cell BK145.out 1).trans rfl, (blk_cell BK145.out 2).trans rfl⟩ (fun hHeld => ?_)
  generalize w8.drew = w9 at BK145 HB hHeld ⊢
  refine pu (i := 0) (N := some 7) (bl 6 1) rfl rfl (by kernel_rfl) ?_
  refine tk (i := 1) (N := some 8) (bl 6 3) rfl rfl (by kernel_rfl) hHeld ?_
  refine tk (i := 2) (N := some 9) (bl 6 7) rfl rfl (by kernel_rfl) hHeld ?_
  refine one_ (i := 3) (N := some 10) (bl 6 15) rfl rfl (by kernel_rfl) (by decide) (fun K hK => ?_)
  refine gO Try.func45 #[.agg #[.int .i64 a0_0, .slice A0_1 l0_1.length c0_1, .slice A0_2 l0_2.length c0_2]] (by rfl) rfl rfl ?_
  with_reducible refine (prog_cells.calls k a0_0 _ _ l0_1 _ _ l0_2 t147 _ ?side1 ?side2 ?side3 ?side4 A4.out).mono ?_
  (case side1 => exact cb HR0_1 HB)
  (case side2 => exact HC0_1.out)
  (case side3 => exact cb HR0_2 HB)
  (case side4 => exact HC0_2.out)
  rintro e w10 ⟨rfl, hb⟩
  refine ⟨_, rfl, ?_⟩
  replace BK145 := kb BK145 hb
  replace HB := sb HB hb
  (try clear hb)
  (try clear hb2)
  (try clear hk)
  (try clear hi)
  refine hK.out _ _ ⟨(blk_cell BK145.out 0).trans rfl, (blk_cell BK145.out 1).trans rfl, (blk_cell BK145.out 2).trans rfl⟩ (fun hHeld => ?_)
  clear hK K
  refine nm 10 ?_
  refine pu (i := 4) (N := some 11) (bl 6 31) rfl rfl (by kernel_rfl) ?_
  refine pu (i := 5) (N := some 12) (bl 6 63) rfl rfl (by kernel_rfl) ?_
  refine done_ (by kernel_rfl) ?_
  try go_wp2
  go_ret2
  exact ⟨rr, bb HB⟩
 rw [if_neg c5] at H
 have c5b0 : decide (60 < (wrap64 (a0_0 * t147))) = false := decide_eq_false c5
 clear c5
 obtain ⟨t148, A11, H⟩ := be H
 obtain ⟨ji12, hji12⟩ : ∃ j_ : Int, (IntKind.u64.wrap (wrap64 (a0_0 * t148))) = j_ := ⟨_, rfl⟩
 replace H : (if 0 ≤ (ji12) then (some (shl .i64 1 (ji12), 0)) else (none)) = some (r1, r2) := by first | (rw [hji12] at H; exact H) | (simp only [hji12] at H ⊢; exact H)
 (try rw [hji12] at A2)
 (try rw [hji12] at A4)
 (try rw [hji12] at A11)
 by_cases c13 : 0 ≤ (ji12)
 rotate_left
 ·rw [if_neg c13] at H
  exact absurd H (by simp)
 rw [if_pos c13] at H
 have c13b0 := eq_true c13
 have c13b1 : decide (0 ≤ (ji12)) = true := decide_eq_true c13
 clear c13
 obtain ⟨ji14, hji14⟩ : ∃ j_ : Int, (shl .i64 1 (ji12)) = j_ := ⟨_, rfl⟩
 replace H : (some (ji14, 0)) = some (r1, r2) := by first | (rw [hji14] at H; exact H) | (simp only [hji14] at H ⊢; exact H)
 (try rw [hji14] at A2)
 (try rw [hji14] at A4)
 (try rw [hji14] at A11)
 have hji14_ : (IntKind.i64.wrap (1 * 2 ^ min (ji12).toNat 64)) = ji14 := hji14
 have hji14z : (ji12) ≤ 64 → (IntKind.i64.wrap (1 * 2 ^ (ji12).toNat)) = ji14 := shl_small hji14
 have hji14u : (IntKind.i64.wrap (2 ^ min (ji12).toNat 64)) = ji14 := by have h_ := hji14_; rw [Int.one_mul] at h_; exact h_
 have hji14v : (ji12) ≤ 64 → (IntKind.i64.wrap (2 ^ (ji12).toNat)) = ji14 := fun hle_ => by have h_ := hji14z hle_; rw [Int.one_mul] at h_; exact h_
 have hji14y : (wrap64 (1 * 2 ^ min (ji12).toNat 64)) = ji14 := (i64_w _).symm.trans hji14_
 have hji14x : (ji12) ≤ 64 → (wrap64 (1 * 2 ^ (ji12).toNat)) = ji14 := fun h_ => (i64_w _).symm.trans (hji14z h_)
 simp only [Option.some.injEq, Prod.mk.injEq] at H
 obtain ⟨rfl, rfl⟩ := H
 go_enter Try.func13, Try.ntmps13
 try go_wp2_with (first | ((with_reducible refine gate_dst (N := 1) rfl ?_); refine bx 1 rfl rfl #[.int .i64 a0_0, .slice A0_1 l0_1.length c0_1, .slice A0_2 l0_2.length c0_2] 25 ?_; intro gb145 hg w15 hbox hb; have BK145 := Aside0.mk (hbox); have GE145 := ge HB hg; replace HB := sb HB hb; clear hb hbox hg; obtain ⟨hcz16_0, hcz16_1, hcz16_2, hfz16_0, hfz16_1, hfz16_2⟩ := cf3 BK145.out) | ((with_reducible refine gate_callee (f := 39) rfl ?_); refine gL (some 5) rfl rfl Try.func39 #[.agg #[.int .i64 a0_0, .slice A0_1 l0_1.length c0_1, .slice A0_2 l0_2.length c0_2]] rfl ?_; (with_reducible refine (prog_Check.calls k a0_0 _ _ l0_1 _ _ l0_2 t146 _ ?side1 ?side2 ?side3 ?side4 A2.out).mono ?_); (case side1 => exact cb HR0_1 HB); (case side2 => exact HC0_1.out); (case side3 => exact cb HR0_2 HB); (case side4 => exact HC0_2.out); rintro e w17 ⟨rfl, hb⟩; refine ⟨_, rfl, ?_⟩; replace BK145 := kb BK145 hb; replace HB := sb HB hb; (try clear hb)))
 replace BK145 := Aside0.mk (kdr BK145.out)
 replace HB := Aside0.mk (bd1 HB.out)
 refine start_ (n := 6) (S := fun w' => w'.cell? ⟨gb145, 0, none⟩ = some (.int .i64 a0_0) ∧ w'.cell? ⟨gb145, 1, none⟩ = some (.slice A0_1 l0_1.length c0_1) ∧ w'.cell? ⟨gb145, 2, none⟩ = some (.slice A0_2 l0_2.length c0_2)) (ds := []) #[false, false, false, false, false, false] (by kernel_rfl) rfl rfl ⟨(blk_cell BK145.out 0).trans rfl, (blk_cell BK145.out 1).trans rfl, (blk_cell BK145.out 2).trans rfl⟩ (fun hHeld => ?_)
 generalize w17.drew = w18 at BK145 HB hHeld ⊢
 refine pu (i := 0) (N := some 7) (bl 6 1) rfl rfl (by kernel_rfl) ?_
 refine tk (i := 1) (N := some 8) (bl 6 3) rfl rfl (by kernel_rfl) hHeld ?_
 refine tk (i := 2) (N := some 9) (bl 6 7) rfl rfl (by kernel_rfl) hHeld ?_
 refine one_ (i := 3) (N := some 10) (bl 6 15) rfl rfl (by kernel_rfl) (by decide) (fun K hK => ?_)
 refine gO Try.func45 #[.agg #[.int .i64 a0_0, .slice A0_1 l0_1.length c0_1, .slice A0_2 l0_2.length c0_2]] (by rfl) rfl rfl ?_
 with_reducible refine (prog_cells.calls k a0_0 _ _ l0_1 _ _ l0_2 t147 _ ?side1 ?side2 ?side3 ?side4 A4.out).mono ?_
 (case side1 => exact cb HR0_1 HB)
 (case side2 => exact HC0_1.out)
 (case side3 => exact cb HR0_2 HB)
 (case side4 => exact HC0_2.out)
 rintro e w19 ⟨rfl, hb⟩
 refine ⟨_, rfl, ?_⟩
 replace BK145 := kb BK145 hb
 replace HB := sb HB hb
 (try clear hb)
 (try clear hb2)
 (try clear hk)
 (try clear hi)
 refine hK.out _ _ ⟨(blk_cell BK145.out 0).trans rfl, (blk_cell BK145.out 1).trans rfl, (blk_cell BK145.out 2).trans rfl⟩ (fun hHeld => ?_)
 clear hK K
 refine nm 10 ?_
 refine pu (i := 4) (N := some 11) (bl 6 31) rfl rfl (by kernel_rfl) ?_
 refine pu (i := 5) (N := some 12) (bl 6 63) rfl rfl (by kernel_rfl) ?_
 refine done_ (by kernel_rfl) ?_
 try go_wp2
 replace BK145 := Aside0.mk (kdr BK145.out)
 replace HB := Aside0.mk (bd1 HB.out)
 refine start_ (n := 9) (S := fun w' => w'.cell? ⟨gb145, 0, none⟩ = some (.int .i64 a0_0) ∧ w'.cell? ⟨gb145, 1, none⟩ = some (.slice A0_1 l0_1.length c0_1) ∧ w'.cell? ⟨gb145, 2, none⟩ = some (.slice A0_2 l0_2.length c0_2)) (ds := []) #[false, false, false, false, false, false, false, false, false] (by kernel_rfl) rfl rfl ⟨(blk_cell BK145.out 0).trans rfl, (blk_cell BK145.out 1).trans rfl, (blk_cell BK145.out 2).trans rfl⟩ (fun hHeld => ?_); refine with_tabW prog_Space.tab5 prog_Space.bits5 (fun HT_ HW_ => ?_)
 generalize w19.drew = w20 at BK145 HB hHeld ⊢
 refine pT 0 13 (bl 9 1) HT_ rfl rfl ?_
 refine tk (i := 1) (N := some 14) (bl 9 3) rfl rfl (take_ofW HT_.out HW_.out (by kernel_rfl)) hHeld ?_
 refine tk (i := 2) (N := some 15) (bl 9 7) rfl rfl (take_ofW HT_.out HW_.out (by kernel_rfl)) hHeld ?_
 refine one_ (i := 3) (N := some 16) (bl 9 15) rfl rfl (one_of HT_.out (by kernel_rfl)) (by decide) (fun K hK => ?_)
 refine gO Try.func45 #[.agg #[.int .i64 a0_0, .slice A0_1 l0_1.length c0_1, .slice A0_2 l0_2.length c0_2]] (by rfl) rfl rfl ?_
 with_reducible refine (prog_cells.calls k a0_0 _ _ l0_1 _ _ l0_2 t148 _ ?side1 ?side2 ?side3 ?side4 A11.out).mono ?_
 (case side1 => exact cb HR0_1 HB)
 (case side2 => exact HC0_1.out)
 (case side3 => exact cb HR0_2 HB)
 (case side4 => exact HC0_2.out)
 rintro e w21 ⟨rfl, hb⟩
 refine ⟨_, rfl, ?_⟩
 replace BK145 := kb BK145 hb
 replace HB := sb HB hb
 (try clear hb)
 (try clear hb2)
 (try clear hk)
 (try clear hi)
 refine hK.out _ _ ⟨(blk_cell BK145.out 0).trans rfl, (blk_cell BK145.out 1).trans rfl, (blk_cell BK145.out 2).trans rfl⟩ (fun hHeld => ?_)
 clear hK K
 refine nm 16 ?_
 refine pT 4 17 (bl 9 31) HT_ rfl rfl ?_
 refine pT 5 18 (bl 9 63) HT_ rfl rfl ?_
 refine pT 6 19 (bl 9 127) HT_ rfl rfl ?_
 refine pT 7 2 (bl 9 255) HT_ rfl rfl ?_
 refine pT 8 3 (bl 9 511) HT_ rfl rfl ?_
 refine done_ (done_of HT_.out (by kernel_rfl)) ?_
 try go_wp2
 go_ret2
 exact ⟨by first | rfl | (simp [errW_none, errW_some] <;> rfl) | (simp only [← hji12, ← hji14]; first | rfl | (simp [errW_none, errW_some] <;> rfl)) | (simp [*, errW_none, errW_some] <;> rfl), bb HB⟩
mutual
def prog_Store.j0 : Nat → Int → Bool → Int → List (S82) → List (S47) → Option (List Int × Int)
 | 0, _, _, _, _, _ => none
 | k + 1, x1, x23, x150000, x150001, x150002 => if x23 = true then (some (([] : List Int), 1)) else ((prog_cells.f k x150000 x150001 x150002).bind fun t152 => (prog_Store.l0 k x1 ([] : List Int) t152 0 x150000 x150001 x150002))
def prog_Store.l0 : Nat → Int → List Int → Int → Int → Int → List (S82) → List (S47) → Option (List Int × Int)
 | 0, _, _, _, _, _, _, _ => none
 | k + 1, x1, x8, x25, x26, x150000, x150001, x150002 => if x26 < x25 then (if 0 ≤ (IntKind.u64.wrap (x150000)) then (if x8.length < 17592186044416 then (prog_Store.l0 k (shr .i64 x1 (IntKind.u64.wrap (x150000))) (x8 ++ [Go.bits .and .i64 x1 (wrap64 ((shl .i64 1 (IntKind.u64.wrap (x150000))) - 1))]) x25 (wrap64 (x26 + 1)) x150000 x150001 x150002) else (none)) else (none)) else (some (x8, 0))
end
def prog_Store.f (k : Nat) (a0_0 : Int) (l0_1 : List (S82)) (l0_2 : List (S47)) (a1 : Int) : Option (List Int × Int) := (prog_Space.f k a0_0 l0_1 l0_2).bind fun bt150 => (if bt150.2 = 0 then (if a1 < 0 then (prog_Store.j0 k a1 true a0_0 l0_1 l0_2) else (prog_Store.j0 k a1 (decide (a1 ≥ bt150.1)) a0_0 l0_1 l0_2)) else (some (([] : List Int), bt150.2)))
theorem prog_Store.calls (k : Nat) (a0_0 : Int) (A0_1 : Option Addr) (c0_1 : Nat) (l0_1 : List (S82)) (A0_2 : Option Addr) (c0_2 : Nat) (l0_2 : List (S47)) (a1 : Int) (r1 : List Int) (r2 : Int) (w : World) (hr0_1 : Kd.C k82 w A0_1 l0_1.length l0_1) (hc0_1 : l0_1.length ≤ c0_1) (hr0_2 : Kd.C k47 w A0_2 l0_2.length l0_2) (hc0_2 : l0_2.length ≤ c0_2) (h : prog_Store.f k a0_0 l0_1 l0_2 a1 = some (r1, r2)) :
  Calls Try.prog 14 #[.agg #[.int .i64 a0_0, .slice A0_1 l0_1.length c0_1, .slice A0_2 l0_2.length c0_2], .int .i64 a1] w fun e w' => ∃ v0_ : Value, e = .returned (.tuple #[v0_, .int .i64 r2]) ∧ Kd.R (Kd.int .i64) 3 w' w.heap.size (fun _ => True) v0_ r1 ∧ Below w.heap.size w w' := by
 have hu25 := Try.underlying25
 have HR0_1 := Aside0.mk hr0_1
 have HC0_1 := Aside0.mk hc0_1
 clear hr0_1 hc0_1
 have HR0_2 := Aside0.mk hr0_2
 have HC0_2 := Aside0.mk hc0_2
 clear hr0_2 hc0_2
 have HB := Aside0.mk (Below.refl w.heap.size w)
 have H : ((prog_Space.f k a0_0 l0_1 l0_2).bind fun bt150 => (if bt150.2 = 0 then (if a1 < 0 then (prog_Store.j0 k a1 true a0_0 l0_1 l0_2) else (prog_Store.j0 k a1 (decide (a1 ≥ bt150.1)) a0_0 l0_1 l0_2)) else (some (([] : List Int), bt150.2)))) = some (r1, r2) := h
 clear h
 replace H := Option.bind_eq_some_iff.mp H
 obtain ⟨⟨t150, t151⟩, A30, H⟩ := H
 replace H : (if t151 = 0 then (if a1 < 0 then (prog_Store.j0 k a1 true a0_0 l0_1 l0_2) else (prog_Store.j0 k a1 (decide (a1 ≥ t150)) a0_0 l0_1 l0_2)) else (some (([] : List Int), t151))) = some (r1, r2) := H
 have A3 := Aside0.mk A30
 clear A30
 by_cases c4 : t151 = 0
 rotate_left
 ·rw [if_neg c4] at H
  have c4b0 : (t151 == 0) = false := beq_eq_false_iff_ne.mpr c4
  have c4b1 : (t151 != 0) = true := bne_iff_ne.mpr c4
  simp only [Option.some.injEq, Prod.mk.injEq] at H
  obtain ⟨rfl, rfl⟩ := H
  go_enter Try.func14, Try.ntmps14
  go_wp2_with (first | ((with_reducible refine gate_dst (N := 2) rfl ?_); refine bx 2 rfl rfl #[.int .i64 a0_0, .slice A0_1 l0_1.length c0_1, .slice A0_2 l0_2.length c0_2] 25 ?_; intro gb149 hg w24 hbox hb; have BK149 := Aside0.mk (hbox); have GE149 := ge HB hg; replace HB := sb HB hb; clear hb hbox hg; obtain ⟨hcz25_0, hcz25_1, hcz25_2, hfz25_0, hfz25_1, hfz25_2⟩ := cf3 BK149.out) | ((with_reducible refine gate_callee (f := 13) rfl ?_); refine gL (some 11) rfl rfl Try.func13 #[.agg #[.int .i64 a0_0, .slice A0_1 l0_1.length c0_1, .slice A0_2 l0_2.length c0_2]] rfl ?_; (with_reducible refine (prog_Space.calls k a0_0 _ _ l0_1 _ _ l0_2 t150 t151 _ ?side1 ?side2 ?side3 ?side4 A3.out).mono ?_); (case side1 => exact cb HR0_1 HB); (case side2 => exact HC0_1.out); (case side3 => exact cb HR0_2 HB); (case side4 => exact HC0_2.out); rintro e w26 ⟨rfl, hb⟩; refine ⟨_, rfl, ?_⟩; replace BK149 := kb BK149 hb; replace HB := sb HB hb; (try clear hb)))
  go_ret2
  exact ⟨_, rr, by first | exact Kd.R_nil _ _ _ _ _ | exact Kd.N_nil _ _ _ _ _ | exact Kd.V_nil _ _ _ _ _ | exact Kd.Q_nil _ _ _ _ _ | exact Kd.S_nil _ _ _ _ _, bb HB⟩
 rw [if_pos c4] at H
 have c4b0 : (t151 == 0) = true := beq_iff_eq.mpr c4
 have c4b1 : (t151 != 0) = false := bne_eq_false_iff_eq.mpr c4
 clear c4
 have HC5 := Aside0.mk H
 clear H
 go_enter Try.func14, Try.ntmps14
 go_upto_region 4 with (first | ((with_reducible refine gate_dst (N := 2) rfl ?_); refine bx 2 rfl rfl #[.int .i64 a0_0, .slice A0_1 l0_1.length c0_1, .slice A0_2 l0_2.length c0_2] 25 ?_; intro gb149 hg w6 hbox hb; have BK149 := Aside0.mk (hbox); have GE149 := ge HB hg; replace HB := sb HB hb; clear hb hbox hg; obtain ⟨hcz7_0, hcz7_1, hcz7_2, hfz7_0, hfz7_1, hfz7_2⟩ := cf3 BK149.out) | ((with_reducible refine gate_callee (f := 13) rfl ?_); refine gL (some 11) rfl rfl Try.func13 #[.agg #[.int .i64 a0_0, .slice A0_1 l0_1.length c0_1, .slice A0_2 l0_2.length c0_2]] rfl ?_; (with_reducible refine (prog_Space.calls k a0_0 _ _ l0_1 _ _ l0_2 t150 t151 _ ?side1 ?side2 ?side3 ?side4 A3.out).mono ?_); (case side1 => exact cb HR0_1 HB); (case side2 => exact HC0_1.out); (case side3 => exact cb HR0_2 HB); (case side4 => exact HC0_2.out); rintro e w8 ⟨rfl, hb⟩; refine ⟨_, rfl, ?_⟩; replace BK149 := kb BK149 hb; replace HB := sb HB hb; (try clear hb)))
 (try simp only [Act.put, List.setIfInBounds_toArray, List.set_cons_zero, List.set_cons_succ])
 go_cut [23] (fun v23 wc => ∃ (kq : Nat) (x23_4 : Bool), v23 = .bool x23_4 ∧ Aside0 (prog_Store.j0 kq a1 x23_4 a0_0 l0_1 l0_2 = some (r1, r2)) ∧ Aside0 (kq ≤ k) ∧ Aside0 (wc.heap[gb149]? = some (.cells #[.int .i64 a0_0, (.slice A0_1 l0_1.length c0_1), (.slice A0_2 l0_2.length c0_2)] 25 (0, 0))) ∧ Aside0 (Below w.heap.size w wc))
 case first =>
  have H := HC5.out
  clear HC5
  by_cases c9 : a1 < 0
  ·rw [if_pos c9] at H
   have c9b0 : decide (a1 < 0) = true := decide_eq_true c9
   clear c9
   (first | rw [c9b0] | (simp only [i64_w, i32_w]; rw [c9b0]) | skip)
   have H' := Aside0.mk H
   clear H
   go_wp2
   go_meet
   case rel => exact ⟨_, (true), rs, H', ⟨by first | omega | exact Nat.le_refl _⟩, ⟨kk BK149⟩, ⟨bb HB⟩⟩
  rw [if_neg c9] at H
  have c9b0 : decide (a1 < 0) = false := decide_eq_false c9
  clear c9
  (first | rw [c9b0] | (simp only [i64_w, i32_w]; rw [c9b0]) | skip)
  have H' := Aside0.mk H
  clear H
  go_wp2
  go_meet
  case rel => exact ⟨_, (decide (a1 ≥ t150)), rs, H', ⟨by first | omega | exact Nat.le_refl _⟩, ⟨kk BK149⟩, ⟨bb HB⟩⟩
 case rest =>
  clear HC5
  try clear c1
  try clear p2
  try clear c4
  try clear c4b0
  try clear c4b1
  try clear c9
  try clear c9b0
  try clear hcz7_0 hcz7_1 hcz7_2 hfz7_0 hfz7_1 hfz7_2
  obtain ⟨kq, x23_4, rfl, HA, HJ4, BK149, HB⟩ := hcut
  cases kq with
  | zero => exact absurd HA.out (by simp [prog_Store.j0])
  | succ kj4 =>
   have H := HA.out
   clear HA
   simp only [prog_Store.j0] at H
   by_cases c10 : x23_4 = true
   ·subst c10
    replace H := it H
    simp only [Option.some.injEq, Prod.mk.injEq] at H
    obtain ⟨rfl, rfl⟩ := H
    go_wp2
    go_ret2
    exact ⟨_, rr, by first | exact Kd.R_nil _ _ _ _ _ | exact Kd.N_nil _ _ _ _ _ | exact Kd.V_nil _ _ _ _ _ | exact Kd.Q_nil _ _ _ _ _ | exact Kd.S_nil _ _ _ _ _, bb HB⟩
   replace c10 := Bool.eq_false_iff.mpr c10
   subst c10
   replace H := fi H
   obtain ⟨t152, A11, H⟩ := be H
   have H' := Aside0.mk H
   clear H
   obtain ⟨hcz12_0, hcz12_1, hcz12_2, hfz12_0, hfz12_1, hfz12_2⟩ := cf3 BK149.out
   go_wp2_with (first | ((with_reducible refine gate_callee (f := 45) rfl ?_); refine gL (some 25) rfl rfl Try.func45 #[.agg #[.int .i64 a0_0, .slice A0_1 l0_1.length c0_1, .slice A0_2 l0_2.length c0_2]] rfl ?_; (with_reducible refine (prog_cells.calls kj4 a0_0 _ _ l0_1 _ _ l0_2 t152 _ ?side1 ?side2 ?side3 ?side4 A11.out).mono ?_); (case side1 => exact cb HR0_1 HB); (case side2 => exact HC0_1.out); (case side3 => exact cb HR0_2 HB); (case side4 => exact HC0_2.out); rintro e w13 ⟨rfl, hb⟩; refine ⟨_, rfl, ?_⟩; replace BK149 := kb BK149 hb; replace HB := sb HB hb; (try clear hb)))
   go_loopg [1, 8, 26] kj4 (fun kq v1 v8 v26 w' => ∃ (x1_2 : Int) (x8_2 : List Int) (x26_2 : Int), v1 = .int .i64 x1_2 ∧ v26 = .int .i64 x26_2 ∧ Aside0 (prog_Store.l0 kq x1_2 x8_2 t152 x26_2 a0_0 l0_1 l0_2 = some (r1, r2)) ∧ Aside0 (kq ≤ kj4) ∧ Aside0 (Kd.R (Kd.int .i64) 3 w' w.heap.size (fun _ => True) v8 x8_2) ∧ Aside0 (w'.heap[gb149]? = some (.cells #[.int .i64 a0_0, (.slice A0_1 l0_1.length c0_1), (.slice A0_2 l0_2.length c0_2)] 25 (0, 0))) ∧ Aside0 (Below w.heap.size w w'))
   case atStart => exact ⟨(a1), (([] : List Int)), (0), rs, rs, H', ⟨Nat.le_refl _⟩, ⟨by first | exact Kd.R_nil _ _ _ _ _ | exact Kd.N_nil _ _ _ _ _ | exact Kd.V_nil _ _ _ _ _ | exact Kd.Q_nil _ _ _ _ _ | exact Kd.S_nil _ _ _ _ _⟩, ⟨kk BK149⟩, ⟨bb HB⟩⟩
   case round =>
    clear H'
    try clear c1
    try clear p2
    try clear c4
    try clear c4b0
    try clear c4b1
    try clear c9
    try clear c9b0
    try clear c10
    try clear c13
    try clear hcz12_0 hcz12_1 hcz12_2
    try clear hcz7_0 hcz7_1 hcz7_2
    try clear hfz12_0 hfz12_1 hfz12_2
    try clear hfz7_0 hfz7_1 hfz7_2
    try clear p2
    obtain ⟨x1_2, x8_2, x26_2, rfl, rfl, HA, HK2, HO_8, BK149, HB⟩ := hrel
    cases gk with
    | zero => exact absurd HA.out (by simp [prog_Store.l0])
    | succ k2 =>
     have H := HA.out
     clear HA
     simp only [prog_Store.l0] at H
     by_cases c14 : x26_2 < t152
     rotate_left
     ·rw [if_neg c14] at H
      have c14b0 : decide (x26_2 < t152) = false := decide_eq_false c14
      clear c14
      simp only [Option.some.injEq, Prod.mk.injEq] at H
      obtain ⟨rfl, rfl⟩ := H
      go_wp2
      go_ret2
      exact ⟨_, rr, by (with_reducible repeat (first | apply Kd.R_alloc | apply Kd.R_drewN | apply Kd.R_drew)); exact HO_8.out, bb HB⟩
     rw [if_pos c14] at H
     have c14b0 : decide (x26_2 < t152) = true := decide_eq_true c14
     clear c14
     obtain ⟨ji15, hji15⟩ : ∃ j_ : Int, (IntKind.u64.wrap (a0_0)) = j_ := ⟨_, rfl⟩
     replace H : (if 0 ≤ (ji15) then (if x8_2.length < 17592186044416 then (prog_Store.l0 k2 (shr .i64 x1_2 (ji15)) (x8_2 ++ [Go.bits .and .i64 x1_2 (wrap64 ((shl .i64 1 (ji15)) - 1))]) t152 (wrap64 (x26_2 + 1)) a0_0 l0_1 l0_2) else (none)) else (none)) = some (r1, r2) := by first | (rw [hji15] at H; exact H) | (simp only [hji15] at H ⊢; exact H)
     by_cases c16 : 0 ≤ (ji15)
     rotate_left
     ·rw [if_neg c16] at H
      exact absurd H (by simp)
     rw [if_pos c16] at H
     have c16b0 := eq_true c16
     have c16b1 : decide (0 ≤ (ji15)) = true := decide_eq_true c16
     clear c16
     obtain ⟨ji17, hji17⟩ : ∃ j_ : Int, (shl .i64 1 (ji15)) = j_ := ⟨_, rfl⟩
     replace H : (if x8_2.length < 17592186044416 then (prog_Store.l0 k2 (shr .i64 x1_2 (ji15)) (x8_2 ++ [Go.bits .and .i64 x1_2 (wrap64 ((ji17) - 1))]) t152 (wrap64 (x26_2 + 1)) a0_0 l0_1 l0_2) else (none)) = some (r1, r2) := by first | (rw [hji17] at H; exact H) | (simp only [hji17] at H ⊢; exact H)
     have hji17_ : (IntKind.i64.wrap (1 * 2 ^ min (ji15).toNat 64)) = ji17 := hji17
     have hji17z : (ji15) ≤ 64 → (IntKind.i64.wrap (1 * 2 ^ (ji15).toNat)) = ji17 := shl_small hji17
     have hji17u : (IntKind.i64.wrap (2 ^ min (ji15).toNat 64)) = ji17 := by have h_ := hji17_; rw [Int.one_mul] at h_; exact h_
     have hji17v : (ji15) ≤ 64 → (IntKind.i64.wrap (2 ^ (ji15).toNat)) = ji17 := fun hle_ => by have h_ := hji17z hle_; rw [Int.one_mul] at h_; exact h_
     have hji17y : (wrap64 (1 * 2 ^ min (ji15).toNat 64)) = ji17 := (i64_w _).symm.trans hji17_
     have hji17x : (ji15) ≤ 64 → (wrap64 (1 * 2 ^ (ji15).toNat)) = ji17 := fun h_ => (i64_w _).symm.trans (hji17z h_)
     by_cases c18 : x8_2.length < 17592186044416
     rotate_left
     ·rw [if_neg c18] at H
      exact absurd H (by simp)
     rw [if_pos c18] at H
     have LMc18 := Aside0.mk c18
     clear c18
     obtain ⟨y153, hy153⟩ : ∃ y_ : List Int, y_ = (x8_2 ++ [Go.bits .and .i64 x1_2 (wrap64 ((ji17) - 1))]) := ⟨_, rfl⟩
     replace H : (prog_Store.l0 k2 (shr .i64 x1_2 (ji15)) y153 t152 (wrap64 (x26_2 + 1)) a0_0 l0_1 l0_2) = some (r1, r2) := by first | (rw [hy153]; with_reducible exact H) | (have H2_ := (Option.bind_some _ _).symm.trans H; rw [hy153]; with_reducible exact H2_) | (have H2_ := (Option.bind_some _ _).symm.trans H; with_reducible exact H2_) | with_reducible exact H | (rw [hy153]; exact H) | exact H
     have Ny153 := Aside0.mk hy153
     clear hy153
     have c19b0 := eq_true (od : 0 ≤ (ji15))
     obtain ⟨ji20, hji20⟩ : ∃ j_ : Int, (shr .i64 x1_2 (ji15)) = j_ := ⟨_, rfl⟩
     replace H : (prog_Store.l0 k2 ji20 y153 t152 (wrap64 (x26_2 + 1)) a0_0 l0_1 l0_2) = some (r1, r2) := by first | (rw [hji20] at H; exact H) | (simp only [hji20] at H ⊢; exact H)
     have hji20_ : (x1_2 / 2 ^ min (ji15).toNat 64) = ji20 := hji20
     have hji20z : (ji15) ≤ 64 → (x1_2 / 2 ^ (ji15).toNat) = ji20 := shr_small hji20
     have H' := Aside0.mk H
     clear H
     obtain ⟨hcz21_0, hcz21_1, hcz21_2, hfz21_0, hfz21_1, hfz21_2⟩ := cf3 BK149.out
     go_wp2_with (first | ((with_reducible refine gate_builtin (b := .append) (xs := #[.tmp 28, .tmp 36]) rfl ?_); at_builtin; refine Kd.R_append (Kd.int .i64) (w0 := w) w.heap.size rfl (.tmp 28) (.tmp 36) 26 3 (.int .i64 0) 8 rfl Try.underlying26 info3 rfl (by decide) (by omega) u8 x8_2 (Go.bits .and .i64 x1_2 (wrap64 ((ji17) - 1))) [.int .i64 (Go.bits .and .i64 x1_2 (wrap64 ((ji17) - 1)))] (fun _ => True) (fun _ => False) rfl rfl ?aP (fun _ hk => hk.elim) ?aF ?aO ?aB ?aS ?aL ?_; (case aP => exact rfl); (case aB => exact (bb HB)); (case aF => exact (fun _ _ => trivial)); (case aO => exact (iR HO_8)); (case aS => exact (bsz (bb HB))); (case aL => have := LMc18.out; omega); intro v154 w22 ho hb hg hat; rw [← Ny153.out] at ho; have HO155 := Aside0.mk (ho); replace BK149 := Aside0.mk (blk_grown (kk BK149) hg (Kd.R_ne HO_8.out BK149.out (by decide))); replace HB := Aside0.mk (hb); clear HO_8; clear ho hb hg hat; obtain ⟨hcz23_0, hcz23_1, hcz23_2, hfz23_0, hfz23_1, hfz23_2⟩ := cf3 BK149.out))
     go_roundg k2
     case measure => have := HJ4.out; have := HK2.out; omega
     case rel => exact ⟨(ji20), (y153), (wrap64 (x26_2 + 1)), (by first | rfl | (simp; done) | (simp only [← hji20] <;> (first | rfl | simp)) | (simp [*]; done)), rs, H', ⟨by have := HJ4.out; have := HK2.out; omega⟩, ⟨by (with_reducible repeat (first | apply Kd.R_alloc | apply Kd.R_drewN | apply Kd.R_drew)); exact HO155.out⟩, ⟨kk BK149⟩, ⟨bb HB⟩⟩
end Go.Proofs.Ytffcpbgbhkbplaa.Print
