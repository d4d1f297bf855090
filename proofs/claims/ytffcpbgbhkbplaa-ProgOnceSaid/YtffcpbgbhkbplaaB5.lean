/- What the laws of programs share: contracts of the functions that they call, and what these compute, for every program that comes in. -/
import Derived.Test.YtffcpbgbhkbplaaB4
import Derived.Orders
import Derived.OrdersHeld
namespace Go.Proofs.Ytffcpbgbhkbplaa.Print
open Go.RowKit Go.Proofs.YtffcpbgbhkbplaaW.PrintWords Go.Proofs.YtffcpbgbhkbplaaW.PrintLast Go.Proofs.YtffcpbgbhkbplaaW.PrintMore
attribute [local go_sem] max2_int min2_int max_two min_two max_three min_three max_four min_four
set_option linter.unusedVariables false
set_option linter.unusedSimpArgs false
mutual
def prog_Copied.l0 : Nat → List (S47) → List (S47) → Int → Int → Int → Int → List (S96) → List (S47) → List (S47) → Option (Int × Int × (List (S96)) × (List (S47)) × (List (S47)))
 | 0, _, _, _, _, _, _, _, _, _ => none
 | k + 1, x3, x14, x15, x16, x174000, x174001, x174002, x174003, x174004 => if x16 < x15 then (if 0 ≤ x16 then (if x16 < (x14.length : Int) then ((prog_Copied.f k ((rd_T47 x14 x16).f0) ((rd_T47 x14 x16).f1) ((rd_T47 x14 x16).f2) ((rd_T47 x14 x16).f3) ((rd_T47 x14 x16).f4)).bind fun bt180 => (if x3.length < 1599289640401 then (prog_Copied.l0 k (x3 ++ [(⟨bt180.1, bt180.2.1, bt180.2.2.1, bt180.2.2.2.1, bt180.2.2.2.2⟩ : S47)]) x14 x15 (wrap64 (x16 + 1)) x174000 x174001 x174002 x174003 x174004) else (none))) else (none)) else (none)) else (prog_Copied.l1 k x3 ([] : List (S47)) x174004 (x174004.length : Int) 0 x174000 x174001 x174002 x174003 x174004)
def prog_Copied.l1 : Nat → List (S47) → List (S47) → List (S47) → Int → Int → Int → Int → List (S96) → List (S47) → List (S47) → Option (Int × Int × (List (S96)) × (List (S47)) × (List (S47)))
 | 0, _, _, _, _, _, _, _, _, _, _ => none
 | k + 1, x3, x4, x27, x28, x29, x174000, x174001, x174002, x174003, x174004 => if x29 < x28 then (if 0 ≤ x29 then (if x29 < (x27.length : Int) then ((prog_Copied.f k ((rd_T47 x27 x29).f0) ((rd_T47 x27 x29).f1) ((rd_T47 x27 x29).f2) ((rd_T47 x27 x29).f3) ((rd_T47 x27 x29).f4)).bind fun bt196 => (if x4.length < 1599289640401 then (prog_Copied.l1 k x3 (x4 ++ [(⟨bt196.1, bt196.2.1, bt196.2.2.1, bt196.2.2.2.1, bt196.2.2.2.2⟩ : S47)]) x27 x28 (wrap64 (x29 + 1)) x174000 x174001 x174002 x174003 x174004) else (none))) else (none)) else (none)) else (some (x174000, x174001, x174002, x3, x4))
def prog_Copied.f : Nat → Int → Int → List (S96) → List (S47) → List (S47) → Option (Int × Int × (List (S96)) × (List (S47)) × (List (S47)))
 | 0, _, _, _, _, _ => none
 | k + 1, a0_0, a0_1, l0_2, l0_3, l0_4 => (prog_copiedExprs.f k l0_2).bind fun t175 => (prog_Copied.l0 k ([] : List (S47)) l0_3 (l0_3.length : Int) 0 a0_0 a0_1 t175 l0_3 l0_4)
end
set_option maxHeartbeats 8000000 in
set_option maxRecDepth 100000 in
theorem prog_Copied.calls (k : Nat) : ∀ (a0_0 : Int) (a0_1 : Int) (A0_2 : Option Addr) (c0_2 : Nat) (l0_2 : List (S96)) (A0_3 : Option Addr) (c0_3 : Nat) (l0_3 : List (S47)) (A0_4 : Option Addr) (c0_4 : Nat) (l0_4 : List (S47)) (r1 : Int) (r2 : Int) (r3 : List (S96)) (r4 : List (S47)) (r5 : List (S47)) (w : World) (hr0_2 : Kd.C k96 w A0_2 l0_2.length l0_2) (hc0_2 : l0_2.length ≤ c0_2) (hr0_3 : Kd.C k47 w A0_3 l0_3.length l0_3) (hc0_3 : l0_3.length ≤ c0_3) (hr0_4 : Kd.C k47 w A0_4 l0_4.length l0_4) (hc0_4 : l0_4.length ≤ c0_4) (h : prog_Copied.f k a0_0 a0_1 l0_2 l0_3 l0_4 = some (r1, r2, r3, r4, r5)),
  Calls Try.prog 54 #[.agg #[.int .i64 a0_0, .int .i64 a0_1, .slice A0_2 l0_2.length c0_2, .slice A0_3 l0_3.length c0_3, .slice A0_4 l0_4.length c0_4]] w fun e w' => ∃ v2_ v3_ v4_ : Value, e = .returned (.agg #[.int .i64 r1, .int .i64 r2, v2_, v3_, v4_]) ∧ Kd.R k96 96 w' w.heap.size (fun _ => True) v2_ r3 ∧ Kd.R k47 47 w' w.heap.size (fun k_ => some k_ ≠ (v2_ : Value).ownBlock ∧ some k_ ≠ (v4_ : Value).ownBlock) v3_ r4 ∧ Kd.R k47 47 w' w.heap.size (fun k_ => some k_ ≠ (v2_ : Value).ownBlock ∧ some k_ ≠ (v3_ : Value).ownBlock) v4_ r5 ∧ Below w.heap.size w w' := by
 induction k using Nat.strongRecOn with
 | _ k ih =>
 intro a0_0 a0_1 A0_2 c0_2 l0_2 A0_3 c0_3 l0_3 A0_4 c0_4 l0_4 r1 r2 r3 r4 r5 w hr0_2 hc0_2 hr0_3 hc0_3 hr0_4 hc0_4 h
 cases k with
 | zero => exact absurd h (by simp [prog_Copied.f])
 | succ k =>
 simp only [prog_Copied.f] at h
 have hu47 := Try.underlying47
 have HR0_2 := Aside0.mk hr0_2
 have HC0_2 := Aside0.mk hc0_2
 clear hr0_2 hc0_2
 have HR0_3 := Aside0.mk hr0_3
 have HC0_3 := Aside0.mk hc0_3
 clear hr0_3 hc0_3
 have HR0_4 := Aside0.mk hr0_4
 have HC0_4 := Aside0.mk hc0_4
 clear hr0_4 hc0_4
 have HB := Aside0.mk (Below.refl w.heap.size w)
 have H : ((prog_copiedExprs.f k l0_2).bind fun t175 => (prog_Copied.l0 k ([] : List (S47)) l0_3 (l0_3.length : Int) 0 a0_0 a0_1 t175 l0_3 l0_4)) = some (r1, r2, r3, r4, r5) := h
 clear h
 replace H := Option.bind_eq_some_iff.mp H
 obtain ⟨t175, A20, H⟩ := H
 replace H : (prog_Copied.l0 k ([] : List (S47)) l0_3 (l0_3.length : Int) 0 a0_0 a0_1 t175 l0_3 l0_4) = some (r1, r2, r3, r4, r5) := H
 have A2 := Aside0.mk A20
 clear A20
 have H' := Aside0.mk H
 clear H
 go_enter Try.func54, Try.ntmps54
 go_wp2_with (first | ((with_reducible refine gate_dst (N := 1) rfl ?_); refine box_event ?hg (N := 1) ?hd (cs := #[.int .i64 a0_0, .int .i64 a0_1, .slice A0_2 l0_2.length c0_2, .slice A0_3 l0_3.length c0_3, .slice A0_4 l0_4.length c0_4]) (t := 47) ?hr ?_; (case hd => rfl); (case hg => rfl); (case hr => first | (go_simp; done) | (go_simp; rfl)); intro gb173 hg w3 hbox hb; have n0_ := Aside0.mk (bsp (by repeat (first | (with_reducible first | exact HB.out | apply bal | apply bdN | apply bd1) | exact HB.out)) hb); have n1_ := Aside0.mk (hbox); have n2_ := Aside0.mk ((by rw [hg]; exact (bsz (by repeat (first | (with_reducible first | exact HB.out | apply bal | apply bdN | apply bd1) | exact HB.out))) : w.heap.size ≤ gb173)); have n3_ := Aside0.mk ((by rw [hg]; exact (bsz (by repeat (first | (with_reducible first | exact HB.out | apply bal | apply bdN | apply bd1) | exact HB.out))) : w.heap.size ≤ gb173)); clear HB; have HB := n0_; have BK173 := n1_; have GW173 := n2_; have GE173 := n3_; clear n0_ n1_ n2_ n3_; clear hb hbox hg) | ((with_reducible refine gate_dst (N := 2) rfl ?_); refine box_event ?hg (N := 2) ?hd (cs := #[.int .i64 0, .int .i64 0, .slice none 0 0, .slice none 0 0, .slice none 0 0]) (t := 47) ?hr ?_; (case hd => rfl); (case hg => rfl); (case hr => first | (go_simp; done) | (go_simp; rfl)); intro gb174 hg w4 hbox hb; have n0_ := Aside0.mk (blk_below (g := gb173) (o := .cells #[.int .i64 a0_0, .int .i64 a0_1, .slice A0_2 l0_2.length c0_2, .slice A0_3 l0_3.length c0_3, .slice A0_4 l0_4.length c0_4] 47 (0, 0)) (by (with_reducible repeat (first | refine kdN ?_ _ | refine kdr ?_ | refine kal ?_ _)); exact BK173.out) hb); have n1_ := Aside0.mk (bsp (by repeat (first | (with_reducible first | exact HB.out | apply bal | apply bdN | apply bd1 | refine bst ?_ GE173.out) | exact HB.out)) hb); have n2_ := Aside0.mk (hbox); have n3_ := Aside0.mk ((by rw [hg]; exact (bsz (by repeat (first | (with_reducible first | exact HB.out | apply bal | apply bdN | apply bd1 | refine bst ?_ GE173.out) | exact HB.out))) : w.heap.size ≤ gb174)); have n4_ := Aside0.mk ((by rw [hg]; exact (bsz (by repeat (first | (with_reducible first | exact HB.out | apply bal | apply bdN | apply bd1 | refine bst ?_ GE173.out) | exact HB.out))) : w.heap.size ≤ gb174)); have n5_ := Aside0.mk ((by rw [hg]; exact Nat.ne_of_lt (blk_lt (g := gb173) (o := .cells #[.int .i64 a0_0, .int .i64 a0_1, .slice A0_2 l0_2.length c0_2, .slice A0_3 l0_3.length c0_3, .slice A0_4 l0_4.length c0_4] 47 (0, 0)) (by (with_reducible repeat (first | refine kdN ?_ _ | refine kdr ?_ | refine kal ?_ _)); exact BK173.out)) : gb173 ≠ gb174)); have n6_ := Aside0.mk ((by rw [hg]; exact Nat.ne_of_gt (blk_lt (g := gb173) (o := .cells #[.int .i64 a0_0, .int .i64 a0_1, .slice A0_2 l0_2.length c0_2, .slice A0_3 l0_3.length c0_3, .slice A0_4 l0_4.length c0_4] 47 (0, 0)) (by (with_reducible repeat (first | refine kdN ?_ _ | refine kdr ?_ | refine kal ?_ _)); exact BK173.out)) : gb174 ≠ gb173)); clear BK173; clear HB; have BK173 := n0_; have HB := n1_; have BK174 := n2_; have GW174 := n3_; have GE174 := n4_; have NB173_174 := n5_; have NB174_173 := n6_; clear n0_ n1_ n2_ n3_ n4_ n5_ n6_; clear hb hbox hg; have hnb5 := NB173_174.out; have hnc5 := NB174_173.out; obtain ⟨hcz6_0, hcz6_1, hcz6_2, hcz6_3, hcz6_4, hfz6_0, hfz6_1, hfz6_2, hfz6_3, hfz6_4⟩ := cf5 BK173.out) | ((with_reducible refine gate_callee (f := 78) rfl ?_); refine goesL_ (some 11) rfl rfl Try.func78 (by kernel_rfl) rfl #[.slice A0_2 l0_2.length c0_2] rfl (by (try simp only [List.map_toArray, List.map_cons, List.map_nil]); first | done | rfl | (simp only [List.length_drop, List.length_take]; rfl)) ?_; (with_reducible refine (prog_copiedExprs.calls k _ _ l0_2 t175 _ ?side1 ?side2 A2.out).mono ?_); (case side1 => repeat (first | exact (Kd.C_below HR0_2.out HB.out) | with_reducible first | apply Kd.C_alloc | apply Kd.C_drewN | apply Kd.C_drew)); (case side2 => exact HC0_2.out); rintro e w7 ⟨v176, rfl, ho0, hb⟩; refine ⟨_, rfl, ?_⟩; have n0_ := Aside0.mk (Kd.R_lower ho0 (bsz (by repeat (first | (with_reducible first | exact HB.out | apply bal | apply bdN | apply bd1 | refine bst ?_ GE173.out | refine bst ?_ GE174.out) | exact HB.out)))); have n1_ := Aside0.mk (blk_below (g := gb173) (o := .cells #[.int .i64 a0_0, .int .i64 a0_1, .slice A0_2 l0_2.length c0_2, .slice A0_3 l0_3.length c0_3, .slice A0_4 l0_4.length c0_4] 47 (0, 0)) (by (with_reducible repeat (first | refine kdN ?_ _ | refine kdr ?_ | refine kal ?_ _)); exact BK173.out) hb); have n2_ := Aside0.mk (blk_below (g := gb174) (o := .cells #[.int .i64 0, .int .i64 0, .slice none 0 0, .slice none 0 0, .slice none 0 0] 47 (0, 0)) (by (with_reducible repeat (first | refine kdN ?_ _ | refine kdr ?_ | refine kal ?_ _)); exact BK174.out) hb); have n3_ := Aside0.mk (bsp (by repeat (first | (with_reducible first | exact HB.out | apply bal | apply bdN | apply bd1 | refine bst ?_ GE173.out | refine bst ?_ GE174.out) | exact HB.out)) hb); clear BK173; clear BK174; clear HB; have HO177 := n0_; have BK173 := n1_; have BK174 := n2_; have HB := n3_; clear n0_ n1_ n2_ n3_; (try clear hb); (try clear hb2); (try clear hk); (try clear hi); (try clear ho0); obtain ⟨Ao8, co8, eo8⟩ := Kd.R_slice HO177.out; subst eo8; obtain ⟨hcz9_0, hcz9_1, hcz9_2, hcz9_3, hcz9_4, hfz9_0, hfz9_1, hfz9_2, hfz9_3, hfz9_4⟩ := cf5 BK173.out))
 go_loopg [3, 16] k (fun kq v3 v16 w' => ∃ (x3_1 : List (S47)) (x16_1 : Int), v16 = .int .i64 x16_1 ∧ Aside0 (prog_Copied.l0 kq x3_1 l0_3 (l0_3.length : Int) x16_1 a0_0 a0_1 t175 l0_3 l0_4 = some (r1, r2, r3, r4, r5)) ∧ Aside0 (kq ≤ k) ∧ Aside0 (Kd.R k47 47 w' w.heap.size (fun k_ => some k_ ≠ ((.slice Ao8 t175.length co8) : Value).ownBlock ∧ k_ ≠ gb173 ∧ k_ ≠ gb174) v3 x3_1) ∧ Aside0 (Kd.R k96 96 w' w.heap.size (fun _ => True) (.slice Ao8 t175.length co8) t175) ∧ Aside0 (w'.heap[gb173]? = some (.cells #[.int .i64 a0_0, .int .i64 a0_1, (.slice Ao8 t175.length co8), (.slice A0_3 l0_3.length c0_3), (.slice A0_4 l0_4.length c0_4)] 47 (0, 0))) ∧ Aside0 (w'.heap[gb174]? = some (.cells #[.int .i64 0, .int .i64 0, (.slice none 0 0), (.slice none 0 0), (.slice none 0 0)] 47 (0, 0))) ∧ Aside0 (Below w.heap.size w w'))
 case atStart => exact ⟨(([] : List (S47))), (0), (by first | rfl | (simp; done) | (simp [*]; done)), H', ⟨Nat.le_refl _⟩, ⟨by first | exact Kd.R_nil _ _ _ _ _ | exact Kd.N_nil _ _ _ _ _ | exact Kd.V_nil _ _ _ _ _ | exact Kd.Q_nil _ _ _ _ _ | exact Kd.S_nil _ _ _ _ _⟩, ⟨by (with_reducible repeat (first | apply Kd.R_alloc | apply Kd.R_drewN | apply Kd.R_drew)); exact Kd.R_mono (Kd.R_far (p := ⟨gb173, 2, none⟩) (Kd.R_types HO177.out BK173.out (by decide)) (fun _ hk => hk.2) (.slice Ao8 t175.length co8)) (fun _ hk => trivial)⟩, ⟨by (with_reducible repeat (first | refine kdN ?_ _ | refine kdr ?_ | refine kal ?_ _)); refine blk_put (cs := #[.int .i64 a0_0, .int .i64 a0_1, .slice A0_2 l0_2.length c0_2, .slice A0_3 l0_3.length c0_3, .slice A0_4 l0_4.length c0_4]) ?_ 2 _ rfl; (with_reducible repeat (first | refine kdN ?_ _ | refine kdr ?_ | refine kal ?_ _)); exact BK173.out⟩, ⟨by (with_reducible repeat (first | refine kdN ?_ _ | refine kdr ?_ | refine kal ?_ _)); refine blk_far ?_ NB174_173.out _; (with_reducible repeat (first | refine kdN ?_ _ | refine kdr ?_ | refine kal ?_ _)); exact BK174.out⟩, ⟨by repeat (first | (with_reducible first | exact HB.out | apply bal | apply bdN | apply bd1 | refine bst ?_ GE173.out | refine bst ?_ GE174.out) | exact HB.out)⟩⟩
 case round =>
  clear H'
  try clear p2
  try clear c5
  try clear c7
  try clear hcz6_0
  try clear hcz6_1
  try clear hcz6_2
  try clear hcz6_3
  try clear hcz6_4
  try clear hcz9_0
  try clear hcz9_1
  try clear hcz9_2
  try clear hcz9_3
  try clear hcz9_4
  try clear hfz6_0
  try clear hfz6_1
  try clear hfz6_2
  try clear hfz6_3
  try clear hfz6_4
  try clear hfz9_0
  try clear hfz9_1
  try clear hfz9_2
  try clear hfz9_3
  try clear hfz9_4
  obtain ⟨x3_1, x16_1, rfl, HA, HK1, HO_3, HO_174002, BK173, BK174, HB⟩ := hrel
  cases gk with
  | zero => exact absurd HA.out (by simp [prog_Copied.l0])
  | succ k1 =>
   have H := HA.out
   clear HA
   simp only [prog_Copied.l0] at H
   by_cases c10 : x16_1 < (l0_3.length : Int)
   ·rw [if_pos c10] at H
    have c10b0 : decide (x16_1 < (l0_3.length : Int)) = true := decide_eq_true c10
    clear c10
    by_cases c11 : 0 ≤ x16_1
    ·rw [if_pos c11] at H
     have c11b0 : decide (0 ≤ x16_1) = true := decide_eq_true c11
     clear c11
     by_cases c12 : x16_1 < (l0_3.length : Int)
     ·rw [if_pos c12] at H
      have c12b0 : decide (x16_1 < (l0_3.length : Int)) = true := decide_eq_true c12
      clear c12
      replace H := Option.bind_eq_some_iff.mp H
      obtain ⟨⟨t180, t181, t182, t185, t188⟩, A130, H⟩ := H
      replace H : (if x3_1.length < 1599289640401 then (prog_Copied.l0 k1 (x3_1 ++ [(⟨t180, t181, t182, t185, t188⟩ : S47)]) l0_3 (l0_3.length : Int) (wrap64 (x16_1 + 1)) a0_0 a0_1 t175 l0_3 l0_4) else (none)) = some (r1, r2, r3, r4, r5) := H
      have A13 := Aside0.mk A130
      clear A130
      by_cases c14 : x3_1.length < 1599289640401
      ·rw [if_pos c14] at H
       have LMc14 := Aside0.mk c14
       clear c14
       obtain ⟨y191, hy191⟩ : ∃ y_ : List (S47), y_ = (x3_1 ++ [(⟨t180, t181, t182, t185, t188⟩ : S47)]) := ⟨_, rfl⟩
       replace H : (prog_Copied.l0 k1 y191 l0_3 (l0_3.length : Int) (wrap64 (x16_1 + 1)) a0_0 a0_1 t175 l0_3 l0_4) = some (r1, r2, r3, r4, r5) := by first | (rw [hy191]; with_reducible exact H) | (have H2_ := (Option.bind_some _ _).symm.trans H; rw [hy191]; with_reducible exact H2_) | (have H2_ := (Option.bind_some _ _).symm.trans H; with_reducible exact H2_) | with_reducible exact H | (rw [hy191]; exact H) | exact H
       have Ny191 := Aside0.mk hy191
       clear hy191
       have H' := Aside0.mk H
       clear H
       have p178 : 0 ≤ (x16_1 : Int) := of_decide_eq_true (by first | (with_reducible assumption) | assumption)
       have q178 : x16_1 < (l0_3.length : Int) := of_decide_eq_true (by first | (with_reducible assumption) | assumption)
       obtain ⟨ad178, A178_2, c178_2, A178_3, c178_3, A178_4, c178_4, e178, hx178_0, hx178_1, hx178_2, hx178_3, hx178_4, hl178_2, hi178_2, hl178_3, hi178_3, hl178_4, hi178_4⟩ := at_T47 HR0_3.out x16_1 p178 q178
       cases e178
       replace hx178_0 := bcell HB.out hx178_0
       replace hx178_1 := bcell HB.out hx178_1
       replace hx178_2 := bcell HB.out hx178_2
       replace hx178_3 := bcell HB.out hx178_3
       replace hx178_4 := bcell HB.out hx178_4
       have HR178_2 := Aside0.mk hi178_2
       have HC178_2 := Aside0.mk hl178_2
       clear hi178_2 hl178_2
       have HR178_3 := Aside0.mk hi178_3
       have HC178_3 := Aside0.mk hl178_3
       clear hi178_3 hl178_3
       have HR178_4 := Aside0.mk hi178_4
       have HC178_4 := Aside0.mk hl178_4
       clear hi178_4 hl178_4
       replace p178 := eq_true p178
       replace q178 := eq_true q178
       go_wp2_with (first | ((with_reducible refine gate_dst (N := 6) rfl ?_); refine box_event ?hg (N := 6) ?hd (cs := #[.int .i64 0, .int .i64 0, .slice none 0 0, .slice none 0 0, .slice none 0 0]) (t := 47) ?hr ?_; (case hd => rfl); (case hg => rfl); (case hr => first | (go_simp; done) | (go_simp; rfl)); intro gb179 hg w15 hbox hb; have n0_ := Aside0.mk (Kd.R_below (Kd.R_elderB (by (with_reducible repeat (first | apply Kd.R_alloc | apply Kd.R_drewN | apply Kd.R_drew)); exact HO_3.out) gb179 (Nat.le_of_eq hg.symm)) hb); have n1_ := Aside0.mk (Kd.R_below (by (with_reducible repeat (first | apply Kd.R_alloc | apply Kd.R_drewN | apply Kd.R_drew)); exact HO_174002.out) hb); have n2_ := Aside0.mk (blk_below (g := gb173) (o := .cells #[.int .i64 a0_0, .int .i64 a0_1, .slice Ao8 t175.length co8, .slice (some ad178) l0_3.length c0_3, .slice A0_4 l0_4.length c0_4] 47 (0, 0)) (by (with_reducible repeat (first | refine kdN ?_ _ | refine kdr ?_ | refine kal ?_ _)); exact BK173.out) hb); have n3_ := Aside0.mk (blk_below (g := gb174) (o := .cells #[.int .i64 0, .int .i64 0, .slice none 0 0, .slice none 0 0, .slice none 0 0] 47 (0, 0)) (by (with_reducible repeat (first | refine kdN ?_ _ | refine kdr ?_ | refine kal ?_ _)); exact BK174.out) hb); have n4_ := Aside0.mk (bsp (by repeat (first | (with_reducible first | exact HB.out | apply bal | apply bdN | apply bd1 | refine bst ?_ GE173.out | refine bst ?_ GE174.out) | exact HB.out)) hb); have n5_ := Aside0.mk (hbox); have n6_ := Aside0.mk ((by rw [hg]; exact (bsz (by repeat (first | (with_reducible first | exact HB.out | apply bal | apply bdN | apply bd1 | refine bst ?_ GE173.out | refine bst ?_ GE174.out) | exact HB.out))) : w.heap.size ≤ gb179)); have n7_ := Aside0.mk ((by rw [hg]; exact (bsz (by repeat (first | (with_reducible first | exact HB.out | apply bal | apply bdN | apply bd1 | refine bst ?_ GE173.out | refine bst ?_ GE174.out) | exact HB.out))) : w.heap.size ≤ gb179)); have n8_ := Aside0.mk ((by rw [hg]; exact Nat.ne_of_lt (blk_lt (g := gb173) (o := .cells #[.int .i64 a0_0, .int .i64 a0_1, .slice Ao8 t175.length co8, .slice (some ad178) l0_3.length c0_3, .slice A0_4 l0_4.length c0_4] 47 (0, 0)) (by (with_reducible repeat (first | refine kdN ?_ _ | refine kdr ?_ | refine kal ?_ _)); exact BK173.out)) : gb173 ≠ gb179)); have n9_ := Aside0.mk ((by rw [hg]; exact Nat.ne_of_gt (blk_lt (g := gb173) (o := .cells #[.int .i64 a0_0, .int .i64 a0_1, .slice Ao8 t175.length co8, .slice (some ad178) l0_3.length c0_3, .slice A0_4 l0_4.length c0_4] 47 (0, 0)) (by (with_reducible repeat (first | refine kdN ?_ _ | refine kdr ?_ | refine kal ?_ _)); exact BK173.out)) : gb179 ≠ gb173)); have n10_ := Aside0.mk ((by rw [hg]; exact Nat.ne_of_lt (blk_lt (g := gb174) (o := .cells #[.int .i64 0, .int .i64 0, .slice none 0 0, .slice none 0 0, .slice none 0 0] 47 (0, 0)) (by (with_reducible repeat (first | refine kdN ?_ _ | refine kdr ?_ | refine kal ?_ _)); exact BK174.out)) : gb174 ≠ gb179)); have n11_ := Aside0.mk ((by rw [hg]; exact Nat.ne_of_gt (blk_lt (g := gb174) (o := .cells #[.int .i64 0, .int .i64 0, .slice none 0 0, .slice none 0 0, .slice none 0 0] 47 (0, 0)) (by (with_reducible repeat (first | refine kdN ?_ _ | refine kdr ?_ | refine kal ?_ _)); exact BK174.out)) : gb179 ≠ gb174)); clear HO_3; clear HO_174002; clear BK173; clear BK174; clear HB; have HO_3 := n0_; have HO_174002 := n1_; have BK173 := n2_; have BK174 := n3_; have HB := n4_; have BK179 := n5_; have GW179 := n6_; have GE179 := n7_; have NB173_179 := n8_; have NB179_173 := n9_; have NB174_179 := n10_; have NB179_174 := n11_; clear n0_ n1_ n2_ n3_ n4_ n5_ n6_ n7_ n8_ n9_ n10_ n11_; clear hb hbox hg; have hnb16 := NB179_173.out; have hnc16 := NB173_179.out; have hnb17 := NB179_174.out; have hnc17 := NB174_179.out; obtain ⟨hcz18_0, hcz18_1, hcz18_2, hcz18_3, hcz18_4, hfz18_0, hfz18_1, hfz18_2, hfz18_3, hfz18_4⟩ := cf5 BK179.out) | ((with_reducible refine gate_callee (f := 54) rfl ?_); refine goesL_ (some 22) rfl rfl Try.func54 (by kernel_rfl) rfl #[.agg #[.int .i64 ((rd_T47 l0_3 x16_1).f0), .int .i64 ((rd_T47 l0_3 x16_1).f1), .slice A178_2 ((rd_T47 l0_3 x16_1).f2).length c178_2, .slice A178_3 ((rd_T47 l0_3 x16_1).f3).length c178_3, .slice A178_4 ((rd_T47 l0_3 x16_1).f4).length c178_4]] rfl (by (try simp only [List.map_toArray, List.map_cons, List.map_nil]); first | done | rfl | (simp only [List.length_drop, List.length_take]; rfl)) ?_; (with_reducible refine (ih k1 (by have := HK1.out; omega) ((rd_T47 l0_3 x16_1).f0) ((rd_T47 l0_3 x16_1).f1) _ _ ((rd_T47 l0_3 x16_1).f2) _ _ ((rd_T47 l0_3 x16_1).f3) _ _ ((rd_T47 l0_3 x16_1).f4) t180 t181 t182 t185 t188 _ ?side1 ?side2 ?side3 ?side4 ?side5 ?side6 A13.out).mono ?_); (case side1 => exact Kd.C_below HR178_2.out (by repeat (first | (with_reducible first | exact HB.out | apply bal | apply bdN | apply bd1 | refine bst ?_ GE173.out | refine bst ?_ GE174.out | refine bst ?_ GE179.out) | exact HB.out))); (case side2 => exact HC178_2.out); (case side3 => exact Kd.C_below HR178_3.out (by repeat (first | (with_reducible first | exact HB.out | apply bal | apply bdN | apply bd1 | refine bst ?_ GE173.out | refine bst ?_ GE174.out | refine bst ?_ GE179.out) | exact HB.out))); (case side4 => exact HC178_3.out); (case side5 => exact Kd.C_below HR178_4.out (by repeat (first | (with_reducible first | exact HB.out | apply bal | apply bdN | apply bd1 | refine bst ?_ GE173.out | refine bst ?_ GE174.out | refine bst ?_ GE179.out) | exact HB.out))); (case side6 => exact HC178_4.out); rintro e w19 ⟨v183, v186, v189, rfl, ho0, ho1, ho2, hb⟩; refine ⟨_, rfl, ?_⟩; have n0_ := Aside0.mk (Kd.R_mono (Kd.R_told (Kd.R_told (Kd.R_told (Kd.R_old (by (with_reducible repeat (first | apply Kd.R_alloc | apply Kd.R_drewN | apply Kd.R_drew)); exact (Kd.R_mono (Kd.R_far (p := ⟨gb179, 4, none⟩) (Kd.R_far (p := ⟨gb179, 3, none⟩) (Kd.R_far (p := ⟨gb179, 2, none⟩) (Kd.R_far (p := ⟨gb179, 1, none⟩) (Kd.R_far (p := ⟨gb179, 0, none⟩) (Kd.R_mono HO_3.out (fun k_ hk => (⟨hk, hk.2⟩ : _ ∧ k_ ≠ gb179))) (fun _ hk => hk.2) (.int .i64 ((rd_T47 l0_3 x16_1).f0))) (fun _ hk => hk.2) (.int .i64 ((rd_T47 l0_3 x16_1).f1))) (fun _ hk => hk.2) (.slice A178_2 ((rd_T47 l0_3 x16_1).f2).length c178_2)) (fun _ hk => hk.2) (.slice A178_3 ((rd_T47 l0_3 x16_1).f3).length c178_3)) (fun _ hk => hk.2) (.slice A178_4 ((rd_T47 l0_3 x16_1).f4).length c178_4)) (fun _ h_ => h_.1))) hb) (Kd.R_base ho0)) (Kd.R_base ho1)) (Kd.R_base ho2)) (fun _ h_ => h_.1)); have n1_ := Aside0.mk (Kd.R_elder' (by (with_reducible repeat (first | apply Kd.R_alloc | apply Kd.R_drewN | apply Kd.R_drew)); exact (Kd.R_mono (Kd.R_far (p := ⟨gb179, 4, none⟩) (Kd.R_far (p := ⟨gb179, 3, none⟩) (Kd.R_far (p := ⟨gb179, 2, none⟩) (Kd.R_far (p := ⟨gb179, 1, none⟩) (Kd.R_far (p := ⟨gb179, 0, none⟩) (Kd.R_types HO_174002.out BK179.out (by decide)) (fun _ hk => hk.2) (.int .i64 ((rd_T47 l0_3 x16_1).f0))) (fun _ hk => hk.2) (.int .i64 ((rd_T47 l0_3 x16_1).f1))) (fun _ hk => hk.2) (.slice A178_2 ((rd_T47 l0_3 x16_1).f2).length c178_2)) (fun _ hk => hk.2) (.slice A178_3 ((rd_T47 l0_3 x16_1).f3).length c178_3)) (fun _ hk => hk.2) (.slice A178_4 ((rd_T47 l0_3 x16_1).f4).length c178_4)) (fun _ h_ => h_.1))) (Kd.R_base ho0) hb); have n2_ := Aside0.mk (Kd.R_lower (Kd.R_new' ho0 (Kd.R_lt (by (with_reducible repeat (first | apply Kd.R_alloc | apply Kd.R_drewN | apply Kd.R_drew)); exact (Kd.R_mono (Kd.R_far (p := ⟨gb179, 4, none⟩) (Kd.R_far (p := ⟨gb179, 3, none⟩) (Kd.R_far (p := ⟨gb179, 2, none⟩) (Kd.R_far (p := ⟨gb179, 1, none⟩) (Kd.R_far (p := ⟨gb179, 0, none⟩) (Kd.R_types HO_174002.out BK179.out (by decide)) (fun _ hk => hk.2) (.int .i64 ((rd_T47 l0_3 x16_1).f0))) (fun _ hk => hk.2) (.int .i64 ((rd_T47 l0_3 x16_1).f1))) (fun _ hk => hk.2) (.slice A178_2 ((rd_T47 l0_3 x16_1).f2).length c178_2)) (fun _ hk => hk.2) (.slice A178_3 ((rd_T47 l0_3 x16_1).f3).length c178_3)) (fun _ hk => hk.2) (.slice A178_4 ((rd_T47 l0_3 x16_1).f4).length c178_4)) (fun _ h_ => h_.1))))) (bsz (by repeat (first | (with_reducible first | exact HB.out | apply bal | apply bdN | apply bd1 | refine bst ?_ GE173.out | refine bst ?_ GE174.out | refine bst ?_ GE179.out) | exact HB.out)))); have n3_ := Aside0.mk (Kd.R_lower (Kd.R_newB (Kd.R_newB (Kd.R_newB (Kd.R_new' (Kd.R_new' ho1 (Kd.R_lt (by (with_reducible repeat (first | apply Kd.R_alloc | apply Kd.R_drewN | apply Kd.R_drew)); exact (Kd.R_mono (Kd.R_far (p := ⟨gb179, 4, none⟩) (Kd.R_far (p := ⟨gb179, 3, none⟩) (Kd.R_far (p := ⟨gb179, 2, none⟩) (Kd.R_far (p := ⟨gb179, 1, none⟩) (Kd.R_far (p := ⟨gb179, 0, none⟩) (Kd.R_mono HO_3.out (fun k_ hk => (⟨hk, hk.2⟩ : _ ∧ k_ ≠ gb179))) (fun _ hk => hk.2) (.int .i64 ((rd_T47 l0_3 x16_1).f0))) (fun _ hk => hk.2) (.int .i64 ((rd_T47 l0_3 x16_1).f1))) (fun _ hk => hk.2) (.slice A178_2 ((rd_T47 l0_3 x16_1).f2).length c178_2)) (fun _ hk => hk.2) (.slice A178_3 ((rd_T47 l0_3 x16_1).f3).length c178_3)) (fun _ hk => hk.2) (.slice A178_4 ((rd_T47 l0_3 x16_1).f4).length c178_4)) (fun _ h_ => h_.1))))) (Kd.R_lt (by (with_reducible repeat (first | apply Kd.R_alloc | apply Kd.R_drewN | apply Kd.R_drew)); exact (Kd.R_mono (Kd.R_far (p := ⟨gb179, 4, none⟩) (Kd.R_far (p := ⟨gb179, 3, none⟩) (Kd.R_far (p := ⟨gb179, 2, none⟩) (Kd.R_far (p := ⟨gb179, 1, none⟩) (Kd.R_far (p := ⟨gb179, 0, none⟩) (Kd.R_types HO_174002.out BK179.out (by decide)) (fun _ hk => hk.2) (.int .i64 ((rd_T47 l0_3 x16_1).f0))) (fun _ hk => hk.2) (.int .i64 ((rd_T47 l0_3 x16_1).f1))) (fun _ hk => hk.2) (.slice A178_2 ((rd_T47 l0_3 x16_1).f2).length c178_2)) (fun _ hk => hk.2) (.slice A178_3 ((rd_T47 l0_3 x16_1).f3).length c178_3)) (fun _ hk => hk.2) (.slice A178_4 ((rd_T47 l0_3 x16_1).f4).length c178_4)) (fun _ h_ => h_.1))))) (g := gb173) (o := .cells #[.int .i64 a0_0, .int .i64 a0_1, .slice Ao8 t175.length co8, .slice (some ad178) l0_3.length c0_3, .slice A0_4 l0_4.length c0_4] 47 (0, 0)) (by (with_reducible repeat (first | refine kdN ?_ _ | refine kdr ?_ | refine kal ?_ _)); refine blk_far ?_ NB173_179.out _; (with_reducible repeat (first | refine kdN ?_ _ | refine kdr ?_ | refine kal ?_ _)); refine blk_far ?_ NB173_179.out _; (with_reducible repeat (first | refine kdN ?_ _ | refine kdr ?_ | refine kal ?_ _)); refine blk_far ?_ NB173_179.out _; (with_reducible repeat (first | refine kdN ?_ _ | refine kdr ?_ | refine kal ?_ _)); refine blk_far ?_ NB173_179.out _; (with_reducible repeat (first | refine kdN ?_ _ | refine kdr ?_ | refine kal ?_ _)); refine blk_far ?_ NB173_179.out _; (with_reducible repeat (first | refine kdN ?_ _ | refine kdr ?_ | refine kal ?_ _)); exact BK173.out)) (g := gb174) (o := .cells #[.int .i64 0, .int .i64 0, .slice none 0 0, .slice none 0 0, .slice none 0 0] 47 (0, 0)) (by (with_reducible repeat (first | refine kdN ?_ _ | refine kdr ?_ | refine kal ?_ _)); refine blk_far ?_ NB174_179.out _; (with_reducible repeat (first | refine kdN ?_ _ | refine kdr ?_ | refine kal ?_ _)); refine blk_far ?_ NB174_179.out _; (with_reducible repeat (first | refine kdN ?_ _ | refine kdr ?_ | refine kal ?_ _)); refine blk_far ?_ NB174_179.out _; (with_reducible repeat (first | refine kdN ?_ _ | refine kdr ?_ | refine kal ?_ _)); refine blk_far ?_ NB174_179.out _; (with_reducible repeat (first | refine kdN ?_ _ | refine kdr ?_ | refine kal ?_ _)); refine blk_far ?_ NB174_179.out _; (with_reducible repeat (first | refine kdN ?_ _ | refine kdr ?_ | refine kal ?_ _)); exact BK174.out)) (g := gb179) (o := .cells #[.int .i64 ((rd_T47 l0_3 x16_1).f0), .int .i64 ((rd_T47 l0_3 x16_1).f1), .slice A178_2 ((rd_T47 l0_3 x16_1).f2).length c178_2, .slice A178_3 ((rd_T47 l0_3 x16_1).f3).length c178_3, .slice A178_4 ((rd_T47 l0_3 x16_1).f4).length c178_4] 47 (0, 0)) (by (with_reducible repeat (first | refine kdN ?_ _ | refine kdr ?_ | refine kal ?_ _)); refine blk_put (cs := #[.int .i64 ((rd_T47 l0_3 x16_1).f0), .int .i64 ((rd_T47 l0_3 x16_1).f1), .slice A178_2 ((rd_T47 l0_3 x16_1).f2).length c178_2, .slice A178_3 ((rd_T47 l0_3 x16_1).f3).length c178_3, .slice none 0 0]) ?_ 4 _ rfl; (with_reducible repeat (first | refine kdN ?_ _ | refine kdr ?_ | refine kal ?_ _)); refine blk_put (cs := #[.int .i64 ((rd_T47 l0_3 x16_1).f0), .int .i64 ((rd_T47 l0_3 x16_1).f1), .slice A178_2 ((rd_T47 l0_3 x16_1).f2).length c178_2, .slice none 0 0, .slice none 0 0]) ?_ 3 _ rfl; (with_reducible repeat (first | refine kdN ?_ _ | refine kdr ?_ | refine kal ?_ _)); refine blk_put (cs := #[.int .i64 ((rd_T47 l0_3 x16_1).f0), .int .i64 ((rd_T47 l0_3 x16_1).f1), .slice none 0 0, .slice none 0 0, .slice none 0 0]) ?_ 2 _ rfl; (with_reducible repeat (first | refine kdN ?_ _ | refine kdr ?_ | refine kal ?_ _)); refine blk_put (cs := #[.int .i64 ((rd_T47 l0_3 x16_1).f0), .int .i64 0, .slice none 0 0, .slice none 0 0, .slice none 0 0]) ?_ 1 _ rfl; (with_reducible repeat (first | refine kdN ?_ _ | refine kdr ?_ | refine kal ?_ _)); refine blk_put (cs := #[.int .i64 0, .int .i64 0, .slice none 0 0, .slice none 0 0, .slice none 0 0]) ?_ 0 _ rfl; (with_reducible repeat (first | refine kdN ?_ _ | refine kdr ?_ | refine kal ?_ _)); exact BK179.out)) (bsz (by repeat (first | (with_reducible first | exact HB.out | apply bal | apply bdN | apply bd1 | refine bst ?_ GE173.out | refine bst ?_ GE174.out | refine bst ?_ GE179.out) | exact HB.out)))); have n4_ := Aside0.mk (Kd.R_lower (Kd.R_newB (Kd.R_newB (Kd.R_newB (Kd.R_new' (Kd.R_new' ho2 (Kd.R_lt (by (with_reducible repeat (first | apply Kd.R_alloc | apply Kd.R_drewN | apply Kd.R_drew)); exact (Kd.R_mono (Kd.R_far (p := ⟨gb179, 4, none⟩) (Kd.R_far (p := ⟨gb179, 3, none⟩) (Kd.R_far (p := ⟨gb179, 2, none⟩) (Kd.R_far (p := ⟨gb179, 1, none⟩) (Kd.R_far (p := ⟨gb179, 0, none⟩) (Kd.R_mono HO_3.out (fun k_ hk => (⟨hk, hk.2⟩ : _ ∧ k_ ≠ gb179))) (fun _ hk => hk.2) (.int .i64 ((rd_T47 l0_3 x16_1).f0))) (fun _ hk => hk.2) (.int .i64 ((rd_T47 l0_3 x16_1).f1))) (fun _ hk => hk.2) (.slice A178_2 ((rd_T47 l0_3 x16_1).f2).length c178_2)) (fun _ hk => hk.2) (.slice A178_3 ((rd_T47 l0_3 x16_1).f3).length c178_3)) (fun _ hk => hk.2) (.slice A178_4 ((rd_T47 l0_3 x16_1).f4).length c178_4)) (fun _ h_ => h_.1))))) (Kd.R_lt (by (with_reducible repeat (first | apply Kd.R_alloc | apply Kd.R_drewN | apply Kd.R_drew)); exact (Kd.R_mono (Kd.R_far (p := ⟨gb179, 4, none⟩) (Kd.R_far (p := ⟨gb179, 3, none⟩) (Kd.R_far (p := ⟨gb179, 2, none⟩) (Kd.R_far (p := ⟨gb179, 1, none⟩) (Kd.R_far (p := ⟨gb179, 0, none⟩) (Kd.R_types HO_174002.out BK179.out (by decide)) (fun _ hk => hk.2) (.int .i64 ((rd_T47 l0_3 x16_1).f0))) (fun _ hk => hk.2) (.int .i64 ((rd_T47 l0_3 x16_1).f1))) (fun _ hk => hk.2) (.slice A178_2 ((rd_T47 l0_3 x16_1).f2).length c178_2)) (fun _ hk => hk.2) (.slice A178_3 ((rd_T47 l0_3 x16_1).f3).length c178_3)) (fun _ hk => hk.2) (.slice A178_4 ((rd_T47 l0_3 x16_1).f4).length c178_4)) (fun _ h_ => h_.1))))) (g := gb173) (o := .cells #[.int .i64 a0_0, .int .i64 a0_1, .slice Ao8 t175.length co8, .slice (some ad178) l0_3.length c0_3, .slice A0_4 l0_4.length c0_4] 47 (0, 0)) (by (with_reducible repeat (first | refine kdN ?_ _ | refine kdr ?_ | refine kal ?_ _)); refine blk_far ?_ NB173_179.out _; (with_reducible repeat (first | refine kdN ?_ _ | refine kdr ?_ | refine kal ?_ _)); refine blk_far ?_ NB173_179.out _; (with_reducible repeat (first | refine kdN ?_ _ | refine kdr ?_ | refine kal ?_ _)); refine blk_far ?_ NB173_179.out _; (with_reducible repeat (first | refine kdN ?_ _ | refine kdr ?_ | refine kal ?_ _)); refine blk_far ?_ NB173_179.out _; (with_reducible repeat (first | refine kdN ?_ _ | refine kdr ?_ | refine kal ?_ _)); refine blk_far ?_ NB173_179.out _; (with_reducible repeat (first | refine kdN ?_ _ | refine kdr ?_ | refine kal ?_ _)); exact BK173.out)) (g := gb174) (o := .cells #[.int .i64 0, .int .i64 0, .slice none 0 0, .slice none 0 0, .slice none 0 0] 47 (0, 0)) (by (with_reducible repeat (first | refine kdN ?_ _ | refine kdr ?_ | refine kal ?_ _)); refine blk_far ?_ NB174_179.out _; (with_reducible repeat (first | refine kdN ?_ _ | refine kdr ?_ | refine kal ?_ _)); refine blk_far ?_ NB174_179.out _; (with_reducible repeat (first | refine kdN ?_ _ | refine kdr ?_ | refine kal ?_ _)); refine blk_far ?_ NB174_179.out _; (with_reducible repeat (first | refine kdN ?_ _ | refine kdr ?_ | refine kal ?_ _)); refine blk_far ?_ NB174_179.out _; (with_reducible repeat (first | refine kdN ?_ _ | refine kdr ?_ | refine kal ?_ _)); refine blk_far ?_ NB174_179.out _; (with_reducible repeat (first | refine kdN ?_ _ | refine kdr ?_ | refine kal ?_ _)); exact BK174.out)) (g := gb179) (o := .cells #[.int .i64 ((rd_T47 l0_3 x16_1).f0), .int .i64 ((rd_T47 l0_3 x16_1).f1), .slice A178_2 ((rd_T47 l0_3 x16_1).f2).length c178_2, .slice A178_3 ((rd_T47 l0_3 x16_1).f3).length c178_3, .slice A178_4 ((rd_T47 l0_3 x16_1).f4).length c178_4] 47 (0, 0)) (by (with_reducible repeat (first | refine kdN ?_ _ | refine kdr ?_ | refine kal ?_ _)); refine blk_put (cs := #[.int .i64 ((rd_T47 l0_3 x16_1).f0), .int .i64 ((rd_T47 l0_3 x16_1).f1), .slice A178_2 ((rd_T47 l0_3 x16_1).f2).length c178_2, .slice A178_3 ((rd_T47 l0_3 x16_1).f3).length c178_3, .slice none 0 0]) ?_ 4 _ rfl; (with_reducible repeat (first | refine kdN ?_ _ | refine kdr ?_ | refine kal ?_ _)); refine blk_put (cs := #[.int .i64 ((rd_T47 l0_3 x16_1).f0), .int .i64 ((rd_T47 l0_3 x16_1).f1), .slice A178_2 ((rd_T47 l0_3 x16_1).f2).length c178_2, .slice none 0 0, .slice none 0 0]) ?_ 3 _ rfl; (with_reducible repeat (first | refine kdN ?_ _ | refine kdr ?_ | refine kal ?_ _)); refine blk_put (cs := #[.int .i64 ((rd_T47 l0_3 x16_1).f0), .int .i64 ((rd_T47 l0_3 x16_1).f1), .slice none 0 0, .slice none 0 0, .slice none 0 0]) ?_ 2 _ rfl; (with_reducible repeat (first | refine kdN ?_ _ | refine kdr ?_ | refine kal ?_ _)); refine blk_put (cs := #[.int .i64 ((rd_T47 l0_3 x16_1).f0), .int .i64 0, .slice none 0 0, .slice none 0 0, .slice none 0 0]) ?_ 1 _ rfl; (with_reducible repeat (first | refine kdN ?_ _ | refine kdr ?_ | refine kal ?_ _)); refine blk_put (cs := #[.int .i64 0, .int .i64 0, .slice none 0 0, .slice none 0 0, .slice none 0 0]) ?_ 0 _ rfl; (with_reducible repeat (first | refine kdN ?_ _ | refine kdr ?_ | refine kal ?_ _)); exact BK179.out)) (bsz (by repeat (first | (with_reducible first | exact HB.out | apply bal | apply bdN | apply bd1 | refine bst ?_ GE173.out | refine bst ?_ GE174.out | refine bst ?_ GE179.out) | exact HB.out)))); have n5_ := Aside0.mk (blk_below (g := gb173) (o := .cells #[.int .i64 a0_0, .int .i64 a0_1, .slice Ao8 t175.length co8, .slice (some ad178) l0_3.length c0_3, .slice A0_4 l0_4.length c0_4] 47 (0, 0)) (by (with_reducible repeat (first | refine kdN ?_ _ | refine kdr ?_ | refine kal ?_ _)); refine blk_far ?_ NB173_179.out _; (with_reducible repeat (first | refine kdN ?_ _ | refine kdr ?_ | refine kal ?_ _)); refine blk_far ?_ NB173_179.out _; (with_reducible repeat (first | refine kdN ?_ _ | refine kdr ?_ | refine kal ?_ _)); refine blk_far ?_ NB173_179.out _; (with_reducible repeat (first | refine kdN ?_ _ | refine kdr ?_ | refine kal ?_ _)); refine blk_far ?_ NB173_179.out _; (with_reducible repeat (first | refine kdN ?_ _ | refine kdr ?_ | refine kal ?_ _)); refine blk_far ?_ NB173_179.out _; (with_reducible repeat (first | refine kdN ?_ _ | refine kdr ?_ | refine kal ?_ _)); exact BK173.out) hb); have n6_ := Aside0.mk (blk_below (g := gb174) (o := .cells #[.int .i64 0, .int .i64 0, .slice none 0 0, .slice none 0 0, .slice none 0 0] 47 (0, 0)) (by (with_reducible repeat (first | refine kdN ?_ _ | refine kdr ?_ | refine kal ?_ _)); refine blk_far ?_ NB174_179.out _; (with_reducible repeat (first | refine kdN ?_ _ | refine kdr ?_ | refine kal ?_ _)); refine blk_far ?_ NB174_179.out _; (with_reducible repeat (first | refine kdN ?_ _ | refine kdr ?_ | refine kal ?_ _)); refine blk_far ?_ NB174_179.out _; (with_reducible repeat (first | refine kdN ?_ _ | refine kdr ?_ | refine kal ?_ _)); refine blk_far ?_ NB174_179.out _; (with_reducible repeat (first | refine kdN ?_ _ | refine kdr ?_ | refine kal ?_ _)); refine blk_far ?_ NB174_179.out _; (with_reducible repeat (first | refine kdN ?_ _ | refine kdr ?_ | refine kal ?_ _)); exact BK174.out) hb); have n7_ := Aside0.mk (blk_below (g := gb179) (o := .cells #[.int .i64 ((rd_T47 l0_3 x16_1).f0), .int .i64 ((rd_T47 l0_3 x16_1).f1), .slice A178_2 ((rd_T47 l0_3 x16_1).f2).length c178_2, .slice A178_3 ((rd_T47 l0_3 x16_1).f3).length c178_3, .slice A178_4 ((rd_T47 l0_3 x16_1).f4).length c178_4] 47 (0, 0)) (by (with_reducible repeat (first | refine kdN ?_ _ | refine kdr ?_ | refine kal ?_ _)); refine blk_put (cs := #[.int .i64 ((rd_T47 l0_3 x16_1).f0), .int .i64 ((rd_T47 l0_3 x16_1).f1), .slice A178_2 ((rd_T47 l0_3 x16_1).f2).length c178_2, .slice A178_3 ((rd_T47 l0_3 x16_1).f3).length c178_3, .slice none 0 0]) ?_ 4 _ rfl; (with_reducible repeat (first | refine kdN ?_ _ | refine kdr ?_ | refine kal ?_ _)); refine blk_put (cs := #[.int .i64 ((rd_T47 l0_3 x16_1).f0), .int .i64 ((rd_T47 l0_3 x16_1).f1), .slice A178_2 ((rd_T47 l0_3 x16_1).f2).length c178_2, .slice none 0 0, .slice none 0 0]) ?_ 3 _ rfl; (with_reducible repeat (first | refine kdN ?_ _ | refine kdr ?_ | refine kal ?_ _)); refine blk_put (cs := #[.int .i64 ((rd_T47 l0_3 x16_1).f0), .int .i64 ((rd_T47 l0_3 x16_1).f1), .slice none 0 0, .slice none 0 0, .slice none 0 0]) ?_ 2 _ rfl; (with_reducible repeat (first | refine kdN ?_ _ | refine kdr ?_ | refine kal ?_ _)); refine blk_put (cs := #[.int .i64 ((rd_T47 l0_3 x16_1).f0), .int .i64 0, .slice none 0 0, .slice none 0 0, .slice none 0 0]) ?_ 1 _ rfl; (with_reducible repeat (first | refine kdN ?_ _ | refine kdr ?_ | refine kal ?_ _)); refine blk_put (cs := #[.int .i64 0, .int .i64 0, .slice none 0 0, .slice none 0 0, .slice none 0 0]) ?_ 0 _ rfl; (with_reducible repeat (first | refine kdN ?_ _ | refine kdr ?_ | refine kal ?_ _)); exact BK179.out) hb); have n8_ := Aside0.mk (bsp (by repeat (first | (with_reducible first | exact HB.out | apply bal | apply bdN | apply bd1 | refine bst ?_ GE173.out | refine bst ?_ GE174.out | refine bst ?_ GE179.out) | exact HB.out)) hb); clear HO_3; clear HO_174002; clear BK173; clear BK174; clear BK179; clear HB; have HO_3 := n0_; have HO_174002 := n1_; have HO184 := n2_; have HO187 := n3_; have HO190 := n4_; have BK173 := n5_; have BK174 := n6_; have BK179 := n7_; have HB := n8_; clear n0_ n1_ n2_ n3_ n4_ n5_ n6_ n7_ n8_; (try clear hb); (try clear hb2); (try clear hk); (try clear hi); (try clear ho0); (try clear ho1); (try clear ho2); obtain ⟨Ao21, co21, eo21⟩ := Kd.R_slice HO184.out; subst eo21; obtain ⟨Ao22, co22, eo22⟩ := Kd.R_slice HO187.out; subst eo22; obtain ⟨Ao23, co23, eo23⟩ := Kd.R_slice HO190.out; subst eo23) | ((with_reducible refine gate_builtin (b := .append) (xs := #[.tmp 20, .tmp 23]) rfl ?_); at_builtin; refine Kd.R_append k47 (w0 := w) w.heap.size rfl (.tmp 20) (.tmp 23) 23 47 (.agg #[(.int .i64 0), (.int .i64 0), (.slice none 0 0), (.slice none 0 0), (.slice none 0 0)]) 88 rfl Try.underlying23 info47 rfl (by decide) (by omega) u3 x3_1 (⟨t180, t181, t182, t185, t188⟩ : S47) [.int .i64 t180, .int .i64 t181, .slice Ao21 t182.length co21, .slice Ao22 t185.length co22, .slice Ao23 t188.length co23] (fun k_ => some k_ ≠ (.slice Ao8 t175.length co8 : Value).ownBlock ∧ k_ ≠ gb173 ∧ k_ ≠ gb174 ∧ k_ ≠ gb179) (fun k_ => ((fun k_ => some k_ ≠ (.slice Ao8 t175.length co8 : Value).ownBlock ∧ k_ ≠ gb173 ∧ k_ ≠ gb174 ∧ k_ ≠ gb179)) k_ ∧ some k_ ≠ (u3 : Value).ownBlock) rfl rfl ?aP (fun _ hk => hk) ?aF ?aO ?aB ?aS ?aL ?_; (case aP => exact k47_mkM _ _ _ (⟨t180, t181, t182, t185, t188⟩ : S47) (Kd.R_mono (Kd.R_types (Kd.R_types (Kd.R_types (Kd.R_apart' (HO184.out) (Kd.R_typed HO_3.out) (by decide)) BK173.out (by decide)) BK174.out (by decide)) BK179.out (by decide)) (fun k_ hk => ⟨⟨hk.1.1.1.1.2, ⟨hk.1.1.2, ⟨hk.1.2, hk.2⟩⟩⟩, hk.1.1.1.2⟩)) (Kd.R_mono (HO187.out) (fun k_ hk => ⟨⟨hk.1.1.1.2, ⟨hk.1.1.2, ⟨hk.1.2, hk.2⟩⟩⟩, hk.1.1.1.1.2⟩)) (Kd.R_mono (HO190.out) (fun k_ hk => ⟨⟨hk.1.1.1.2, ⟨hk.1.1.2, ⟨hk.1.2, hk.2⟩⟩⟩, hk.1.1.1.1.2⟩))); (case aB => exact (by repeat (first | (with_reducible first | exact HB.out | apply bal | apply bdN | apply bd1 | refine bst ?_ GE173.out | refine bst ?_ GE174.out | refine bst ?_ GE179.out) | exact HB.out))); (case aF => exact (fun k_ hk => ⟨Kd.fresh' (Kd.R_lt (by (with_reducible repeat (first | apply Kd.R_alloc | apply Kd.R_drewN | apply Kd.R_drew)); exact HO_174002.out)) k_ hk, Kd.freshB (g := gb173) (o := .cells #[.int .i64 a0_0, .int .i64 a0_1, .slice Ao8 t175.length co8, .slice (some ad178) l0_3.length c0_3, .slice A0_4 l0_4.length c0_4] 47 (0, 0)) (by (with_reducible repeat (first | refine kdN ?_ _ | refine kdr ?_ | refine kal ?_ _)); exact BK173.out) k_ hk, Kd.freshB (g := gb174) (o := .cells #[.int .i64 0, .int .i64 0, .slice none 0 0, .slice none 0 0, .slice none 0 0] 47 (0, 0)) (by (with_reducible repeat (first | refine kdN ?_ _ | refine kdr ?_ | refine kal ?_ _)); exact BK174.out) k_ hk, Kd.freshB (g := gb179) (o := .cells #[.int .i64 ((rd_T47 l0_3 x16_1).f0), .int .i64 ((rd_T47 l0_3 x16_1).f1), .slice A178_2 ((rd_T47 l0_3 x16_1).f2).length c178_2, .slice A178_3 ((rd_T47 l0_3 x16_1).f3).length c178_3, .slice A178_4 ((rd_T47 l0_3 x16_1).f4).length c178_4] 47 (0, 0)) (by (with_reducible repeat (first | refine kdN ?_ _ | refine kdr ?_ | refine kal ?_ _)); exact BK179.out) k_ hk⟩)); (case aO => exact (by (with_reducible repeat (first | apply Kd.R_alloc | apply Kd.R_drewN | apply Kd.R_drew)); exact Kd.R_mono HO_3.out (fun _ hk => ⟨hk.1.1.1.1.1, ⟨hk.1.1.1.1.2.1, ⟨hk.1.1.1.1.2.2, hk.1.1.1.2⟩⟩⟩))); (case aS => exact (bsz (by repeat (first | (with_reducible first | exact HB.out | apply bal | apply bdN | apply bd1 | refine bst ?_ GE173.out | refine bst ?_ GE174.out | refine bst ?_ GE179.out) | exact HB.out)))); (case aL => have := LMc14.out; omega); intro v192 w20 ho hb hg hat; rw [← Ny191.out] at ho; have n0_ := Aside0.mk (Kd.R_over' (by (with_reducible repeat (first | apply Kd.R_alloc | apply Kd.R_drewN | apply Kd.R_drew)); exact HO_174002.out) (Kd.R_typed (by (with_reducible repeat (first | apply Kd.R_alloc | apply Kd.R_drewN | apply Kd.R_drew)); exact HO_3.out)) (by decide) hg); have n1_ := Aside0.mk (blk_grown (g := gb173) (o := .cells #[.int .i64 a0_0, .int .i64 a0_1, .slice Ao8 t175.length co8, .slice (some ad178) l0_3.length c0_3, .slice A0_4 l0_4.length c0_4] 47 (0, 0)) (by (with_reducible repeat (first | refine kdN ?_ _ | refine kdr ?_ | refine kal ?_ _)); exact BK173.out) hg (Kd.R_away HO_3.out (fun _ hk => hk.1.1.1.1.2.1))); have n2_ := Aside0.mk (blk_grown (g := gb174) (o := .cells #[.int .i64 0, .int .i64 0, .slice none 0 0, .slice none 0 0, .slice none 0 0] 47 (0, 0)) (by (with_reducible repeat (first | refine kdN ?_ _ | refine kdr ?_ | refine kal ?_ _)); exact BK174.out) hg (Kd.R_away HO_3.out (fun _ hk => hk.1.1.1.1.2.2))); have n3_ := Aside0.mk (blk_grown (g := gb179) (o := .cells #[.int .i64 ((rd_T47 l0_3 x16_1).f0), .int .i64 ((rd_T47 l0_3 x16_1).f1), .slice A178_2 ((rd_T47 l0_3 x16_1).f2).length c178_2, .slice A178_3 ((rd_T47 l0_3 x16_1).f3).length c178_3, .slice A178_4 ((rd_T47 l0_3 x16_1).f4).length c178_4] 47 (0, 0)) (by (with_reducible repeat (first | refine kdN ?_ _ | refine kdr ?_ | refine kal ?_ _)); exact BK179.out) hg (Kd.R_away HO_3.out (fun _ hk => hk.1.1.1.2))); have n4_ := Aside0.mk (hb); have n5_ := Aside0.mk (ho); clear HO_174002; clear BK173; clear BK174; clear BK179; clear HB; clear HO_3; clear HO184; clear HO187; clear HO190; have HO_174002 := n0_; have BK173 := n1_; have BK174 := n2_; have BK179 := n3_; have HB := n4_; have HO193 := n5_; clear n0_ n1_ n2_ n3_ n4_ n5_; clear ho hb hg hat))
       go_roundg k1
       case measure => have := HK1.out; omega
       case rel => exact ⟨(y191), (wrap64 (x16_1 + 1)), (by first | rfl | (simp; done) | (simp [*]; done)), H', ⟨by have := HK1.out; omega⟩, ⟨by (with_reducible repeat (first | apply Kd.R_alloc | apply Kd.R_drewN | apply Kd.R_drew)); exact Kd.R_mono HO193.out (fun _ hk => ⟨hk.1, ⟨hk.2.1, hk.2.2.1⟩⟩)⟩, ⟨by (with_reducible repeat (first | apply Kd.R_alloc | apply Kd.R_drewN | apply Kd.R_drew)); exact Kd.R_mono HO_174002.out (fun _ hk => trivial)⟩, ⟨by (with_reducible repeat (first | refine kdN ?_ _ | refine kdr ?_ | refine kal ?_ _)); exact BK173.out⟩, ⟨by (with_reducible repeat (first | refine kdN ?_ _ | refine kdr ?_ | refine kal ?_ _)); exact BK174.out⟩, ⟨by repeat (first | (with_reducible first | exact HB.out | apply bal | apply bdN | apply bd1 | refine bst ?_ GE173.out | refine bst ?_ GE174.out | refine bst ?_ GE179.out) | exact HB.out)⟩⟩
      ·rw [if_neg c14] at H
       exact absurd H (by simp)
     ·rw [if_neg c12] at H
      exact absurd H (by simp)
    ·rw [if_neg c11] at H
     exact absurd H (by simp)
   ·rw [if_neg c10] at H
    have c10b0 : decide (x16_1 < (l0_3.length : Int)) = false := decide_eq_false c10
    clear c10
    have H' := Aside0.mk H
    clear H
    have hnb24 := NB173_174.out
    have hnc24 := NB174_173.out
    obtain ⟨hcz25_0, hcz25_1, hcz25_2, hcz25_3, hcz25_4, hfz25_0, hfz25_1, hfz25_2, hfz25_3, hfz25_4⟩ := cf5 BK173.out
    go_wp2
    go_loopg [4, 29] k1 (fun kq v4 v29 w' => ∃ (x4_2 : List (S47)) (x29_2 : Int), v29 = .int .i64 x29_2 ∧ Aside0 (prog_Copied.l1 kq x3_1 x4_2 l0_4 (l0_4.length : Int) x29_2 a0_0 a0_1 t175 l0_3 l0_4 = some (r1, r2, r3, r4, r5)) ∧ Aside0 (kq ≤ k1) ∧ Aside0 (Kd.R k47 47 w' w.heap.size (fun k_ => some k_ ≠ (v4 : Value).ownBlock ∧ some k_ ≠ ((.slice Ao8 t175.length co8) : Value).ownBlock ∧ k_ ≠ gb173 ∧ k_ ≠ gb174) u3 x3_1) ∧ Aside0 (Kd.R k47 47 w' w.heap.size (fun k_ => some k_ ≠ (u3 : Value).ownBlock ∧ some k_ ≠ ((.slice Ao8 t175.length co8) : Value).ownBlock ∧ k_ ≠ gb173 ∧ k_ ≠ gb174) v4 x4_2) ∧ Aside0 (Kd.R k96 96 w' w.heap.size (fun _ => True) (.slice Ao8 t175.length co8) t175) ∧ Aside0 (w'.heap[gb173]? = some (.cells #[.int .i64 a0_0, .int .i64 a0_1, (.slice Ao8 t175.length co8), (.slice A0_3 l0_3.length c0_3), (.slice A0_4 l0_4.length c0_4)] 47 (0, 0))) ∧ Aside0 (w'.heap[gb174]? = some (.cells #[.int .i64 0, .int .i64 0, (.slice none 0 0), (.slice none 0 0), (.slice none 0 0)] 47 (0, 0))) ∧ Aside0 (Below w.heap.size w w'))
    case atStart => exact ⟨(([] : List (S47))), (0), (by first | rfl | (simp; done) | (simp [*]; done)), H', ⟨Nat.le_refl _⟩, ⟨by (with_reducible repeat (first | apply Kd.R_alloc | apply Kd.R_drewN | apply Kd.R_drew)); exact Kd.R_mono HO_3.out (fun _ hk => ⟨(by simp [Value.ownBlock]), ⟨hk.1, ⟨hk.2.1, hk.2.2⟩⟩⟩)⟩, ⟨by first | exact Kd.R_nil _ _ _ _ _ | exact Kd.N_nil _ _ _ _ _ | exact Kd.V_nil _ _ _ _ _ | exact Kd.Q_nil _ _ _ _ _ | exact Kd.S_nil _ _ _ _ _⟩, ⟨by (with_reducible repeat (first | apply Kd.R_alloc | apply Kd.R_drewN | apply Kd.R_drew)); exact HO_174002.out⟩, ⟨by (with_reducible repeat (first | refine kdN ?_ _ | refine kdr ?_ | refine kal ?_ _)); exact BK173.out⟩, ⟨by (with_reducible repeat (first | refine kdN ?_ _ | refine kdr ?_ | refine kal ?_ _)); exact BK174.out⟩, ⟨by repeat (first | (with_reducible first | exact HB.out | apply bal | apply bdN | apply bd1 | refine bst ?_ GE173.out | refine bst ?_ GE174.out) | exact HB.out)⟩⟩
    case round =>
     clear H'
     try clear c1
     try clear p1
     try clear q1
     try clear hx1
     try clear c2
     try clear p2
     try clear c5
     try clear p6
     try clear c7
     try clear c10
     try clear c10b0
     try clear c11
     try clear c11b0
     try clear c12
     try clear c12b0
     try clear c14
     try clear c16
     try clear c17
     try clear p17
     try clear q17
     try clear hx17
     try clear c24
     try clear hcz18_0
     try clear hcz18_1
     try clear hcz18_2
     try clear hcz18_3
     try clear hcz18_4
     try clear hcz25_0
     try clear hcz25_1
     try clear hcz25_2
     try clear hcz25_3
     try clear hcz25_4
     try clear hcz6_0
     try clear hcz6_1
     try clear hcz6_2
     try clear hcz6_3
     try clear hcz6_4
     try clear hcz9_0
     try clear hcz9_1
     try clear hcz9_2
     try clear hcz9_3
     try clear hcz9_4
     try clear hfz18_0
     try clear hfz18_1
     try clear hfz18_2
     try clear hfz18_3
     try clear hfz18_4
     try clear hfz25_0
     try clear hfz25_1
     try clear hfz25_2
     try clear hfz25_3
     try clear hfz25_4
     try clear hfz6_0
     try clear hfz6_1
     try clear hfz6_2
     try clear hfz6_3
     try clear hfz6_4
     try clear hfz9_0
     try clear hfz9_1
     try clear hfz9_2
     try clear hfz9_3
     try clear hfz9_4
     try clear hx178_0
     try clear hx178_1
     try clear hx178_2
     try clear hx178_3
     try clear hx178_4
     try clear p178
     try clear p2
     try clear q178
     obtain ⟨x4_2, x29_2, rfl, HA, HK2, HO_3, HO_4, HO_174002, BK173, BK174, HB⟩ := hrel
     cases gk with
     | zero => exact absurd HA.out (by simp [prog_Copied.l1])
     | succ k2 =>
      have H := HA.out
      clear HA
      simp only [prog_Copied.l1] at H
      by_cases c26 : x29_2 < (l0_4.length : Int)
      ·rw [if_pos c26] at H
       have c26b0 : decide (x29_2 < (l0_4.length : Int)) = true := decide_eq_true c26
       clear c26
       by_cases c27 : 0 ≤ x29_2
       ·rw [if_pos c27] at H
        have c27b0 : decide (0 ≤ x29_2) = true := decide_eq_true c27
        clear c27
        by_cases c28 : x29_2 < (l0_4.length : Int)
        ·rw [if_pos c28] at H
         have c28b0 : decide (x29_2 < (l0_4.length : Int)) = true := decide_eq_true c28
         clear c28
         replace H := Option.bind_eq_some_iff.mp H
         obtain ⟨⟨t196, t197, t198, t201, t204⟩, A290, H⟩ := H
         replace H : (if x4_2.length < 1599289640401 then (prog_Copied.l1 k2 x3_1 (x4_2 ++ [(⟨t196, t197, t198, t201, t204⟩ : S47)]) l0_4 (l0_4.length : Int) (wrap64 (x29_2 + 1)) a0_0 a0_1 t175 l0_3 l0_4) else (none)) = some (r1, r2, r3, r4, r5) := H
         have A29 := Aside0.mk A290
         clear A290
         by_cases c30 : x4_2.length < 1599289640401
         ·rw [if_pos c30] at H
          have LMc30 := Aside0.mk c30
          clear c30
          obtain ⟨y207, hy207⟩ : ∃ y_ : List (S47), y_ = (x4_2 ++ [(⟨t196, t197, t198, t201, t204⟩ : S47)]) := ⟨_, rfl⟩
          replace H : (prog_Copied.l1 k2 x3_1 y207 l0_4 (l0_4.length : Int) (wrap64 (x29_2 + 1)) a0_0 a0_1 t175 l0_3 l0_4) = some (r1, r2, r3, r4, r5) := by first | (rw [hy207]; with_reducible exact H) | (have H2_ := (Option.bind_some _ _).symm.trans H; rw [hy207]; with_reducible exact H2_) | (have H2_ := (Option.bind_some _ _).symm.trans H; with_reducible exact H2_) | with_reducible exact H | (rw [hy207]; exact H) | exact H
          have Ny207 := Aside0.mk hy207
          clear hy207
          have H' := Aside0.mk H
          clear H
          have p194 : 0 ≤ (x29_2 : Int) := of_decide_eq_true (by first | (with_reducible assumption) | assumption)
          have q194 : x29_2 < (l0_4.length : Int) := of_decide_eq_true (by first | (with_reducible assumption) | assumption)
          obtain ⟨ad194, A194_2, c194_2, A194_3, c194_3, A194_4, c194_4, e194, hx194_0, hx194_1, hx194_2, hx194_3, hx194_4, hl194_2, hi194_2, hl194_3, hi194_3, hl194_4, hi194_4⟩ := at_T47 HR0_4.out x29_2 p194 q194
          cases e194
          replace hx194_0 := bcell HB.out hx194_0
          replace hx194_1 := bcell HB.out hx194_1
          replace hx194_2 := bcell HB.out hx194_2
          replace hx194_3 := bcell HB.out hx194_3
          replace hx194_4 := bcell HB.out hx194_4
          have HR194_2 := Aside0.mk hi194_2
          have HC194_2 := Aside0.mk hl194_2
          clear hi194_2 hl194_2
          have HR194_3 := Aside0.mk hi194_3
          have HC194_3 := Aside0.mk hl194_3
          clear hi194_3 hl194_3
          have HR194_4 := Aside0.mk hi194_4
          have HC194_4 := Aside0.mk hl194_4
          clear hi194_4 hl194_4
          replace p194 := eq_true p194
          replace q194 := eq_true q194
          go_wp2_with (first | ((with_reducible refine gate_dst (N := 8) rfl ?_); refine box_event ?hg (N := 8) ?hd (cs := #[.int .i64 0, .int .i64 0, .slice none 0 0, .slice none 0 0, .slice none 0 0]) (t := 47) ?hr ?_; (case hd => rfl); (case hg => rfl); (case hr => first | (go_simp; done) | (go_simp; rfl)); intro gb195 hg w31 hbox hb; have n0_ := Aside0.mk (Kd.R_below (Kd.R_elderB (by (with_reducible repeat (first | apply Kd.R_alloc | apply Kd.R_drewN | apply Kd.R_drew)); exact HO_3.out) gb195 (Nat.le_of_eq hg.symm)) hb); have n1_ := Aside0.mk (Kd.R_below (Kd.R_elderB (by (with_reducible repeat (first | apply Kd.R_alloc | apply Kd.R_drewN | apply Kd.R_drew)); exact HO_4.out) gb195 (Nat.le_of_eq hg.symm)) hb); have n2_ := Aside0.mk (Kd.R_below (by (with_reducible repeat (first | apply Kd.R_alloc | apply Kd.R_drewN | apply Kd.R_drew)); exact HO_174002.out) hb); have n3_ := Aside0.mk (blk_below (g := gb173) (o := .cells #[.int .i64 a0_0, .int .i64 a0_1, .slice Ao8 t175.length co8, .slice A0_3 l0_3.length c0_3, .slice (some ad194) l0_4.length c0_4] 47 (0, 0)) (by (with_reducible repeat (first | refine kdN ?_ _ | refine kdr ?_ | refine kal ?_ _)); exact BK173.out) hb); have n4_ := Aside0.mk (blk_below (g := gb174) (o := .cells #[.int .i64 0, .int .i64 0, .slice none 0 0, .slice none 0 0, .slice none 0 0] 47 (0, 0)) (by (with_reducible repeat (first | refine kdN ?_ _ | refine kdr ?_ | refine kal ?_ _)); exact BK174.out) hb); have n5_ := Aside0.mk (bsp (by repeat (first | (with_reducible first | exact HB.out | apply bal | apply bdN | apply bd1 | refine bst ?_ GE173.out | refine bst ?_ GE174.out) | exact HB.out)) hb); have n6_ := Aside0.mk (hbox); have n7_ := Aside0.mk ((by rw [hg]; exact (bsz (by repeat (first | (with_reducible first | exact HB.out | apply bal | apply bdN | apply bd1 | refine bst ?_ GE173.out | refine bst ?_ GE174.out) | exact HB.out))) : w.heap.size ≤ gb195)); have n8_ := Aside0.mk ((by rw [hg]; exact (bsz (by repeat (first | (with_reducible first | exact HB.out | apply bal | apply bdN | apply bd1 | refine bst ?_ GE173.out | refine bst ?_ GE174.out) | exact HB.out))) : w.heap.size ≤ gb195)); have n9_ := Aside0.mk ((by rw [hg]; exact Nat.ne_of_lt (blk_lt (g := gb173) (o := .cells #[.int .i64 a0_0, .int .i64 a0_1, .slice Ao8 t175.length co8, .slice A0_3 l0_3.length c0_3, .slice (some ad194) l0_4.length c0_4] 47 (0, 0)) (by (with_reducible repeat (first | refine kdN ?_ _ | refine kdr ?_ | refine kal ?_ _)); exact BK173.out)) : gb173 ≠ gb195)); have n10_ := Aside0.mk ((by rw [hg]; exact Nat.ne_of_gt (blk_lt (g := gb173) (o := .cells #[.int .i64 a0_0, .int .i64 a0_1, .slice Ao8 t175.length co8, .slice A0_3 l0_3.length c0_3, .slice (some ad194) l0_4.length c0_4] 47 (0, 0)) (by (with_reducible repeat (first | refine kdN ?_ _ | refine kdr ?_ | refine kal ?_ _)); exact BK173.out)) : gb195 ≠ gb173)); have n11_ := Aside0.mk ((by rw [hg]; exact Nat.ne_of_lt (blk_lt (g := gb174) (o := .cells #[.int .i64 0, .int .i64 0, .slice none 0 0, .slice none 0 0, .slice none 0 0] 47 (0, 0)) (by (with_reducible repeat (first | refine kdN ?_ _ | refine kdr ?_ | refine kal ?_ _)); exact BK174.out)) : gb174 ≠ gb195)); have n12_ := Aside0.mk ((by rw [hg]; exact Nat.ne_of_gt (blk_lt (g := gb174) (o := .cells #[.int .i64 0, .int .i64 0, .slice none 0 0, .slice none 0 0, .slice none 0 0] 47 (0, 0)) (by (with_reducible repeat (first | refine kdN ?_ _ | refine kdr ?_ | refine kal ?_ _)); exact BK174.out)) : gb195 ≠ gb174)); clear HO_3; clear HO_4; clear HO_174002; clear BK173; clear BK174; clear HB; have HO_3 := n0_; have HO_4 := n1_; have HO_174002 := n2_; have BK173 := n3_; have BK174 := n4_; have HB := n5_; have BK195 := n6_; have GW195 := n7_; have GE195 := n8_; have NB173_195 := n9_; have NB195_173 := n10_; have NB174_195 := n11_; have NB195_174 := n12_; clear n0_ n1_ n2_ n3_ n4_ n5_ n6_ n7_ n8_ n9_ n10_ n11_ n12_; clear hb hbox hg; have hnb32 := NB195_173.out; have hnc32 := NB173_195.out; have hnb33 := NB195_174.out; have hnc33 := NB174_195.out; obtain ⟨hcz34_0, hcz34_1, hcz34_2, hcz34_3, hcz34_4, hfz34_0, hfz34_1, hfz34_2, hfz34_3, hfz34_4⟩ := cf5 BK195.out) | ((with_reducible refine gate_callee (f := 54) rfl ?_); refine goesL_ (some 35) rfl rfl Try.func54 (by kernel_rfl) rfl #[.agg #[.int .i64 ((rd_T47 l0_4 x29_2).f0), .int .i64 ((rd_T47 l0_4 x29_2).f1), .slice A194_2 ((rd_T47 l0_4 x29_2).f2).length c194_2, .slice A194_3 ((rd_T47 l0_4 x29_2).f3).length c194_3, .slice A194_4 ((rd_T47 l0_4 x29_2).f4).length c194_4]] rfl (by (try simp only [List.map_toArray, List.map_cons, List.map_nil]); first | done | rfl | (simp only [List.length_drop, List.length_take]; rfl)) ?_; (with_reducible refine (ih k2 (by have := HK1.out; have := HK2.out; omega) ((rd_T47 l0_4 x29_2).f0) ((rd_T47 l0_4 x29_2).f1) _ _ ((rd_T47 l0_4 x29_2).f2) _ _ ((rd_T47 l0_4 x29_2).f3) _ _ ((rd_T47 l0_4 x29_2).f4) t196 t197 t198 t201 t204 _ ?side1 ?side2 ?side3 ?side4 ?side5 ?side6 A29.out).mono ?_); (case side1 => exact Kd.C_below HR194_2.out (by repeat (first | (with_reducible first | exact HB.out | apply bal | apply bdN | apply bd1 | refine bst ?_ GE173.out | refine bst ?_ GE174.out | refine bst ?_ GE195.out) | exact HB.out))); (case side2 => exact HC194_2.out); (case side3 => exact Kd.C_below HR194_3.out (by repeat (first | (with_reducible first | exact HB.out | apply bal | apply bdN | apply bd1 | refine bst ?_ GE173.out | refine bst ?_ GE174.out | refine bst ?_ GE195.out) | exact HB.out))); (case side4 => exact HC194_3.out); (case side5 => exact Kd.C_below HR194_4.out (by repeat (first | (with_reducible first | exact HB.out | apply bal | apply bdN | apply bd1 | refine bst ?_ GE173.out | refine bst ?_ GE174.out | refine bst ?_ GE195.out) | exact HB.out))); (case side6 => exact HC194_4.out); rintro e w35 ⟨v199, v202, v205, rfl, ho0, ho1, ho2, hb⟩; refine ⟨_, rfl, ?_⟩; have n0_ := Aside0.mk (Kd.R_mono (Kd.R_told (Kd.R_told (Kd.R_told (Kd.R_old (by (with_reducible repeat (first | apply Kd.R_alloc | apply Kd.R_drewN | apply Kd.R_drew)); exact (Kd.R_mono (Kd.R_far (p := ⟨gb195, 4, none⟩) (Kd.R_far (p := ⟨gb195, 3, none⟩) (Kd.R_far (p := ⟨gb195, 2, none⟩) (Kd.R_far (p := ⟨gb195, 1, none⟩) (Kd.R_far (p := ⟨gb195, 0, none⟩) (Kd.R_mono HO_3.out (fun k_ hk => (⟨hk, hk.2⟩ : _ ∧ k_ ≠ gb195))) (fun _ hk => hk.2) (.int .i64 ((rd_T47 l0_4 x29_2).f0))) (fun _ hk => hk.2) (.int .i64 ((rd_T47 l0_4 x29_2).f1))) (fun _ hk => hk.2) (.slice A194_2 ((rd_T47 l0_4 x29_2).f2).length c194_2)) (fun _ hk => hk.2) (.slice A194_3 ((rd_T47 l0_4 x29_2).f3).length c194_3)) (fun _ hk => hk.2) (.slice A194_4 ((rd_T47 l0_4 x29_2).f4).length c194_4)) (fun _ h_ => h_.1))) hb) (Kd.R_base ho0)) (Kd.R_base ho1)) (Kd.R_base ho2)) (fun _ h_ => h_.1)); have n1_ := Aside0.mk (Kd.R_mono (Kd.R_told (Kd.R_told (Kd.R_told (Kd.R_old (by (with_reducible repeat (first | apply Kd.R_alloc | apply Kd.R_drewN | apply Kd.R_drew)); exact (Kd.R_mono (Kd.R_far (p := ⟨gb195, 4, none⟩) (Kd.R_far (p := ⟨gb195, 3, none⟩) (Kd.R_far (p := ⟨gb195, 2, none⟩) (Kd.R_far (p := ⟨gb195, 1, none⟩) (Kd.R_far (p := ⟨gb195, 0, none⟩) (Kd.R_mono HO_4.out (fun k_ hk => (⟨hk, hk.2⟩ : _ ∧ k_ ≠ gb195))) (fun _ hk => hk.2) (.int .i64 ((rd_T47 l0_4 x29_2).f0))) (fun _ hk => hk.2) (.int .i64 ((rd_T47 l0_4 x29_2).f1))) (fun _ hk => hk.2) (.slice A194_2 ((rd_T47 l0_4 x29_2).f2).length c194_2)) (fun _ hk => hk.2) (.slice A194_3 ((rd_T47 l0_4 x29_2).f3).length c194_3)) (fun _ hk => hk.2) (.slice A194_4 ((rd_T47 l0_4 x29_2).f4).length c194_4)) (fun _ h_ => h_.1))) hb) (Kd.R_base ho0)) (Kd.R_base ho1)) (Kd.R_base ho2)) (fun _ h_ => h_.1)); have n2_ := Aside0.mk (Kd.R_elder' (by (with_reducible repeat (first | apply Kd.R_alloc | apply Kd.R_drewN | apply Kd.R_drew)); exact (Kd.R_mono (Kd.R_far (p := ⟨gb195, 4, none⟩) (Kd.R_far (p := ⟨gb195, 3, none⟩) (Kd.R_far (p := ⟨gb195, 2, none⟩) (Kd.R_far (p := ⟨gb195, 1, none⟩) (Kd.R_far (p := ⟨gb195, 0, none⟩) (Kd.R_types HO_174002.out BK195.out (by decide)) (fun _ hk => hk.2) (.int .i64 ((rd_T47 l0_4 x29_2).f0))) (fun _ hk => hk.2) (.int .i64 ((rd_T47 l0_4 x29_2).f1))) (fun _ hk => hk.2) (.slice A194_2 ((rd_T47 l0_4 x29_2).f2).length c194_2)) (fun _ hk => hk.2) (.slice A194_3 ((rd_T47 l0_4 x29_2).f3).length c194_3)) (fun _ hk => hk.2) (.slice A194_4 ((rd_T47 l0_4 x29_2).f4).length c194_4)) (fun _ h_ => h_.1))) (Kd.R_base ho0) hb); have n3_ := Aside0.mk (Kd.R_lower (Kd.R_new' ho0 (Kd.R_lt (by (with_reducible repeat (first | apply Kd.R_alloc | apply Kd.R_drewN | apply Kd.R_drew)); exact (Kd.R_mono (Kd.R_far (p := ⟨gb195, 4, none⟩) (Kd.R_far (p := ⟨gb195, 3, none⟩) (Kd.R_far (p := ⟨gb195, 2, none⟩) (Kd.R_far (p := ⟨gb195, 1, none⟩) (Kd.R_far (p := ⟨gb195, 0, none⟩) (Kd.R_types HO_174002.out BK195.out (by decide)) (fun _ hk => hk.2) (.int .i64 ((rd_T47 l0_4 x29_2).f0))) (fun _ hk => hk.2) (.int .i64 ((rd_T47 l0_4 x29_2).f1))) (fun _ hk => hk.2) (.slice A194_2 ((rd_T47 l0_4 x29_2).f2).length c194_2)) (fun _ hk => hk.2) (.slice A194_3 ((rd_T47 l0_4 x29_2).f3).length c194_3)) (fun _ hk => hk.2) (.slice A194_4 ((rd_T47 l0_4 x29_2).f4).length c194_4)) (fun _ h_ => h_.1))))) (bsz (by repeat (first | (with_reducible first | exact HB.out | apply bal | apply bdN | apply bd1 | refine bst ?_ GE173.out | refine bst ?_ GE174.out | refine bst ?_ GE195.out) | exact HB.out)))); have n4_ := Aside0.mk (Kd.R_lower (Kd.R_newB (Kd.R_newB (Kd.R_newB (Kd.R_new' (Kd.R_new' (Kd.R_new' ho1 (Kd.R_lt (by (with_reducible repeat (first | apply Kd.R_alloc | apply Kd.R_drewN | apply Kd.R_drew)); exact (Kd.R_mono (Kd.R_far (p := ⟨gb195, 4, none⟩) (Kd.R_far (p := ⟨gb195, 3, none⟩) (Kd.R_far (p := ⟨gb195, 2, none⟩) (Kd.R_far (p := ⟨gb195, 1, none⟩) (Kd.R_far (p := ⟨gb195, 0, none⟩) (Kd.R_mono HO_3.out (fun k_ hk => (⟨hk, hk.2⟩ : _ ∧ k_ ≠ gb195))) (fun _ hk => hk.2) (.int .i64 ((rd_T47 l0_4 x29_2).f0))) (fun _ hk => hk.2) (.int .i64 ((rd_T47 l0_4 x29_2).f1))) (fun _ hk => hk.2) (.slice A194_2 ((rd_T47 l0_4 x29_2).f2).length c194_2)) (fun _ hk => hk.2) (.slice A194_3 ((rd_T47 l0_4 x29_2).f3).length c194_3)) (fun _ hk => hk.2) (.slice A194_4 ((rd_T47 l0_4 x29_2).f4).length c194_4)) (fun _ h_ => h_.1))))) (Kd.R_lt (by (with_reducible repeat (first | apply Kd.R_alloc | apply Kd.R_drewN | apply Kd.R_drew)); exact (Kd.R_mono (Kd.R_far (p := ⟨gb195, 4, none⟩) (Kd.R_far (p := ⟨gb195, 3, none⟩) (Kd.R_far (p := ⟨gb195, 2, none⟩) (Kd.R_far (p := ⟨gb195, 1, none⟩) (Kd.R_far (p := ⟨gb195, 0, none⟩) (Kd.R_mono HO_4.out (fun k_ hk => (⟨hk, hk.2⟩ : _ ∧ k_ ≠ gb195))) (fun _ hk => hk.2) (.int .i64 ((rd_T47 l0_4 x29_2).f0))) (fun _ hk => hk.2) (.int .i64 ((rd_T47 l0_4 x29_2).f1))) (fun _ hk => hk.2) (.slice A194_2 ((rd_T47 l0_4 x29_2).f2).length c194_2)) (fun _ hk => hk.2) (.slice A194_3 ((rd_T47 l0_4 x29_2).f3).length c194_3)) (fun _ hk => hk.2) (.slice A194_4 ((rd_T47 l0_4 x29_2).f4).length c194_4)) (fun _ h_ => h_.1))))) (Kd.R_lt (by (with_reducible repeat (first | apply Kd.R_alloc | apply Kd.R_drewN | apply Kd.R_drew)); exact (Kd.R_mono (Kd.R_far (p := ⟨gb195, 4, none⟩) (Kd.R_far (p := ⟨gb195, 3, none⟩) (Kd.R_far (p := ⟨gb195, 2, none⟩) (Kd.R_far (p := ⟨gb195, 1, none⟩) (Kd.R_far (p := ⟨gb195, 0, none⟩) (Kd.R_types HO_174002.out BK195.out (by decide)) (fun _ hk => hk.2) (.int .i64 ((rd_T47 l0_4 x29_2).f0))) (fun _ hk => hk.2) (.int .i64 ((rd_T47 l0_4 x29_2).f1))) (fun _ hk => hk.2) (.slice A194_2 ((rd_T47 l0_4 x29_2).f2).length c194_2)) (fun _ hk => hk.2) (.slice A194_3 ((rd_T47 l0_4 x29_2).f3).length c194_3)) (fun _ hk => hk.2) (.slice A194_4 ((rd_T47 l0_4 x29_2).f4).length c194_4)) (fun _ h_ => h_.1))))) (g := gb173) (o := .cells #[.int .i64 a0_0, .int .i64 a0_1, .slice Ao8 t175.length co8, .slice A0_3 l0_3.length c0_3, .slice (some ad194) l0_4.length c0_4] 47 (0, 0)) (by (with_reducible repeat (first | refine kdN ?_ _ | refine kdr ?_ | refine kal ?_ _)); refine blk_far ?_ NB173_195.out _; (with_reducible repeat (first | refine kdN ?_ _ | refine kdr ?_ | refine kal ?_ _)); refine blk_far ?_ NB173_195.out _; (with_reducible repeat (first | refine kdN ?_ _ | refine kdr ?_ | refine kal ?_ _)); refine blk_far ?_ NB173_195.out _; (with_reducible repeat (first | refine kdN ?_ _ | refine kdr ?_ | refine kal ?_ _)); refine blk_far ?_ NB173_195.out _; (with_reducible repeat (first | refine kdN ?_ _ | refine kdr ?_ | refine kal ?_ _)); refine blk_far ?_ NB173_195.out _; (with_reducible repeat (first | refine kdN ?_ _ | refine kdr ?_ | refine kal ?_ _)); exact BK173.out)) (g := gb174) (o := .cells #[.int .i64 0, .int .i64 0, .slice none 0 0, .slice none 0 0, .slice none 0 0] 47 (0, 0)) (by (with_reducible repeat (first | refine kdN ?_ _ | refine kdr ?_ | refine kal ?_ _)); refine blk_far ?_ NB174_195.out _; (with_reducible repeat (first | refine kdN ?_ _ | refine kdr ?_ | refine kal ?_ _)); refine blk_far ?_ NB174_195.out _; (with_reducible repeat (first | refine kdN ?_ _ | refine kdr ?_ | refine kal ?_ _)); refine blk_far ?_ NB174_195.out _; (with_reducible repeat (first | refine kdN ?_ _ | refine kdr ?_ | refine kal ?_ _)); refine blk_far ?_ NB174_195.out _; (with_reducible repeat (first | refine kdN ?_ _ | refine kdr ?_ | refine kal ?_ _)); refine blk_far ?_ NB174_195.out _; (with_reducible repeat (first | refine kdN ?_ _ | refine kdr ?_ | refine kal ?_ _)); exact BK174.out)) (g := gb195) (o := .cells #[.int .i64 ((rd_T47 l0_4 x29_2).f0), .int .i64 ((rd_T47 l0_4 x29_2).f1), .slice A194_2 ((rd_T47 l0_4 x29_2).f2).length c194_2, .slice A194_3 ((rd_T47 l0_4 x29_2).f3).length c194_3, .slice A194_4 ((rd_T47 l0_4 x29_2).f4).length c194_4] 47 (0, 0)) (by (with_reducible repeat (first | refine kdN ?_ _ | refine kdr ?_ | refine kal ?_ _)); refine blk_put (cs := #[.int .i64 ((rd_T47 l0_4 x29_2).f0), .int .i64 ((rd_T47 l0_4 x29_2).f1), .slice A194_2 ((rd_T47 l0_4 x29_2).f2).length c194_2, .slice A194_3 ((rd_T47 l0_4 x29_2).f3).length c194_3, .slice none 0 0]) ?_ 4 _ rfl; (with_reducible repeat (first | refine kdN ?_ _ | refine kdr ?_ | refine kal ?_ _)); refine blk_put (cs := #[.int .i64 ((rd_T47 l0_4 x29_2).f0), .int .i64 ((rd_T47 l0_4 x29_2).f1), .slice A194_2 ((rd_T47 l0_4 x29_2).f2).length c194_2, .slice none 0 0, .slice none 0 0]) ?_ 3 _ rfl; (with_reducible repeat (first | refine kdN ?_ _ | refine kdr ?_ | refine kal ?_ _)); refine blk_put (cs := #[.int .i64 ((rd_T47 l0_4 x29_2).f0), .int .i64 ((rd_T47 l0_4 x29_2).f1), .slice none 0 0, .slice none 0 0, .slice none 0 0]) ?_ 2 _ rfl; (with_reducible repeat (first | refine kdN ?_ _ | refine kdr ?_ | refine kal ?_ _)); refine blk_put (cs := #[.int .i64 ((rd_T47 l0_4 x29_2).f0), .int .i64 0, .slice none 0 0, .slice none 0 0, .slice none 0 0]) ?_ 1 _ rfl; (with_reducible repeat (first | refine kdN ?_ _ | refine kdr ?_ | refine kal ?_ _)); refine blk_put (cs := #[.int .i64 0, .int .i64 0, .slice none 0 0, .slice none 0 0, .slice none 0 0]) ?_ 0 _ rfl; (with_reducible repeat (first | refine kdN ?_ _ | refine kdr ?_ | refine kal ?_ _)); exact BK195.out)) (bsz (by repeat (first | (with_reducible first | exact HB.out | apply bal | apply bdN | apply bd1 | refine bst ?_ GE173.out | refine bst ?_ GE174.out | refine bst ?_ GE195.out) | exact HB.out)))); have n5_ := Aside0.mk (Kd.R_lower (Kd.R_newB (Kd.R_newB (Kd.R_newB (Kd.R_new' (Kd.R_new' (Kd.R_new' ho2 (Kd.R_lt (by (with_reducible repeat (first | apply Kd.R_alloc | apply Kd.R_drewN | apply Kd.R_drew)); exact (Kd.R_mono (Kd.R_far (p := ⟨gb195, 4, none⟩) (Kd.R_far (p := ⟨gb195, 3, none⟩) (Kd.R_far (p := ⟨gb195, 2, none⟩) (Kd.R_far (p := ⟨gb195, 1, none⟩) (Kd.R_far (p := ⟨gb195, 0, none⟩) (Kd.R_mono HO_3.out (fun k_ hk => (⟨hk, hk.2⟩ : _ ∧ k_ ≠ gb195))) (fun _ hk => hk.2) (.int .i64 ((rd_T47 l0_4 x29_2).f0))) (fun _ hk => hk.2) (.int .i64 ((rd_T47 l0_4 x29_2).f1))) (fun _ hk => hk.2) (.slice A194_2 ((rd_T47 l0_4 x29_2).f2).length c194_2)) (fun _ hk => hk.2) (.slice A194_3 ((rd_T47 l0_4 x29_2).f3).length c194_3)) (fun _ hk => hk.2) (.slice A194_4 ((rd_T47 l0_4 x29_2).f4).length c194_4)) (fun _ h_ => h_.1))))) (Kd.R_lt (by (with_reducible repeat (first | apply Kd.R_alloc | apply Kd.R_drewN | apply Kd.R_drew)); exact (Kd.R_mono (Kd.R_far (p := ⟨gb195, 4, none⟩) (Kd.R_far (p := ⟨gb195, 3, none⟩) (Kd.R_far (p := ⟨gb195, 2, none⟩) (Kd.R_far (p := ⟨gb195, 1, none⟩) (Kd.R_far (p := ⟨gb195, 0, none⟩) (Kd.R_mono HO_4.out (fun k_ hk => (⟨hk, hk.2⟩ : _ ∧ k_ ≠ gb195))) (fun _ hk => hk.2) (.int .i64 ((rd_T47 l0_4 x29_2).f0))) (fun _ hk => hk.2) (.int .i64 ((rd_T47 l0_4 x29_2).f1))) (fun _ hk => hk.2) (.slice A194_2 ((rd_T47 l0_4 x29_2).f2).length c194_2)) (fun _ hk => hk.2) (.slice A194_3 ((rd_T47 l0_4 x29_2).f3).length c194_3)) (fun _ hk => hk.2) (.slice A194_4 ((rd_T47 l0_4 x29_2).f4).length c194_4)) (fun _ h_ => h_.1))))) (Kd.R_lt (by (with_reducible repeat (first | apply Kd.R_alloc | apply Kd.R_drewN | apply Kd.R_drew)); exact (Kd.R_mono (Kd.R_far (p := ⟨gb195, 4, none⟩) (Kd.R_far (p := ⟨gb195, 3, none⟩) (Kd.R_far (p := ⟨gb195, 2, none⟩) (Kd.R_far (p := ⟨gb195, 1, none⟩) (Kd.R_far (p := ⟨gb195, 0, none⟩) (Kd.R_types HO_174002.out BK195.out (by decide)) (fun _ hk => hk.2) (.int .i64 ((rd_T47 l0_4 x29_2).f0))) (fun _ hk => hk.2) (.int .i64 ((rd_T47 l0_4 x29_2).f1))) (fun _ hk => hk.2) (.slice A194_2 ((rd_T47 l0_4 x29_2).f2).length c194_2)) (fun _ hk => hk.2) (.slice A194_3 ((rd_T47 l0_4 x29_2).f3).length c194_3)) (fun _ hk => hk.2) (.slice A194_4 ((rd_T47 l0_4 x29_2).f4).length c194_4)) (fun _ h_ => h_.1))))) (g := gb173) (o := .cells #[.int .i64 a0_0, .int .i64 a0_1, .slice Ao8 t175.length co8, .slice A0_3 l0_3.length c0_3, .slice (some ad194) l0_4.length c0_4] 47 (0, 0)) (by (with_reducible repeat (first | refine kdN ?_ _ | refine kdr ?_ | refine kal ?_ _)); refine blk_far ?_ NB173_195.out _; (with_reducible repeat (first | refine kdN ?_ _ | refine kdr ?_ | refine kal ?_ _)); refine blk_far ?_ NB173_195.out _; (with_reducible repeat (first | refine kdN ?_ _ | refine kdr ?_ | refine kal ?_ _)); refine blk_far ?_ NB173_195.out _; (with_reducible repeat (first | refine kdN ?_ _ | refine kdr ?_ | refine kal ?_ _)); refine blk_far ?_ NB173_195.out _; (with_reducible repeat (first | refine kdN ?_ _ | refine kdr ?_ | refine kal ?_ _)); refine blk_far ?_ NB173_195.out _; (with_reducible repeat (first | refine kdN ?_ _ | refine kdr ?_ | refine kal ?_ _)); exact BK173.out)) (g := gb174) (o := .cells #[.int .i64 0, .int .i64 0, .slice none 0 0, .slice none 0 0, .slice none 0 0] 47 (0, 0)) (by (with_reducible repeat (first | refine kdN ?_ _ | refine kdr ?_ | refine kal ?_ _)); refine blk_far ?_ NB174_195.out _; (with_reducible repeat (first | refine kdN ?_ _ | refine kdr ?_ | refine kal ?_ _)); refine blk_far ?_ NB174_195.out _; (with_reducible repeat (first | refine kdN ?_ _ | refine kdr ?_ | refine kal ?_ _)); refine blk_far ?_ NB174_195.out _; (with_reducible repeat (first | refine kdN ?_ _ | refine kdr ?_ | refine kal ?_ _)); refine blk_far ?_ NB174_195.out _; (with_reducible repeat (first | refine kdN ?_ _ | refine kdr ?_ | refine kal ?_ _)); refine blk_far ?_ NB174_195.out _; (with_reducible repeat (first | refine kdN ?_ _ | refine kdr ?_ | refine kal ?_ _)); exact BK174.out)) (g := gb195) (o := .cells #[.int .i64 ((rd_T47 l0_4 x29_2).f0), .int .i64 ((rd_T47 l0_4 x29_2).f1), .slice A194_2 ((rd_T47 l0_4 x29_2).f2).length c194_2, .slice A194_3 ((rd_T47 l0_4 x29_2).f3).length c194_3, .slice A194_4 ((rd_T47 l0_4 x29_2).f4).length c194_4] 47 (0, 0)) (by (with_reducible repeat (first | refine kdN ?_ _ | refine kdr ?_ | refine kal ?_ _)); refine blk_put (cs := #[.int .i64 ((rd_T47 l0_4 x29_2).f0), .int .i64 ((rd_T47 l0_4 x29_2).f1), .slice A194_2 ((rd_T47 l0_4 x29_2).f2).length c194_2, .slice A194_3 ((rd_T47 l0_4 x29_2).f3).length c194_3, .slice none 0 0]) ?_ 4 _ rfl; (with_reducible repeat (first | refine kdN ?_ _ | refine kdr ?_ | refine kal ?_ _)); refine blk_put (cs := #[.int .i64 ((rd_T47 l0_4 x29_2).f0), .int .i64 ((rd_T47 l0_4 x29_2).f1), .slice A194_2 ((rd_T47 l0_4 x29_2).f2).length c194_2, .slice none 0 0, .slice none 0 0]) ?_ 3 _ rfl; (with_reducible repeat (first | refine kdN ?_ _ | refine kdr ?_ | refine kal ?_ _)); refine blk_put (cs := #[.int .i64 ((rd_T47 l0_4 x29_2).f0), .int .i64 ((rd_T47 l0_4 x29_2).f1), .slice none 0 0, .slice none 0 0, .slice none 0 0]) ?_ 2 _ rfl; (with_reducible repeat (first | refine kdN ?_ _ | refine kdr ?_ | refine kal ?_ _)); refine blk_put (cs := #[.int .i64 ((rd_T47 l0_4 x29_2).f0), .int .i64 0, .slice none 0 0, .slice none 0 0, .slice none 0 0]) ?_ 1 _ rfl; (with_reducible repeat (first | refine kdN ?_ _ | refine kdr ?_ | refine kal ?_ _)); refine blk_put (cs := #[.int .i64 0, .int .i64 0, .slice none 0 0, .slice none 0 0, .slice none 0 0]) ?_ 0 _ rfl; (with_reducible repeat (first | refine kdN ?_ _ | refine kdr ?_ | refine kal ?_ _)); exact BK195.out)) (bsz (by repeat (first | (with_reducible first | exact HB.out | apply bal | apply bdN | apply bd1 | refine bst ?_ GE173.out | refine bst ?_ GE174.out | refine bst ?_ GE195.out) | exact HB.out)))); have n6_ := Aside0.mk (blk_below (g := gb173) (o := .cells #[.int .i64 a0_0, .int .i64 a0_1, .slice Ao8 t175.length co8, .slice A0_3 l0_3.length c0_3, .slice (some ad194) l0_4.length c0_4] 47 (0, 0)) (by (with_reducible repeat (first | refine kdN ?_ _ | refine kdr ?_ | refine kal ?_ _)); refine blk_far ?_ NB173_195.out _; (with_reducible repeat (first | refine kdN ?_ _ | refine kdr ?_ | refine kal ?_ _)); refine blk_far ?_ NB173_195.out _; (with_reducible repeat (first | refine kdN ?_ _ | refine kdr ?_ | refine kal ?_ _)); refine blk_far ?_ NB173_195.out _; (with_reducible repeat (first | refine kdN ?_ _ | refine kdr ?_ | refine kal ?_ _)); refine blk_far ?_ NB173_195.out _; (with_reducible repeat (first | refine kdN ?_ _ | refine kdr ?_ | refine kal ?_ _)); refine blk_far ?_ NB173_195.out _; (with_reducible repeat (first | refine kdN ?_ _ | refine kdr ?_ | refine kal ?_ _)); exact BK173.out) hb); have n7_ := Aside0.mk (blk_below (g := gb174) (o := .cells #[.int .i64 0, .int .i64 0, .slice none 0 0, .slice none 0 0, .slice none 0 0] 47 (0, 0)) (by (with_reducible repeat (first | refine kdN ?_ _ | refine kdr ?_ | refine kal ?_ _)); refine blk_far ?_ NB174_195.out _; (with_reducible repeat (first | refine kdN ?_ _ | refine kdr ?_ | refine kal ?_ _)); refine blk_far ?_ NB174_195.out _; (with_reducible repeat (first | refine kdN ?_ _ | refine kdr ?_ | refine kal ?_ _)); refine blk_far ?_ NB174_195.out _; (with_reducible repeat (first | refine kdN ?_ _ | refine kdr ?_ | refine kal ?_ _)); refine blk_far ?_ NB174_195.out _; (with_reducible repeat (first | refine kdN ?_ _ | refine kdr ?_ | refine kal ?_ _)); refine blk_far ?_ NB174_195.out _; (with_reducible repeat (first | refine kdN ?_ _ | refine kdr ?_ | refine kal ?_ _)); exact BK174.out) hb); have n8_ := Aside0.mk (blk_below (g := gb195) (o := .cells #[.int .i64 ((rd_T47 l0_4 x29_2).f0), .int .i64 ((rd_T47 l0_4 x29_2).f1), .slice A194_2 ((rd_T47 l0_4 x29_2).f2).length c194_2, .slice A194_3 ((rd_T47 l0_4 x29_2).f3).length c194_3, .slice A194_4 ((rd_T47 l0_4 x29_2).f4).length c194_4] 47 (0, 0)) (by (with_reducible repeat (first | refine kdN ?_ _ | refine kdr ?_ | refine kal ?_ _)); refine blk_put (cs := #[.int .i64 ((rd_T47 l0_4 x29_2).f0), .int .i64 ((rd_T47 l0_4 x29_2).f1), .slice A194_2 ((rd_T47 l0_4 x29_2).f2).length c194_2, .slice A194_3 ((rd_T47 l0_4 x29_2).f3).length c194_3, .slice none 0 0]) ?_ 4 _ rfl; (with_reducible repeat (first | refine kdN ?_ _ | refine kdr ?_ | refine kal ?_ _)); refine blk_put (cs := #[.int .i64 ((rd_T47 l0_4 x29_2).f0), .int .i64 ((rd_T47 l0_4 x29_2).f1), .slice A194_2 ((rd_T47 l0_4 x29_2).f2).length c194_2, .slice none 0 0, .slice none 0 0]) ?_ 3 _ rfl; (with_reducible repeat (first | refine kdN ?_ _ | refine kdr ?_ | refine kal ?_ _)); refine blk_put (cs := #[.int .i64 ((rd_T47 l0_4 x29_2).f0), .int .i64 ((rd_T47 l0_4 x29_2).f1), .slice none 0 0, .slice none 0 0, .slice none 0 0]) ?_ 2 _ rfl; (with_reducible repeat (first | refine kdN ?_ _ | refine kdr ?_ | refine kal ?_ _)); refine blk_put (cs := #[.int .i64 ((rd_T47 l0_4 x29_2).f0), .int .i64 0, .slice none 0 0, .slice none 0 0, .slice none 0 0]) ?_ 1 _ rfl; (with_reducible repeat (first | refine kdN ?_ _ | refine kdr ?_ | refine kal ?_ _)); refine blk_put (cs := #[.int .i64 0, .int .i64 0, .slice none 0 0, .slice none 0 0, .slice none 0 0]) ?_ 0 _ rfl; (with_reducible repeat (first | refine kdN ?_ _ | refine kdr ?_ | refine kal ?_ _)); exact BK195.out) hb); have n9_ := Aside0.mk (bsp (by repeat (first | (with_reducible first | exact HB.out | apply bal | apply bdN | apply bd1 | refine bst ?_ GE173.out | refine bst ?_ GE174.out | refine bst ?_ GE195.out) | exact HB.out)) hb); clear HO_3; clear HO_4; clear HO_174002; clear BK173; clear BK174; clear BK195; clear HB; have HO_3 := n0_; have HO_4 := n1_; have HO_174002 := n2_; have HO200 := n3_; have HO203 := n4_; have HO206 := n5_; have BK173 := n6_; have BK174 := n7_; have BK195 := n8_; have HB := n9_; clear n0_ n1_ n2_ n3_ n4_ n5_ n6_ n7_ n8_ n9_; (try clear hb); (try clear hb2); (try clear hk); (try clear hi); (try clear ho0); (try clear ho1); (try clear ho2); obtain ⟨Ao37, co37, eo37⟩ := Kd.R_slice HO200.out; subst eo37; obtain ⟨Ao38, co38, eo38⟩ := Kd.R_slice HO203.out; subst eo38; obtain ⟨Ao39, co39, eo39⟩ := Kd.R_slice HO206.out; subst eo39) | ((with_reducible refine gate_builtin (b := .append) (xs := #[.tmp 33, .tmp 36]) rfl ?_); at_builtin; refine Kd.R_append k47 (w0 := w) w.heap.size rfl (.tmp 33) (.tmp 36) 23 47 (.agg #[(.int .i64 0), (.int .i64 0), (.slice none 0 0), (.slice none 0 0), (.slice none 0 0)]) 88 rfl Try.underlying23 info47 rfl (by decide) (by omega) u4 x4_2 (⟨t196, t197, t198, t201, t204⟩ : S47) [.int .i64 t196, .int .i64 t197, .slice Ao37 t198.length co37, .slice Ao38 t201.length co38, .slice Ao39 t204.length co39] (fun k_ => some k_ ≠ (u3 : Value).ownBlock ∧ some k_ ≠ (.slice Ao8 t175.length co8 : Value).ownBlock ∧ k_ ≠ gb173 ∧ k_ ≠ gb174 ∧ k_ ≠ gb195) (fun k_ => ((fun k_ => some k_ ≠ (u3 : Value).ownBlock ∧ some k_ ≠ (.slice Ao8 t175.length co8 : Value).ownBlock ∧ k_ ≠ gb173 ∧ k_ ≠ gb174 ∧ k_ ≠ gb195)) k_ ∧ some k_ ≠ (u4 : Value).ownBlock) rfl rfl ?aP (fun _ hk => hk) ?aF ?aO ?aB ?aS ?aL ?_; (case aP => exact k47_mkM _ _ _ (⟨t196, t197, t198, t201, t204⟩ : S47) (Kd.R_mono (Kd.R_types (Kd.R_types (Kd.R_types (Kd.R_apart' (Kd.R_apart' (HO200.out) (Kd.R_typed HO_3.out) (by decide)) (Kd.R_typed HO_4.out) (by decide)) BK173.out (by decide)) BK174.out (by decide)) BK195.out (by decide)) (fun k_ hk => ⟨⟨hk.1.1.1.1.2, ⟨hk.1.1.1.1.1.2, ⟨hk.1.1.2, ⟨hk.1.2, hk.2⟩⟩⟩⟩, hk.1.1.1.2⟩)) (Kd.R_mono (HO203.out) (fun k_ hk => ⟨⟨hk.1.1.1.1.1.2, ⟨hk.1.1.1.2, ⟨hk.1.1.2, ⟨hk.1.2, hk.2⟩⟩⟩⟩, hk.1.1.1.1.2⟩)) (Kd.R_mono (HO206.out) (fun k_ hk => ⟨⟨hk.1.1.1.1.1.2, ⟨hk.1.1.1.2, ⟨hk.1.1.2, ⟨hk.1.2, hk.2⟩⟩⟩⟩, hk.1.1.1.1.2⟩))); (case aB => exact (by repeat (first | (with_reducible first | exact HB.out | apply bal | apply bdN | apply bd1 | refine bst ?_ GE173.out | refine bst ?_ GE174.out | refine bst ?_ GE195.out) | exact HB.out))); (case aF => exact (fun k_ hk => ⟨Kd.fresh' (Kd.R_lt (by (with_reducible repeat (first | apply Kd.R_alloc | apply Kd.R_drewN | apply Kd.R_drew)); exact HO_3.out)) k_ hk, Kd.fresh' (Kd.R_lt (by (with_reducible repeat (first | apply Kd.R_alloc | apply Kd.R_drewN | apply Kd.R_drew)); exact HO_174002.out)) k_ hk, Kd.freshB (g := gb173) (o := .cells #[.int .i64 a0_0, .int .i64 a0_1, .slice Ao8 t175.length co8, .slice A0_3 l0_3.length c0_3, .slice (some ad194) l0_4.length c0_4] 47 (0, 0)) (by (with_reducible repeat (first | refine kdN ?_ _ | refine kdr ?_ | refine kal ?_ _)); exact BK173.out) k_ hk, Kd.freshB (g := gb174) (o := .cells #[.int .i64 0, .int .i64 0, .slice none 0 0, .slice none 0 0, .slice none 0 0] 47 (0, 0)) (by (with_reducible repeat (first | refine kdN ?_ _ | refine kdr ?_ | refine kal ?_ _)); exact BK174.out) k_ hk, Kd.freshB (g := gb195) (o := .cells #[.int .i64 ((rd_T47 l0_4 x29_2).f0), .int .i64 ((rd_T47 l0_4 x29_2).f1), .slice A194_2 ((rd_T47 l0_4 x29_2).f2).length c194_2, .slice A194_3 ((rd_T47 l0_4 x29_2).f3).length c194_3, .slice A194_4 ((rd_T47 l0_4 x29_2).f4).length c194_4] 47 (0, 0)) (by (with_reducible repeat (first | refine kdN ?_ _ | refine kdr ?_ | refine kal ?_ _)); exact BK195.out) k_ hk⟩)); (case aO => exact (by (with_reducible repeat (first | apply Kd.R_alloc | apply Kd.R_drewN | apply Kd.R_drew)); exact Kd.R_mono HO_4.out (fun _ hk => ⟨hk.1.1.1.1.1, ⟨hk.1.1.1.1.2.1, ⟨hk.1.1.1.1.2.2.1, ⟨hk.1.1.1.1.2.2.2, hk.1.1.1.2⟩⟩⟩⟩))); (case aS => exact (bsz (by repeat (first | (with_reducible first | exact HB.out | apply bal | apply bdN | apply bd1 | refine bst ?_ GE173.out | refine bst ?_ GE174.out | refine bst ?_ GE195.out) | exact HB.out)))); (case aL => have := LMc30.out; omega); intro v208 w36 ho hb hg hat; rw [← Ny207.out] at ho; have n0_ := Aside0.mk (Kd.R_after (ok := (fun k_ => some k_ ≠ (.slice Ao8 t175.length co8 : Value).ownBlock ∧ some k_ ≠ (.slice Ao37 t198.length co37 : Value).ownBlock ∧ some k_ ≠ (.slice Ao38 t201.length co38 : Value).ownBlock ∧ some k_ ≠ (.slice Ao39 t204.length co39 : Value).ownBlock ∧ k_ ≠ gb173 ∧ k_ ≠ gb174 ∧ k_ ≠ gb195)) (by (with_reducible repeat (first | apply Kd.R_alloc | apply Kd.R_drewN | apply Kd.R_drew)); exact Kd.R_mono HO_3.out (fun _ hk => ⟨⟨hk.1.1.1.1.2.1, ⟨hk.1.1.2, ⟨hk.1.2, ⟨hk.2, ⟨hk.1.1.1.1.2.2.1, ⟨hk.1.1.1.1.2.2.2, hk.1.1.1.2⟩⟩⟩⟩⟩⟩, hk.1.1.1.1.1⟩)) hg hat); have n1_ := Aside0.mk (Kd.R_over' (by (with_reducible repeat (first | apply Kd.R_alloc | apply Kd.R_drewN | apply Kd.R_drew)); exact HO_174002.out) (Kd.R_typed (by (with_reducible repeat (first | apply Kd.R_alloc | apply Kd.R_drewN | apply Kd.R_drew)); exact HO_4.out)) (by decide) hg); have n2_ := Aside0.mk (blk_grown (g := gb173) (o := .cells #[.int .i64 a0_0, .int .i64 a0_1, .slice Ao8 t175.length co8, .slice A0_3 l0_3.length c0_3, .slice (some ad194) l0_4.length c0_4] 47 (0, 0)) (by (with_reducible repeat (first | refine kdN ?_ _ | refine kdr ?_ | refine kal ?_ _)); exact BK173.out) hg (Kd.R_away HO_4.out (fun _ hk => hk.1.1.1.1.2.2.1))); have n3_ := Aside0.mk (blk_grown (g := gb174) (o := .cells #[.int .i64 0, .int .i64 0, .slice none 0 0, .slice none 0 0, .slice none 0 0] 47 (0, 0)) (by (with_reducible repeat (first | refine kdN ?_ _ | refine kdr ?_ | refine kal ?_ _)); exact BK174.out) hg (Kd.R_away HO_4.out (fun _ hk => hk.1.1.1.1.2.2.2))); have n4_ := Aside0.mk (blk_grown (g := gb195) (o := .cells #[.int .i64 ((rd_T47 l0_4 x29_2).f0), .int .i64 ((rd_T47 l0_4 x29_2).f1), .slice A194_2 ((rd_T47 l0_4 x29_2).f2).length c194_2, .slice A194_3 ((rd_T47 l0_4 x29_2).f3).length c194_3, .slice A194_4 ((rd_T47 l0_4 x29_2).f4).length c194_4] 47 (0, 0)) (by (with_reducible repeat (first | refine kdN ?_ _ | refine kdr ?_ | refine kal ?_ _)); exact BK195.out) hg (Kd.R_away HO_4.out (fun _ hk => hk.1.1.1.2))); have n5_ := Aside0.mk (hb); have n6_ := Aside0.mk (ho); clear HO_3; clear HO_174002; clear BK173; clear BK174; clear BK195; clear HB; clear HO_4; clear HO200; clear HO203; clear HO206; have HO_3 := n0_; have HO_174002 := n1_; have BK173 := n2_; have BK174 := n3_; have BK195 := n4_; have HB := n5_; have HO209 := n6_; clear n0_ n1_ n2_ n3_ n4_ n5_ n6_; clear ho hb hg hat))
          go_roundg k2
          case measure => have := HK1.out; have := HK2.out; omega
          case rel => exact ⟨(y207), (wrap64 (x29_2 + 1)), (by first | rfl | (simp; done) | (simp [*]; done)), H', ⟨by have := HK1.out; have := HK2.out; omega⟩, ⟨by (with_reducible repeat (first | apply Kd.R_alloc | apply Kd.R_drewN | apply Kd.R_drew)); exact Kd.R_mono HO_3.out (fun _ hk => ⟨hk.2, ⟨hk.1.1, ⟨hk.1.2.2.2.2.1, hk.1.2.2.2.2.2.1⟩⟩⟩)⟩, ⟨by (with_reducible repeat (first | apply Kd.R_alloc | apply Kd.R_drewN | apply Kd.R_drew)); exact Kd.R_mono HO209.out (fun _ hk => ⟨hk.1, ⟨hk.2.1, ⟨hk.2.2.1, hk.2.2.2.1⟩⟩⟩)⟩, ⟨by (with_reducible repeat (first | apply Kd.R_alloc | apply Kd.R_drewN | apply Kd.R_drew)); exact Kd.R_mono HO_174002.out (fun _ hk => trivial)⟩, ⟨by (with_reducible repeat (first | refine kdN ?_ _ | refine kdr ?_ | refine kal ?_ _)); exact BK173.out⟩, ⟨by (with_reducible repeat (first | refine kdN ?_ _ | refine kdr ?_ | refine kal ?_ _)); exact BK174.out⟩, ⟨by repeat (first | (with_reducible first | exact HB.out | apply bal | apply bdN | apply bd1 | refine bst ?_ GE173.out | refine bst ?_ GE174.out | refine bst ?_ GE195.out) | exact HB.out)⟩⟩
         ·rw [if_neg c30] at H
          exact absurd H (by simp)
        ·rw [if_neg c28] at H
         exact absurd H (by simp)
       ·rw [if_neg c27] at H
        exact absurd H (by simp)
      ·rw [if_neg c26] at H
       have c26b0 : decide (x29_2 < (l0_4.length : Int)) = false := decide_eq_false c26
       clear c26
       simp only [Option.some.injEq, Prod.mk.injEq] at H
       obtain ⟨rfl, rfl, rfl, rfl, rfl⟩ := H
       obtain ⟨Ao40, co40, eo40⟩ := Kd.R_slice HO_3.out
       subst eo40
       have hnb41 := NB173_174.out
       have hnc41 := NB174_173.out
       obtain ⟨hcz42_0, hcz42_1, hcz42_2, hcz42_3, hcz42_4, hfz42_0, hfz42_1, hfz42_2, hfz42_3, hfz42_4⟩ := cf5 BK173.out
       obtain ⟨Ao43, co43, eo43⟩ := Kd.R_slice HO_4.out
       subst eo43
       obtain ⟨hcz44_0, hcz44_1, hcz44_2, hcz44_3, hcz44_4, hfz44_0, hfz44_1, hfz44_2, hfz44_3, hfz44_4⟩ := cf5 BK174.out
       go_wp2
       refine bodyPost_ret (results_cell_row rfl _ _ gb174 47 #[.int .i64 a0_0, .int .i64 a0_1, .slice Ao8 t175.length co8, .slice Ao40 x3_1.length co40, .slice Ao43 x4_2.length co43] (0, 0) _ rfl (by (with_reducible repeat (first | refine kdN ?_ _ | refine kdr ?_ | refine kal ?_ _)); refine blk_put (cs := #[.int .i64 a0_0, .int .i64 a0_1, .slice Ao8 t175.length co8, .slice Ao40 x3_1.length co40, .slice none 0 0]) ?_ 4 _ rfl; (with_reducible repeat (first | refine kdN ?_ _ | refine kdr ?_ | refine kal ?_ _)); refine blk_put (cs := #[.int .i64 a0_0, .int .i64 a0_1, .slice Ao8 t175.length co8, .slice none 0 0, .slice none 0 0]) ?_ 3 _ rfl; (with_reducible repeat (first | refine kdN ?_ _ | refine kdr ?_ | refine kal ?_ _)); refine blk_put (cs := #[.int .i64 a0_0, .int .i64 a0_1, .slice none 0 0, .slice none 0 0, .slice none 0 0]) ?_ 2 _ rfl; (with_reducible repeat (first | refine kdN ?_ _ | refine kdr ?_ | refine kal ?_ _)); refine blk_put (cs := #[.int .i64 a0_0, .int .i64 0, .slice none 0 0, .slice none 0 0, .slice none 0 0]) ?_ 1 _ rfl; (with_reducible repeat (first | refine kdN ?_ _ | refine kdr ?_ | refine kal ?_ _)); refine blk_put (cs := #[.int .i64 0, .int .i64 0, .slice none 0 0, .slice none 0 0, .slice none 0 0]) ?_ 0 _ rfl; (with_reducible repeat (first | refine kdN ?_ _ | refine kdr ?_ | refine kal ?_ _)); refine blk_far ?_ NB174_173.out _; (with_reducible repeat (first | refine kdN ?_ _ | refine kdr ?_ | refine kal ?_ _)); refine blk_far ?_ NB174_173.out _; (with_reducible repeat (first | refine kdN ?_ _ | refine kdr ?_ | refine kal ?_ _)); exact BK174.out) Try.underlying47 rfl (by kernel_rfl)) rfl ?_
       exact ⟨_, _, _, by first | rfl | (simp [*] <;> rfl), by (with_reducible repeat (first | apply Kd.R_alloc | apply Kd.R_drewN | apply Kd.R_drew)); exact Kd.R_mono (Kd.R_far (p := ⟨gb174, 4, none⟩) (Kd.R_far (p := ⟨gb174, 3, none⟩) (Kd.R_far (p := ⟨gb174, 2, none⟩) (Kd.R_far (p := ⟨gb174, 1, none⟩) (Kd.R_far (p := ⟨gb174, 0, none⟩) (Kd.R_far (p := ⟨gb173, 4, none⟩) (Kd.R_far (p := ⟨gb173, 3, none⟩) (Kd.R_types (Kd.R_types HO_174002.out BK173.out (by decide)) BK174.out (by decide)) (fun _ hk => hk.1.2) (.slice Ao40 x3_1.length co40)) (fun _ hk => hk.1.2) (.slice Ao43 x4_2.length co43)) (fun _ hk => hk.2) (.int .i64 a0_0)) (fun _ hk => hk.2) (.int .i64 a0_1)) (fun _ hk => hk.2) (.slice Ao8 t175.length co8)) (fun _ hk => hk.2) (.slice Ao40 x3_1.length co40)) (fun _ hk => hk.2) (.slice Ao43 x4_2.length co43)) (fun _ hk => trivial), by (with_reducible repeat (first | apply Kd.R_alloc | apply Kd.R_drewN | apply Kd.R_drew)); exact Kd.R_mono (Kd.R_far (p := ⟨gb174, 4, none⟩) (Kd.R_far (p := ⟨gb174, 3, none⟩) (Kd.R_far (p := ⟨gb174, 2, none⟩) (Kd.R_far (p := ⟨gb174, 1, none⟩) (Kd.R_far (p := ⟨gb174, 0, none⟩) (Kd.R_far (p := ⟨gb173, 4, none⟩) (Kd.R_far (p := ⟨gb173, 3, none⟩) (Kd.R_mono (Kd.R_mono HO_3.out (fun k_ hk => (⟨hk, hk.2.2.1⟩ : _ ∧ k_ ≠ gb173))) (fun k_ hk => (⟨hk, hk.1.2.2.2⟩ : _ ∧ k_ ≠ gb174))) (fun _ hk => hk.1.2) (.slice Ao40 x3_1.length co40)) (fun _ hk => hk.1.2) (.slice Ao43 x4_2.length co43)) (fun _ hk => hk.2) (.int .i64 a0_0)) (fun _ hk => hk.2) (.int .i64 a0_1)) (fun _ hk => hk.2) (.slice Ao8 t175.length co8)) (fun _ hk => hk.2) (.slice Ao40 x3_1.length co40)) (fun _ hk => hk.2) (.slice Ao43 x4_2.length co43)) (fun _ hk => ⟨hk.1.1.2.1, hk.1.1.1⟩), by (with_reducible repeat (first | apply Kd.R_alloc | apply Kd.R_drewN | apply Kd.R_drew)); exact Kd.R_mono (Kd.R_far (p := ⟨gb174, 4, none⟩) (Kd.R_far (p := ⟨gb174, 3, none⟩) (Kd.R_far (p := ⟨gb174, 2, none⟩) (Kd.R_far (p := ⟨gb174, 1, none⟩) (Kd.R_far (p := ⟨gb174, 0, none⟩) (Kd.R_far (p := ⟨gb173, 4, none⟩) (Kd.R_far (p := ⟨gb173, 3, none⟩) (Kd.R_mono (Kd.R_mono HO_4.out (fun k_ hk => (⟨hk, hk.2.2.1⟩ : _ ∧ k_ ≠ gb173))) (fun k_ hk => (⟨hk, hk.1.2.2.2⟩ : _ ∧ k_ ≠ gb174))) (fun _ hk => hk.1.2) (.slice Ao40 x3_1.length co40)) (fun _ hk => hk.1.2) (.slice Ao43 x4_2.length co43)) (fun _ hk => hk.2) (.int .i64 a0_0)) (fun _ hk => hk.2) (.int .i64 a0_1)) (fun _ hk => hk.2) (.slice Ao8 t175.length co8)) (fun _ hk => hk.2) (.slice Ao40 x3_1.length co40)) (fun _ hk => hk.2) (.slice Ao43 x4_2.length co43)) (fun _ hk => ⟨hk.1.1.2.1, hk.1.1.1⟩), by repeat (first | (with_reducible first | exact HB.out | apply bal | apply bdN | apply bd1 | refine bst ?_ GE173.out | refine bst ?_ GE174.out) | exact HB.out)⟩
end Go.Proofs.Ytffcpbgbhkbplaa.Print
namespace Go.Proofs.Ytffcpbgbhkbplaa.Print
open Go.RowKit Go.Proofs.YtffcpbgbhkbplaaW.PrintWords Go.Proofs.YtffcpbgbhkbplaaW.PrintLast Go.Proofs.YtffcpbgbhkbplaaW.PrintMore
attribute [local go_sem] max2_int min2_int max_two min_two max_three min_three max_four min_four
set_option linter.unusedVariables false
set_option linter.unusedSimpArgs false
open Go.Shelf Go.RowKit
attribute [local go_sem] Oper.semAt_some
theorem four_boxes (w : World) (a b c d : Obj) : Below w.heap.size w ((((w.alloc a).alloc b).alloc c).alloc d) ∧ ((((w.alloc a).alloc b).alloc c).alloc d).heap[w.heap.size]? = some a ∧ ((((w.alloc a).alloc b).alloc c).alloc d).heap[w.heap.size + 1]? = some b ∧
    ((((w.alloc a).alloc b).alloc c).alloc d).heap[w.heap.size + 1 + 1]? = some c ∧ ((((w.alloc a).alloc b).alloc c).alloc d).heap[w.heap.size + 1 + 1 + 1]? = some d := by
  refine ⟨bal (bal (bal (bal (Below.refl _ _) _) _) _) _, kal (kal (kal (blk_new _ _) _) _) _, ?_, ?_, ?_⟩
  · have := blk_new (w.alloc a) b
    exact kal (kal (by simpa using this) _) _
  · have := blk_new ((w.alloc a).alloc b) c
    exact kal (by simpa using this) _
  · have := blk_new (((w.alloc a).alloc b).alloc c) d
    simpa using this
theorem R_put {α : Type} {d : Kd α} {e base : Nat} {w : World} {ok : Nat → Prop} {v : Value} {xs : List α} (h : d.R e w base ok v xs) {l : Nat} {o : Obj} (hl : w.heap[l]? = some o) (ho : o.isCells = false) (o' : Obj) : d.R e (w.putObj l o') base ok v xs :=
  Kd.R_mono (Kd.R_step (Kd.R_bound h) (fun k hk _ => by
    obtain ⟨_, _, _, q, _, cells, hc⟩ := hk
    refine World.putObj_heap_other (fun e => ?_)
    subst e
    rw [hl] at hc
    cases hc
    cases ho)) (fun k hk => hk.1)
theorem results_two {P : Program} {fn : Func} {p q : Tmp} {tS tE : TypeId} (h : fn.results = #[.cell p tS, .cell q tE]) (tmps : Array Value) (w : World) (g g2 : Nat) (cs : Array Value) (v : Int) (hp : tmps.getD p undef = .pointer (some ⟨g, 0, none⟩)) (hq : tmps.getD q undef = .pointer (some ⟨g2, 0, none⟩))
    (hg2 : w.heap[g2]? = some (.cells #[.int .i64 v] tE (0, 0))) (h1 : (loadVar tS ⟨g, 0, none⟩).run P w = .ok (.agg cs) w) (hu2 : P.underlying tE = some (.int .i64)) :
    (results fn tmps).run P w = .ok (.tuple #[.agg cs, .int .i64 v]) w := by
  have hp' : tmps[p]?.getD undef = .pointer (some ⟨g, 0, none⟩) := by simpa using hp
  have hq' : tmps[q]?.getD undef = .pointer (some ⟨g2, 0, none⟩) := by simpa using hq
  have hc : w.cell? ⟨g2, 0, none⟩ = some (.int .i64 v) := (blk_cell hg2 0).trans rfl
  have hagg : (isAgg tE).run P w = .ok false w := by
    unfold isAgg
    rw [Sem.run_bind, run_underlying hu2 w]
    simp
  have h2 : (loadVar tE ⟨g2, 0, none⟩).run P w = .ok (.int .i64 v) w := by simp [loadVar, Sem.run_bind, hagg, go_sem, hc, Result.andThen]
  generalize hL1 : loadVar tS ⟨g, 0, none⟩ = L1 at h1
  generalize hL2 : loadVar tE ⟨g2, 0, none⟩ = L2 at h2
  simp [results, h, Sem.run_bind, hp', hq', asAddr, Result.andThen, hL1, hL2, h1, h2]
theorem size_cell (W : World) (p : Addr) (u : Value) : (W.setCell p u).heap.size = W.heap.size := by simp [World.setCell]
theorem below_cell {n B i : Nat} (W : World) (u : Value) (h : n ≤ B) : Below n W (W.setCell ⟨B, i, none⟩ u) := ⟨rfl, rfl, rfl, by rw [size_cell]; exact Nat.le_refl _, fun k hk => Below.heap_setCell _ _ _ _ (by intro e; simp at e; omega)⟩
theorem store_stmt {W : World} {B C : Nat} {t s : TypeId} {x0 x1 x2 x3 x4 y : Value} (hne : B ≠ C) (hs : W.heap[B]? = some (.cells #[x0, x1, x2, x3, x4] t (0, 0))) (he : W.heap[C]? = some (.cells #[y] s (0, 0))) (u0 u1 u2 u3 u4 v : Value) {W' : World}
    (hW : ((((((W.setCell ⟨B, 0, none⟩ u0).setCell ⟨B, 1, none⟩ u1).setCell ⟨B, 2, none⟩ u2).setCell ⟨B, 3, none⟩ u3).setCell ⟨B, 4, none⟩ u4).setCell ⟨C, 0, none⟩ v) = W') :
    W'.heap[B]? = some (.cells #[u0, u1, u2, u3, u4] t (0, 0)) ∧ W'.heap[C]? = some (.cells #[v] s (0, 0)) ∧ W'.heap.size = W.heap.size ∧ (∀ k, k ≠ B → k ≠ C → W'.heap[k]? = W.heap[k]?) ∧ (∀ n, n ≤ B → n ≤ C → Below n W W') := by
  subst hW
  have h0 := blk_put hs 0 u0 (cs' := #[u0, x1, x2, x3, x4]) rfl
  have h1 := blk_put h0 1 u1 (cs' := #[u0, u1, x2, x3, x4]) rfl
  have h2 := blk_put h1 2 u2 (cs' := #[u0, u1, u2, x3, x4]) rfl
  have h3 := blk_put h2 3 u3 (cs' := #[u0, u1, u2, u3, x4]) rfl
  have h4 := blk_put h3 4 u4 (cs' := #[u0, u1, u2, u3, u4]) rfl
  have k0 := blk_far he (p := ⟨B, 0, none⟩) (Ne.symm hne) u0
  have k1 := blk_far k0 (p := ⟨B, 1, none⟩) (Ne.symm hne) u1
  have k2 := blk_far k1 (p := ⟨B, 2, none⟩) (Ne.symm hne) u2
  have k3 := blk_far k2 (p := ⟨B, 3, none⟩) (Ne.symm hne) u3
  have k4 := blk_far k3 (p := ⟨B, 4, none⟩) (Ne.symm hne) u4
  have hk : ∀ k, k ≠ B → k ≠ C → ((((((W.setCell ⟨B, 0, none⟩ u0).setCell ⟨B, 1, none⟩ u1).setCell ⟨B, 2, none⟩ u2).setCell ⟨B, 3, none⟩ u3).setCell ⟨B, 4, none⟩ u4).setCell ⟨C, 0, none⟩ v).heap[k]? = W.heap[k]? := fun k h1 h2 => by
    rw [Below.heap_setCell _ _ _ _ h2, Below.heap_setCell _ _ _ _ h1, Below.heap_setCell _ _ _ _ h1, Below.heap_setCell _ _ _ _ h1, Below.heap_setCell _ _ _ _ h1, Below.heap_setCell _ _ _ _ h1]
  have hsz : ((((((W.setCell ⟨B, 0, none⟩ u0).setCell ⟨B, 1, none⟩ u1).setCell ⟨B, 2, none⟩ u2).setCell ⟨B, 3, none⟩ u3).setCell ⟨B, 4, none⟩ u4).setCell ⟨C, 0, none⟩ v).heap.size = W.heap.size := by simp only [size_cell]
  exact ⟨blk_far h4 hne v, blk_put k4 0 v rfl, hsz, hk, fun n h1 h2 => (((((below_cell W u0 h1).trans (below_cell _ u1 h1)).trans (below_cell _ u2 h1)).trans (below_cell _ u3 h1)).trans (below_cell _ u4 h1)).trans (below_cell _ v h2)⟩
theorem stop_none {α : Type} {p : α → Bool} : ∀ (its pre : List α), stopAt (fun _ x => !p x) pre its = none → its.find? p = none
  | [], _, _ => rfl
  | x :: r, pre, h => by
    rw [stopAt] at h
    cases hp : p x with
    | true => simp [hp] at h
    | false =>
      simp [hp] at h
      rw [List.find?_cons, hp]
      exact stop_none r _ h
theorem find_at {α : Type} {p : α → Bool} {x : α} (hx : p x = true) : ∀ (pre its : List α), (∀ y ∈ pre, p y = false) → (pre ++ [x]) <+: its → its.find? p = some x
  | [], its, _, h => by
    obtain ⟨t, rfl⟩ := h
    simp [hx]
  | y :: r, its, hy, h => by
    obtain ⟨t, rfl⟩ := h
    have h1 := hy y (by simp)
    simp only [List.cons_append, List.find?_cons, h1]
    exact find_at hx r _ (fun z hz => hy z (by simp [hz])) ⟨t, rfl⟩
def prog_At.pick (k : Nat) (its : List (Int × S47)) (a1 : Int) : Option (Int × Int × List S96 × List S47 × List S47 × Int) :=
  match its.find? (fun x => decide (x.1 = a1)) with
  | some x => (prog_Copied.f k x.2.f0 x.2.f1 x.2.f2 x.2.f3 x.2.f4).bind fun r => some (r.1, r.2.1, r.2.2.1, r.2.2.2.1, r.2.2.2.2, 0)
  | none => some (0, 0, [], [], [], 1)
def prog_At.f (k : Nat) (a0_0 : Int) (l0_1 : List S82) (l0_2 : List S47) (a1 : Int) : Option (Int × Int × List S96 × List S47 × List S47 × Int) :=
  (prog_Check.f k a0_0 l0_1 l0_2).bind fun t => if t = 0 then (prog_walk.f k l0_2 0).bind fun its => prog_At.pick k its.1 a1 else some (0, 0, [], [], [], 30)
set_option maxHeartbeats 8000000 in
set_option maxRecDepth 100000 in
theorem prog_At.calls (k : Nat) (a0_0 : Int) (A0_1 : Option Addr) (c0_1 : Nat) (l0_1 : List S82) (A0_2 : Option Addr) (c0_2 : Nat) (l0_2 : List S47) (a1 : Int) (r1 r2 : Int) (r3 : List S96) (r4 r5 : List S47) (r6 : Int) (w : World)
    (hr0_1 : Kd.C k82 w A0_1 l0_1.length l0_1) (hc0_1 : l0_1.length ≤ c0_1) (hr0_2 : Kd.C k47 w A0_2 l0_2.length l0_2) (hc0_2 : l0_2.length ≤ c0_2) (h : prog_At.f k a0_0 l0_1 l0_2 a1 = some (r1, r2, r3, r4, r5, r6)) :
    Calls Try.prog 25 #[.agg #[.int .i64 a0_0, .slice A0_1 l0_1.length c0_1, .slice A0_2 l0_2.length c0_2], .int .i64 a1] w fun e w' => ∃ v3_ v4_ v5_ : Value, e = .returned (.tuple #[.agg #[.int .i64 r1, .int .i64 r2, v3_, v4_, v5_], .int .i64 r6]) ∧
      Kd.R k96 96 w' w.heap.size (fun _ => True) v3_ r3 ∧ Kd.R k47 47 w' w.heap.size (fun k_ => some k_ ≠ (v3_ : Value).ownBlock ∧ some k_ ≠ (v5_ : Value).ownBlock) v4_ r4 ∧ Kd.R k47 47 w' w.heap.size (fun k_ => some k_ ≠ (v3_ : Value).ownBlock ∧ some k_ ≠ (v4_ : Value).ownBlock) v5_ r5 ∧ Below w.heap.size w w' := by
  refine callsIn_wide.1 (?_ : CallsIn Fence.wide 9 _ _ _ _ _)
  have huP := Try.underlying25
  have huS := Try.underlying47
  have huE := Try.underlying29
  refine callsIn_of_wp_marks Try.func25 rfl trivial ?_ rfl
  simp only [Try.ntmps25, List.size_toArray, List.length_cons, List.length_nil, Nat.reduceAdd, Nat.reduceSub, Array.replicate_succ, Array.replicate_zero, List.push_toArray, List.append_toArray, List.nil_append, List.cons_append]
  unfold prog_At.f at h
  obtain ⟨tc, AC0, h⟩ := Option.bind_eq_some_iff.mp h
  have HR1 := Aside0.mk hr0_1
  have HC1 := Aside0.mk hc0_1
  have HR2 := Aside0.mk hr0_2
  have HC2 := Aside0.mk hc0_2
  have AC := Aside0.mk AC0
  have H := Aside0.mk h
  clear hr0_1 hc0_1 hr0_2 hc0_2 h AC0
  have FB := four_boxes w (.cells #[.int .i64 a0_0, .slice A0_1 l0_1.length c0_1, .slice A0_2 l0_2.length c0_2] 25) (.cells #[.int .i64 a1] 3) (.cells #[.int .i64 0, .int .i64 0, .slice none 0 0, .slice none 0 0, .slice none 0 0] 47) (.cells #[.int .i64 0] 29)
  gi_wp2
  generalize ((((w.alloc (.cells #[.int .i64 a0_0, .slice A0_1 l0_1.length c0_1, .slice A0_2 l0_2.length c0_2] 25)).alloc (.cells #[.int .i64 a1] 3)).alloc (.cells #[.int .i64 0, .int .i64 0, .slice none 0 0, .slice none 0 0, .slice none 0 0] 47)).alloc (.cells #[.int .i64 0] 29)) = W1 at FB ⊢
  obtain ⟨b1, p1, n1, s1, e1⟩ := FB
  refine ⟨trivial, ?_⟩
  refine (callsIn_wide.2 (prog_Check.calls k a0_0 _ _ l0_1 _ _ l0_2 tc W1 (Kd.C_below HR1.out b1) HC1.out (Kd.C_below HR2.out b1) HC2.out AC.out)).mono ?_
  rintro e W2 ⟨rfl, hb2⟩
  have b2 := b1.trans (hb2.mono b1.size)
  have p2 := (hb2.block _ (blk_lt p1)).trans p1
  have n2 := (hb2.block _ (blk_lt n1)).trans n1
  have s2 := (hb2.block _ (blk_lt s1)).trans s1
  have e2 := (hb2.block _ (blk_lt e1)).trans e1
  clear p1 n1 s1 e1 hb2 AC b1
  by_cases htc : tc = 0
  case neg =>
    have h := H.out
    rw [if_neg htc] at h
    obtain ⟨rfl, rfl, rfl, rfl, rfl, rfl⟩ : r1 = 0 ∧ r2 = 0 ∧ r3 = [] ∧ r4 = [] ∧ r5 = [] ∧ r6 = 30 := by
      injection (Option.some.inj h) with e1 e2; injection e2 with e2 e3; injection e3 with e3 e4; injection e4 with e4 e5; injection e5 with e5 e6
      exact ⟨e1.symm, e2.symm, e3.symm, e4.symm, e5.symm, e6.symm⟩
    clear h H
    have g1 : (tc == 0) = false := beq_eq_false_iff_ne.mpr htc
    have g2 : (tc != 0) = true := bne_iff_ne.mpr htc
    obtain ⟨c0, c1, c2, c3, c4⟩ := cells5 s2
    have d0 : W2.cell? ⟨w.heap.size + 1 + 1 + 1, 0, none⟩ = some (.int .i64 0) := (blk_cell e2 0).trans rfl
    have f0 := blk_frozen s2 0
    have f1 := blk_frozen s2 1
    have f2 := blk_frozen s2 2
    have f3 := blk_frozen s2 3
    have f4 := blk_frozen s2 4
    have f5 := blk_frozen e2 0
    gi_wp2
    generalize hW : ((((((W2.setCell ⟨w.heap.size + 1 + 1, 0, none⟩ (.int .i64 0)).setCell ⟨w.heap.size + 1 + 1, 1, none⟩ (.int .i64 0)).setCell ⟨w.heap.size + 1 + 1, 2, none⟩ (.slice none 0 0)).setCell ⟨w.heap.size + 1 + 1, 3, none⟩ (.slice none 0 0)).setCell ⟨w.heap.size + 1 + 1, 4, none⟩ (.slice none 0 0)).setCell ⟨w.heap.size + 1 + 1 + 1, 0, none⟩ (.int .i64 30)) = W3
    obtain ⟨t1, t2, _, _, t5⟩ := store_stmt (by omega) s2 e2 _ _ _ _ _ _ hW
    exact ⟨_, results_two rfl _ _ (w.heap.size + 1 + 1) (w.heap.size + 1 + 1 + 1) _ 30 rfl rfl t2 (run_loadVar_row _ _ _ _ _ _ _ t1 huS rfl rfl) huE, _, _, _, rfl, Kd.R_nil _ _ _ _ _, Kd.R_nil _ _ _ _ _, Kd.R_nil _ _ _ _ _, b2.trans (t5 _ (by omega) (by omega))⟩
  case pos =>
    subst htc
    have h := H.out
    rw [if_pos rfl] at h
    obtain ⟨⟨its, n'⟩, WK0, h⟩ := Option.bind_eq_some_iff.mp h
    have WK := Aside0.mk WK0
    have PK := Aside0.mk h
    clear H h WK0
    obtain ⟨c0, c1, c2⟩ := cells3 p2
    gi_wp2_with (first | (refine ⟨trivial, ?_⟩; refine (callsIn_wide.2 (prog_each.fn _ _ _ W2)).mono ?_; rintro e W3 ⟨rfl, hb3, q3⟩))
    have b3 := b2.trans (hb3.mono b2.size)
    have p3 := (hb3.block _ (blk_lt p2)).trans p2
    have n3 := (hb3.block _ (blk_lt n2)).trans n2
    have s3 := (hb3.block _ (blk_lt s2)).trans s2
    have e3 := (hb3.block _ (blk_lt e2)).trans e2
    clear c0 c1 c2 p2 n2 s2 e2
    have hcell : W3.cell? ⟨W2.heap.size, 2, none⟩ = some (.slice A0_2 l0_2.length c0_2) := (blk_cell q3 2).trans rfl
    refine wpIn_rangeBy (gf := 76) (lb := #[.pointer (some ⟨W2.heap.size, 0, none⟩)]) rfl (enters_of Try.func76 (by kernel_rfl) rfl)
      (prog_each.seq W3 W2.heap.size A0_2 c0_2 l0_2 its n' k hcell (Kd.C_below HR2.out b3) HC2.out WK.out) (Below.refl _ _) (by rintro x av ⟨v, rfl, _⟩; rfl)
      (fun _ x => !decide (x.1 = a1))
      (fun pre W => Below W3.heap.size W3 W ∧ ∀ y ∈ pre, decide (y.1 = a1) = false)
      (fun c _ W => c = .ret ∧ ∃ v3 v4 v5 : Value, W.heap[w.heap.size + 1 + 1]? = some (.cells #[.int .i64 r1, .int .i64 r2, v3, v4, v5] 47 (0, 0)) ∧ W.heap[w.heap.size + 1 + 1 + 1]? = some (.cells #[.int .i64 r6] 29 (0, 0)) ∧
        Kd.R k96 96 W w.heap.size (fun _ => True) v3 r3 ∧ Kd.R k47 47 W w.heap.size (fun k_ => some k_ ≠ (v3 : Value).ownBlock ∧ some k_ ≠ (v5 : Value).ownBlock) v4 r4 ∧ Kd.R k47 47 W w.heap.size (fun k_ => some k_ ≠ (v3 : Value).ownBlock ∧ some k_ ≠ (v4 : Value).ownBlock) v5 r5 ∧ Below w.heap.size w W)
      (fun pre A B h hb => ⟨h.1.trans hb, h.2⟩) ?hIx ⟨Below.refl _ _, by simp⟩ ?round ?done ?stop
    case hIx =>
      rintro c pre A j o o' hj ⟨hc, v3, v4, v5, h1, h2, o3, o4, o5, hb⟩ hA ho
      have ne : ∀ {k : Nat} {cs : Array Value} {t : TypeId}, A.heap[k]? = some (.cells cs t (0, 0)) → k ≠ j := by
        intro k cs t hk e
        subst e
        rw [hA] at hk
        cases hk
        cases ho
      have hS3 := b3.size
      exact ⟨hc, v3, v4, v5, (World.putObj_heap_other (ne h1)).trans h1, (World.putObj_heap_other (ne h2)).trans h2, R_put o3 hA ho o', R_put o4 hA ho o', R_put o5 hA ho o', hb.trans (below_put _ _ _ (by omega))⟩
    case done =>
      rintro W hst ⟨hbW, _⟩ _ hD
      have hf := stop_none (p := fun y : Int × S47 => decide (y.1 = a1)) _ _ hst
      have hpk := PK.out
      unfold prog_At.pick at hpk
      rw [hf] at hpk
      obtain ⟨rfl, rfl, rfl, rfl, rfl, rfl⟩ : r1 = 0 ∧ r2 = 0 ∧ r3 = [] ∧ r4 = [] ∧ r5 = [] ∧ r6 = 1 := by
        injection (Option.some.inj hpk) with e1 e2; injection e2 with e2 e3; injection e3 with e3 e4; injection e4 with e4 e5; injection e5 with e5 e6
        exact ⟨e1.symm, e2.symm, e3.symm, e4.symm, e5.symm, e6.symm⟩
      clear hpk PK
      have hB3 := blk_lt e3
      have hS3 := b3.size
      have s4 := (hbW.block _ (blk_lt s3)).trans s3
      have e4 := (hbW.block _ (blk_lt e3)).trans e3
      obtain ⟨c0, c1, c2, c3, c4⟩ := cells5 s4
      have d0 : W.cell? ⟨w.heap.size + 1 + 1 + 1, 0, none⟩ = some (.int .i64 0) := (blk_cell e4 0).trans rfl
      have f0 := blk_frozen s4 0
      have f1 := blk_frozen s4 1
      have f2 := blk_frozen s4 2
      have f3 := blk_frozen s4 3
      have f4 := blk_frozen s4 4
      have f5 := blk_frozen e4 0
      gi_wp2
      generalize hW : ((((((W.setCell ⟨w.heap.size + 1 + 1, 0, none⟩ (.int .i64 0)).setCell ⟨w.heap.size + 1 + 1, 1, none⟩ (.int .i64 0)).setCell ⟨w.heap.size + 1 + 1, 2, none⟩ (.slice none 0 0)).setCell ⟨w.heap.size + 1 + 1, 3, none⟩ (.slice none 0 0)).setCell ⟨w.heap.size + 1 + 1, 4, none⟩ (.slice none 0 0)).setCell ⟨w.heap.size + 1 + 1 + 1, 0, none⟩ (.int .i64 1)) = W6
      obtain ⟨t1, t2, _, t4, t5⟩ := store_stmt (by omega) s4 e4 _ _ _ _ _ _ hW
      refine ⟨by simp, .inl ⟨_, _, rfl, run_takeDeferred ((t4 _ (by omega) (by omega)).trans hD), ?_⟩⟩
      refine ⟨_, results_two rfl _ _ (w.heap.size + 1 + 1) (w.heap.size + 1 + 1 + 1) _ 1 rfl rfl ((World.putObj_heap_other (by omega)).trans t2) (run_loadVar_row _ _ _ _ _ _ _ ((World.putObj_heap_other (by omega)).trans t1) huS rfl rfl) huE, _, _, _, rfl, Kd.R_nil _ _ _ _ _, Kd.R_nil _ _ _ _ _, Kd.R_nil _ _ _ _ _, ?_⟩
      exact b3.trans ((hbW.mono hS3).trans ((t5 _ (by omega) (by omega)).trans (below_put _ _ _ hS3)))
    case stop =>
      rintro c q W hst ⟨rfl, v3, v4, v5, t1, t2, o3, o4, o5, hb⟩ hD
      have hB3 := blk_lt e3
      have hS3 := b3.size
      gi_wp2
      refine ⟨by simp, .inl ⟨_, _, rfl, run_takeDeferred hD, ?_⟩⟩
      exact ⟨_, results_two rfl _ _ (w.heap.size + 1 + 1) (w.heap.size + 1 + 1 + 1) _ r6 rfl rfl ((World.putObj_heap_other (by omega)).trans t2) (run_loadVar_row _ _ _ _ _ _ _ ((World.putObj_heap_other (by omega)).trans t1) huS rfl rfl) huE, _, _, _, rfl, R_put o3 hD rfl _, R_put o4 hD rfl _, R_put o5 hD rfl _, hb.trans (below_put _ _ _ hS3)⟩
    case round =>
      rintro l pre x av W ⟨hbW, hy⟩ ⟨v, rfl, hv⟩ hpre _ hsz
      obtain ⟨A2, z2, A3, z3, A4, z4, rfl, ql2, qr2, ql3, qr3, ql4, qr4⟩ := hv
      gi_wp2
      refine ⟨World.grownBy_alloc _ _ _, ?_⟩
      intro W4 hg4 hs4 hi4 hb4
      have x4 : W4.heap[W.heap.size]? = some (.cells #[.int .i64 x.2.f0, .int .i64 x.2.f1, .slice A2 x.2.f2.length z2, .slice A3 x.2.f3.length z3, .slice A4 x.2.f4.length z4] 47 (0, 0)) :=
        (hg4.block W.heap.size (by simp) (by intro e; injection e with e; omega)).trans (heap_alloc_new _ _)
      have n4 := (hi4.1.block _ (blk_lt n3)).trans n3
      have s4 := (hi4.1.block _ (blk_lt s3)).trans s3
      have e4 := (hi4.1.block _ (blk_lt e3)).trans e3
      have hn : W4.cell? ⟨w.heap.size + 1, 0, none⟩ = some (.int .i64 a1) := (blk_cell n4 0).trans rfl
      obtain ⟨m0, m1, m2, m3, m4⟩ := cells5 x4
      have hsW : W4.heap.size = W.heap.size + 1 := by rw [hs4]; simp
      by_cases hxa : x.1 = a1
      case neg =>
        have hxd : decide (x.1 = a1) = false := decide_eq_false hxa
        gi_wp2
        refine ⟨by simp [hxd], Nat.le_refl _, fun k _ _ => rfl, hb4, hi4.1, fun y hy' => ?_⟩
        rcases List.mem_append.1 hy' with h | h
        · exact hy y h
        · obtain rfl : y = x := by simpa using h
          exact hxd
      case pos =>
        have hxd : decide (x.1 = a1) = true := decide_eq_true hxa
        have hf := find_at (p := fun y : Int × S47 => decide (y.1 = a1)) (x := x) hxd pre its hy hpre
        have hpk := PK.out
        unfold prog_At.pick at hpk
        rw [hf] at hpk
        obtain ⟨⟨y1, y2, y3, y4, y5⟩, CP, hpk⟩ := Option.bind_eq_some_iff.mp hpk
        obtain ⟨rfl, rfl, rfl, rfl, rfl, rfl⟩ : r1 = y1 ∧ r2 = y2 ∧ r3 = y3 ∧ r4 = y4 ∧ r5 = y5 ∧ r6 = 0 := by
          injection (Option.some.inj hpk) with e1 e2; injection e2 with e2 e3; injection e3 with e3 e4; injection e4 with e4 e5; injection e5 with e5 e6
          exact ⟨e1.symm, e2.symm, e3.symm, e4.symm, e5.symm, e6.symm⟩
        have hB3 := blk_lt e3
        have hS3 := b3.size
        have hs34 := hb4.size
        gi_wp2_with (first | (refine ⟨trivial, ?_⟩; refine CallsIn.inRound l ((callsIn_wide.2 (prog_Copied.calls k x.2.f0 x.2.f1 A2 z2 x.2.f2 A3 z3 x.2.f3 A4 z4 x.2.f4 _ _ _ _ _ W4 (Kd.C_below qr2 hb4) ql2 (Kd.C_below qr3 hb4) ql3 (Kd.C_below qr4 hb4) ql4 CP)).mono ?_); rintro e W5 ⟨v3, v4, v5, rfl, o3, o4, o5, hb5⟩; obtain ⟨D3, d3, ev3⟩ := Kd.R_slice o3; obtain ⟨D4, d4, ev4⟩ := Kd.R_slice o4; obtain ⟨D5, d5, ev5⟩ := Kd.R_slice o5; subst ev3 ev4 ev5; have s5 := (hb5.block _ (blk_lt s4)).trans s4; have e5 := (hb5.block _ (blk_lt e4)).trans e4; obtain ⟨c0, c1, c2, c3, c4⟩ := cells5 s5; have d0 : W5.cell? ⟨w.heap.size + 1 + 1 + 1, 0, none⟩ = some (.int .i64 0) := (blk_cell e5 0).trans rfl; have f0 := blk_frozen s5 0; have f1 := blk_frozen s5 1; have f2 := blk_frozen s5 2; have f3 := blk_frozen s5 3; have f4 := blk_frozen s5 4; have f5 := blk_frozen e5 0))
        generalize hW : ((((((W5.setCell ⟨w.heap.size + 1 + 1, 0, none⟩ (.int .i64 r1)).setCell ⟨w.heap.size + 1 + 1, 1, none⟩ (.int .i64 r2)).setCell ⟨w.heap.size + 1 + 1, 2, none⟩ (.slice D3 r3.length d3)).setCell ⟨w.heap.size + 1 + 1, 3, none⟩ (.slice D4 r4.length d4)).setCell ⟨w.heap.size + 1 + 1, 4, none⟩ (.slice D5 r5.length d5)).setCell ⟨w.heap.size + 1 + 1 + 1, 0, none⟩ (.int .i64 0)) = W6
        obtain ⟨t1, t2, _, t4, t5⟩ := store_stmt (by omega) s5 e5 _ _ _ _ _ _ hW
        have mv : ∀ {α : Type} {d : Kd α} {e : Nat} {ok : Nat → Prop} {v : Value} {xs : List α}, d.R e W5 W4.heap.size ok v xs → d.R e W6 w.heap.size ok v xs := fun h =>
          Kd.R_lower (Kd.R_mono (Kd.R_step (Kd.R_bound h) (fun k hk _ => t4 k (by have := hk.2.1; omega) (by have := hk.2.1; omega))) (fun k hk => hk.1)) (by omega)
        refine ⟨by simp [hxd], fun k h1 h2 => (t4 k (by omega) (by omega)).trans (hb5.block k (by omega)), rfl, _, _, _, t1, t2, mv o3, mv o4, mv o5, ?_⟩
        exact b3.trans ((hb4.mono hS3).trans ((hb5.mono (by omega)).trans (t5 _ (by omega) (by omega))))
end Go.Proofs.Ytffcpbgbhkbplaa.Print
namespace Go.Proofs.Ytffcpbgbhkbplaa.Print
open Go.RowKit Go.Proofs.YtffcpbgbhkbplaaW.PrintWords Go.Proofs.YtffcpbgbhkbplaaW.PrintLast Go.Proofs.YtffcpbgbhkbplaaW.PrintMore
attribute [local go_sem] max2_int min2_int max_two min_two max_three min_three max_four min_four
set_option linter.unusedVariables false
set_option linter.unusedSimpArgs false
def unlisted (n : Nat) (listed : Array Bool) : Nat := ((List.range n).filter fun j => !listed.getD j true).length
theorem unlisted_set {n i : Nat} {listed : Array Bool} (hi : i < n) (h : listed.getD i true = false) : unlisted n (listed.setIfInBounds i true) < unlisted n listed := by
  have hsz : i < listed.size := by
    rcases Nat.lt_or_ge i listed.size with h' | h'
    · exact h'
    · simp [Array.getD, Nat.not_lt.mpr h'] at h
  unfold unlisted
  have key : ∀ l : List Nat, (l.filter fun j => !(listed.setIfInBounds i true).getD j true).length + (l.filter fun j => decide (j = i)).length = (l.filter fun j => !listed.getD j true).length := by
    intro l
    induction l with
    | nil => rfl
    | cons x r ih =>
      by_cases hx : x = i
      · subst hx
        have e1 : (listed.setIfInBounds x true).getD x true = true := by simp [Array.getD, hsz]
        simp only [List.filter_cons, e1, h, decide_true, Bool.not_true, Bool.not_false, if_true, Bool.false_eq_true, if_false, List.length_cons]
        omega
      · have e1 : (listed.setIfInBounds i true).getD x true = listed.getD x true := getD_set_ne true (Ne.symm hx)
        have e2 : ((!(listed.setIfInBounds i true).getD x true) = true) = ((!listed.getD x true) = true) := by rw [e1]
        simp only [List.filter_cons, e2, decide_eq_false hx, Bool.false_eq_true, if_false]
        by_cases hh : (!listed.getD x true) = true
        · rw [if_pos hh, if_pos hh, List.length_cons, List.length_cons]; omega
        · rw [if_neg hh, if_neg hh]; exact ih
  have h1 := key (List.range n)
  have h2 : 0 < ((List.range n).filter fun j => decide (j = i)).length := by
    rw [List.length_pos_iff_exists_mem]
    exact ⟨i, by simp [hi]⟩
  omega
section
variable {P : Program} {ops : Array Oper} {Q : Exit → Act → World → Prop} {md : Region.Mode}
def backward (ops : Array Oper) : Bool := (List.range ops.size).all fun j => match ops[j]? with | none => true | some o => o.after.all fun e => decide (e.on < j)
theorem all_listed (hb : backward ops = true) {listed : Array Bool} (hr : Region.ready md ops listed = []) : ∀ j, j < ops.size → listed.getD j true = true := by
  intro j
  induction j using Nat.strongRecOn with
  | _ j ih =>
  intro hj
  rcases hl : listed.getD j true with _ | _
  · exfalso
    have hm : j ∈ Region.ready md ops listed := by
      rw [mem_ready]
      refine ⟨hl, ops[j], Array.getElem?_eq_getElem hj, fun e he _ => ?_⟩
      have h1 := List.all_eq_true.1 hb j (List.mem_range.2 hj)
      rw [Array.getElem?_eq_getElem hj] at h1
      have h2 := Array.all_eq_true'.1 h1 e he
      have h3 : e.on < j := of_decide_eq_true h2
      have h4 := ih e.on h3 (by omega)
      rcases Nat.lt_or_ge e.on listed.size with h' | h'
      · simp [Array.getD, h'] at h4 ⊢
        exact h4
      · have : listed.getD j true = true := by
          have : ¬ j < listed.size := by omega
          simp [Array.getD, this]
        rw [hl] at this
        cases this
    rw [hr] at hm
    cases hm
  · rfl
theorem wpAny_inv (hb : backward ops = true) (Inv : Array Bool → Act → World → Prop)
    (hend : ∀ listed a w, Inv listed a w → (∀ j, j < ops.size → listed.getD j true = true) → Q .normal a w)
    (step : ∀ listed a w i o, Inv listed a w → ops[i]? = some o → listed.getD i true = false → (∀ e ∈ o.after, Region.binds md e = true → listed.getD e.on false = true) →
      wpOp P ops Q i (fun a' w' => Inv (listed.setIfInBounds i true) a' w') a w) :
    ∀ (fuel : Nat) (listed : Array Bool) (a : Act) (w : World), unlisted ops.size listed ≤ fuel → Inv listed a w → wpAny P md ops Q fuel listed a w := by
  intro fuel
  induction fuel with
  | zero =>
    intro listed a w hu hI
    have hr : Region.ready md ops listed = [] := by
      rw [List.eq_nil_iff_forall_not_mem]
      intro j hj
      obtain ⟨h0, o, ho, _⟩ := mem_ready.1 hj
      have hlt := (Array.getElem?_eq_some_iff.1 ho).1
      have := unlisted_set hlt h0
      omega
    exact ⟨hr, hend _ _ _ hI (all_listed hb hr)⟩
  | succ fuel ih =>
    intro listed a w hu hI
    refine ⟨fun hr => hend _ _ _ hI (all_listed hb hr), fun i hi => ?_⟩
    obtain ⟨h0, o, ho, hall⟩ := mem_ready.1 hi
    have hlt := (Array.getElem?_eq_some_iff.1 ho).1
    have hu2 := unlisted_set hlt h0
    exact wpOp_mono (fun a' w' h' => ih _ a' w' (by omega) h') (step listed a w i o hI ho h0 hall)
end
end Go.Proofs.Ytffcpbgbhkbplaa.Print
namespace Go.Proofs.Ytffcpbgbhkbplaa.Print
open Go.RowKit Go.Proofs.YtffcpbgbhkbplaaW.PrintWords Go.Proofs.YtffcpbgbhkbplaaW.PrintLast Go.Proofs.YtffcpbgbhkbplaaW.PrintMore
attribute [local go_sem] max2_int min2_int max_two min_two max_three min_three max_four min_four
set_option linter.unusedVariables false
set_option linter.unusedSimpArgs false
open Go.RowKit
section
variable {α : Type} {d : Kd α} {e : Nat} {W W1 : World} {v : Value}
theorem flatten_get {sz : Nat} : ∀ (css : List (List Value)) (j : Nat) (c : List Value) (i : Nat), (∀ c ∈ css, c.length = sz) → css[j]? = some c → i < sz → css.flatten[j * sz + i]? = c[i]?
  | [], j, c, i, _, h, _ => by simp at h
  | x :: r, 0, c, i, hl, h, hi => by
    obtain rfl : x = c := by simpa using h
    have := hl x (by simp)
    simp only [List.flatten_cons, Nat.zero_mul, Nat.zero_add]
    rw [List.getElem?_append_left (by omega)]
  | x :: r, j + 1, c, i, hl, h, hi => by
    have h1 := hl x (by simp)
    have h2 : r[j]? = some c := by simpa using h
    simp only [List.flatten_cons]
    have e1 : (j + 1) * sz + i = x.length + (j * sz + i) := by rw [h1, Nat.succ_mul]; omega
    rw [e1, List.getElem?_append_right (by omega), Nat.add_sub_cancel_left]
    exact flatten_get r j c i (fun c hc => hl c (by simp [hc])) h2 hi
def Is (d : Kd α) (B : Nat) (W : World) (v : Value) (x : α) : Prop := ∃ cs : List Value, v = .agg cs.toArray ∧ Kd.FK d W (fun k => B ≤ k ∧ k < W.heap.size) x cs
def IsRow (d : Kd α) (B : Nat) (e : Nat) (W : World) (v : Value) (l : List α) : Prop :=
  ∃ (b : Nat) (css : List (List Value)), v = .slice (some ⟨b, 0, none⟩) l.length l.length ∧ W.heap[b]? = some (.cells css.flatten.toArray e (0, 0)) ∧ B ≤ b ∧ css.length = l.length ∧ l.length ≤ 9223372036854775807 ∧
    ∀ (j : Nat) (x : α) (c : List Value), l[j]? = some x → css[j]? = some c → Kd.FK d W (fun k => B ≤ k ∧ k < b) x c
variable {B : Nat}
theorem Is.below {x : α} (h : Is d B W v x) (hb : Below W.heap.size W W1) : Is d B W1 v x := by
  obtain ⟨cs, e1, h⟩ := h
  exact ⟨cs, e1, Kd.FK_mono (Kd.FK_below h hb) (fun k hk => ⟨hk.1, Nat.lt_of_lt_of_le hk.2 hb.size⟩)⟩
theorem IsRow.below {l : List α} (h : IsRow d B e W v l) (hb : Below W.heap.size W W1) : IsRow d B e W1 v l := by
  obtain ⟨b, css, e1, h1, h0, h2, h3, h4⟩ := h
  exact ⟨b, css, e1, (hb.block _ (blk_lt h1)).trans h1, h0, h2, h3, fun j x c hj hc => Kd.FK_below (h4 j x c hj hc) hb⟩
theorem IsRow.far {l : List α} (h : IsRow d B e W v l) {p : Addr} (hp : p.block < B) (u : Value) : IsRow d B e (W.setCell p u) v l := by
  obtain ⟨b, css, e1, h1, h0, h2, h3, h4⟩ := h
  exact ⟨b, css, e1, (Below.heap_setCell _ _ _ _ (by omega)).trans h1, h0, h2, h3, fun j x c hj hc => Kd.FK_step (h4 j x c hj hc) (fun k hk _ => Below.heap_setCell _ _ _ _ (by have := hk.1; omega))⟩
theorem IsRow.F {l : List α} {b : Nat} {css : List (List Value)} (h1 : W.heap[b]? = some (.cells css.flatten.toArray e (0, 0))) (h0 : B ≤ b) (h2 : css.length = l.length) (h3 : l.length ≤ 9223372036854775807)
    (h4 : ∀ (j : Nat) (x : α) (c : List Value), l[j]? = some x → css[j]? = some c → Kd.FK d W (fun k => B ≤ k ∧ k < b) x c) : Kd.F d W (fun k => B ≤ k ∧ k < W.heap.size) (some ⟨b, 0, none⟩) l.length l := by
  intro W' hW'
  have hb := blk_lt h1
  have hlen : ∀ c ∈ css, c.length = d.sz := by
    intro c hc
    obtain ⟨j, hj, e2⟩ := List.mem_iff_getElem.1 hc
    have hj2 : j < l.length := by omega
    exact d.K_len (Kd.FK_now (h4 j l[j] c (List.getElem?_eq_getElem hj2) (by rw [List.getElem?_eq_getElem hj, e2])))
  refine ⟨rfl, h3, fun _ => ⟨_, rfl, fun j x hj => ?_⟩⟩
  have hj2 : j < css.length := by have := (List.getElem?_eq_some_iff.1 hj).1; omega
  have hc := List.getElem?_eq_getElem hj2
  have hk := h4 j x _ hj hc
  refine ⟨css[j], hlen _ (List.getElem_mem hj2), hk W' (fun k hk' hk2 => hW' k ⟨hk'.1, hk2⟩ hk2), fun i u hu => ?_⟩
  have hi : i < d.sz := by have := (List.getElem?_eq_some_iff.1 hu).1; rw [hlen _ (List.getElem_mem hj2)] at this; exact this
  have hg := flatten_get css j _ i hlen hc hi
  have hB := (hW' b ⟨h0, hb⟩ hb).trans h1
  have : (⟨b, 0, none⟩ : Addr).add (j * d.sz + i) = ⟨b, j * d.sz + i, none⟩ := by unfold Addr.add; split <;> simp_all
  rw [this, blk_cell hB (j * d.sz + i)]
  simpa [hg] using hu
theorem IsRow.foot {l : List α} (h : IsRow d B e W v l) : ∃ A, v = .slice A l.length l.length ∧ Kd.F d W (fun k => B ≤ k ∧ k < W.heap.size) A l.length l := by
  obtain ⟨b, css, e1, h1, h0, h2, h3, h4⟩ := h
  exact ⟨_, e1, IsRow.F h1 h0 h2 h3 h4⟩
theorem IsRow.C {l : List α} (h : IsRow d B e W v l) : ∃ A, v = .slice A l.length l.length ∧ d.C W A l.length l := by
  obtain ⟨A, e1, h1⟩ := h.foot
  exact ⟨A, e1, Kd.F_now h1⟩
theorem IsRow.new {l : List α} (hB : B ≤ W.heap.size) (css : List (List Value)) {cs : Array Value} (hcs : cs = css.flatten.toArray) (h2 : css.length = l.length) (h3 : l.length ≤ 9223372036854775807) (h4 : ∀ (j : Nat) (x : α) (c : List Value), l[j]? = some x → css[j]? = some c → Kd.FK d W (fun k => B ≤ k ∧ k < W.heap.size) x c) :
    IsRow d B e (W.alloc (.cells cs e)) (.slice (some ⟨W.heap.size, 0, none⟩) l.length l.length) l := by
  subst hcs
  exact ⟨_, css, rfl, heap_alloc_new _ _, hB, h2, h3, fun j x c hj hc => Kd.FK_below (h4 j x c hj hc) (bal (Below.refl _ _) _)⟩
theorem F_zero (A : Option Addr) (ok : Nat → Prop) : Kd.F d W ok A ([] : List α).length [] := fun W' _ => ⟨rfl, by simp, fun h => by simp at h⟩
end
end Go.Proofs.Ytffcpbgbhkbplaa.Print
namespace Go.Proofs.Ytffcpbgbhkbplaa.Print
open Go.RowKit Go.Proofs.YtffcpbgbhkbplaaW.PrintWords Go.Proofs.YtffcpbgbhkbplaaW.PrintLast Go.Proofs.YtffcpbgbhkbplaaW.PrintMore
attribute [local go_sem] max2_int min2_int max_two min_two max_three min_three max_four min_four
set_option linter.unusedVariables false
set_option linter.unusedSimpArgs false
def r2_Const.f (a0 : Int) : Option (Int × Int × Int × (List (S96))) := some (0, a0, 0, ([] : List (S96)))
set_option maxHeartbeats 8000000 in
set_option maxRecDepth 100000 in
theorem r2_Const.calls (a0 : Int) (r1 : Int) (r2 : Int) (r3 : Int) (r4 : List (S96)) (w : World) (h : r2_Const.f a0 = some (r1, r2, r3, r4)) :
  Calls Try.prog 69 #[.int .i64 a0] w fun e w' => ∃ v3_ : Value, e = .returned (.agg #[.int .i64 r1, .int .i64 r2, .int .i64 r3, v3_]) ∧ Kd.R k96 96 w' w.heap.size (fun _ => True) v3_ r4 ∧ Below w.heap.size w w' := by
 have hu96 := Try.underlying96
 have HB := Aside0.mk (Below.refl w.heap.size w)
 have H : (some (0, a0, 0, ([] : List (S96)))) = some (r1, r2, r3, r4) := h
 clear h
 simp only [Option.some.injEq, Prod.mk.injEq] at H
 obtain ⟨rfl, rfl, rfl, rfl⟩ := H
 go_enter Try.func69, Try.ntmps69
 go_wp2_with (first | ((with_reducible refine gate_dst (N := 2) rfl ?_); refine box_event ?hg (N := 2) ?hd (cs := #[.int .i64 0, .int .i64 0, .int .i64 0, .slice none 0 0]) (t := 96) ?hr ?_; (case hd => rfl); (case hg => rfl); (case hr => first | (go_simp; done) | (go_simp; rfl)); intro gb248 hg w2 hbox hb; have n0_ := Aside0.mk (bsp (by repeat (first | (with_reducible first | exact HB.out | apply bal | apply bdN | apply bd1) | exact HB.out)) hb); have n1_ := Aside0.mk (hbox); have n2_ := Aside0.mk ((by rw [hg]; exact (bsz (by repeat (first | (with_reducible first | exact HB.out | apply bal | apply bdN | apply bd1) | exact HB.out))) : w.heap.size ≤ gb248)); have n3_ := Aside0.mk ((by rw [hg]; exact (bsz (by repeat (first | (with_reducible first | exact HB.out | apply bal | apply bdN | apply bd1) | exact HB.out))) : w.heap.size ≤ gb248)); clear HB; have HB := n0_; have BK248 := n1_; have GW248 := n2_; have GE248 := n3_; clear n0_ n1_ n2_ n3_; clear hb hbox hg; obtain ⟨hcz3_0, hcz3_1, hcz3_2, hcz3_3, hfz3_0, hfz3_1, hfz3_2, hfz3_3⟩ := cf4 BK248.out))
 refine bodyPost_ret (results_cell_row rfl _ _ gb248 96 #[.int .i64 0, .int .i64 a0, .int .i64 0, .slice none 0 0] (0, 0) _ rfl (by (with_reducible repeat (first | refine kdN ?_ _ | refine kdr ?_ | refine kal ?_ _)); refine blk_put (cs := #[.int .i64 0, .int .i64 a0, .int .i64 0, .slice none 0 0]) ?_ 3 _ rfl; (with_reducible repeat (first | refine kdN ?_ _ | refine kdr ?_ | refine kal ?_ _)); refine blk_put (cs := #[.int .i64 0, .int .i64 a0, .int .i64 0, .slice none 0 0]) ?_ 2 _ rfl; (with_reducible repeat (first | refine kdN ?_ _ | refine kdr ?_ | refine kal ?_ _)); refine blk_put (cs := #[.int .i64 0, .int .i64 0, .int .i64 0, .slice none 0 0]) ?_ 1 _ rfl; (with_reducible repeat (first | refine kdN ?_ _ | refine kdr ?_ | refine kal ?_ _)); refine blk_put (cs := #[.int .i64 0, .int .i64 0, .int .i64 0, .slice none 0 0]) ?_ 0 _ rfl; (with_reducible repeat (first | refine kdN ?_ _ | refine kdr ?_ | refine kal ?_ _)); exact BK248.out) Try.underlying96 rfl (by kernel_rfl)) rfl ?_
 exact ⟨_, by first | rfl | (simp [*] <;> rfl), by first | exact Kd.R_nil _ _ _ _ _ | exact Kd.N_nil _ _ _ _ _ | exact Kd.V_nil _ _ _ _ _ | exact Kd.Q_nil _ _ _ _ _ | exact Kd.S_nil _ _ _ _ _, by repeat (first | (with_reducible first | exact HB.out | apply bal | apply bdN | apply bd1 | refine bst ?_ GE248.out) | exact HB.out)⟩
def r2_Read.f (a0 : Int) (a1 : Int) : Option (Int × Int × Int × (List (S96))) := some (1, a0, a1, ([] : List (S96)))
set_option maxHeartbeats 8000000 in
set_option maxRecDepth 100000 in
theorem r2_Read.calls (a0 : Int) (a1 : Int) (r1 : Int) (r2 : Int) (r3 : Int) (r4 : List (S96)) (w : World) (h : r2_Read.f a0 a1 = some (r1, r2, r3, r4)) :
  Calls Try.prog 68 #[.int .i64 a0, .int .i64 a1] w fun e w' => ∃ v3_ : Value, e = .returned (.agg #[.int .i64 r1, .int .i64 r2, .int .i64 r3, v3_]) ∧ Kd.R k96 96 w' w.heap.size (fun _ => True) v3_ r4 ∧ Below w.heap.size w w' := by
 have hu96 := Try.underlying96
 have HB := Aside0.mk (Below.refl w.heap.size w)
 have H : (some (1, a0, a1, ([] : List (S96)))) = some (r1, r2, r3, r4) := h
 clear h
 simp only [Option.some.injEq, Prod.mk.injEq] at H
 obtain ⟨rfl, rfl, rfl, rfl⟩ := H
 go_enter Try.func68, Try.ntmps68
 go_wp2_with (first | ((with_reducible refine gate_dst (N := 4) rfl ?_); refine box_event ?hg (N := 4) ?hd (cs := #[.int .i64 0, .int .i64 0, .int .i64 0, .slice none 0 0]) (t := 96) ?hr ?_; (case hd => rfl); (case hg => rfl); (case hr => first | (go_simp; done) | (go_simp; rfl)); intro gb247 hg w3 hbox hb; have n0_ := Aside0.mk (bsp (by repeat (first | (with_reducible first | exact HB.out | apply bal | apply bdN | apply bd1) | exact HB.out)) hb); have n1_ := Aside0.mk (hbox); have n2_ := Aside0.mk ((by rw [hg]; exact (bsz (by repeat (first | (with_reducible first | exact HB.out | apply bal | apply bdN | apply bd1) | exact HB.out))) : w.heap.size ≤ gb247)); have n3_ := Aside0.mk ((by rw [hg]; exact (bsz (by repeat (first | (with_reducible first | exact HB.out | apply bal | apply bdN | apply bd1) | exact HB.out))) : w.heap.size ≤ gb247)); clear HB; have HB := n0_; have BK247 := n1_; have GW247 := n2_; have GE247 := n3_; clear n0_ n1_ n2_ n3_; clear hb hbox hg; obtain ⟨hcz4_0, hcz4_1, hcz4_2, hcz4_3, hfz4_0, hfz4_1, hfz4_2, hfz4_3⟩ := cf4 BK247.out))
 refine bodyPost_ret (results_cell_row rfl _ _ gb247 96 #[.int .i64 1, .int .i64 a0, .int .i64 a1, .slice none 0 0] (0, 0) _ rfl (by (with_reducible repeat (first | refine kdN ?_ _ | refine kdr ?_ | refine kal ?_ _)); refine blk_put (cs := #[.int .i64 1, .int .i64 a0, .int .i64 a1, .slice none 0 0]) ?_ 3 _ rfl; (with_reducible repeat (first | refine kdN ?_ _ | refine kdr ?_ | refine kal ?_ _)); refine blk_put (cs := #[.int .i64 1, .int .i64 a0, .int .i64 0, .slice none 0 0]) ?_ 2 _ rfl; (with_reducible repeat (first | refine kdN ?_ _ | refine kdr ?_ | refine kal ?_ _)); refine blk_put (cs := #[.int .i64 1, .int .i64 0, .int .i64 0, .slice none 0 0]) ?_ 1 _ rfl; (with_reducible repeat (first | refine kdN ?_ _ | refine kdr ?_ | refine kal ?_ _)); refine blk_put (cs := #[.int .i64 0, .int .i64 0, .int .i64 0, .slice none 0 0]) ?_ 0 _ rfl; (with_reducible repeat (first | refine kdN ?_ _ | refine kdr ?_ | refine kal ?_ _)); exact BK247.out) Try.underlying96 rfl (by kernel_rfl)) rfl ?_
 exact ⟨_, by first | rfl | (simp [*] <;> rfl), by first | exact Kd.R_nil _ _ _ _ _ | exact Kd.N_nil _ _ _ _ _ | exact Kd.V_nil _ _ _ _ _ | exact Kd.Q_nil _ _ _ _ _ | exact Kd.S_nil _ _ _ _ _, by repeat (first | (with_reducible first | exact HB.out | apply bal | apply bdN | apply bd1 | refine bst ?_ GE247.out) | exact HB.out)⟩
end Go.Proofs.Ytffcpbgbhkbplaa.Print
namespace Go.Proofs.Ytffcpbgbhkbplaa.Print
open Go.RowKit Go.Proofs.YtffcpbgbhkbplaaW.PrintWords Go.Proofs.YtffcpbgbhkbplaaW.PrintLast Go.Proofs.YtffcpbgbhkbplaaW.PrintMore
attribute [local go_sem] max2_int min2_int max_two min_two max_three min_three max_four min_four
set_option linter.unusedVariables false
set_option linter.unusedSimpArgs false
open Go.RowKit
inductive Shape
  | v (x : S82) | ex (x : S96) | s (x : S47) | rv (l : List S82) | re (l : List S96) | rs (l : List S47) | p (n : Int) (l : List S82) (m : List S47)
def Shape.at (B : Nat) (W : World) (v : Value) : Shape → Prop
  | .v x => Is k82 B W v x
  | .ex x => Is k96 B W v x
  | .s x => Is k47 B W v x
  | .rv l => IsRow k82 B 82 W v l
  | .re l => IsRow k96 B 96 W v l
  | .rs l => IsRow k47 B 47 W v l
  | .p n l m => ∃ v2 v3, v = .agg #[.int .i64 n, v2, v3] ∧ IsRow k82 B 82 W v2 l ∧ IsRow k47 B 47 W v3 m
theorem Shape.at.below {B : Nat} {W W1 : World} {v : Value} : ∀ {q : Shape}, q.at B W v → Below W.heap.size W W1 → q.at B W1 v
  | .v _, h, hb => Is.below h hb
  | .ex _, h, hb => Is.below h hb
  | .s _, h, hb => Is.below h hb
  | .rv _, h, hb => IsRow.below h hb
  | .re _, h, hb => IsRow.below h hb
  | .rs _, h, hb => IsRow.below h hb
  | .p _ _ _, ⟨v2, v3, e1, h2, h3⟩, hb => ⟨v2, v3, e1, IsRow.below h2 hb, IsRow.below h3 hb⟩
def one_c1 : S96 := ⟨0, 1, 0, []⟩
def one_c2 : S96 := ⟨0, 2, 0, []⟩
def one_r0 : S96 := ⟨1, 0, 0, []⟩
def one_r1 : S96 := ⟨1, 1, 0, []⟩
def one_x0 : S82 := ⟨{ data := #[104] }, 1, 1⟩
def one_x1 : S82 := ⟨{ data := #[108] }, 0, 1⟩
def one_s5 : S47 := ⟨0, 0, [one_c1], [], []⟩
def one_s10 : S47 := ⟨0, 1, [one_c2], [], []⟩
def one_s13 : S47 := ⟨3, 0, [one_r1], [], []⟩
def one_s17 : S47 := ⟨5, 0, [one_r1], [], []⟩
def one_s19 : S47 := ⟨1, 0, [one_r0], [one_s10, one_s13], [one_s17]⟩
def one_s22 : S47 := ⟨6, 0, [one_c1], [], []⟩
def one_vars : List S82 := [one_x0, one_x1]
def one_body : List S47 := [one_s5, one_s19, one_s22]
def oneShape : Nat → Shape
  | 0 => .v one_x0 | 1 => .v one_x1 | 2 => .rv one_vars | 3 => .ex one_c1 | 4 => .re [one_c1] | 5 => .s one_s5 | 6 => .ex one_r0 | 7 => .re [one_r0] | 8 => .ex one_c2 | 9 => .re [one_c2] | 10 => .s one_s10
  | 11 => .ex one_r1 | 12 => .re [one_r1] | 13 => .s one_s13 | 14 => .rs [one_s10, one_s13] | 15 => .ex one_r1 | 16 => .re [one_r1] | 17 => .s one_s17 | 18 => .rs [one_s17] | 19 => .s one_s19 | 20 => .ex one_c1
  | 21 => .re [one_c1] | 22 => .s one_s22 | 23 => .rs one_body | _ => .p 2 one_vars one_body
structure OneInv (w : World) (g1 g2 : Nat) (L : Array Bool) (a : Act) (W : World) : Prop where
  len : L.size = 26
  size : a.tmps.size = 30
  defers : a.defers = []
  t0 : a.tmps.getD 0 undef = .pointer (some ⟨w.heap.size, 0, none⟩)
  t1 : a.tmps.getD 1 undef = .pointer (some ⟨g1, 0, none⟩)
  t2 : a.tmps.getD 2 undef = .pointer (some ⟨g2, 0, none⟩)
  below : Below w.heap.size w W
  b1 : ∃ D d, W.heap[g1]? = some (.cells #[.int .i64 1, .int .i64 0, .int .i64 0, .slice D 0 d] 96 (0, 0))
  b2 : ∃ D d, W.heap[g2]? = some (.cells #[.int .i64 1, .int .i64 1, .int .i64 0, .slice D 0 d] 96 (0, 0))
  lt : w.heap.size + 1 ≤ W.heap.size
  all : L.getD 25 false = true → ∀ j, j < 25 → L.getD j true = true
  facts : L.getD 25 false = false → ∀ j, j < 25 → L.getD j false = true → (oneShape j).at (w.heap.size + 1) W (a.tmps.getD (5 + j) undef)
  done : L.getD 25 false = true → ∃ v2 v3, W.heap[w.heap.size]? = some (.cells #[.int .i64 2, v2, v3] 25 (0, 0)) ∧ IsRow k82 (w.heap.size + 1) 82 W v2 one_vars ∧ IsRow k47 (w.heap.size + 1) 47 W v3 one_body
  open_ : L.getD 25 false = false → W.heap[w.heap.size]? = some (.cells #[.int .i64 0, .slice none 0 0, .slice none 0 0] 25 (0, 0))
theorem getD_set {α : Type} (A : Array α) (i j : Nat) (x d : α) (hi : i < A.size) : (A.setIfInBounds i x).getD j d = if j = i then x else A.getD j d := by
  by_cases h : j = i
  · subst h
    simp [Array.getD, hi]
  · rw [if_neg h]
    simp only [Array.getD_eq_getD_getElem?, Array.getElem?_setIfInBounds]
    rw [if_neg (Ne.symm h)]
theorem size_lit (W : World) (o : Obj) : (W.alloc o).heap.size = W.heap.size + 1 := by simp
theorem OneInv.no {w W : World} {g1 g2 : Nat} {L : Array Bool} {a : Act} {i : Nat} (h : OneInv w g1 g2 L a W) (hi : i < 25) (hl : L.getD i true = false) : L.getD 25 false = false := by
  cases h25 : L.getD 25 false with
  | false => rfl
  | true =>
    have := h.all h25 i hi
    rw [hl] at this
    cases this
theorem OneInv.put {w W W1 : World} {g1 g2 : Nat} {L : Array Bool} {a : Act} {v : Value} {i d : Nat} (h : OneInv w g1 g2 L a W) (hi : i < 25) (hd : d = 5 + i) (hb : Below W.heap.size W W1) (hv : (oneShape i).at (w.heap.size + 1) W1 v) : OneInv w g1 g2 (L.setIfInBounds i true) (a.put (some d) v) W1 := by
  subst hd
  have hs : 5 + i < a.tmps.size := by rw [h.size]; omega
  have g : ∀ j, (a.put (some (5 + i)) v).tmps.getD j undef = if j = 5 + i then v else a.tmps.getD j undef := fun j => getD_set _ _ _ _ _ hs
  have l25 : (L.setIfInBounds i true).getD 25 false = L.getD 25 false := by
    simp only [Array.getD_eq_getD_getElem?, Array.getElem?_setIfInBounds]
    rw [if_neg (by omega)]
  refine ⟨by simp [h.len], by simp [Act.put, h.size], h.defers, ?_, ?_, ?_, h.below.trans (hb.mono h.below.size), ?_, ?_, Nat.le_trans h.lt hb.size, ?_, ?_, ?_, ?_⟩
  · rw [g, if_neg (by omega)]; exact h.t0
  · rw [g, if_neg (by omega)]; exact h.t1
  · rw [g, if_neg (by omega)]; exact h.t2
  · obtain ⟨D, d, e⟩ := h.b1
    exact ⟨D, d, (hb.block _ (blk_lt e)).trans e⟩
  · obtain ⟨D, d, e⟩ := h.b2
    exact ⟨D, d, (hb.block _ (blk_lt e)).trans e⟩
  · intro h25 j hj
    have h1 := h.all (l25 ▸ h25) j hj
    by_cases hji : j = i
    · subst hji
      rcases Nat.lt_or_ge j L.size with hs | hs
      · simp [Array.getD, hs]
      · simp [Array.getD, Nat.not_lt.mpr hs]
    · have : (L.setIfInBounds i true).getD j true = L.getD j true := by
        simp only [Array.getD_eq_getD_getElem?, Array.getElem?_setIfInBounds]
        rw [if_neg (by omega)]
      rw [this]
      exact h1
  · intro h25 j hj hl
    rw [g]
    by_cases hji : j = i
    · subst hji
      rw [if_pos rfl]
      exact hv
    · rw [if_neg (by omega)]
      refine (h.facts (l25 ▸ h25) j hj ?_).below hb
      have : (L.setIfInBounds i true).getD j false = L.getD j false := by
        simp only [Array.getD_eq_getD_getElem?, Array.getElem?_setIfInBounds]
        rw [if_neg (by omega)]
      rw [← this]
      exact hl
  · intro hl
    obtain ⟨v2, v3, e, r2, r3⟩ := h.done (l25 ▸ hl)
    exact ⟨v2, v3, (hb.block _ (blk_lt e)).trans e, r2.below hb, r3.below hb⟩
  · intro hl
    have e := h.open_ (l25 ▸ hl)
    exact (hb.block _ (blk_lt e)).trans e
theorem step_value {P : Program} {ops : Array Oper} {Q : Exit → Act → World → Prop} {i : Nat} {K : Act → World → Prop} {a : Act} {W W1 : World} {o : Oper} {v : Value} (ho : ops[i]? = some o) (hg : o.guard = none) (hrun : (execOp a.eval o).run P W = .ok (.value v) W1) (hK : K (a.put o.dst v) W1) : wpOp P ops Q i K a W := by
  unfold wpOp
  rw [ho]
  have hw : Region.wanted o (yielded ops a.tmps) = true := by simp [Region.wanted, hg]
  simp only [hw, if_true]
  left
  unfold Oper.wp
  rw [hrun]
  exact hK
theorem step_enter {P : Program} {ops : Array Oper} {Q : Exit → Act → World → Prop} {i : Nat} {K : Act → World → Prop} {a : Act} {W W1 : World} {o : Oper} {f : FuncId} {args : Array Value} (ho : ops[i]? = some o) (hg : o.guard = none) (hrun : (execOp a.eval o).run P W = .ok (.enter f args) W1)
    (hc : Calls P f args W1 fun e w' => ∃ v, e = .returned v ∧ K (a.put o.dst v) w') : wpOp P ops Q i K a W := by
  unfold wpOp
  rw [ho]
  have hw : Region.wanted o (yielded ops a.tmps) = true := by simp [Region.wanted, hg]
  simp only [hw, if_true]
  left
  unfold Oper.wp
  rw [hrun]
  refine hc.mono ?_
  rintro e w' ⟨v, rfl, hk⟩
  exact hk
theorem step_skip {P : Program} {ops : Array Oper} {Q : Exit → Act → World → Prop} {i : Nat} {K : Act → World → Prop} {a : Act} {W W1 : World} {o : Oper} (ho : ops[i]? = some o) (hg : o.guard = none) (hrun : (execOp a.eval o).run P W = .ok .skip W1) (hK : K (a.put o.dst undef) W1) : wpOp P ops Q i K a W := by
  unfold wpOp
  rw [ho]
  have hw : Region.wanted o (yielded ops a.tmps) = true := by simp [Region.wanted, hg]
  simp only [hw, if_true]
  left
  unfold Oper.wp
  rw [hrun]
  exact hK
theorem getD_tf {L : Array Bool} {i : Nat} (h : L.getD i true = false) : L.getD i false = false := by
  rcases Nat.lt_or_ge i L.size with hs | hs
  · simp [Array.getD, hs] at h ⊢
    exact h
  · simp [Array.getD, Nat.not_lt.mpr hs] at h
theorem getD_ft {L : Array Bool} {i : Nat} (h : L.getD i false = true) : L.getD i true = true := by
  rcases Nat.lt_or_ge i L.size with hs | hs
  · simp [Array.getD, hs] at h ⊢
    exact h
  · simp [Array.getD, Nat.not_lt.mpr hs] at h
theorem lit_below {n B i : Nat} (W : World) (u : Value) (h : n ≤ B) : Below n W (W.setCell ⟨B, i, none⟩ u) := ⟨rfl, rfl, rfl, by simp [World.setCell], fun k hk => Below.heap_setCell _ _ _ _ (by intro e; simp at e; omega)⟩
theorem OneInv.close {w W : World} {g1 g2 : Nat} {L : Array Bool} {a : Act} {v2 v3 : Value} (h : OneInv w g1 g2 L a W) (h1 : w.heap.size < g1) (h2 : w.heap.size < g2) (hl : L.getD 25 true = false) (hA : ∀ j, j < 25 → L.getD j false = true)
    (r2 : IsRow k82 (w.heap.size + 1) 82 W v2 one_vars) (r3 : IsRow k47 (w.heap.size + 1) 47 W v3 one_body) :
    OneInv w g1 g2 (L.setIfInBounds 25 true) a (((W.setCell ⟨w.heap.size, 0, none⟩ (.int .i64 2)).setCell ⟨w.heap.size, 1, none⟩ v2).setCell ⟨w.heap.size, 2, none⟩ v3) := by
  have hO := h.open_ (getD_tf hl)
  have k0 := blk_put hO 0 (.int .i64 2) (cs' := #[.int .i64 2, .slice none 0 0, .slice none 0 0]) rfl
  have k1 := blk_put k0 1 v2 (cs' := #[.int .i64 2, v2, .slice none 0 0]) rfl
  have k2 := blk_put k1 2 v3 (cs' := #[.int .i64 2, v2, v3]) rfl
  have hs : 25 < L.size := by
    rcases Nat.lt_or_ge 25 L.size with hs | hs
    · exact hs
    · simp [Array.getD, Nat.not_lt.mpr hs] at hl
  have t25 : (L.setIfInBounds 25 true).getD 25 false = true := by simp [Array.getD, hs]
  have far : ∀ k, k ≠ w.heap.size → (((W.setCell ⟨w.heap.size, 0, none⟩ (.int .i64 2)).setCell ⟨w.heap.size, 1, none⟩ v2).setCell ⟨w.heap.size, 2, none⟩ v3).heap[k]? = W.heap[k]? := fun k hk => by
    rw [Below.heap_setCell _ _ _ _ hk, Below.heap_setCell _ _ _ _ hk, Below.heap_setCell _ _ _ _ hk]
  have hb : Below w.heap.size W (((W.setCell ⟨w.heap.size, 0, none⟩ (.int .i64 2)).setCell ⟨w.heap.size, 1, none⟩ v2).setCell ⟨w.heap.size, 2, none⟩ v3) :=
    ((lit_below W _ (Nat.le_refl _)).trans (lit_below _ _ (Nat.le_refl _))).trans (lit_below _ _ (Nat.le_refl _))
  refine ⟨by simp [h.len], h.size, h.defers, h.t0, h.t1, h.t2, h.below.trans hb, ?_, ?_, Nat.le_trans h.lt hb.size, ?_, ?_, ?_, ?_⟩
  · obtain ⟨D, d, e⟩ := h.b1
    exact ⟨D, d, (far _ (by omega)).trans e⟩
  · obtain ⟨D, d, e⟩ := h.b2
    exact ⟨D, d, (far _ (by omega)).trans e⟩
  · intro _ j hj
    have : (L.setIfInBounds 25 true).getD j true = L.getD j true := by
      simp only [Array.getD_eq_getD_getElem?, Array.getElem?_setIfInBounds]
      rw [if_neg (by omega)]
    rw [this]
    exact getD_ft (hA j hj)
  · intro hn
    rw [t25] at hn
    cases hn
  · intro _
    exact ⟨v2, v3, k2, ((r2.far (Nat.lt_succ_self _) _).far (Nat.lt_succ_self _) _).far (Nat.lt_succ_self _) _, ((r3.far (Nat.lt_succ_self _) _).far (Nat.lt_succ_self _) _).far (Nat.lt_succ_self _) _⟩
  · intro hn
    rw [t25] at hn
    cases hn
theorem Is.openV {B : Nat} {W : World} {v : Value} {x : S82} (h : Is k82 B W v x) : v = .agg #[.string x.f0, .int .i64 x.f1, .int .i64 x.f2] := by
  obtain ⟨cs, rfl, hk⟩ := h
  obtain rfl := k82_open (Kd.FK_now hk)
  rfl
theorem Is.openE {B : Nat} {W : World} {v : Value} {x : S96} (h : Is k96 B W v x) : ∃ A c, v = .agg #[.int .i64 x.f0, .int .i64 x.f1, .int .i64 x.f2, .slice A x.f3.length c] ∧ x.f3.length ≤ c ∧ Kd.F k96 W (fun k => B ≤ k ∧ k < W.heap.size) A x.f3.length x.f3 := by
  obtain ⟨cs, rfl, hk⟩ := h
  obtain ⟨A3, c3, rfl, h1, h2⟩ := k96_openF hk
  exact ⟨A3, c3, rfl, h1, h2⟩
theorem Is.openS {B : Nat} {W : World} {v : Value} {x : S47} (h : Is k47 B W v x) : ∃ A2 c2 A3 c3 A4 c4, v = .agg #[.int .i64 x.f0, .int .i64 x.f1, .slice A2 x.f2.length c2, .slice A3 x.f3.length c3, .slice A4 x.f4.length c4] ∧ Kd.FK k47 W (fun k => B ≤ k ∧ k < W.heap.size) x [.int .i64 x.f0, .int .i64 x.f1, .slice A2 x.f2.length c2, .slice A3 x.f3.length c3, .slice A4 x.f4.length c4] := by
  obtain ⟨cs, rfl, hk⟩ := h
  obtain ⟨A2, c2, A3, c3, A4, c4, rfl, _⟩ := k47_openF hk
  exact ⟨A2, c2, A3, c3, A4, c4, rfl, hk⟩
theorem each1 {α : Type} {R : α → List Value → Prop} {x0 : α} {c0 : List Value} (h0 : R x0 c0) : ∀ (j : Nat) (x : α) (c : List Value), [x0][j]? = some x → [c0][j]? = some c → R x c
  | 0, x, c, h1, h2 => by cases h1; cases h2; exact h0
  | j + 1, x, c, h1, h2 => by simp at h1
theorem each2 {α : Type} {R : α → List Value → Prop} {x0 x1 : α} {c0 c1 : List Value} (h0 : R x0 c0) (h1' : R x1 c1) : ∀ (j : Nat) (x : α) (c : List Value), [x0, x1][j]? = some x → [c0, c1][j]? = some c → R x c
  | 0, x, c, h1, h2 => by cases h1; cases h2; exact h0
  | j + 1, x, c, h1, h2 => each1 h1' j x c (by simpa using h1) (by simpa using h2)
theorem each3 {α : Type} {R : α → List Value → Prop} {x0 x1 x2 : α} {c0 c1 c2 : List Value} (h0 : R x0 c0) (h1' : R x1 c1) (h2' : R x2 c2) : ∀ (j : Nat) (x : α) (c : List Value), [x0, x1, x2][j]? = some x → [c0, c1, c2][j]? = some c → R x c
  | 0, x, c, h1, h2 => by cases h1; cases h2; exact h0
  | j + 1, x, c, h1, h2 => each2 h1' h2' j x c (by simpa using h1) (by simpa using h2)
theorem tmp_q {a : Act} {n : Nat} {v : Value} (h : a.tmps.getD n undef = v) : a.tmps[n]?.getD undef = v := by simpa using h
set_option maxHeartbeats 8000000 in
set_option maxRecDepth 100000 in
theorem w3_one.lit (w : World) : Calls Try.prog 44 #[] w fun e w' => ∃ v2 v3 : Value, e = .returned (.agg #[.int .i64 2, v2, v3]) ∧ IsRow k82 (w.heap.size + 1) 82 w' v2 one_vars ∧ IsRow k47 (w.heap.size + 1) 47 w' v3 one_body ∧ Below w.heap.size w w' := by
  have huP := Try.underlying25
  have huS := Try.underlying47
  have huV := Try.underlying82
  have huE := Try.underlying96
  refine calls_of_wp Try.func44 rfl ?_
  simp only [Try.ntmps44, List.size_toArray, List.length_cons, List.length_nil, Nat.reduceAdd, Nat.reduceSub, Array.replicate_succ, Array.replicate_zero, List.push_toArray, List.append_toArray, List.nil_append, List.cons_append]
  go_wp2_with (first | (go_at_call 68; (with_reducible refine (r2_Read.calls 0 0 _ _ _ _ _ rfl).mono ?_); rintro e w1 ⟨v1, rfl, o1, hb1⟩; obtain ⟨D1, d1, ev⟩ := Kd.R_slice o1; subst ev) | (go_at_call 68; (with_reducible refine (r2_Read.calls 1 0 _ _ _ _ _ rfl).mono ?_); rintro e w2 ⟨v2, rfl, o2, hb2⟩; obtain ⟨D2, d2, ev⟩ := Kd.R_slice o2; subst ev))
  have hx1 := hb1.size
  have hx2 := hb2.size
  simp only [size_lit] at hx1
  have hg : w.heap.size < w2.heap.size := by omega
  refine wp_region_any (by kernel_rfl) ?_
  refine wpAny_inv (by kernel_rfl) (OneInv w w2.heap.size (w2.heap.size + 1)) ?hend ?step _ _ _ _ (by decide) ?start
  case start =>
    have z0 : (w.alloc (.cells #[.int .i64 0, .slice none 0 0, .slice none 0 0] 25)).heap[w.heap.size]? = some (.cells #[.int .i64 0, .slice none 0 0, .slice none 0 0] 25 (0, 0)) := heap_alloc_new _ _
    have z1 := (hb1.block _ (blk_lt z0)).trans z0
    have z2 := (hb2.block _ (blk_lt z1)).trans z1
    have bw : Below w.heap.size w w2 := (bal (Below.refl _ _) _).trans ((hb1.mono (by simp only [size_lit]; omega)).trans (hb2.mono (by omega)))
    refine ⟨rfl, rfl, rfl, rfl, rfl, rfl, ?_, ⟨D1, d1, ?_⟩, ⟨D2, d2, ?_⟩, ?_, ?_, ?_, ?_, ?_⟩
    · exact bd1 (bal (bal bw _) _)
    · exact kdr (kal (heap_alloc_new _ _) _)
    · refine kdr ?_
      have := heap_alloc_new (w2.alloc (.cells #[.int .i64 1, .int .i64 0, .int .i64 0, .slice D1 0 d1] 96)) (.cells #[.int .i64 1, .int .i64 1, .int .i64 0, .slice D2 0 d2] 96)
      simpa using this
    · show w.heap.size + 1 ≤ ((w2.alloc _).alloc _).heap.size
      simp only [size_lit]
      omega
    · intro h
      exact absurd h (by decide)
    · intro _ j hj h
      refine absurd h ?_
      match j, hj with
      | j, hj => simp [Array.getD]
    · intro h
      exact absurd h (by decide)
    · intro _
      exact kdr (kal (kal z2 _) _)
  case hend =>
    intro L a W hI hL
    obtain ⟨v2, v3, hk, r2, r3⟩ := hI.done (by
      have h1 := hL 25 (by decide)
      cases h2 : L.getD 25 false with
      | true => rfl
      | false => simp [Array.getD, hI.len] at h1 h2; rw [h1] at h2; cases h2)
    go_wp2
    exact bodyPost_ret (results_cell_row rfl _ _ w.heap.size 25 #[.int .i64 2, v2, v3] (0, 0) _ hI.t0 hk huP rfl rfl) hI.defers ⟨v2, v3, rfl, r2, r3, hI.below⟩
  case step =>
    intro L a W i o hI ho hl hall
    have hi : i < 26 := (Array.getElem?_eq_some_iff.1 ho).1
    match i, hi with
    | 0, _ =>
      cases ho
      have hno : L.getD 25 false = false := hI.no (by omega) hl
      refine step_value (v := .agg #[.string one_x0.f0, .int .i64 one_x0.f1, .int .i64 one_x0.f2]) (W1 := W) rfl rfl (by go_simp; exact ⟨rfl, rfl, rfl⟩) ?_
      exact hI.put (i := 0) (by omega) rfl (Below.refl _ _) ⟨_, rfl, k82_mkF _ _ _⟩
    | 1, _ =>
      cases ho
      have hno : L.getD 25 false = false := hI.no (by omega) hl
      refine step_value (v := .agg #[.string one_x1.f0, .int .i64 one_x1.f1, .int .i64 one_x1.f2]) (W1 := W) rfl rfl (by go_simp; exact ⟨rfl, rfl, rfl⟩) ?_
      exact hI.put (i := 1) (by omega) rfl (Below.refl _ _) ⟨_, rfl, k82_mkF _ _ _⟩
    | 2, _ =>
      cases ho
      have hno : L.getD 25 false = false := hI.no (by omega) hl
      have q5 := tmp_q (Is.openV (hI.facts hno 0 (by omega) (hall ⟨0, .data⟩ (by simp) rfl)))
      have q6 := tmp_q (Is.openV (hI.facts hno 1 (by omega) (hall ⟨1, .data⟩ (by simp) rfl)))
      refine step_value (v := .slice (some ⟨W.heap.size, 0, none⟩) 2 2) (W1 := W.alloc (.cells #[.string one_x0.f0, .int .i64 one_x0.f1, .int .i64 one_x0.f2, .string one_x1.f0, .int .i64 one_x1.f1, .int .i64 one_x1.f2] 82)) rfl rfl (by go_simp; done) ?_
      exact hI.put (i := 2) (by omega) rfl (bal (Below.refl _ _) _) (IsRow.new hI.lt (l := one_vars) [[.string one_x0.f0, .int .i64 one_x0.f1, .int .i64 one_x0.f2], [.string one_x1.f0, .int .i64 one_x1.f1, .int .i64 one_x1.f2]] rfl rfl (by decide) (each2 (k82_mkF _ _ _) (k82_mkF _ _ _)))
    | 3, _ =>
      cases ho
      have hno : L.getD 25 false = false := hI.no (by omega) hl
      refine step_enter (f := 69) (args := #[.int .i64 1]) (W1 := W) rfl rfl (by go_simp; done) ?_
      refine (r2_Const.calls 1 _ _ _ _ W rfl).mono ?_
      rintro e w' ⟨v3, rfl, o3, hb⟩
      obtain ⟨D3, d3, rfl⟩ := Kd.R_slice o3
      exact ⟨_, rfl, hI.put (i := 3) (by omega) rfl hb ⟨[.int .i64 0, .int .i64 1, .int .i64 0, .slice D3 0 d3], rfl, k96_mkF _ _ one_c1 (Nat.zero_le _) (F_zero _ _)⟩⟩
    | 4, _ =>
      cases ho
      have hno : L.getD 25 false = false := hI.no (by omega) hl
      obtain ⟨A8, z8, q8, l8, f8⟩ := Is.openE (hI.facts hno 3 (by omega) (hall ⟨3, .data⟩ (by simp) rfl))
      have q8' := tmp_q q8
      refine step_value (v := .slice (some ⟨W.heap.size, 0, none⟩) 1 1) (W1 := W.alloc (.cells #[.int .i64 one_c1.f0, .int .i64 one_c1.f1, .int .i64 one_c1.f2, .slice A8 one_c1.f3.length z8] 96)) rfl rfl (by go_simp; done) ?_
      exact hI.put (i := 4) (by omega) rfl (bal (Below.refl _ _) _) (IsRow.new hI.lt (l := [one_c1]) [[.int .i64 one_c1.f0, .int .i64 one_c1.f1, .int .i64 one_c1.f2, .slice A8 one_c1.f3.length z8]] rfl rfl (by decide) (each1 (k96_mkF _ _ _ l8 f8)))
    | 5, _ =>
      cases ho
      have hno : L.getD 25 false = false := hI.no (by omega) hl
      obtain ⟨A9, q9, f9⟩ := IsRow.foot (hI.facts hno 4 (by omega) (hall ⟨4, .data⟩ (by simp) rfl))
      have q9' := tmp_q q9
      refine step_value (v := .agg #[.int .i64 0, .int .i64 0, .slice A9 1 1, .slice none 0 0, .slice none 0 0]) (W1 := W) rfl rfl (by go_simp; done) ?_
      exact hI.put (i := 5) (by omega) rfl (Below.refl _ _) ⟨[.int .i64 0, .int .i64 0, .slice A9 1 1, .slice none 0 0, .slice none 0 0], rfl, k47_mkF _ _ one_s5 (A2 := A9) (c2 := 1) (Nat.le_refl _) f9 (A3 := none) (c3 := 0) (Nat.le_refl _) (F_zero _ _) (A4 := none) (c4 := 0) (Nat.le_refl _) (F_zero _ _)⟩
    | 6, _ =>
      cases ho
      have hno : L.getD 25 false = false := hI.no (by omega) hl
      obtain ⟨D3, d3, hb⟩ := hI.b1
      have q0 := tmp_q hI.t1
      have c0 : W.cell? ⟨w2.heap.size, 0, none⟩ = some (.int .i64 1) := (blk_cell hb 0).trans rfl
      have c1 : W.cell? ⟨w2.heap.size, 1, none⟩ = some (.int .i64 0) := (blk_cell hb 1).trans rfl
      have c2 : W.cell? ⟨w2.heap.size, 2, none⟩ = some (.int .i64 0) := (blk_cell hb 2).trans rfl
      have c3 : W.cell? ⟨w2.heap.size, 3, none⟩ = some (.slice D3 0 d3) := (blk_cell hb 3).trans rfl
      refine step_value (v := .agg #[.int .i64 1, .int .i64 0, .int .i64 0, .slice D3 0 d3]) (W1 := W) rfl rfl (by go_simp; done) ?_
      exact hI.put (i := 6) (by omega) rfl (Below.refl _ _) ⟨[.int .i64 1, .int .i64 0, .int .i64 0, .slice D3 0 d3], rfl, k96_mkF _ _ one_r0 (Nat.zero_le _) (F_zero _ _)⟩
    | 7, _ =>
      cases ho
      have hno : L.getD 25 false = false := hI.no (by omega) hl
      obtain ⟨A8, z8, q8, l8, f8⟩ := Is.openE (hI.facts hno 6 (by omega) (hall ⟨6, .data⟩ (by simp) rfl))
      have q8' := tmp_q q8
      refine step_value (v := .slice (some ⟨W.heap.size, 0, none⟩) 1 1) (W1 := W.alloc (.cells #[.int .i64 one_r0.f0, .int .i64 one_r0.f1, .int .i64 one_r0.f2, .slice A8 one_r0.f3.length z8] 96)) rfl rfl (by go_simp; done) ?_
      exact hI.put (i := 7) (by omega) rfl (bal (Below.refl _ _) _) (IsRow.new hI.lt (l := [one_r0]) [[.int .i64 one_r0.f0, .int .i64 one_r0.f1, .int .i64 one_r0.f2, .slice A8 one_r0.f3.length z8]] rfl rfl (by decide) (each1 (k96_mkF _ _ _ l8 f8)))
    | 8, _ =>
      cases ho
      have hno : L.getD 25 false = false := hI.no (by omega) hl
      refine step_enter (f := 69) (args := #[.int .i64 2]) (W1 := W) rfl rfl (by go_simp; done) ?_
      refine (r2_Const.calls 2 _ _ _ _ W rfl).mono ?_
      rintro e w' ⟨v3, rfl, o3, hb⟩
      obtain ⟨D3, d3, rfl⟩ := Kd.R_slice o3
      exact ⟨_, rfl, hI.put (i := 8) (by omega) rfl hb ⟨[.int .i64 0, .int .i64 2, .int .i64 0, .slice D3 0 d3], rfl, k96_mkF _ _ one_c2 (Nat.zero_le _) (F_zero _ _)⟩⟩
    | 9, _ =>
      cases ho
      have hno : L.getD 25 false = false := hI.no (by omega) hl
      obtain ⟨A8, z8, q8, l8, f8⟩ := Is.openE (hI.facts hno 8 (by omega) (hall ⟨8, .data⟩ (by simp) rfl))
      have q8' := tmp_q q8
      refine step_value (v := .slice (some ⟨W.heap.size, 0, none⟩) 1 1) (W1 := W.alloc (.cells #[.int .i64 one_c2.f0, .int .i64 one_c2.f1, .int .i64 one_c2.f2, .slice A8 one_c2.f3.length z8] 96)) rfl rfl (by go_simp; done) ?_
      exact hI.put (i := 9) (by omega) rfl (bal (Below.refl _ _) _) (IsRow.new hI.lt (l := [one_c2]) [[.int .i64 one_c2.f0, .int .i64 one_c2.f1, .int .i64 one_c2.f2, .slice A8 one_c2.f3.length z8]] rfl rfl (by decide) (each1 (k96_mkF _ _ _ l8 f8)))
    | 10, _ =>
      cases ho
      have hno : L.getD 25 false = false := hI.no (by omega) hl
      obtain ⟨A9, q9, f9⟩ := IsRow.foot (hI.facts hno 9 (by omega) (hall ⟨9, .data⟩ (by simp) rfl))
      have q9' := tmp_q q9
      refine step_value (v := .agg #[.int .i64 0, .int .i64 1, .slice A9 1 1, .slice none 0 0, .slice none 0 0]) (W1 := W) rfl rfl (by go_simp; done) ?_
      exact hI.put (i := 10) (by omega) rfl (Below.refl _ _) ⟨[.int .i64 0, .int .i64 1, .slice A9 1 1, .slice none 0 0, .slice none 0 0], rfl, k47_mkF _ _ one_s10 (A2 := A9) (c2 := 1) (Nat.le_refl _) f9 (A3 := none) (c3 := 0) (Nat.le_refl _) (F_zero _ _) (A4 := none) (c4 := 0) (Nat.le_refl _) (F_zero _ _)⟩
    | 11, _ =>
      cases ho
      have hno : L.getD 25 false = false := hI.no (by omega) hl
      obtain ⟨D3, d3, hb⟩ := hI.b2
      have q0 := tmp_q hI.t2
      have c0 : W.cell? ⟨w2.heap.size + 1, 0, none⟩ = some (.int .i64 1) := (blk_cell hb 0).trans rfl
      have c1 : W.cell? ⟨w2.heap.size + 1, 1, none⟩ = some (.int .i64 1) := (blk_cell hb 1).trans rfl
      have c2 : W.cell? ⟨w2.heap.size + 1, 2, none⟩ = some (.int .i64 0) := (blk_cell hb 2).trans rfl
      have c3 : W.cell? ⟨w2.heap.size + 1, 3, none⟩ = some (.slice D3 0 d3) := (blk_cell hb 3).trans rfl
      refine step_value (v := .agg #[.int .i64 1, .int .i64 1, .int .i64 0, .slice D3 0 d3]) (W1 := W) rfl rfl (by go_simp; done) ?_
      exact hI.put (i := 11) (by omega) rfl (Below.refl _ _) ⟨[.int .i64 1, .int .i64 1, .int .i64 0, .slice D3 0 d3], rfl, k96_mkF _ _ one_r1 (Nat.zero_le _) (F_zero _ _)⟩
    | 12, _ =>
      cases ho
      have hno : L.getD 25 false = false := hI.no (by omega) hl
      obtain ⟨A8, z8, q8, l8, f8⟩ := Is.openE (hI.facts hno 11 (by omega) (hall ⟨11, .data⟩ (by simp) rfl))
      have q8' := tmp_q q8
      refine step_value (v := .slice (some ⟨W.heap.size, 0, none⟩) 1 1) (W1 := W.alloc (.cells #[.int .i64 one_r1.f0, .int .i64 one_r1.f1, .int .i64 one_r1.f2, .slice A8 one_r1.f3.length z8] 96)) rfl rfl (by go_simp; done) ?_
      exact hI.put (i := 12) (by omega) rfl (bal (Below.refl _ _) _) (IsRow.new hI.lt (l := [one_r1]) [[.int .i64 one_r1.f0, .int .i64 one_r1.f1, .int .i64 one_r1.f2, .slice A8 one_r1.f3.length z8]] rfl rfl (by decide) (each1 (k96_mkF _ _ _ l8 f8)))
    | 13, _ =>
      cases ho
      have hno : L.getD 25 false = false := hI.no (by omega) hl
      obtain ⟨A9, q9, f9⟩ := IsRow.foot (hI.facts hno 12 (by omega) (hall ⟨12, .data⟩ (by simp) rfl))
      have q9' := tmp_q q9
      refine step_value (v := .agg #[.int .i64 3, .int .i64 0, .slice A9 1 1, .slice none 0 0, .slice none 0 0]) (W1 := W) rfl rfl (by go_simp; done) ?_
      exact hI.put (i := 13) (by omega) rfl (Below.refl _ _) ⟨[.int .i64 3, .int .i64 0, .slice A9 1 1, .slice none 0 0, .slice none 0 0], rfl, k47_mkF _ _ one_s13 (A2 := A9) (c2 := 1) (Nat.le_refl _) f9 (A3 := none) (c3 := 0) (Nat.le_refl _) (F_zero _ _) (A4 := none) (c4 := 0) (Nat.le_refl _) (F_zero _ _)⟩
    | 14, _ =>
      cases ho
      have hno : L.getD 25 false = false := hI.no (by omega) hl
      obtain ⟨A02, z02, A03, z03, A04, z04, q0, f0⟩ := Is.openS (hI.facts hno 10 (by omega) (hall ⟨10, .data⟩ (by simp) rfl))
      have q0' := tmp_q q0
      obtain ⟨A12, z12, A13, z13, A14, z14, q1, f1⟩ := Is.openS (hI.facts hno 13 (by omega) (hall ⟨13, .data⟩ (by simp) rfl))
      have q1' := tmp_q q1
      refine step_value (v := .slice (some ⟨W.heap.size, 0, none⟩) 2 2) (W1 := W.alloc (.cells #[.int .i64 one_s10.f0, .int .i64 one_s10.f1, .slice A02 one_s10.f2.length z02, .slice A03 one_s10.f3.length z03, .slice A04 one_s10.f4.length z04, .int .i64 one_s13.f0, .int .i64 one_s13.f1, .slice A12 one_s13.f2.length z12, .slice A13 one_s13.f3.length z13, .slice A14 one_s13.f4.length z14] 47)) rfl rfl (by go_simp; done) ?_
      exact hI.put (i := 14) (by omega) rfl (bal (Below.refl _ _) _) (IsRow.new hI.lt (l := [one_s10, one_s13]) [[.int .i64 one_s10.f0, .int .i64 one_s10.f1, .slice A02 one_s10.f2.length z02, .slice A03 one_s10.f3.length z03, .slice A04 one_s10.f4.length z04], [.int .i64 one_s13.f0, .int .i64 one_s13.f1, .slice A12 one_s13.f2.length z12, .slice A13 one_s13.f3.length z13, .slice A14 one_s13.f4.length z14]] rfl rfl (by decide) (each2 f0 f1))
    | 15, _ =>
      cases ho
      have hno : L.getD 25 false = false := hI.no (by omega) hl
      obtain ⟨D3, d3, hb⟩ := hI.b2
      have q0 := tmp_q hI.t2
      have c0 : W.cell? ⟨w2.heap.size + 1, 0, none⟩ = some (.int .i64 1) := (blk_cell hb 0).trans rfl
      have c1 : W.cell? ⟨w2.heap.size + 1, 1, none⟩ = some (.int .i64 1) := (blk_cell hb 1).trans rfl
      have c2 : W.cell? ⟨w2.heap.size + 1, 2, none⟩ = some (.int .i64 0) := (blk_cell hb 2).trans rfl
      have c3 : W.cell? ⟨w2.heap.size + 1, 3, none⟩ = some (.slice D3 0 d3) := (blk_cell hb 3).trans rfl
      refine step_value (v := .agg #[.int .i64 1, .int .i64 1, .int .i64 0, .slice D3 0 d3]) (W1 := W) rfl rfl (by go_simp; done) ?_
      exact hI.put (i := 15) (by omega) rfl (Below.refl _ _) ⟨[.int .i64 1, .int .i64 1, .int .i64 0, .slice D3 0 d3], rfl, k96_mkF _ _ one_r1 (Nat.zero_le _) (F_zero _ _)⟩
    | 16, _ =>
      cases ho
      have hno : L.getD 25 false = false := hI.no (by omega) hl
      obtain ⟨A8, z8, q8, l8, f8⟩ := Is.openE (hI.facts hno 15 (by omega) (hall ⟨15, .data⟩ (by simp) rfl))
      have q8' := tmp_q q8
      refine step_value (v := .slice (some ⟨W.heap.size, 0, none⟩) 1 1) (W1 := W.alloc (.cells #[.int .i64 one_r1.f0, .int .i64 one_r1.f1, .int .i64 one_r1.f2, .slice A8 one_r1.f3.length z8] 96)) rfl rfl (by go_simp; done) ?_
      exact hI.put (i := 16) (by omega) rfl (bal (Below.refl _ _) _) (IsRow.new hI.lt (l := [one_r1]) [[.int .i64 one_r1.f0, .int .i64 one_r1.f1, .int .i64 one_r1.f2, .slice A8 one_r1.f3.length z8]] rfl rfl (by decide) (each1 (k96_mkF _ _ _ l8 f8)))
    | 17, _ =>
      cases ho
      have hno : L.getD 25 false = false := hI.no (by omega) hl
      obtain ⟨A9, q9, f9⟩ := IsRow.foot (hI.facts hno 16 (by omega) (hall ⟨16, .data⟩ (by simp) rfl))
      have q9' := tmp_q q9
      refine step_value (v := .agg #[.int .i64 5, .int .i64 0, .slice A9 1 1, .slice none 0 0, .slice none 0 0]) (W1 := W) rfl rfl (by go_simp; done) ?_
      exact hI.put (i := 17) (by omega) rfl (Below.refl _ _) ⟨[.int .i64 5, .int .i64 0, .slice A9 1 1, .slice none 0 0, .slice none 0 0], rfl, k47_mkF _ _ one_s17 (A2 := A9) (c2 := 1) (Nat.le_refl _) f9 (A3 := none) (c3 := 0) (Nat.le_refl _) (F_zero _ _) (A4 := none) (c4 := 0) (Nat.le_refl _) (F_zero _ _)⟩
    | 18, _ =>
      cases ho
      have hno : L.getD 25 false = false := hI.no (by omega) hl
      obtain ⟨A02, z02, A03, z03, A04, z04, q0, f0⟩ := Is.openS (hI.facts hno 17 (by omega) (hall ⟨17, .data⟩ (by simp) rfl))
      have q0' := tmp_q q0
      refine step_value (v := .slice (some ⟨W.heap.size, 0, none⟩) 1 1) (W1 := W.alloc (.cells #[.int .i64 one_s17.f0, .int .i64 one_s17.f1, .slice A02 one_s17.f2.length z02, .slice A03 one_s17.f3.length z03, .slice A04 one_s17.f4.length z04] 47)) rfl rfl (by go_simp; done) ?_
      exact hI.put (i := 18) (by omega) rfl (bal (Below.refl _ _) _) (IsRow.new hI.lt (l := [one_s17]) [[.int .i64 one_s17.f0, .int .i64 one_s17.f1, .slice A02 one_s17.f2.length z02, .slice A03 one_s17.f3.length z03, .slice A04 one_s17.f4.length z04]] rfl rfl (by decide) (each1 f0))
    | 19, _ =>
      cases ho
      have hno : L.getD 25 false = false := hI.no (by omega) hl
      obtain ⟨A2, q2, f2⟩ := IsRow.foot (hI.facts hno 7 (by omega) (hall ⟨7, .data⟩ (by simp) rfl))
      have q2' := tmp_q q2
      obtain ⟨A3, q3, f3⟩ := IsRow.foot (hI.facts hno 14 (by omega) (hall ⟨14, .data⟩ (by simp) rfl))
      have q3' := tmp_q q3
      obtain ⟨A4, q4, f4⟩ := IsRow.foot (hI.facts hno 18 (by omega) (hall ⟨18, .data⟩ (by simp) rfl))
      have q4' := tmp_q q4
      refine step_value (v := .agg #[.int .i64 1, .int .i64 0, .slice A2 1 1, .slice A3 2 2, .slice A4 1 1]) (W1 := W) rfl rfl (by go_simp; done) ?_
      exact hI.put (i := 19) (by omega) rfl (Below.refl _ _) ⟨[.int .i64 1, .int .i64 0, .slice A2 1 1, .slice A3 2 2, .slice A4 1 1], rfl, k47_mkF _ _ one_s19 (A2 := A2) (c2 := 1) (Nat.le_refl _) f2 (A3 := A3) (c3 := 2) (Nat.le_refl _) f3 (A4 := A4) (c4 := 1) (Nat.le_refl _) f4⟩
    | 20, _ =>
      cases ho
      have hno : L.getD 25 false = false := hI.no (by omega) hl
      refine step_enter (f := 69) (args := #[.int .i64 1]) (W1 := W) rfl rfl (by go_simp; done) ?_
      refine (r2_Const.calls 1 _ _ _ _ W rfl).mono ?_
      rintro e w' ⟨v3, rfl, o3, hb⟩
      obtain ⟨D3, d3, rfl⟩ := Kd.R_slice o3
      exact ⟨_, rfl, hI.put (i := 20) (by omega) rfl hb ⟨[.int .i64 0, .int .i64 1, .int .i64 0, .slice D3 0 d3], rfl, k96_mkF _ _ one_c1 (Nat.zero_le _) (F_zero _ _)⟩⟩
    | 21, _ =>
      cases ho
      have hno : L.getD 25 false = false := hI.no (by omega) hl
      obtain ⟨A8, z8, q8, l8, f8⟩ := Is.openE (hI.facts hno 20 (by omega) (hall ⟨20, .data⟩ (by simp) rfl))
      have q8' := tmp_q q8
      refine step_value (v := .slice (some ⟨W.heap.size, 0, none⟩) 1 1) (W1 := W.alloc (.cells #[.int .i64 one_c1.f0, .int .i64 one_c1.f1, .int .i64 one_c1.f2, .slice A8 one_c1.f3.length z8] 96)) rfl rfl (by go_simp; done) ?_
      exact hI.put (i := 21) (by omega) rfl (bal (Below.refl _ _) _) (IsRow.new hI.lt (l := [one_c1]) [[.int .i64 one_c1.f0, .int .i64 one_c1.f1, .int .i64 one_c1.f2, .slice A8 one_c1.f3.length z8]] rfl rfl (by decide) (each1 (k96_mkF _ _ _ l8 f8)))
    | 22, _ =>
      cases ho
      have hno : L.getD 25 false = false := hI.no (by omega) hl
      obtain ⟨A9, q9, f9⟩ := IsRow.foot (hI.facts hno 21 (by omega) (hall ⟨21, .data⟩ (by simp) rfl))
      have q9' := tmp_q q9
      refine step_value (v := .agg #[.int .i64 6, .int .i64 0, .slice A9 1 1, .slice none 0 0, .slice none 0 0]) (W1 := W) rfl rfl (by go_simp; done) ?_
      exact hI.put (i := 22) (by omega) rfl (Below.refl _ _) ⟨[.int .i64 6, .int .i64 0, .slice A9 1 1, .slice none 0 0, .slice none 0 0], rfl, k47_mkF _ _ one_s22 (A2 := A9) (c2 := 1) (Nat.le_refl _) f9 (A3 := none) (c3 := 0) (Nat.le_refl _) (F_zero _ _) (A4 := none) (c4 := 0) (Nat.le_refl _) (F_zero _ _)⟩
    | 23, _ =>
      cases ho
      have hno : L.getD 25 false = false := hI.no (by omega) hl
      obtain ⟨A02, z02, A03, z03, A04, z04, q0, f0⟩ := Is.openS (hI.facts hno 5 (by omega) (hall ⟨5, .data⟩ (by simp) rfl))
      have q0' := tmp_q q0
      obtain ⟨A12, z12, A13, z13, A14, z14, q1, f1⟩ := Is.openS (hI.facts hno 19 (by omega) (hall ⟨19, .data⟩ (by simp) rfl))
      have q1' := tmp_q q1
      obtain ⟨A22, z22, A23, z23, A24, z24, q2, f2⟩ := Is.openS (hI.facts hno 22 (by omega) (hall ⟨22, .data⟩ (by simp) rfl))
      have q2' := tmp_q q2
      refine step_value (v := .slice (some ⟨W.heap.size, 0, none⟩) 3 3) (W1 := W.alloc (.cells #[.int .i64 one_s5.f0, .int .i64 one_s5.f1, .slice A02 one_s5.f2.length z02, .slice A03 one_s5.f3.length z03, .slice A04 one_s5.f4.length z04, .int .i64 one_s19.f0, .int .i64 one_s19.f1, .slice A12 one_s19.f2.length z12, .slice A13 one_s19.f3.length z13, .slice A14 one_s19.f4.length z14, .int .i64 one_s22.f0, .int .i64 one_s22.f1, .slice A22 one_s22.f2.length z22, .slice A23 one_s22.f3.length z23, .slice A24 one_s22.f4.length z24] 47)) rfl rfl (by go_simp; done) ?_
      exact hI.put (i := 23) (by omega) rfl (bal (Below.refl _ _) _) (IsRow.new hI.lt (l := [one_s5, one_s19, one_s22]) [[.int .i64 one_s5.f0, .int .i64 one_s5.f1, .slice A02 one_s5.f2.length z02, .slice A03 one_s5.f3.length z03, .slice A04 one_s5.f4.length z04], [.int .i64 one_s19.f0, .int .i64 one_s19.f1, .slice A12 one_s19.f2.length z12, .slice A13 one_s19.f3.length z13, .slice A14 one_s19.f4.length z14], [.int .i64 one_s22.f0, .int .i64 one_s22.f1, .slice A22 one_s22.f2.length z22, .slice A23 one_s22.f3.length z23, .slice A24 one_s22.f4.length z24]] rfl rfl (by decide) (each3 f0 f1 f2))
    | 24, _ =>
      cases ho
      have hno : L.getD 25 false = false := hI.no (by omega) hl
      have r2 := (hI.facts hno 2 (by omega) (hall ⟨2, .data⟩ (by simp) rfl))
      have r3 := (hI.facts hno 23 (by omega) (hall ⟨23, .data⟩ (by simp) rfl))
      obtain ⟨A2, q2, _⟩ := IsRow.foot r2
      have q2' := tmp_q q2
      obtain ⟨A3, q3, _⟩ := IsRow.foot r3
      have q3' := tmp_q q3
      refine step_value (v := .agg #[.int .i64 2, .slice A2 2 2, .slice A3 3 3]) (W1 := W) rfl rfl (by go_simp; exact ⟨rfl, rfl⟩) ?_
      exact hI.put (i := 24) (by omega) rfl (Below.refl _ _) ⟨_, _, rfl, by rw [← show _ = Value.slice A2 2 2 from q2]; exact r2, by rw [← show _ = Value.slice A3 3 3 from q3]; exact r3⟩
    | 25, _ =>
      cases ho
      have hA : ∀ j, j < 25 → L.getD j false = true := by
        intro j hj
        match j, hj with
        | 0, _ => first | exact hall ⟨0, .phase⟩ (by simp) rfl | exact hall ⟨0, .data⟩ (by simp) rfl
        | 1, _ => first | exact hall ⟨1, .phase⟩ (by simp) rfl | exact hall ⟨1, .data⟩ (by simp) rfl
        | 2, _ => first | exact hall ⟨2, .phase⟩ (by simp) rfl | exact hall ⟨2, .data⟩ (by simp) rfl
        | 3, _ => first | exact hall ⟨3, .phase⟩ (by simp) rfl | exact hall ⟨3, .data⟩ (by simp) rfl
        | 4, _ => first | exact hall ⟨4, .phase⟩ (by simp) rfl | exact hall ⟨4, .data⟩ (by simp) rfl
        | 5, _ => first | exact hall ⟨5, .phase⟩ (by simp) rfl | exact hall ⟨5, .data⟩ (by simp) rfl
        | 6, _ => first | exact hall ⟨6, .phase⟩ (by simp) rfl | exact hall ⟨6, .data⟩ (by simp) rfl
        | 7, _ => first | exact hall ⟨7, .phase⟩ (by simp) rfl | exact hall ⟨7, .data⟩ (by simp) rfl
        | 8, _ => first | exact hall ⟨8, .phase⟩ (by simp) rfl | exact hall ⟨8, .data⟩ (by simp) rfl
        | 9, _ => first | exact hall ⟨9, .phase⟩ (by simp) rfl | exact hall ⟨9, .data⟩ (by simp) rfl
        | 10, _ => first | exact hall ⟨10, .phase⟩ (by simp) rfl | exact hall ⟨10, .data⟩ (by simp) rfl
        | 11, _ => first | exact hall ⟨11, .phase⟩ (by simp) rfl | exact hall ⟨11, .data⟩ (by simp) rfl
        | 12, _ => first | exact hall ⟨12, .phase⟩ (by simp) rfl | exact hall ⟨12, .data⟩ (by simp) rfl
        | 13, _ => first | exact hall ⟨13, .phase⟩ (by simp) rfl | exact hall ⟨13, .data⟩ (by simp) rfl
        | 14, _ => first | exact hall ⟨14, .phase⟩ (by simp) rfl | exact hall ⟨14, .data⟩ (by simp) rfl
        | 15, _ => first | exact hall ⟨15, .phase⟩ (by simp) rfl | exact hall ⟨15, .data⟩ (by simp) rfl
        | 16, _ => first | exact hall ⟨16, .phase⟩ (by simp) rfl | exact hall ⟨16, .data⟩ (by simp) rfl
        | 17, _ => first | exact hall ⟨17, .phase⟩ (by simp) rfl | exact hall ⟨17, .data⟩ (by simp) rfl
        | 18, _ => first | exact hall ⟨18, .phase⟩ (by simp) rfl | exact hall ⟨18, .data⟩ (by simp) rfl
        | 19, _ => first | exact hall ⟨19, .phase⟩ (by simp) rfl | exact hall ⟨19, .data⟩ (by simp) rfl
        | 20, _ => first | exact hall ⟨20, .phase⟩ (by simp) rfl | exact hall ⟨20, .data⟩ (by simp) rfl
        | 21, _ => first | exact hall ⟨21, .phase⟩ (by simp) rfl | exact hall ⟨21, .data⟩ (by simp) rfl
        | 22, _ => first | exact hall ⟨22, .phase⟩ (by simp) rfl | exact hall ⟨22, .data⟩ (by simp) rfl
        | 23, _ => first | exact hall ⟨23, .phase⟩ (by simp) rfl | exact hall ⟨23, .data⟩ (by simp) rfl
        | 24, _ => first | exact hall ⟨24, .phase⟩ (by simp) rfl | exact hall ⟨24, .data⟩ (by simp) rfl
        | j + 25, h => exact absurd h (by omega)
      have hl25 := getD_tf hl
      obtain ⟨v2, v3, e29, r2, r3⟩ := hI.facts hl25 24 (by omega) (hA 24 (by omega))
      obtain ⟨A2, q2, _⟩ := IsRow.foot r2
      obtain ⟨A3, q3, _⟩ := IsRow.foot r3
      subst q2 q3
      have q0 := tmp_q hI.t0
      have q29 := tmp_q e29
      have hO := hI.open_ hl25
      have c0 : W.cell? ⟨w.heap.size, 0, none⟩ = some (.int .i64 0) := (blk_cell hO 0).trans rfl
      have c1 : W.cell? ⟨w.heap.size, 1, none⟩ = some (.slice none 0 0) := (blk_cell hO 1).trans rfl
      have c2 : W.cell? ⟨w.heap.size, 2, none⟩ = some (.slice none 0 0) := (blk_cell hO 2).trans rfl
      have f0 := blk_frozen hO 0
      have f1 := blk_frozen hO 1
      have f2 := blk_frozen hO 2
      refine step_skip (W1 := ((W.setCell ⟨w.heap.size, 0, none⟩ (.int .i64 2)).setCell ⟨w.heap.size, 1, none⟩ (.slice A2 2 2)).setCell ⟨w.heap.size, 2, none⟩ (.slice A3 3 3)) rfl rfl (by go_simp; rfl) ?_
      exact hI.close (by omega) (by omega) hl hA r2 r3
    | i + 26, h => exact absurd h (by omega)
end Go.Proofs.Ytffcpbgbhkbplaa.Print
namespace Go.Proofs.Ytffcpbgbhkbplaa.Print
open Go.RowKit Go.Proofs.YtffcpbgbhkbplaaW.PrintWords Go.Proofs.YtffcpbgbhkbplaaW.PrintLast Go.Proofs.YtffcpbgbhkbplaaW.PrintMore
attribute [local go_sem] max2_int min2_int max_two min_two max_three min_three max_four min_four
set_option linter.unusedVariables false
set_option linter.unusedSimpArgs false
mutual
def prog_size.l0 : Nat → Int → List (S47) → Int → Int → Option (Int)
 | 0, _, _, _, _ => none
 | k + 1, x3, x6, x7, x8 => if x8 < x7 then (if 0 ≤ x8 then (if x8 < (x6.length : Int) then ((prog_size.f k ((rd_T47 x6 x8).f3)).bind fun t212 => ((prog_size.f k ((rd_T47 x6 x8).f4)).bind fun t213 => (prog_size.l0 k (wrap64 (x3 + (wrap64 ((wrap64 (1 + t212)) + t213)))) x6 x7 (wrap64 (x8 + 1))))) else (none)) else (none)) else (some x3)
def prog_size.f : Nat → List (S47) → Option (Int)
 | 0, _ => none
 | k + 1, l0 => prog_size.l0 k 0 l0 (l0.length : Int) 0
end
def prog_size.T5 : Bool × List (List Nat × List Nat) := (true, [([], []), ([], []), ([1], [1]), ([2], [2]), ([3], [3]), ([], []), ([5], [5]), ([6, 3], [6]), ([4, 7], [4, 7]), ([0, 8], [0, 8]), ([9, 7, 0, 1, 2, 3, 4, 5, 6, 7, 8, 9], [0, 9])])
def prog_size.B5 : List Nat := [0, 0, 2, 6, 14, 0, 32, 110, 254, 511, 1023]
theorem prog_size.tab5 : rtab .any (opsOf Try.f56 5) = prog_size.T5 := by kernel_rfl
theorem prog_size.bits5 : waitsOk prog_size.T5.2 prog_size.B5 = true := by kernel_rfl
set_option maxHeartbeats 8000000 in
set_option maxRecDepth 100000 in
theorem prog_size.calls (k : Nat) : ∀ (A0 : Option Addr) (c0 : Nat) (l0 : List (S47)) (r : Int) (w : World) (hr0 : Kd.C k47 w A0 l0.length l0) (hc0 : l0.length ≤ c0) (h : prog_size.f k l0 = some r),
  Calls Try.prog 56 #[.slice A0 l0.length c0] w fun e w' => e = .returned (.int .i64 r) ∧ Below w.heap.size w w' := by
 induction k using Nat.strongRecOn with
 | _ k ih =>
 intro A0 c0 l0 r w hr0 hc0 h
 cases k with
 | zero => exact absurd h (by simp [prog_size.f])
 | succ k =>
 simp only [prog_size.f] at h
 have hu47 := Try.underlying47
 have HR0 := Aside0.mk hr0
 have HC0 := Aside0.mk hc0
 clear hr0 hc0
 have HB := Aside0.mk (Below.refl w.heap.size w)
 have H : (prog_size.l0 k 0 l0 (l0.length : Int) 0) = some r := h
 clear h
 have H' := Aside0.mk H
 clear H
 go_enter Try.func56, Try.ntmps56
 go_wp2
 go_loopg [3, 8] k (fun kq v3 v8 w' => ∃ (x3_1 : Int) (x8_1 : Int), v3 = .int .i64 x3_1 ∧ v8 = .int .i64 x8_1 ∧ Aside0 (prog_size.l0 kq x3_1 l0 (l0.length : Int) x8_1 = some r) ∧ Aside0 (kq ≤ k) ∧ Aside0 (Below w.heap.size w w'))
 case atStart => exact ⟨(0), (0), (by first | rfl | (simp; done) | (simp [*]; done)), (by first | rfl | (simp; done) | (simp [*]; done)), H', ⟨Nat.le_refl _⟩, ⟨by repeat (first | (with_reducible first | exact HB.out | apply bal | apply bdN | apply bd1) | exact HB.out)⟩⟩
 case round =>
  clear H'
  obtain ⟨x3_1, x8_1, rfl, rfl, HA, HK1, HB⟩ := hrel
  cases gk with
  | zero => exact absurd HA.out (by simp [prog_size.l0])
  | succ k1 =>
   have H := HA.out
   clear HA
   simp only [prog_size.l0] at H
   by_cases c2 : x8_1 < (l0.length : Int)
   ·rw [if_pos c2] at H
    have c2b0 : decide (x8_1 < (l0.length : Int)) = true := decide_eq_true c2
    clear c2
    by_cases c3 : 0 ≤ x8_1
    ·rw [if_pos c3] at H
     have c3b0 : decide (0 ≤ x8_1) = true := decide_eq_true c3
     clear c3
     by_cases c4 : x8_1 < (l0.length : Int)
     ·rw [if_pos c4] at H
      have c4b0 : decide (x8_1 < (l0.length : Int)) = true := decide_eq_true c4
      clear c4
      replace H := Option.bind_eq_some_iff.mp H
      obtain ⟨t212, A50, H⟩ := H
      replace H : ((prog_size.f k1 ((rd_T47 l0 x8_1).f4)).bind fun t213 => (prog_size.l0 k1 (wrap64 (x3_1 + (wrap64 ((wrap64 (1 + t212)) + t213)))) l0 (l0.length : Int) (wrap64 (x8_1 + 1)))) = some r := H
      have A5 := Aside0.mk A50
      clear A50
      replace H := Option.bind_eq_some_iff.mp H
      obtain ⟨t213, A60, H⟩ := H
      replace H : (prog_size.l0 k1 (wrap64 (x3_1 + (wrap64 ((wrap64 (1 + t212)) + t213)))) l0 (l0.length : Int) (wrap64 (x8_1 + 1))) = some r := H
      have A6 := Aside0.mk A60
      clear A60
      have H' := Aside0.mk H
      clear H
      have p210 : 0 ≤ (x8_1 : Int) := of_decide_eq_true (by first | (with_reducible assumption) | assumption)
      have q210 : x8_1 < (l0.length : Int) := of_decide_eq_true (by first | (with_reducible assumption) | assumption)
      obtain ⟨ad210, A210_2, c210_2, A210_3, c210_3, A210_4, c210_4, e210, hx210_0, hx210_1, hx210_2, hx210_3, hx210_4, hl210_2, hi210_2, hl210_3, hi210_3, hl210_4, hi210_4⟩ := at_T47 HR0.out x8_1 p210 q210
      cases e210
      replace hx210_0 := bcell HB.out hx210_0
      replace hx210_1 := bcell HB.out hx210_1
      replace hx210_2 := bcell HB.out hx210_2
      replace hx210_3 := bcell HB.out hx210_3
      replace hx210_4 := bcell HB.out hx210_4
      have HR210_2 := Aside0.mk hi210_2
      have HC210_2 := Aside0.mk hl210_2
      clear hi210_2 hl210_2
      have HR210_3 := Aside0.mk hi210_3
      have HC210_3 := Aside0.mk hl210_3
      clear hi210_3 hl210_3
      have HR210_4 := Aside0.mk hi210_4
      have HC210_4 := Aside0.mk hl210_4
      clear hi210_4 hl210_4
      replace p210 := eq_true p210
      replace q210 := eq_true q210
      try go_wp2_with (first | ((with_reducible refine gate_dst (N := 5) rfl ?_); refine box_event ?hg (N := 5) ?hd (cs := #[.int .i64 0, .int .i64 0, .slice none 0 0, .slice none 0 0, .slice none 0 0]) (t := 47) ?hr ?_; (case hd => rfl); (case hg => rfl); (case hr => first | (go_simp; done) | (go_simp; rfl)); intro gb211 hg w7 hbox hb; have n0_ := Aside0.mk (bsp (by repeat (first | (with_reducible first | exact HB.out | apply bal | apply bdN | apply bd1) | exact HB.out)) hb); have n1_ := Aside0.mk (hbox); have n2_ := Aside0.mk ((by rw [hg]; exact (bsz (by repeat (first | (with_reducible first | exact HB.out | apply bal | apply bdN | apply bd1) | exact HB.out))) : w.heap.size ≤ gb211)); have n3_ := Aside0.mk ((by rw [hg]; exact (bsz (by repeat (first | (with_reducible first | exact HB.out | apply bal | apply bdN | apply bd1) | exact HB.out))) : w.heap.size ≤ gb211)); clear HB; have HB := n0_; have BK211 := n1_; have GW211 := n2_; have GE211 := n3_; clear n0_ n1_ n2_ n3_; clear hb hbox hg; obtain ⟨hcz8_0, hcz8_1, hcz8_2, hcz8_3, hcz8_4, hfz8_0, hfz8_1, hfz8_2, hfz8_3, hfz8_4⟩ := cf5 BK211.out))
      have n0_ : Aside0 ((((((w7.setCell ⟨gb211, 0, none⟩ (.int .i64 ((rd_T47 l0 x8_1).f0))).setCell ⟨gb211, 1, none⟩ (.int .i64 ((rd_T47 l0 x8_1).f1))).setCell ⟨gb211, 2, none⟩ (.slice A210_2 ((rd_T47 l0 x8_1).f2).length c210_2)).setCell ⟨gb211, 3, none⟩ (.slice A210_3 ((rd_T47 l0 x8_1).f3).length c210_3)).setCell ⟨gb211, 4, none⟩ (.slice A210_4 ((rd_T47 l0 x8_1).f4).length c210_4)).heap[gb211]? = some (.cells #[.int .i64 ((rd_T47 l0 x8_1).f0), .int .i64 ((rd_T47 l0 x8_1).f1), .slice A210_2 ((rd_T47 l0 x8_1).f2).length c210_2, .slice A210_3 ((rd_T47 l0 x8_1).f3).length c210_3, .slice A210_4 ((rd_T47 l0 x8_1).f4).length c210_4] 47 (0, 0))) := ⟨by (with_reducible repeat (first | refine kdN ?_ _ | refine kdr ?_ | refine kal ?_ _)); refine blk_put (cs := #[.int .i64 ((rd_T47 l0 x8_1).f0), .int .i64 ((rd_T47 l0 x8_1).f1), .slice A210_2 ((rd_T47 l0 x8_1).f2).length c210_2, .slice A210_3 ((rd_T47 l0 x8_1).f3).length c210_3, .slice none 0 0]) ?_ 4 _ rfl; (with_reducible repeat (first | refine kdN ?_ _ | refine kdr ?_ | refine kal ?_ _)); refine blk_put (cs := #[.int .i64 ((rd_T47 l0 x8_1).f0), .int .i64 ((rd_T47 l0 x8_1).f1), .slice A210_2 ((rd_T47 l0 x8_1).f2).length c210_2, .slice none 0 0, .slice none 0 0]) ?_ 3 _ rfl; (with_reducible repeat (first | refine kdN ?_ _ | refine kdr ?_ | refine kal ?_ _)); refine blk_put (cs := #[.int .i64 ((rd_T47 l0 x8_1).f0), .int .i64 ((rd_T47 l0 x8_1).f1), .slice none 0 0, .slice none 0 0, .slice none 0 0]) ?_ 2 _ rfl; (with_reducible repeat (first | refine kdN ?_ _ | refine kdr ?_ | refine kal ?_ _)); refine blk_put (cs := #[.int .i64 ((rd_T47 l0 x8_1).f0), .int .i64 0, .slice none 0 0, .slice none 0 0, .slice none 0 0]) ?_ 1 _ rfl; (with_reducible repeat (first | refine kdN ?_ _ | refine kdr ?_ | refine kal ?_ _)); refine blk_put (cs := #[.int .i64 0, .int .i64 0, .slice none 0 0, .slice none 0 0, .slice none 0 0]) ?_ 0 _ rfl; (with_reducible repeat (first | refine kdN ?_ _ | refine kdr ?_ | refine kal ?_ _)); exact BK211.out⟩
      have n1_ : Aside0 (Below w.heap.size w (((((w7.setCell ⟨gb211, 0, none⟩ (.int .i64 ((rd_T47 l0 x8_1).f0))).setCell ⟨gb211, 1, none⟩ (.int .i64 ((rd_T47 l0 x8_1).f1))).setCell ⟨gb211, 2, none⟩ (.slice A210_2 ((rd_T47 l0 x8_1).f2).length c210_2)).setCell ⟨gb211, 3, none⟩ (.slice A210_3 ((rd_T47 l0 x8_1).f3).length c210_3)).setCell ⟨gb211, 4, none⟩ (.slice A210_4 ((rd_T47 l0 x8_1).f4).length c210_4))) := ⟨by repeat (first | (with_reducible first | exact HB.out | apply bal | apply bdN | apply bd1 | refine bst ?_ GE211.out) | exact HB.out)⟩
      (try clear BK211)
      (try clear HB)
      generalize (((((w7.setCell ⟨gb211, 0, none⟩ (.int .i64 ((rd_T47 l0 x8_1).f0))).setCell ⟨gb211, 1, none⟩ (.int .i64 ((rd_T47 l0 x8_1).f1))).setCell ⟨gb211, 2, none⟩ (.slice A210_2 ((rd_T47 l0 x8_1).f2).length c210_2)).setCell ⟨gb211, 3, none⟩ (.slice A210_3 ((rd_T47 l0 x8_1).f3).length c210_3)).setCell ⟨gb211, 4, none⟩ (.slice A210_4 ((rd_T47 l0 x8_1).f4).length c210_4)) = w9 at n0_ n1_ ⊢
      have BK211 := n0_
      have HB := n1_
      clear n0_ n1_
      have n0_ := Aside0.mk (kdr BK211.out)
      have n1_ := Aside0.mk (bd1 HB.out)
      clear BK211
      clear HB
      have BK211 := n0_
      have HB := n1_
      clear n0_ n1_
      refine start_ (n := 11) (S := fun w' => w'.cell? ⟨gb211, 0, none⟩ = some (.int .i64 ((rd_T47 l0 x8_1).f0)) ∧ w'.cell? ⟨gb211, 1, none⟩ = some (.int .i64 ((rd_T47 l0 x8_1).f1)) ∧ w'.cell? ⟨gb211, 2, none⟩ = some (.slice A210_2 ((rd_T47 l0 x8_1).f2).length c210_2) ∧ w'.cell? ⟨gb211, 3, none⟩ = some (.slice A210_3 ((rd_T47 l0 x8_1).f3).length c210_3) ∧ w'.cell? ⟨gb211, 4, none⟩ = some (.slice A210_4 ((rd_T47 l0 x8_1).f4).length c210_4)) (ds := []) #[false, false, false, false, false, false, false, false, false, false, false] (by kernel_rfl) rfl rfl ⟨(blk_cell BK211.out 0).trans rfl, (blk_cell BK211.out 1).trans rfl, (blk_cell BK211.out 2).trans rfl, (blk_cell BK211.out 3).trans rfl, (blk_cell BK211.out 4).trans rfl⟩ (fun hHeld => ?_); refine with_tabW prog_size.tab5 prog_size.bits5 (fun HT_ HW_ => ?_)
      generalize w9.drew = w10 at BK211 HB hHeld ⊢
      refine pure_ (i := 0) (N := some 12) (v := ?_) (a' := ?_) #[true, false, false, false, false, false, false, false, false, false, false] rfl rfl (any_of HT_.out (by kernel_rfl)) (fun _ _ _ h => h) (Or.inl ⟨by rfl, ?_⟩) ?_ ?_
      rotate_left
      ·intro w'
       go_simp
       with_reducible rfl
      rotate_left
      ·simp only [Act.put, List.setIfInBounds_toArray, List.set_cons_zero, List.set_cons_succ, i64_w, i32_w]
       rfl
      refine pure_ (i := 1) (N := some 13) (v := ?_) (a' := ?_) #[true, true, false, false, false, false, false, false, false, false, false] rfl rfl (any_of HT_.out (by kernel_rfl)) (fun _ _ _ h => h) (Or.inl ⟨by rfl, ?_⟩) ?_ ?_
      rotate_left
      ·intro w'
       go_simp
       with_reducible rfl
      rotate_left
      ·simp only [Act.put, List.setIfInBounds_toArray, List.set_cons_zero, List.set_cons_succ, i64_w, i32_w]
       rfl
      refine pure_ (i := 5) (N := some 17) (v := ?_) (a' := ?_) #[true, true, false, false, false, true, false, false, false, false, false] rfl rfl (any_of HT_.out (by kernel_rfl)) (fun _ _ _ h => h) (Or.inl ⟨by rfl, ?_⟩) ?_ ?_
      rotate_left
      ·intro w'
       go_simp
       with_reducible rfl
      rotate_left
      ·simp only [Act.put, List.setIfInBounds_toArray, List.set_cons_zero, List.set_cons_succ, i64_w, i32_w]
       rfl
      refine take_ (i := 2) (N := some 14) (v := ?_) (a' := ?_) #[true, true, true, false, false, true, false, false, false, false, false] rfl rfl (take_ofW HT_.out HW_.out (by kernel_rfl)) (fun _ _ _ h => h) (Or.inl ⟨by rfl, ?_⟩) hHeld ?_ ?_
      rotate_left
      ·rintro w' ⟨s0, s1, s2, s3, s4⟩
       go_simp
       with_reducible rfl
      rotate_left
      ·simp only [Act.put, List.setIfInBounds_toArray, List.set_cons_zero, List.set_cons_succ, i64_w, i32_w]
       rfl
      refine take_ (i := 6) (N := some 18) (v := ?_) (a' := ?_) #[true, true, true, false, false, true, true, false, false, false, false] rfl rfl (take_ofW HT_.out HW_.out (by kernel_rfl)) (fun _ _ _ h => h) (Or.inl ⟨by rfl, ?_⟩) hHeld ?_ ?_
      rotate_left
      ·rintro w' ⟨s0, s1, s2, s3, s4⟩
       go_simp
       with_reducible rfl
      rotate_left
      ·simp only [Act.put, List.setIfInBounds_toArray, List.set_cons_zero, List.set_cons_succ, i64_w, i32_w]
       rfl
      refine one_ (i := 3) (N := some 15) #[true, true, true, true, false, true, true, false, false, false, false] rfl rfl (one_of HT_.out (by kernel_rfl)) (by decide) (fun K hK => ?_)
      refine goes_ Try.func56 (by kernel_rfl) rfl #[.slice A210_3 ((rd_T47 l0 x8_1).f3).length c210_3] (by rfl) rfl rfl (by (try simp only [List.map_toArray, List.map_cons, List.map_nil]); first | done | rfl | (simp only [List.length_drop, List.length_take]; rfl)) ?_
      with_reducible refine (ih k1 (by have := HK1.out; omega) _ _ ((rd_T47 l0 x8_1).f3) t212 _ ?side1 ?side2 A5.out).mono ?_
      (case side1 => repeat (first | exact (Kd.C_below HR210_3.out HB.out) | with_reducible first | apply Kd.C_alloc | apply Kd.C_drewN | apply Kd.C_drew))
      (case side2 => exact HC210_3.out)
      rintro e w11 ⟨rfl, hb⟩
      refine ⟨_, rfl, ?_⟩
      have n0_ := Aside0.mk (blk_below (g := gb211) (o := .cells #[.int .i64 ((rd_T47 l0 x8_1).f0), .int .i64 ((rd_T47 l0 x8_1).f1), .slice A210_2 ((rd_T47 l0 x8_1).f2).length c210_2, .slice A210_3 ((rd_T47 l0 x8_1).f3).length c210_3, .slice A210_4 ((rd_T47 l0 x8_1).f4).length c210_4] 47 (0, 0)) (by (with_reducible repeat (first | refine kdN ?_ _ | refine kdr ?_ | refine kal ?_ _)); exact BK211.out) hb)
      have n1_ := Aside0.mk (bsp (by repeat (first | (with_reducible first | exact HB.out | apply bal | apply bdN | apply bd1 | refine bst ?_ GE211.out) | exact HB.out)) hb)
      clear BK211
      clear HB
      have BK211 := n0_
      have HB := n1_
      clear n0_ n1_
      (try clear hb)
      (try clear hb2)
      (try clear hk)
      (try clear hi)
      refine hK.out _ _ ⟨(blk_cell BK211.out 0).trans rfl, (blk_cell BK211.out 1).trans rfl, (blk_cell BK211.out 2).trans rfl, (blk_cell BK211.out 3).trans rfl, (blk_cell BK211.out 4).trans rfl⟩ (fun hHeld => ?_)
      clear hK K
      refine norm_ (a' := ?_) ?_ ?_
      rotate_left
      ·show Act.put _ (some 15) _ = _
       simp only [Act.put, List.setIfInBounds_toArray, List.set_cons_zero, List.set_cons_succ, i64_w, i32_w]
       rfl
      refine pure_ (i := 4) (N := some 16) (v := ?_) (a' := ?_) #[true, true, true, true, true, true, true, false, false, false, false] rfl rfl (any_of HT_.out (by kernel_rfl)) (fun _ _ _ h => h) (Or.inl ⟨by rfl, ?_⟩) ?_ ?_
      rotate_left
      ·intro w'
       go_simp
       with_reducible rfl
      rotate_left
      ·simp only [Act.put, List.setIfInBounds_toArray, List.set_cons_zero, List.set_cons_succ, i64_w, i32_w]
       rfl
      refine one_ (i := 7) (N := some 19) #[true, true, true, true, true, true, true, true, false, false, false] rfl rfl (one_of HT_.out (by kernel_rfl)) (by decide) (fun K hK => ?_)
      refine goes_ Try.func56 (by kernel_rfl) rfl #[.slice A210_4 ((rd_T47 l0 x8_1).f4).length c210_4] (by rfl) rfl rfl (by (try simp only [List.map_toArray, List.map_cons, List.map_nil]); first | done | rfl | (simp only [List.length_drop, List.length_take]; rfl)) ?_
      with_reducible refine (ih k1 (by have := HK1.out; omega) _ _ ((rd_T47 l0 x8_1).f4) t213 _ ?side1 ?side2 A6.out).mono ?_
      (case side1 => repeat (first | exact (Kd.C_below HR210_4.out HB.out) | with_reducible first | apply Kd.C_alloc | apply Kd.C_drewN | apply Kd.C_drew))
      (case side2 => exact HC210_4.out)
      rintro e w12 ⟨rfl, hb⟩
      refine ⟨_, rfl, ?_⟩
      have n0_ := Aside0.mk (blk_below (g := gb211) (o := .cells #[.int .i64 ((rd_T47 l0 x8_1).f0), .int .i64 ((rd_T47 l0 x8_1).f1), .slice A210_2 ((rd_T47 l0 x8_1).f2).length c210_2, .slice A210_3 ((rd_T47 l0 x8_1).f3).length c210_3, .slice A210_4 ((rd_T47 l0 x8_1).f4).length c210_4] 47 (0, 0)) (by (with_reducible repeat (first | refine kdN ?_ _ | refine kdr ?_ | refine kal ?_ _)); exact BK211.out) hb)
      have n1_ := Aside0.mk (bsp (by repeat (first | (with_reducible first | exact HB.out | apply bal | apply bdN | apply bd1 | refine bst ?_ GE211.out) | exact HB.out)) hb)
      clear BK211
      clear HB
      have BK211 := n0_
      have HB := n1_
      clear n0_ n1_
      (try clear hb)
      (try clear hb2)
      (try clear hk)
      (try clear hi)
      refine hK.out _ _ ⟨(blk_cell BK211.out 0).trans rfl, (blk_cell BK211.out 1).trans rfl, (blk_cell BK211.out 2).trans rfl, (blk_cell BK211.out 3).trans rfl, (blk_cell BK211.out 4).trans rfl⟩ (fun hHeld => ?_)
      clear hK K
      refine norm_ (a' := ?_) ?_ ?_
      rotate_left
      ·show Act.put _ (some 19) _ = _
       simp only [Act.put, List.setIfInBounds_toArray, List.set_cons_zero, List.set_cons_succ, i64_w, i32_w]
       rfl
      refine pure_ (i := 8) (N := some 20) (v := ?_) (a' := ?_) #[true, true, true, true, true, true, true, true, true, false, false] rfl rfl (any_of HT_.out (by kernel_rfl)) (fun _ _ _ h => h) (Or.inl ⟨by rfl, ?_⟩) ?_ ?_
      rotate_left
      ·intro w'
       go_simp
       with_reducible rfl
      rotate_left
      ·simp only [Act.put, List.setIfInBounds_toArray, List.set_cons_zero, List.set_cons_succ, i64_w, i32_w]
       rfl
      refine pure_ (i := 9) (N := some 21) (v := ?_) (a' := ?_) #[true, true, true, true, true, true, true, true, true, true, false] rfl rfl (any_of HT_.out (by kernel_rfl)) (fun _ _ _ h => h) (Or.inl ⟨by rfl, ?_⟩) ?_ ?_
      rotate_left
      ·intro w'
       go_simp
       with_reducible rfl
      rotate_left
      ·simp only [Act.put, List.setIfInBounds_toArray, List.set_cons_zero, List.set_cons_succ, i64_w, i32_w]
       rfl
      refine pure_ (i := 10) (N := some 3) (v := ?_) (a' := ?_) #[true, true, true, true, true, true, true, true, true, true, true] rfl rfl (any_of HT_.out (by kernel_rfl)) (fun _ _ _ h => h) (Or.inl ⟨by rfl, ?_⟩) ?_ ?_
      rotate_left
      ·intro w'
       go_simp
       with_reducible rfl
      rotate_left
      ·simp only [Act.put, List.setIfInBounds_toArray, List.set_cons_zero, List.set_cons_succ, i64_w, i32_w]
       rfl
      refine done_ (done_of HT_.out (by kernel_rfl)) ?_
      try go_wp2
      go_roundg k1
      case measure => have := HK1.out; omega
      case rel => exact ⟨(wrap64 (x3_1 + (wrap64 ((wrap64 (1 + t212)) + t213)))), (wrap64 (x8_1 + 1)), (by first | rfl | (simp; done) | (simp [*]; done)), (by first | rfl | (simp; done) | (simp [*]; done)), H', ⟨by have := HK1.out; omega⟩, ⟨by repeat (first | (with_reducible first | exact HB.out | apply bal | apply bdN | apply bd1 | refine bst ?_ GE211.out) | exact HB.out)⟩⟩
     ·rw [if_neg c4] at H
      exact absurd H (by simp)
    ·rw [if_neg c3] at H
     exact absurd H (by simp)
   ·rw [if_neg c2] at H
    have c2b0 : decide (x8_1 < (l0.length : Int)) = false := decide_eq_false c2
    clear c2
    obtain rfl := Option.some.inj H
    go_wp2
    go_ret
    exact ⟨by first | rfl | (simp [*] <;> rfl), by repeat (first | (with_reducible first | exact HB.out | apply bal | apply bdN | apply bd1) | exact HB.out)⟩
def prog_numbers.l0 : Nat → Int → List Int → List (S47) → Int → Int → Option (List Int)
 | 0, _, _, _, _, _ => none
 | k + 1, x1, x5, x8, x9, x10 => if x10 < x9 then (if 0 ≤ x10 then (if x10 < (x8.length : Int) then (if x5.length < 17592186044416 then ((prog_size.f k ((rd_T47 x8 x10).f3)).bind fun t219 => ((prog_size.f k ((rd_T47 x8 x10).f4)).bind fun t220 => (prog_numbers.l0 k (wrap64 (x1 + (wrap64 ((wrap64 (1 + t219)) + t220)))) (x5 ++ [x1]) x8 x9 (wrap64 (x10 + 1))))) else (none)) else (none)) else (none)) else (some x5)
def prog_numbers.f (k : Nat) (l0 : List (S47)) (a1 : Int) : Option (List Int) := prog_numbers.l0 k a1 ([] : List Int) l0 (l0.length : Int) 0
def prog_numbers.T6 : Bool × List (List Nat × List Nat) := (true, [([], []), ([], []), ([1], [1]), ([2], [2]), ([3], [3]), ([], []), ([5], [5]), ([6, 3], [6]), ([4, 7], [4, 7]), ([0, 8], [0, 8]), ([9, 7, 0, 1, 2, 3, 4, 5, 6, 7, 8, 9], [0, 9])])
def prog_numbers.B6 : List Nat := [0, 0, 2, 6, 14, 0, 32, 110, 254, 511, 1023]
theorem prog_numbers.tab6 : rtab .any (opsOf Try.f55 6) = prog_numbers.T6 := by kernel_rfl
theorem prog_numbers.bits6 : waitsOk prog_numbers.T6.2 prog_numbers.B6 = true := by kernel_rfl
set_option maxHeartbeats 8000000 in
set_option maxRecDepth 100000 in
theorem prog_numbers.calls (k : Nat) (A0 : Option Addr) (c0 : Nat) (l0 : List (S47)) (a1 : Int) (r : List Int) (w : World) (hr0 : Kd.C k47 w A0 l0.length l0) (hc0 : l0.length ≤ c0) (h : prog_numbers.f k l0 a1 = some r) :
  Calls Try.prog 55 #[.slice A0 l0.length c0, .int .i64 a1] w fun e w' => ∃ v0_ : Value, e = .returned (v0_) ∧ Kd.R (Kd.int .i64) 3 w' w.heap.size (fun _ => True) v0_ r ∧ Below w.heap.size w w' := by
 have hu47 := Try.underlying47
 have HR0 := Aside0.mk hr0
 have HC0 := Aside0.mk hc0
 clear hr0 hc0
 have HB := Aside0.mk (Below.refl w.heap.size w)
 have H : (prog_numbers.l0 k a1 ([] : List Int) l0 (l0.length : Int) 0) = some r := h
 clear h
 have H' := Aside0.mk H
 clear H
 go_enter Try.func55, Try.ntmps55
 go_wp2
 go_loopg [1, 5, 10] k (fun kq v1 v5 v10 w' => ∃ (x1_1 : Int) (x5_1 : List Int) (x10_1 : Int), v1 = .int .i64 x1_1 ∧ v10 = .int .i64 x10_1 ∧ Aside0 (prog_numbers.l0 kq x1_1 x5_1 l0 (l0.length : Int) x10_1 = some r) ∧ Aside0 (kq ≤ k) ∧ Aside0 (Kd.R (Kd.int .i64) 3 w' w.heap.size (fun _ => True) v5 x5_1) ∧ Aside0 (Below w.heap.size w w'))
 case atStart => exact ⟨(a1), (([] : List Int)), (0), (by first | rfl | (simp; done) | (simp [*]; done)), (by first | rfl | (simp; done) | (simp [*]; done)), H', ⟨Nat.le_refl _⟩, ⟨by first | exact Kd.R_nil _ _ _ _ _ | exact Kd.N_nil _ _ _ _ _ | exact Kd.V_nil _ _ _ _ _ | exact Kd.Q_nil _ _ _ _ _ | exact Kd.S_nil _ _ _ _ _⟩, ⟨by repeat (first | (with_reducible first | exact HB.out | apply bal | apply bdN | apply bd1) | exact HB.out)⟩⟩
 case round =>
  clear H'
  try clear p2
  obtain ⟨x1_1, x5_1, x10_1, rfl, rfl, HA, HK1, HO_5, HB⟩ := hrel
  cases gk with
  | zero => exact absurd HA.out (by simp [prog_numbers.l0])
  | succ k1 =>
   have H := HA.out
   clear HA
   simp only [prog_numbers.l0] at H
   by_cases c3 : x10_1 < (l0.length : Int)
   ·rw [if_pos c3] at H
    have c3b0 : decide (x10_1 < (l0.length : Int)) = true := decide_eq_true c3
    clear c3
    by_cases c4 : 0 ≤ x10_1
    ·rw [if_pos c4] at H
     have c4b0 : decide (0 ≤ x10_1) = true := decide_eq_true c4
     clear c4
     by_cases c5 : x10_1 < (l0.length : Int)
     ·rw [if_pos c5] at H
      have c5b0 : decide (x10_1 < (l0.length : Int)) = true := decide_eq_true c5
      clear c5
      by_cases c6 : x5_1.length < 17592186044416
      ·rw [if_pos c6] at H
       have LMc6 := Aside0.mk c6
       clear c6
       obtain ⟨y216, hy216⟩ : ∃ y_ : List Int, y_ = (x5_1 ++ [x1_1]) := ⟨_, rfl⟩
       replace H : ((prog_size.f k1 ((rd_T47 l0 x10_1).f3)).bind fun t219 => ((prog_size.f k1 ((rd_T47 l0 x10_1).f4)).bind fun t220 => (prog_numbers.l0 k1 (wrap64 (x1_1 + (wrap64 ((wrap64 (1 + t219)) + t220)))) y216 l0 (l0.length : Int) (wrap64 (x10_1 + 1))))) = some r := by first | (rw [hy216]; with_reducible exact H) | (have H2_ := (Option.bind_some _ _).symm.trans H; rw [hy216]; with_reducible exact H2_) | (have H2_ := (Option.bind_some _ _).symm.trans H; with_reducible exact H2_) | with_reducible exact H | (rw [hy216]; exact H) | exact H
       have Ny216 := Aside0.mk hy216
       clear hy216
       replace H := Option.bind_eq_some_iff.mp H
       obtain ⟨t219, A70, H⟩ := H
       replace H : ((prog_size.f k1 ((rd_T47 l0 x10_1).f4)).bind fun t220 => (prog_numbers.l0 k1 (wrap64 (x1_1 + (wrap64 ((wrap64 (1 + t219)) + t220)))) y216 l0 (l0.length : Int) (wrap64 (x10_1 + 1)))) = some r := H
       have A7 := Aside0.mk A70
       clear A70
       replace H := Option.bind_eq_some_iff.mp H
       obtain ⟨t220, A80, H⟩ := H
       replace H : (prog_numbers.l0 k1 (wrap64 (x1_1 + (wrap64 ((wrap64 (1 + t219)) + t220)))) y216 l0 (l0.length : Int) (wrap64 (x10_1 + 1))) = some r := H
       have A8 := Aside0.mk A80
       clear A80
       have H' := Aside0.mk H
       clear H
       have p214 : 0 ≤ (x10_1 : Int) := of_decide_eq_true (by first | (with_reducible assumption) | assumption)
       have q214 : x10_1 < (l0.length : Int) := of_decide_eq_true (by first | (with_reducible assumption) | assumption)
       obtain ⟨ad214, A214_2, c214_2, A214_3, c214_3, A214_4, c214_4, e214, hx214_0, hx214_1, hx214_2, hx214_3, hx214_4, hl214_2, hi214_2, hl214_3, hi214_3, hl214_4, hi214_4⟩ := at_T47 HR0.out x10_1 p214 q214
       cases e214
       replace hx214_0 := bcell HB.out hx214_0
       replace hx214_1 := bcell HB.out hx214_1
       replace hx214_2 := bcell HB.out hx214_2
       replace hx214_3 := bcell HB.out hx214_3
       replace hx214_4 := bcell HB.out hx214_4
       have HR214_2 := Aside0.mk hi214_2
       have HC214_2 := Aside0.mk hl214_2
       clear hi214_2 hl214_2
       have HR214_3 := Aside0.mk hi214_3
       have HC214_3 := Aside0.mk hl214_3
       clear hi214_3 hl214_3
       have HR214_4 := Aside0.mk hi214_4
       have HC214_4 := Aside0.mk hl214_4
       clear hi214_4 hl214_4
       replace p214 := eq_true p214
       replace q214 := eq_true q214
       try go_wp2_with (first | ((with_reducible refine gate_dst (N := 7) rfl ?_); refine box_event ?hg (N := 7) ?hd (cs := #[.int .i64 0, .int .i64 0, .slice none 0 0, .slice none 0 0, .slice none 0 0]) (t := 47) ?hr ?_; (case hd => rfl); (case hg => rfl); (case hr => first | (go_simp; done) | (go_simp; rfl)); intro gb215 hg w9 hbox hb; have n0_ := Aside0.mk (Kd.R_below (by (with_reducible repeat (first | apply Kd.R_alloc | apply Kd.R_drewN | apply Kd.R_drew)); exact HO_5.out) hb); have n1_ := Aside0.mk (bsp (by repeat (first | (with_reducible first | exact HB.out | apply bal | apply bdN | apply bd1) | exact HB.out)) hb); have n2_ := Aside0.mk (hbox); have n3_ := Aside0.mk ((by rw [hg]; exact (bsz (by repeat (first | (with_reducible first | exact HB.out | apply bal | apply bdN | apply bd1) | exact HB.out))) : w.heap.size ≤ gb215)); have n4_ := Aside0.mk ((by rw [hg]; exact (bsz (by repeat (first | (with_reducible first | exact HB.out | apply bal | apply bdN | apply bd1) | exact HB.out))) : w.heap.size ≤ gb215)); clear HO_5; clear HB; have HO_5 := n0_; have HB := n1_; have BK215 := n2_; have GW215 := n3_; have GE215 := n4_; clear n0_ n1_ n2_ n3_ n4_; clear hb hbox hg; obtain ⟨hcz10_0, hcz10_1, hcz10_2, hcz10_3, hcz10_4, hfz10_0, hfz10_1, hfz10_2, hfz10_3, hfz10_4⟩ := cf5 BK215.out) | ((with_reducible refine gate_builtin (b := .append) (xs := #[.tmp 14, .tmp 16]) rfl ?_); at_builtin; refine Kd.R_append (Kd.int .i64) (w0 := w) w.heap.size rfl (.tmp 14) (.tmp 16) 26 3 (.int .i64 0) 8 rfl Try.underlying26 info3 rfl (by decide) (by omega) u5 x5_1 x1_1 [.int .i64 x1_1] (fun _ => True) (fun _ => False) rfl (by first | (go_simp; done) | (go_simp; rfl)) ?aP (fun _ hk => hk.elim) ?aF ?aO ?aB ?aS ?aL ?_; (case aP => exact rfl); (case aB => exact (by repeat (first | (with_reducible first | exact HB.out | apply bal | apply bdN | apply bd1 | refine bst ?_ GE215.out) | exact HB.out))); (case aF => exact (fun _ _ => trivial)); (case aO => exact (by (with_reducible repeat (first | apply Kd.R_alloc | apply Kd.R_drewN | apply Kd.R_drew)); exact Kd.R_mono (Kd.R_far (p := ⟨gb215, 4, none⟩) (Kd.R_far (p := ⟨gb215, 3, none⟩) (Kd.R_far (p := ⟨gb215, 2, none⟩) (Kd.R_far (p := ⟨gb215, 1, none⟩) (Kd.R_far (p := ⟨gb215, 0, none⟩) (Kd.R_types HO_5.out BK215.out (by decide)) (fun _ hk => hk.2) (.int .i64 ((rd_T47 l0 x10_1).f0))) (fun _ hk => hk.2) (.int .i64 ((rd_T47 l0 x10_1).f1))) (fun _ hk => hk.2) (.slice A214_2 ((rd_T47 l0 x10_1).f2).length c214_2)) (fun _ hk => hk.2) (.slice A214_3 ((rd_T47 l0 x10_1).f3).length c214_3)) (fun _ hk => hk.2) (.slice A214_4 ((rd_T47 l0 x10_1).f4).length c214_4)) (fun _ hk => trivial))); (case aS => exact (bsz (by repeat (first | (with_reducible first | exact HB.out | apply bal | apply bdN | apply bd1 | refine bst ?_ GE215.out) | exact HB.out)))); (case aL => have := LMc6.out; omega); intro v217 w11 ho hb hg hat; rw [← Ny216.out] at ho; have n0_ := Aside0.mk (blk_grown (g := gb215) (o := .cells #[.int .i64 ((rd_T47 l0 x10_1).f0), .int .i64 ((rd_T47 l0 x10_1).f1), .slice A214_2 ((rd_T47 l0 x10_1).f2).length c214_2, .slice A214_3 ((rd_T47 l0 x10_1).f3).length c214_3, .slice A214_4 ((rd_T47 l0 x10_1).f4).length c214_4] 47 (0, 0)) (by (with_reducible repeat (first | refine kdN ?_ _ | refine kdr ?_ | refine kal ?_ _)); refine blk_put (cs := #[.int .i64 ((rd_T47 l0 x10_1).f0), .int .i64 ((rd_T47 l0 x10_1).f1), .slice A214_2 ((rd_T47 l0 x10_1).f2).length c214_2, .slice A214_3 ((rd_T47 l0 x10_1).f3).length c214_3, .slice none 0 0]) ?_ 4 _ rfl; (with_reducible repeat (first | refine kdN ?_ _ | refine kdr ?_ | refine kal ?_ _)); refine blk_put (cs := #[.int .i64 ((rd_T47 l0 x10_1).f0), .int .i64 ((rd_T47 l0 x10_1).f1), .slice A214_2 ((rd_T47 l0 x10_1).f2).length c214_2, .slice none 0 0, .slice none 0 0]) ?_ 3 _ rfl; (with_reducible repeat (first | refine kdN ?_ _ | refine kdr ?_ | refine kal ?_ _)); refine blk_put (cs := #[.int .i64 ((rd_T47 l0 x10_1).f0), .int .i64 ((rd_T47 l0 x10_1).f1), .slice none 0 0, .slice none 0 0, .slice none 0 0]) ?_ 2 _ rfl; (with_reducible repeat (first | refine kdN ?_ _ | refine kdr ?_ | refine kal ?_ _)); refine blk_put (cs := #[.int .i64 ((rd_T47 l0 x10_1).f0), .int .i64 0, .slice none 0 0, .slice none 0 0, .slice none 0 0]) ?_ 1 _ rfl; (with_reducible repeat (first | refine kdN ?_ _ | refine kdr ?_ | refine kal ?_ _)); refine blk_put (cs := #[.int .i64 0, .int .i64 0, .slice none 0 0, .slice none 0 0, .slice none 0 0]) ?_ 0 _ rfl; (with_reducible repeat (first | refine kdN ?_ _ | refine kdr ?_ | refine kal ?_ _)); exact BK215.out) hg (Kd.R_ne HO_5.out BK215.out (by decide))); have n1_ := Aside0.mk (hb); have n2_ := Aside0.mk (ho); clear BK215; clear HB; clear HO_5; have BK215 := n0_; have HB := n1_; have HO218 := n2_; clear n0_ n1_ n2_; clear ho hb hg hat))
       have n0_ := Aside0.mk (Kd.R_drew HO218.out)
       have n1_ := Aside0.mk (kdr BK215.out)
       have n2_ := Aside0.mk (bd1 HB.out)
       clear HO218
       clear BK215
       clear HB
       have HO218 := n0_
       have BK215 := n1_
       have HB := n2_
       clear n0_ n1_ n2_
       refine start_ (n := 11) (S := fun w' => w'.cell? ⟨gb215, 0, none⟩ = some (.int .i64 ((rd_T47 l0 x10_1).f0)) ∧ w'.cell? ⟨gb215, 1, none⟩ = some (.int .i64 ((rd_T47 l0 x10_1).f1)) ∧ w'.cell? ⟨gb215, 2, none⟩ = some (.slice A214_2 ((rd_T47 l0 x10_1).f2).length c214_2) ∧ w'.cell? ⟨gb215, 3, none⟩ = some (.slice A214_3 ((rd_T47 l0 x10_1).f3).length c214_3) ∧ w'.cell? ⟨gb215, 4, none⟩ = some (.slice A214_4 ((rd_T47 l0 x10_1).f4).length c214_4)) (ds := []) #[false, false, false, false, false, false, false, false, false, false, false] (by kernel_rfl) rfl rfl ⟨(blk_cell BK215.out 0).trans rfl, (blk_cell BK215.out 1).trans rfl, (blk_cell BK215.out 2).trans rfl, (blk_cell BK215.out 3).trans rfl, (blk_cell BK215.out 4).trans rfl⟩ (fun hHeld => ?_); refine with_tabW prog_numbers.tab6 prog_numbers.bits6 (fun HT_ HW_ => ?_)
       generalize w11.drew = w12 at HO218 BK215 HB hHeld ⊢
       refine pure_ (i := 0) (N := some 18) (v := ?_) (a' := ?_) #[true, false, false, false, false, false, false, false, false, false, false] rfl rfl (any_of HT_.out (by kernel_rfl)) (fun _ _ _ h => h) (Or.inl ⟨by rfl, ?_⟩) ?_ ?_
       rotate_left
       ·intro w'
        go_simp
        with_reducible rfl
       rotate_left
       ·simp only [Act.put, List.setIfInBounds_toArray, List.set_cons_zero, List.set_cons_succ, i64_w, i32_w]
        rfl
       refine pure_ (i := 1) (N := some 19) (v := ?_) (a' := ?_) #[true, true, false, false, false, false, false, false, false, false, false] rfl rfl (any_of HT_.out (by kernel_rfl)) (fun _ _ _ h => h) (Or.inl ⟨by rfl, ?_⟩) ?_ ?_
       rotate_left
       ·intro w'
        go_simp
        with_reducible rfl
       rotate_left
       ·simp only [Act.put, List.setIfInBounds_toArray, List.set_cons_zero, List.set_cons_succ, i64_w, i32_w]
        rfl
       refine pure_ (i := 5) (N := some 23) (v := ?_) (a' := ?_) #[true, true, false, false, false, true, false, false, false, false, false] rfl rfl (any_of HT_.out (by kernel_rfl)) (fun _ _ _ h => h) (Or.inl ⟨by rfl, ?_⟩) ?_ ?_
       rotate_left
       ·intro w'
        go_simp
        with_reducible rfl
       rotate_left
       ·simp only [Act.put, List.setIfInBounds_toArray, List.set_cons_zero, List.set_cons_succ, i64_w, i32_w]
        rfl
       refine take_ (i := 2) (N := some 20) (v := ?_) (a' := ?_) #[true, true, true, false, false, true, false, false, false, false, false] rfl rfl (take_ofW HT_.out HW_.out (by kernel_rfl)) (fun _ _ _ h => h) (Or.inl ⟨by rfl, ?_⟩) hHeld ?_ ?_
       rotate_left
       ·rintro w' ⟨s0, s1, s2, s3, s4⟩
        go_simp
        with_reducible rfl
       rotate_left
       ·simp only [Act.put, List.setIfInBounds_toArray, List.set_cons_zero, List.set_cons_succ, i64_w, i32_w]
        rfl
       refine take_ (i := 6) (N := some 24) (v := ?_) (a' := ?_) #[true, true, true, false, false, true, true, false, false, false, false] rfl rfl (take_ofW HT_.out HW_.out (by kernel_rfl)) (fun _ _ _ h => h) (Or.inl ⟨by rfl, ?_⟩) hHeld ?_ ?_
       rotate_left
       ·rintro w' ⟨s0, s1, s2, s3, s4⟩
        go_simp
        with_reducible rfl
       rotate_left
       ·simp only [Act.put, List.setIfInBounds_toArray, List.set_cons_zero, List.set_cons_succ, i64_w, i32_w]
        rfl
       refine one_ (i := 3) (N := some 21) #[true, true, true, true, false, true, true, false, false, false, false] rfl rfl (one_of HT_.out (by kernel_rfl)) (by decide) (fun K hK => ?_)
       refine goes_ Try.func56 (by kernel_rfl) rfl #[.slice A214_3 ((rd_T47 l0 x10_1).f3).length c214_3] (by rfl) rfl rfl (by (try simp only [List.map_toArray, List.map_cons, List.map_nil]); first | done | rfl | (simp only [List.length_drop, List.length_take]; rfl)) ?_
       with_reducible refine (prog_size.calls k1 _ _ ((rd_T47 l0 x10_1).f3) t219 _ ?side1 ?side2 A7.out).mono ?_
       (case side1 => repeat (first | exact (Kd.C_below HR214_3.out HB.out) | with_reducible first | apply Kd.C_alloc | apply Kd.C_drewN | apply Kd.C_drew))
       (case side2 => exact HC214_3.out)
       rintro e w13 ⟨rfl, hb⟩
       refine ⟨_, rfl, ?_⟩
       have n0_ := Aside0.mk (Kd.R_below (by (with_reducible repeat (first | apply Kd.R_alloc | apply Kd.R_drewN | apply Kd.R_drew)); exact HO218.out) hb)
       have n1_ := Aside0.mk (blk_below (g := gb215) (o := .cells #[.int .i64 ((rd_T47 l0 x10_1).f0), .int .i64 ((rd_T47 l0 x10_1).f1), .slice A214_2 ((rd_T47 l0 x10_1).f2).length c214_2, .slice A214_3 ((rd_T47 l0 x10_1).f3).length c214_3, .slice A214_4 ((rd_T47 l0 x10_1).f4).length c214_4] 47 (0, 0)) (by (with_reducible repeat (first | refine kdN ?_ _ | refine kdr ?_ | refine kal ?_ _)); exact BK215.out) hb)
       have n2_ := Aside0.mk (bsp (by repeat (first | (with_reducible first | exact HB.out | apply bal | apply bdN | apply bd1 | refine bst ?_ GE215.out) | exact HB.out)) hb)
       clear HO218
       clear BK215
       clear HB
       have HO218 := n0_
       have BK215 := n1_
       have HB := n2_
       clear n0_ n1_ n2_
       (try clear hb)
       (try clear hb2)
       (try clear hk)
       (try clear hi)
       refine hK.out _ _ ⟨(blk_cell BK215.out 0).trans rfl, (blk_cell BK215.out 1).trans rfl, (blk_cell BK215.out 2).trans rfl, (blk_cell BK215.out 3).trans rfl, (blk_cell BK215.out 4).trans rfl⟩ (fun hHeld => ?_)
       clear hK K
       refine norm_ (a' := ?_) ?_ ?_
       rotate_left
       ·show Act.put _ (some 21) _ = _
        simp only [Act.put, List.setIfInBounds_toArray, List.set_cons_zero, List.set_cons_succ, i64_w, i32_w]
        rfl
       refine pure_ (i := 4) (N := some 22) (v := ?_) (a' := ?_) #[true, true, true, true, true, true, true, false, false, false, false] rfl rfl (any_of HT_.out (by kernel_rfl)) (fun _ _ _ h => h) (Or.inl ⟨by rfl, ?_⟩) ?_ ?_
       rotate_left
       ·intro w'
        go_simp
        with_reducible rfl
       rotate_left
       ·simp only [Act.put, List.setIfInBounds_toArray, List.set_cons_zero, List.set_cons_succ, i64_w, i32_w]
        rfl
       refine one_ (i := 7) (N := some 25) #[true, true, true, true, true, true, true, true, false, false, false] rfl rfl (one_of HT_.out (by kernel_rfl)) (by decide) (fun K hK => ?_)
       refine goes_ Try.func56 (by kernel_rfl) rfl #[.slice A214_4 ((rd_T47 l0 x10_1).f4).length c214_4] (by rfl) rfl rfl (by (try simp only [List.map_toArray, List.map_cons, List.map_nil]); first | done | rfl | (simp only [List.length_drop, List.length_take]; rfl)) ?_
       with_reducible refine (prog_size.calls k1 _ _ ((rd_T47 l0 x10_1).f4) t220 _ ?side1 ?side2 A8.out).mono ?_
       (case side1 => repeat (first | exact (Kd.C_below HR214_4.out HB.out) | with_reducible first | apply Kd.C_alloc | apply Kd.C_drewN | apply Kd.C_drew))
       (case side2 => exact HC214_4.out)
       rintro e w14 ⟨rfl, hb⟩
       refine ⟨_, rfl, ?_⟩
       have n0_ := Aside0.mk (Kd.R_below (by (with_reducible repeat (first | apply Kd.R_alloc | apply Kd.R_drewN | apply Kd.R_drew)); exact HO218.out) hb)
       have n1_ := Aside0.mk (blk_below (g := gb215) (o := .cells #[.int .i64 ((rd_T47 l0 x10_1).f0), .int .i64 ((rd_T47 l0 x10_1).f1), .slice A214_2 ((rd_T47 l0 x10_1).f2).length c214_2, .slice A214_3 ((rd_T47 l0 x10_1).f3).length c214_3, .slice A214_4 ((rd_T47 l0 x10_1).f4).length c214_4] 47 (0, 0)) (by (with_reducible repeat (first | refine kdN ?_ _ | refine kdr ?_ | refine kal ?_ _)); exact BK215.out) hb)
       have n2_ := Aside0.mk (bsp (by repeat (first | (with_reducible first | exact HB.out | apply bal | apply bdN | apply bd1 | refine bst ?_ GE215.out) | exact HB.out)) hb)
       clear HO218
       clear BK215
       clear HB
       have HO218 := n0_
       have BK215 := n1_
       have HB := n2_
       clear n0_ n1_ n2_
       (try clear hb)
       (try clear hb2)
       (try clear hk)
       (try clear hi)
       refine hK.out _ _ ⟨(blk_cell BK215.out 0).trans rfl, (blk_cell BK215.out 1).trans rfl, (blk_cell BK215.out 2).trans rfl, (blk_cell BK215.out 3).trans rfl, (blk_cell BK215.out 4).trans rfl⟩ (fun hHeld => ?_)
       clear hK K
       refine norm_ (a' := ?_) ?_ ?_
       rotate_left
       ·show Act.put _ (some 25) _ = _
        simp only [Act.put, List.setIfInBounds_toArray, List.set_cons_zero, List.set_cons_succ, i64_w, i32_w]
        rfl
       refine pure_ (i := 8) (N := some 26) (v := ?_) (a' := ?_) #[true, true, true, true, true, true, true, true, true, false, false] rfl rfl (any_of HT_.out (by kernel_rfl)) (fun _ _ _ h => h) (Or.inl ⟨by rfl, ?_⟩) ?_ ?_
       rotate_left
       ·intro w'
        go_simp
        with_reducible rfl
       rotate_left
       ·simp only [Act.put, List.setIfInBounds_toArray, List.set_cons_zero, List.set_cons_succ, i64_w, i32_w]
        rfl
       refine pure_ (i := 9) (N := some 27) (v := ?_) (a' := ?_) #[true, true, true, true, true, true, true, true, true, true, false] rfl rfl (any_of HT_.out (by kernel_rfl)) (fun _ _ _ h => h) (Or.inl ⟨by rfl, ?_⟩) ?_ ?_
       rotate_left
       ·intro w'
        go_simp
        with_reducible rfl
       rotate_left
       ·simp only [Act.put, List.setIfInBounds_toArray, List.set_cons_zero, List.set_cons_succ, i64_w, i32_w]
        rfl
       refine pure_ (i := 10) (N := some 1) (v := ?_) (a' := ?_) #[true, true, true, true, true, true, true, true, true, true, true] rfl rfl (any_of HT_.out (by kernel_rfl)) (fun _ _ _ h => h) (Or.inl ⟨by rfl, ?_⟩) ?_ ?_
       rotate_left
       ·intro w'
        go_simp
        with_reducible rfl
       rotate_left
       ·simp only [Act.put, List.setIfInBounds_toArray, List.set_cons_zero, List.set_cons_succ, i64_w, i32_w]
        rfl
       refine done_ (done_of HT_.out (by kernel_rfl)) ?_
       try go_wp2
       go_roundg k1
       case measure => have := HK1.out; omega
       case rel => exact ⟨(wrap64 (x1_1 + (wrap64 ((wrap64 (1 + t219)) + t220)))), (y216), (wrap64 (x10_1 + 1)), (by first | rfl | (simp; done) | (simp [*]; done)), (by first | rfl | (simp; done) | (simp [*]; done)), H', ⟨by have := HK1.out; omega⟩, ⟨by (with_reducible repeat (first | apply Kd.R_alloc | apply Kd.R_drewN | apply Kd.R_drew)); exact HO218.out⟩, ⟨by repeat (first | (with_reducible first | exact HB.out | apply bal | apply bdN | apply bd1 | refine bst ?_ GE215.out) | exact HB.out)⟩⟩
      ·rw [if_neg c6] at H
       exact absurd H (by simp)
     ·rw [if_neg c5] at H
      exact absurd H (by simp)
    ·rw [if_neg c4] at H
     exact absurd H (by simp)
   ·rw [if_neg c3] at H
    have c3b0 : decide (x10_1 < (l0.length : Int)) = false := decide_eq_false c3
    clear c3
    obtain rfl := Option.some.inj H
    go_wp2
    go_ret
    exact ⟨_, by first | rfl | (simp [*] <;> rfl), by (with_reducible repeat (first | apply Kd.R_alloc | apply Kd.R_drewN | apply Kd.R_drew)); exact HO_5.out, by repeat (first | (with_reducible first | exact HB.out | apply bal | apply bdN | apply bd1) | exact HB.out)⟩
def prog_Inside.f (k : Nat) (a0_0 : Int) (l0_1 : List (S82)) (l0_2 : List (S47)) (a1 : Int) : Option (List Int × List Int × Int) := (prog_At.f k a0_0 l0_1 l0_2 a1).bind fun bt222 => (if bt222.2.2.2.2.2 = 0 then ((prog_numbers.f k bt222.2.2.2.1 (wrap64 (a1 + 1))).bind fun t235 => ((prog_size.f k bt222.2.2.2.1).bind fun t238 => ((prog_numbers.f k bt222.2.2.2.2.1 (wrap64 ((wrap64 (a1 + 1)) + t238))).bind fun t239 => (some (t235, t239, 0))))) else (some (([] : List Int), ([] : List Int), bt222.2.2.2.2.2)))
def prog_Inside.T4 : Bool × List (List Nat × List Nat) := (true, [([], []), ([0], [0]), ([], []), ([2], [2]), ([1, 3], [1, 3]), ([], []), ([5], [5]), ([], []), ([7], [7]), ([], []), ([9], [9]), ([10, 4], [10]), ([8, 11], [8, 11]), ([6, 12, 11], [6, 12]), ([4, 13, 0, 1, 2, 3, 4], [4]), ([13, 14, 0, 1, 2, 3, 4, 5, 6, 7, 8, 9, 10, 11, 12, 13, 14], [13]), ([15, 0, 1, 2, 3, 4, 5, 6, 7, 8, 9, 10, 11, 12, 13, 14, 15], [])])
def prog_Inside.B4 : List Nat := [0, 1, 0, 4, 15, 0, 32, 0, 128, 0, 512, 1567, 3999, 8191, 16383, 32767, 65535]
theorem prog_Inside.tab4 : rtab .any (opsOf Try.f26 4) = prog_Inside.T4 := by kernel_rfl
theorem prog_Inside.bits4 : waitsOk prog_Inside.T4.2 prog_Inside.B4 = true := by kernel_rfl
set_option maxHeartbeats 8000000 in
set_option maxRecDepth 100000 in
theorem prog_Inside.calls (k : Nat) (a0_0 : Int) (A0_1 : Option Addr) (c0_1 : Nat) (l0_1 : List (S82)) (A0_2 : Option Addr) (c0_2 : Nat) (l0_2 : List (S47)) (a1 : Int) (r1 : List Int) (r2 : List Int) (r3 : Int) (w : World) (hr0_1 : Kd.C k82 w A0_1 l0_1.length l0_1) (hc0_1 : l0_1.length ≤ c0_1) (hr0_2 : Kd.C k47 w A0_2 l0_2.length l0_2) (hc0_2 : l0_2.length ≤ c0_2) (h : prog_Inside.f k a0_0 l0_1 l0_2 a1 = some (r1, r2, r3)) :
  Calls Try.prog 26 #[.agg #[.int .i64 a0_0, .slice A0_1 l0_1.length c0_1, .slice A0_2 l0_2.length c0_2], .int .i64 a1] w fun e w' => ∃ v0_ v1_ : Value, e = .returned (.tuple #[v0_, v1_, .int .i64 r3]) ∧ Kd.R (Kd.int .i64) 3 w' w.heap.size (fun k_ => some k_ ≠ (v1_ : Value).ownBlock) v0_ r1 ∧ Kd.R (Kd.int .i64) 3 w' w.heap.size (fun k_ => some k_ ≠ (v0_ : Value).ownBlock) v1_ r2 ∧ Below w.heap.size w w' := by
 have hu25 := Try.underlying25
 have hu47 := Try.underlying47
 have HR0_1 := Aside0.mk hr0_1
 have HC0_1 := Aside0.mk hc0_1
 clear hr0_1 hc0_1
 have HR0_2 := Aside0.mk hr0_2
 have HC0_2 := Aside0.mk hc0_2
 clear hr0_2 hc0_2
 have HB := Aside0.mk (Below.refl w.heap.size w)
 have H : ((prog_At.f k a0_0 l0_1 l0_2 a1).bind fun bt222 => (if bt222.2.2.2.2.2 = 0 then ((prog_numbers.f k bt222.2.2.2.1 (wrap64 (a1 + 1))).bind fun t235 => ((prog_size.f k bt222.2.2.2.1).bind fun t238 => ((prog_numbers.f k bt222.2.2.2.2.1 (wrap64 ((wrap64 (a1 + 1)) + t238))).bind fun t239 => (some (t235, t239, 0))))) else (some (([] : List Int), ([] : List Int), bt222.2.2.2.2.2)))) = some (r1, r2, r3) := h
 clear h
 replace H := Option.bind_eq_some_iff.mp H
 obtain ⟨⟨t222, t223, t224, t227, t230, t233⟩, A30, H⟩ := H
 replace H : (if t233 = 0 then ((prog_numbers.f k t227 (wrap64 (a1 + 1))).bind fun t235 => ((prog_size.f k t227).bind fun t238 => ((prog_numbers.f k t230 (wrap64 ((wrap64 (a1 + 1)) + t238))).bind fun t239 => (some (t235, t239, 0))))) else (some (([] : List Int), ([] : List Int), t233))) = some (r1, r2, r3) := H
 have A3 := Aside0.mk A30
 clear A30
 by_cases c4 : t233 = 0
 ·rw [if_pos c4] at H
  have c4b0 : (t233 == 0) = true := beq_iff_eq.mpr c4
  have c4b1 : (t233 != 0) = false := bne_eq_false_iff_eq.mpr c4
  clear c4
  replace H := Option.bind_eq_some_iff.mp H
  obtain ⟨t235, A50, H⟩ := H
  replace H : ((prog_size.f k t227).bind fun t238 => ((prog_numbers.f k t230 (wrap64 ((wrap64 (a1 + 1)) + t238))).bind fun t239 => (some (t235, t239, 0)))) = some (r1, r2, r3) := H
  have A5 := Aside0.mk A50
  clear A50
  replace H := Option.bind_eq_some_iff.mp H
  obtain ⟨t238, A60, H⟩ := H
  replace H : ((prog_numbers.f k t230 (wrap64 ((wrap64 (a1 + 1)) + t238))).bind fun t239 => (some (t235, t239, 0))) = some (r1, r2, r3) := H
  have A6 := Aside0.mk A60
  clear A60
  replace H := Option.bind_eq_some_iff.mp H
  obtain ⟨t239, A70, H⟩ := H
  replace H : (some (t235, t239, 0)) = some (r1, r2, r3) := H
  have A7 := Aside0.mk A70
  clear A70
  simp only [Option.some.injEq, Prod.mk.injEq] at H
  obtain ⟨rfl, rfl, rfl⟩ := H
  go_enter Try.func26, Try.ntmps26
  try go_wp2_with (first | ((with_reducible refine gate_dst (N := 2) rfl ?_); refine box_event ?hg (N := 2) ?hd (cs := #[.int .i64 a0_0, .slice A0_1 l0_1.length c0_1, .slice A0_2 l0_2.length c0_2]) (t := 25) ?hr ?_; (case hd => rfl); (case hg => rfl); (case hr => first | (go_simp; done) | (go_simp; rfl)); intro gb221 hg w8 hbox hb; have n0_ := Aside0.mk (bsp (by repeat (first | (with_reducible first | exact HB.out | apply bal | apply bdN | apply bd1) | exact HB.out)) hb); have n1_ := Aside0.mk (hbox); have n2_ := Aside0.mk ((by rw [hg]; exact (bsz (by repeat (first | (with_reducible first | exact HB.out | apply bal | apply bdN | apply bd1) | exact HB.out))) : w.heap.size ≤ gb221)); have n3_ := Aside0.mk ((by rw [hg]; exact (bsz (by repeat (first | (with_reducible first | exact HB.out | apply bal | apply bdN | apply bd1) | exact HB.out))) : w.heap.size ≤ gb221)); clear HB; have HB := n0_; have BK221 := n1_; have GW221 := n2_; have GE221 := n3_; clear n0_ n1_ n2_ n3_; clear hb hbox hg; obtain ⟨hcz9_0, hcz9_1, hcz9_2, hfz9_0, hfz9_1, hfz9_2⟩ := cf3 BK221.out) | ((with_reducible refine gate_callee (f := 25) rfl ?_); refine goesL_ (some 11) rfl rfl Try.func25 (by kernel_rfl) rfl #[.agg #[.int .i64 a0_0, .slice A0_1 l0_1.length c0_1, .slice A0_2 l0_2.length c0_2], .int .i64 a1] rfl (by (try simp only [List.map_toArray, List.map_cons, List.map_nil]); first | done | rfl | (simp only [List.length_drop, List.length_take]; rfl)) ?_; (with_reducible refine (prog_At.calls k a0_0 _ _ l0_1 _ _ l0_2 a1 t222 t223 t224 t227 t230 t233 _ ?side1 ?side2 ?side3 ?side4 A3.out).mono ?_); (case side1 => repeat (first | exact (Kd.C_below HR0_1.out HB.out) | with_reducible first | apply Kd.C_alloc | apply Kd.C_drewN | apply Kd.C_drew)); (case side2 => exact HC0_1.out); (case side3 => repeat (first | exact (Kd.C_below HR0_2.out HB.out) | with_reducible first | apply Kd.C_alloc | apply Kd.C_drewN | apply Kd.C_drew)); (case side4 => exact HC0_2.out); rintro e w10 ⟨v225, v228, v231, rfl, ho0, ho1, ho2, hb⟩; refine ⟨_, rfl, ?_⟩; have n0_ := Aside0.mk (Kd.R_lower ho0 (bsz (by repeat (first | (with_reducible first | exact HB.out | apply bal | apply bdN | apply bd1 | refine bst ?_ GE221.out) | exact HB.out)))); have n1_ := Aside0.mk (Kd.R_lower ho1 (bsz (by repeat (first | (with_reducible first | exact HB.out | apply bal | apply bdN | apply bd1 | refine bst ?_ GE221.out) | exact HB.out)))); have n2_ := Aside0.mk (Kd.R_lower ho2 (bsz (by repeat (first | (with_reducible first | exact HB.out | apply bal | apply bdN | apply bd1 | refine bst ?_ GE221.out) | exact HB.out)))); have n3_ := Aside0.mk (blk_below (g := gb221) (o := .cells #[.int .i64 a0_0, .slice A0_1 l0_1.length c0_1, .slice A0_2 l0_2.length c0_2] 25 (0, 0)) (by (with_reducible repeat (first | refine kdN ?_ _ | refine kdr ?_ | refine kal ?_ _)); exact BK221.out) hb); have n4_ := Aside0.mk (bsp (by repeat (first | (with_reducible first | exact HB.out | apply bal | apply bdN | apply bd1 | refine bst ?_ GE221.out) | exact HB.out)) hb); clear BK221; clear HB; have HO226 := n0_; have HO229 := n1_; have HO232 := n2_; have BK221 := n3_; have HB := n4_; clear n0_ n1_ n2_ n3_ n4_; (try clear hb); (try clear hb2); (try clear hk); (try clear hi); (try clear ho0); (try clear ho1); (try clear ho2)) | ((with_reducible refine gate_dst (N := 7) rfl ?_); refine box_event ?hg (N := 7) ?hd (cs := #[.int .i64 0, .int .i64 0, .slice none 0 0, .slice none 0 0, .slice none 0 0]) (t := 47) ?hr ?_; (case hd => rfl); (case hg => rfl); (case hr => first | (go_simp; done) | (go_simp; rfl)); intro gb234 hg w11 hbox hb; have n0_ := Aside0.mk (Kd.R_below (by (with_reducible repeat (first | apply Kd.R_alloc | apply Kd.R_drewN | apply Kd.R_drew)); exact HO226.out) hb); have n1_ := Aside0.mk (Kd.R_below (Kd.R_elderB (by (with_reducible repeat (first | apply Kd.R_alloc | apply Kd.R_drewN | apply Kd.R_drew)); exact HO229.out) gb234 (Nat.le_of_eq hg.symm)) hb); have n2_ := Aside0.mk (Kd.R_below (Kd.R_elderB (by (with_reducible repeat (first | apply Kd.R_alloc | apply Kd.R_drewN | apply Kd.R_drew)); exact HO232.out) gb234 (Nat.le_of_eq hg.symm)) hb); have n3_ := Aside0.mk (blk_below (g := gb221) (o := .cells #[.int .i64 a0_0, .slice A0_1 l0_1.length c0_1, .slice A0_2 l0_2.length c0_2] 25 (0, 0)) (by (with_reducible repeat (first | refine kdN ?_ _ | refine kdr ?_ | refine kal ?_ _)); exact BK221.out) hb); have n4_ := Aside0.mk (bsp (by repeat (first | (with_reducible first | exact HB.out | apply bal | apply bdN | apply bd1 | refine bst ?_ GE221.out) | exact HB.out)) hb); have n5_ := Aside0.mk (hbox); have n6_ := Aside0.mk ((by rw [hg]; exact (bsz (by repeat (first | (with_reducible first | exact HB.out | apply bal | apply bdN | apply bd1 | refine bst ?_ GE221.out) | exact HB.out))) : w.heap.size ≤ gb234)); have n7_ := Aside0.mk ((by rw [hg]; exact (bsz (by repeat (first | (with_reducible first | exact HB.out | apply bal | apply bdN | apply bd1 | refine bst ?_ GE221.out) | exact HB.out))) : w.heap.size ≤ gb234)); have n8_ := Aside0.mk ((by rw [hg]; exact Nat.ne_of_lt (blk_lt (g := gb221) (o := .cells #[.int .i64 a0_0, .slice A0_1 l0_1.length c0_1, .slice A0_2 l0_2.length c0_2] 25 (0, 0)) (by (with_reducible repeat (first | refine kdN ?_ _ | refine kdr ?_ | refine kal ?_ _)); exact BK221.out)) : gb221 ≠ gb234)); have n9_ := Aside0.mk ((by rw [hg]; exact Nat.ne_of_gt (blk_lt (g := gb221) (o := .cells #[.int .i64 a0_0, .slice A0_1 l0_1.length c0_1, .slice A0_2 l0_2.length c0_2] 25 (0, 0)) (by (with_reducible repeat (first | refine kdN ?_ _ | refine kdr ?_ | refine kal ?_ _)); exact BK221.out)) : gb234 ≠ gb221)); clear HO226; clear HO229; clear HO232; clear BK221; clear HB; have HO226 := n0_; have HO229 := n1_; have HO232 := n2_; have BK221 := n3_; have HB := n4_; have BK234 := n5_; have GW234 := n6_; have GE234 := n7_; have NB221_234 := n8_; have NB234_221 := n9_; clear n0_ n1_ n2_ n3_ n4_ n5_ n6_ n7_ n8_ n9_; clear hb hbox hg; have hnb12 := NB234_221.out; have hnc12 := NB221_234.out; obtain ⟨hcz13_0, hcz13_1, hcz13_2, hcz13_3, hcz13_4, hfz13_0, hfz13_1, hfz13_2, hfz13_3, hfz13_4⟩ := cf5 BK234.out; obtain ⟨Ao14, co14, eo14⟩ := Kd.R_slice HO226.out; subst eo14; obtain ⟨Ao15, co15, eo15⟩ := Kd.R_slice HO229.out; subst eo15; obtain ⟨Ao16, co16, eo16⟩ := Kd.R_slice HO232.out; subst eo16))
  have n0_ : Aside0 (Kd.R k96 96 (((((w11.setCell ⟨gb234, 0, none⟩ (.int .i64 t222)).setCell ⟨gb234, 1, none⟩ (.int .i64 t223)).setCell ⟨gb234, 2, none⟩ (.slice Ao14 t224.length co14)).setCell ⟨gb234, 3, none⟩ (.slice Ao15 t227.length co15)).setCell ⟨gb234, 4, none⟩ (.slice Ao16 t230.length co16)) w.heap.size (fun _ => True) (.slice Ao14 t224.length co14) t224) := ⟨by (with_reducible repeat (first | apply Kd.R_alloc | apply Kd.R_drewN | apply Kd.R_drew)); exact Kd.R_mono (Kd.R_far (p := ⟨gb234, 4, none⟩) (Kd.R_far (p := ⟨gb234, 3, none⟩) (Kd.R_far (p := ⟨gb234, 2, none⟩) (Kd.R_far (p := ⟨gb234, 1, none⟩) (Kd.R_far (p := ⟨gb234, 0, none⟩) (Kd.R_types HO226.out BK234.out (by decide)) (fun _ hk => hk.2) (.int .i64 t222)) (fun _ hk => hk.2) (.int .i64 t223)) (fun _ hk => hk.2) (.slice Ao14 t224.length co14)) (fun _ hk => hk.2) (.slice Ao15 t227.length co15)) (fun _ hk => hk.2) (.slice Ao16 t230.length co16)) (fun _ hk => trivial)⟩
  have n1_ : Aside0 (Kd.R k47 47 (((((w11.setCell ⟨gb234, 0, none⟩ (.int .i64 t222)).setCell ⟨gb234, 1, none⟩ (.int .i64 t223)).setCell ⟨gb234, 2, none⟩ (.slice Ao14 t224.length co14)).setCell ⟨gb234, 3, none⟩ (.slice Ao15 t227.length co15)).setCell ⟨gb234, 4, none⟩ (.slice Ao16 t230.length co16)) w.heap.size (fun k_ => some k_ ≠ (.slice Ao14 t224.length co14 : Value).ownBlock ∧ some k_ ≠ (.slice Ao16 t230.length co16 : Value).ownBlock ∧ k_ ≠ gb234) (.slice Ao15 t227.length co15) t227) := ⟨by (with_reducible repeat (first | apply Kd.R_alloc | apply Kd.R_drewN | apply Kd.R_drew)); exact Kd.R_mono (Kd.R_far (p := ⟨gb234, 4, none⟩) (Kd.R_far (p := ⟨gb234, 3, none⟩) (Kd.R_far (p := ⟨gb234, 2, none⟩) (Kd.R_far (p := ⟨gb234, 1, none⟩) (Kd.R_far (p := ⟨gb234, 0, none⟩) (Kd.R_mono HO229.out (fun k_ hk => (⟨hk, hk.2⟩ : _ ∧ k_ ≠ gb234))) (fun _ hk => hk.2) (.int .i64 t222)) (fun _ hk => hk.2) (.int .i64 t223)) (fun _ hk => hk.2) (.slice Ao14 t224.length co14)) (fun _ hk => hk.2) (.slice Ao15 t227.length co15)) (fun _ hk => hk.2) (.slice Ao16 t230.length co16)) (fun _ hk => ⟨hk.1.1.1, ⟨hk.1.1.2, hk.1.2⟩⟩)⟩
  have n2_ : Aside0 (Kd.R k47 47 (((((w11.setCell ⟨gb234, 0, none⟩ (.int .i64 t222)).setCell ⟨gb234, 1, none⟩ (.int .i64 t223)).setCell ⟨gb234, 2, none⟩ (.slice Ao14 t224.length co14)).setCell ⟨gb234, 3, none⟩ (.slice Ao15 t227.length co15)).setCell ⟨gb234, 4, none⟩ (.slice Ao16 t230.length co16)) w.heap.size (fun k_ => some k_ ≠ (.slice Ao14 t224.length co14 : Value).ownBlock ∧ some k_ ≠ (.slice Ao15 t227.length co15 : Value).ownBlock ∧ k_ ≠ gb234) (.slice Ao16 t230.length co16) t230) := ⟨by (with_reducible repeat (first | apply Kd.R_alloc | apply Kd.R_drewN | apply Kd.R_drew)); exact Kd.R_mono (Kd.R_far (p := ⟨gb234, 4, none⟩) (Kd.R_far (p := ⟨gb234, 3, none⟩) (Kd.R_far (p := ⟨gb234, 2, none⟩) (Kd.R_far (p := ⟨gb234, 1, none⟩) (Kd.R_far (p := ⟨gb234, 0, none⟩) (Kd.R_mono HO232.out (fun k_ hk => (⟨hk, hk.2⟩ : _ ∧ k_ ≠ gb234))) (fun _ hk => hk.2) (.int .i64 t222)) (fun _ hk => hk.2) (.int .i64 t223)) (fun _ hk => hk.2) (.slice Ao14 t224.length co14)) (fun _ hk => hk.2) (.slice Ao15 t227.length co15)) (fun _ hk => hk.2) (.slice Ao16 t230.length co16)) (fun _ hk => ⟨hk.1.1.1, ⟨hk.1.1.2, hk.1.2⟩⟩)⟩
  have n3_ : Aside0 ((((((w11.setCell ⟨gb234, 0, none⟩ (.int .i64 t222)).setCell ⟨gb234, 1, none⟩ (.int .i64 t223)).setCell ⟨gb234, 2, none⟩ (.slice Ao14 t224.length co14)).setCell ⟨gb234, 3, none⟩ (.slice Ao15 t227.length co15)).setCell ⟨gb234, 4, none⟩ (.slice Ao16 t230.length co16)).heap[gb221]? = some (.cells #[.int .i64 a0_0, .slice A0_1 l0_1.length c0_1, .slice A0_2 l0_2.length c0_2] 25 (0, 0))) := ⟨by (with_reducible repeat (first | refine kdN ?_ _ | refine kdr ?_ | refine kal ?_ _)); refine blk_far ?_ NB221_234.out _; (with_reducible repeat (first | refine kdN ?_ _ | refine kdr ?_ | refine kal ?_ _)); refine blk_far ?_ NB221_234.out _; (with_reducible repeat (first | refine kdN ?_ _ | refine kdr ?_ | refine kal ?_ _)); refine blk_far ?_ NB221_234.out _; (with_reducible repeat (first | refine kdN ?_ _ | refine kdr ?_ | refine kal ?_ _)); refine blk_far ?_ NB221_234.out _; (with_reducible repeat (first | refine kdN ?_ _ | refine kdr ?_ | refine kal ?_ _)); refine blk_far ?_ NB221_234.out _; (with_reducible repeat (first | refine kdN ?_ _ | refine kdr ?_ | refine kal ?_ _)); exact BK221.out⟩
  have n4_ : Aside0 ((((((w11.setCell ⟨gb234, 0, none⟩ (.int .i64 t222)).setCell ⟨gb234, 1, none⟩ (.int .i64 t223)).setCell ⟨gb234, 2, none⟩ (.slice Ao14 t224.length co14)).setCell ⟨gb234, 3, none⟩ (.slice Ao15 t227.length co15)).setCell ⟨gb234, 4, none⟩ (.slice Ao16 t230.length co16)).heap[gb234]? = some (.cells #[.int .i64 t222, .int .i64 t223, .slice Ao14 t224.length co14, .slice Ao15 t227.length co15, .slice Ao16 t230.length co16] 47 (0, 0))) := ⟨by (with_reducible repeat (first | refine kdN ?_ _ | refine kdr ?_ | refine kal ?_ _)); refine blk_put (cs := #[.int .i64 t222, .int .i64 t223, .slice Ao14 t224.length co14, .slice Ao15 t227.length co15, .slice none 0 0]) ?_ 4 _ rfl; (with_reducible repeat (first | refine kdN ?_ _ | refine kdr ?_ | refine kal ?_ _)); refine blk_put (cs := #[.int .i64 t222, .int .i64 t223, .slice Ao14 t224.length co14, .slice none 0 0, .slice none 0 0]) ?_ 3 _ rfl; (with_reducible repeat (first | refine kdN ?_ _ | refine kdr ?_ | refine kal ?_ _)); refine blk_put (cs := #[.int .i64 t222, .int .i64 t223, .slice none 0 0, .slice none 0 0, .slice none 0 0]) ?_ 2 _ rfl; (with_reducible repeat (first | refine kdN ?_ _ | refine kdr ?_ | refine kal ?_ _)); refine blk_put (cs := #[.int .i64 t222, .int .i64 0, .slice none 0 0, .slice none 0 0, .slice none 0 0]) ?_ 1 _ rfl; (with_reducible repeat (first | refine kdN ?_ _ | refine kdr ?_ | refine kal ?_ _)); refine blk_put (cs := #[.int .i64 0, .int .i64 0, .slice none 0 0, .slice none 0 0, .slice none 0 0]) ?_ 0 _ rfl; (with_reducible repeat (first | refine kdN ?_ _ | refine kdr ?_ | refine kal ?_ _)); exact BK234.out⟩
  have n5_ : Aside0 (Below w.heap.size w (((((w11.setCell ⟨gb234, 0, none⟩ (.int .i64 t222)).setCell ⟨gb234, 1, none⟩ (.int .i64 t223)).setCell ⟨gb234, 2, none⟩ (.slice Ao14 t224.length co14)).setCell ⟨gb234, 3, none⟩ (.slice Ao15 t227.length co15)).setCell ⟨gb234, 4, none⟩ (.slice Ao16 t230.length co16))) := ⟨by repeat (first | (with_reducible first | exact HB.out | apply bal | apply bdN | apply bd1 | refine bst ?_ GE221.out | refine bst ?_ GE234.out) | exact HB.out)⟩
  (try clear HO226)
  (try clear HO229)
  (try clear HO232)
  (try clear BK221)
  (try clear BK234)
  (try clear HB)
  generalize (((((w11.setCell ⟨gb234, 0, none⟩ (.int .i64 t222)).setCell ⟨gb234, 1, none⟩ (.int .i64 t223)).setCell ⟨gb234, 2, none⟩ (.slice Ao14 t224.length co14)).setCell ⟨gb234, 3, none⟩ (.slice Ao15 t227.length co15)).setCell ⟨gb234, 4, none⟩ (.slice Ao16 t230.length co16)) = w17 at n0_ n1_ n2_ n3_ n4_ n5_ ⊢
  have HO226 := n0_
  have HO229 := n1_
  have HO232 := n2_
  have BK221 := n3_
  have BK234 := n4_
  have HB := n5_
  clear n0_ n1_ n2_ n3_ n4_ n5_
  have n0_ := Aside0.mk (Kd.R_drew HO226.out)
  have n1_ := Aside0.mk (Kd.R_drew HO229.out)
  have n2_ := Aside0.mk (Kd.R_drew HO232.out)
  have n3_ := Aside0.mk (kdr BK221.out)
  have n4_ := Aside0.mk (kdr BK234.out)
  have n5_ := Aside0.mk (bd1 HB.out)
  clear HO226
  clear HO229
  clear HO232
  clear BK221
  clear BK234
  clear HB
  have HO226 := n0_
  have HO229 := n1_
  have HO232 := n2_
  have BK221 := n3_
  have BK234 := n4_
  have HB := n5_
  clear n0_ n1_ n2_ n3_ n4_ n5_
  refine start_ (n := 17) (S := fun w' => w'.cell? ⟨gb234, 0, none⟩ = some (.int .i64 t222) ∧ w'.cell? ⟨gb234, 1, none⟩ = some (.int .i64 t223) ∧ w'.cell? ⟨gb234, 2, none⟩ = some (.slice Ao14 t224.length co14) ∧ w'.cell? ⟨gb234, 3, none⟩ = some (.slice Ao15 t227.length co15) ∧ w'.cell? ⟨gb234, 4, none⟩ = some (.slice Ao16 t230.length co16)) (ds := []) #[false, false, false, false, false, false, false, false, false, false, false, false, false, false, false, false, false] (by kernel_rfl) rfl rfl ⟨(blk_cell BK234.out 0).trans rfl, (blk_cell BK234.out 1).trans rfl, (blk_cell BK234.out 2).trans rfl, (blk_cell BK234.out 3).trans rfl, (blk_cell BK234.out 4).trans rfl⟩ (fun hHeld => ?_); refine with_tabW prog_Inside.tab4 prog_Inside.bits4 (fun HT_ HW_ => ?_)
  generalize w17.drew = w18 at HO226 HO229 HO232 BK221 BK234 HB hHeld ⊢
  refine pure_ (i := 0) (N := some 17) (v := ?_) (a' := ?_) #[true, false, false, false, false, false, false, false, false, false, false, false, false, false, false, false, false] rfl rfl (any_of HT_.out (by kernel_rfl)) (fun _ _ _ h => h) (Or.inl ⟨by rfl, ?_⟩) ?_ ?_
  rotate_left
  ·intro w'
   go_simp
   with_reducible rfl
  rotate_left
  ·simp only [Act.put, List.setIfInBounds_toArray, List.set_cons_zero, List.set_cons_succ, i64_w, i32_w]
   rfl
  refine pure_ (i := 2) (N := some 19) (v := ?_) (a' := ?_) #[true, false, true, false, false, false, false, false, false, false, false, false, false, false, false, false, false] rfl rfl (any_of HT_.out (by kernel_rfl)) (fun _ _ _ h => h) (Or.inl ⟨by rfl, ?_⟩) ?_ ?_
  rotate_left
  ·intro w'
   go_simp
   with_reducible rfl
  rotate_left
  ·simp only [Act.put, List.setIfInBounds_toArray, List.set_cons_zero, List.set_cons_succ, i64_w, i32_w]
   rfl
  refine pure_ (i := 3) (N := some 20) (v := ?_) (a' := ?_) #[true, false, true, true, false, false, false, false, false, false, false, false, false, false, false, false, false] rfl rfl (any_of HT_.out (by kernel_rfl)) (fun _ _ _ h => h) (Or.inl ⟨by rfl, ?_⟩) ?_ ?_
  rotate_left
  ·intro w'
   go_simp
   with_reducible rfl
  rotate_left
  ·simp only [Act.put, List.setIfInBounds_toArray, List.set_cons_zero, List.set_cons_succ, i64_w, i32_w]
   rfl
  refine pure_ (i := 5) (N := some 22) (v := ?_) (a' := ?_) #[true, false, true, true, false, true, false, false, false, false, false, false, false, false, false, false, false] rfl rfl (any_of HT_.out (by kernel_rfl)) (fun _ _ _ h => h) (Or.inl ⟨by rfl, ?_⟩) ?_ ?_
  rotate_left
  ·intro w'
   go_simp
   with_reducible rfl
  rotate_left
  ·simp only [Act.put, List.setIfInBounds_toArray, List.set_cons_zero, List.set_cons_succ, i64_w, i32_w]
   rfl
  refine pure_ (i := 7) (N := some 24) (v := ?_) (a' := ?_) #[true, false, true, true, false, true, false, true, false, false, false, false, false, false, false, false, false] rfl rfl (any_of HT_.out (by kernel_rfl)) (fun _ _ _ h => h) (Or.inl ⟨by rfl, ?_⟩) ?_ ?_
  rotate_left
  ·intro w'
   go_simp
   with_reducible rfl
  rotate_left
  ·simp only [Act.put, List.setIfInBounds_toArray, List.set_cons_zero, List.set_cons_succ, i64_w, i32_w]
   rfl
  refine pure_ (i := 8) (N := some 25) (v := ?_) (a' := ?_) #[true, false, true, true, false, true, false, true, true, false, false, false, false, false, false, false, false] rfl rfl (any_of HT_.out (by kernel_rfl)) (fun _ _ _ h => h) (Or.inl ⟨by rfl, ?_⟩) ?_ ?_
  rotate_left
  ·intro w'
   go_simp
   with_reducible rfl
  rotate_left
  ·simp only [Act.put, List.setIfInBounds_toArray, List.set_cons_zero, List.set_cons_succ, i64_w, i32_w]
   rfl
  refine pure_ (i := 9) (N := some 26) (v := ?_) (a' := ?_) #[true, false, true, true, false, true, false, true, true, true, false, false, false, false, false, false, false] rfl rfl (any_of HT_.out (by kernel_rfl)) (fun _ _ _ h => h) (Or.inl ⟨by rfl, ?_⟩) ?_ ?_
  rotate_left
  ·intro w'
   go_simp
   with_reducible rfl
  rotate_left
  ·simp only [Act.put, List.setIfInBounds_toArray, List.set_cons_zero, List.set_cons_succ, i64_w, i32_w]
   rfl
  refine take_ (i := 1) (N := some 18) (v := ?_) (a' := ?_) #[true, true, true, true, false, true, false, true, true, true, false, false, false, false, false, false, false] rfl rfl (take_ofW HT_.out HW_.out (by kernel_rfl)) (fun _ _ _ h => h) (Or.inl ⟨by rfl, ?_⟩) hHeld ?_ ?_
  rotate_left
  ·rintro w' ⟨s0, s1, s2, s3, s4⟩
   go_simp
   with_reducible rfl
  rotate_left
  ·simp only [Act.put, List.setIfInBounds_toArray, List.set_cons_zero, List.set_cons_succ, i64_w, i32_w]
   rfl
  refine take_ (i := 6) (N := some 23) (v := ?_) (a' := ?_) #[true, true, true, true, false, true, true, true, true, true, false, false, false, false, false, false, false] rfl rfl (take_ofW HT_.out HW_.out (by kernel_rfl)) (fun _ _ _ h => h) (Or.inl ⟨by rfl, ?_⟩) hHeld ?_ ?_
  rotate_left
  ·rintro w' ⟨s0, s1, s2, s3, s4⟩
   go_simp
   with_reducible rfl
  rotate_left
  ·simp only [Act.put, List.setIfInBounds_toArray, List.set_cons_zero, List.set_cons_succ, i64_w, i32_w]
   rfl
  refine take_ (i := 10) (N := some 27) (v := ?_) (a' := ?_) #[true, true, true, true, false, true, true, true, true, true, true, false, false, false, false, false, false] rfl rfl (take_ofW HT_.out HW_.out (by kernel_rfl)) (fun _ _ _ h => h) (Or.inl ⟨by rfl, ?_⟩) hHeld ?_ ?_
  rotate_left
  ·rintro w' ⟨s0, s1, s2, s3, s4⟩
   go_simp
   with_reducible rfl
  rotate_left
  ·simp only [Act.put, List.setIfInBounds_toArray, List.set_cons_zero, List.set_cons_succ, i64_w, i32_w]
   rfl
  refine one_ (i := 4) (N := some 21) #[true, true, true, true, true, true, true, true, true, true, true, false, false, false, false, false, false] rfl rfl (one_of HT_.out (by kernel_rfl)) (by decide) (fun K hK => ?_)
  refine goes_ Try.func55 (by kernel_rfl) rfl #[.slice Ao15 t227.length co15, .int .i64 (wrap64 (a1 + 1))] (by rfl) rfl rfl (by (try simp only [List.map_toArray, List.map_cons, List.map_nil]); first | done | rfl | (simp only [List.length_drop, List.length_take]; rfl)) ?_
  with_reducible refine (prog_numbers.calls k _ _ t227 (wrap64 (a1 + 1)) t235 _ ?side1 ?side2 A5.out).mono ?_
  (case side1 => repeat (first | exact (Kd.R_reads' HO229.out).2.2 | with_reducible first | apply Kd.C_alloc | apply Kd.C_drewN | apply Kd.C_drew))
  (case side2 => exact (Kd.R_reads' HO229.out).2.1)
  rintro e w19 ⟨v236, rfl, ho0, hb⟩
  refine ⟨_, rfl, ?_⟩
  have n0_ := Aside0.mk (Kd.R_below (by (with_reducible repeat (first | apply Kd.R_alloc | apply Kd.R_drewN | apply Kd.R_drew)); exact HO226.out) hb)
  have n1_ := Aside0.mk (Kd.R_below (by (with_reducible repeat (first | apply Kd.R_alloc | apply Kd.R_drewN | apply Kd.R_drew)); exact HO229.out) hb)
  have n2_ := Aside0.mk (Kd.R_below (by (with_reducible repeat (first | apply Kd.R_alloc | apply Kd.R_drewN | apply Kd.R_drew)); exact HO232.out) hb)
  have n3_ := Aside0.mk (Kd.R_lower ho0 (bsz (by repeat (first | (with_reducible first | exact HB.out | apply bal | apply bdN | apply bd1 | refine bst ?_ GE221.out | refine bst ?_ GE234.out) | exact HB.out))))
  have n4_ := Aside0.mk (blk_below (g := gb221) (o := .cells #[.int .i64 a0_0, .slice A0_1 l0_1.length c0_1, .slice A0_2 l0_2.length c0_2] 25 (0, 0)) (by (with_reducible repeat (first | refine kdN ?_ _ | refine kdr ?_ | refine kal ?_ _)); exact BK221.out) hb)
  have n5_ := Aside0.mk (blk_below (g := gb234) (o := .cells #[.int .i64 t222, .int .i64 t223, .slice Ao14 t224.length co14, .slice Ao15 t227.length co15, .slice Ao16 t230.length co16] 47 (0, 0)) (by (with_reducible repeat (first | refine kdN ?_ _ | refine kdr ?_ | refine kal ?_ _)); exact BK234.out) hb)
  have n6_ := Aside0.mk (bsp (by repeat (first | (with_reducible first | exact HB.out | apply bal | apply bdN | apply bd1 | refine bst ?_ GE221.out | refine bst ?_ GE234.out) | exact HB.out)) hb)
  clear HO226
  clear HO229
  clear HO232
  clear BK221
  clear BK234
  clear HB
  have HO226 := n0_
  have HO229 := n1_
  have HO232 := n2_
  have HO237 := n3_
  have BK221 := n4_
  have BK234 := n5_
  have HB := n6_
  clear n0_ n1_ n2_ n3_ n4_ n5_ n6_
  (try clear hb)
  (try clear hb2)
  (try clear hk)
  (try clear hi)
  (try clear ho0)
  refine hK.out _ _ ⟨(blk_cell BK234.out 0).trans rfl, (blk_cell BK234.out 1).trans rfl, (blk_cell BK234.out 2).trans rfl, (blk_cell BK234.out 3).trans rfl, (blk_cell BK234.out 4).trans rfl⟩ (fun hHeld => ?_)
  clear hK K
  refine norm_ (a' := ?_) ?_ ?_
  rotate_left
  ·show Act.put _ (some 21) _ = _
   simp only [Act.put, List.setIfInBounds_toArray, List.set_cons_zero, List.set_cons_succ, i64_w, i32_w]
   rfl
  refine one_ (i := 11) (N := some 28) #[true, true, true, true, true, true, true, true, true, true, true, true, false, false, false, false, false] rfl rfl (one_of HT_.out (by kernel_rfl)) (by decide) (fun K hK => ?_)
  refine goes_ Try.func56 (by kernel_rfl) rfl #[.slice Ao15 t227.length co15] (by rfl) rfl rfl (by (try simp only [List.map_toArray, List.map_cons, List.map_nil]); first | done | rfl | (simp only [List.length_drop, List.length_take]; rfl)) ?_
  with_reducible refine (prog_size.calls k _ _ t227 t238 _ ?side1 ?side2 A6.out).mono ?_
  (case side1 => repeat (first | exact (Kd.R_reads' HO229.out).2.2 | with_reducible first | apply Kd.C_alloc | apply Kd.C_drewN | apply Kd.C_drew))
  (case side2 => exact (Kd.R_reads' HO229.out).2.1)
  rintro e w20 ⟨rfl, hb⟩
  refine ⟨_, rfl, ?_⟩
  have n0_ := Aside0.mk (Kd.R_below (by (with_reducible repeat (first | apply Kd.R_alloc | apply Kd.R_drewN | apply Kd.R_drew)); exact HO226.out) hb)
  have n1_ := Aside0.mk (Kd.R_below (by (with_reducible repeat (first | apply Kd.R_alloc | apply Kd.R_drewN | apply Kd.R_drew)); exact HO229.out) hb)
  have n2_ := Aside0.mk (Kd.R_below (by (with_reducible repeat (first | apply Kd.R_alloc | apply Kd.R_drewN | apply Kd.R_drew)); exact HO232.out) hb)
  have n3_ := Aside0.mk (Kd.R_below (by (with_reducible repeat (first | apply Kd.R_alloc | apply Kd.R_drewN | apply Kd.R_drew)); exact HO237.out) hb)
  have n4_ := Aside0.mk (blk_below (g := gb221) (o := .cells #[.int .i64 a0_0, .slice A0_1 l0_1.length c0_1, .slice A0_2 l0_2.length c0_2] 25 (0, 0)) (by (with_reducible repeat (first | refine kdN ?_ _ | refine kdr ?_ | refine kal ?_ _)); exact BK221.out) hb)
  have n5_ := Aside0.mk (blk_below (g := gb234) (o := .cells #[.int .i64 t222, .int .i64 t223, .slice Ao14 t224.length co14, .slice Ao15 t227.length co15, .slice Ao16 t230.length co16] 47 (0, 0)) (by (with_reducible repeat (first | refine kdN ?_ _ | refine kdr ?_ | refine kal ?_ _)); exact BK234.out) hb)
  have n6_ := Aside0.mk (bsp (by repeat (first | (with_reducible first | exact HB.out | apply bal | apply bdN | apply bd1 | refine bst ?_ GE221.out | refine bst ?_ GE234.out) | exact HB.out)) hb)
  clear HO226
  clear HO229
  clear HO232
  clear HO237
  clear BK221
  clear BK234
  clear HB
  have HO226 := n0_
  have HO229 := n1_
  have HO232 := n2_
  have HO237 := n3_
  have BK221 := n4_
  have BK234 := n5_
  have HB := n6_
  clear n0_ n1_ n2_ n3_ n4_ n5_ n6_
  (try clear hb)
  (try clear hb2)
  (try clear hk)
  (try clear hi)
  refine hK.out _ _ ⟨(blk_cell BK234.out 0).trans rfl, (blk_cell BK234.out 1).trans rfl, (blk_cell BK234.out 2).trans rfl, (blk_cell BK234.out 3).trans rfl, (blk_cell BK234.out 4).trans rfl⟩ (fun hHeld => ?_)
  clear hK K
  refine norm_ (a' := ?_) ?_ ?_
  rotate_left
  ·show Act.put _ (some 28) _ = _
   simp only [Act.put, List.setIfInBounds_toArray, List.set_cons_zero, List.set_cons_succ, i64_w, i32_w]
   rfl
  refine pure_ (i := 12) (N := some 29) (v := ?_) (a' := ?_) #[true, true, true, true, true, true, true, true, true, true, true, true, true, false, false, false, false] rfl rfl (any_of HT_.out (by kernel_rfl)) (fun _ _ _ h => h) (Or.inl ⟨by rfl, ?_⟩) ?_ ?_
  rotate_left
  ·intro w'
   go_simp
   with_reducible rfl
  rotate_left
  ·simp only [Act.put, List.setIfInBounds_toArray, List.set_cons_zero, List.set_cons_succ, i64_w, i32_w]
   rfl
  refine one_ (i := 13) (N := some 30) #[true, true, true, true, true, true, true, true, true, true, true, true, true, true, false, false, false] rfl rfl (one_of HT_.out (by kernel_rfl)) (by decide) (fun K hK => ?_)
  refine goes_ Try.func55 (by kernel_rfl) rfl #[.slice Ao16 t230.length co16, .int .i64 (wrap64 ((wrap64 (a1 + 1)) + t238))] (by rfl) rfl rfl (by (try simp only [List.map_toArray, List.map_cons, List.map_nil]); first | done | rfl | (simp only [List.length_drop, List.length_take]; rfl)) ?_
  with_reducible refine (prog_numbers.calls k _ _ t230 (wrap64 ((wrap64 (a1 + 1)) + t238)) t239 _ ?side1 ?side2 A7.out).mono ?_
  (case side1 => repeat (first | exact (Kd.R_reads' HO232.out).2.2 | with_reducible first | apply Kd.C_alloc | apply Kd.C_drewN | apply Kd.C_drew))
  (case side2 => exact (Kd.R_reads' HO232.out).2.1)
  rintro e w21 ⟨v240, rfl, ho0, hb⟩
  refine ⟨_, rfl, ?_⟩
  have n0_ := Aside0.mk (Kd.R_below (by (with_reducible repeat (first | apply Kd.R_alloc | apply Kd.R_drewN | apply Kd.R_drew)); exact HO226.out) hb)
  have n1_ := Aside0.mk (Kd.R_below (by (with_reducible repeat (first | apply Kd.R_alloc | apply Kd.R_drewN | apply Kd.R_drew)); exact HO229.out) hb)
  have n2_ := Aside0.mk (Kd.R_below (by (with_reducible repeat (first | apply Kd.R_alloc | apply Kd.R_drewN | apply Kd.R_drew)); exact HO232.out) hb)
  have n3_ := Aside0.mk (Kd.R_elder' (by (with_reducible repeat (first | apply Kd.R_alloc | apply Kd.R_drewN | apply Kd.R_drew)); exact HO237.out) (Kd.R_base ho0) hb)
  have n4_ := Aside0.mk (Kd.R_lower (Kd.R_new' ho0 (Kd.R_lt (by (with_reducible repeat (first | apply Kd.R_alloc | apply Kd.R_drewN | apply Kd.R_drew)); exact HO237.out))) (bsz (by repeat (first | (with_reducible first | exact HB.out | apply bal | apply bdN | apply bd1 | refine bst ?_ GE221.out | refine bst ?_ GE234.out) | exact HB.out))))
  have n5_ := Aside0.mk (blk_below (g := gb221) (o := .cells #[.int .i64 a0_0, .slice A0_1 l0_1.length c0_1, .slice A0_2 l0_2.length c0_2] 25 (0, 0)) (by (with_reducible repeat (first | refine kdN ?_ _ | refine kdr ?_ | refine kal ?_ _)); exact BK221.out) hb)
  have n6_ := Aside0.mk (blk_below (g := gb234) (o := .cells #[.int .i64 t222, .int .i64 t223, .slice Ao14 t224.length co14, .slice Ao15 t227.length co15, .slice Ao16 t230.length co16] 47 (0, 0)) (by (with_reducible repeat (first | refine kdN ?_ _ | refine kdr ?_ | refine kal ?_ _)); exact BK234.out) hb)
  have n7_ := Aside0.mk (bsp (by repeat (first | (with_reducible first | exact HB.out | apply bal | apply bdN | apply bd1 | refine bst ?_ GE221.out | refine bst ?_ GE234.out) | exact HB.out)) hb)
  clear HO226
  clear HO229
  clear HO232
  clear HO237
  clear BK221
  clear BK234
  clear HB
  have HO226 := n0_
  have HO229 := n1_
  have HO232 := n2_
  have HO237 := n3_
  have HO241 := n4_
  have BK221 := n5_
  have BK234 := n6_
  have HB := n7_
  clear n0_ n1_ n2_ n3_ n4_ n5_ n6_ n7_
  (try clear hb)
  (try clear hb2)
  (try clear hk)
  (try clear hi)
  (try clear ho0)
  refine hK.out _ _ ⟨(blk_cell BK234.out 0).trans rfl, (blk_cell BK234.out 1).trans rfl, (blk_cell BK234.out 2).trans rfl, (blk_cell BK234.out 3).trans rfl, (blk_cell BK234.out 4).trans rfl⟩ (fun hHeld => ?_)
  clear hK K
  refine norm_ (a' := ?_) ?_ ?_
  rotate_left
  ·show Act.put _ (some 30) _ = _
   simp only [Act.put, List.setIfInBounds_toArray, List.set_cons_zero, List.set_cons_succ, i64_w, i32_w]
   rfl
  refine pure_ (i := 14) (N := some 4) (v := ?_) (a' := ?_) #[true, true, true, true, true, true, true, true, true, true, true, true, true, true, true, false, false] rfl rfl (any_of HT_.out (by kernel_rfl)) (fun _ _ _ h => h) (Or.inl ⟨by rfl, ?_⟩) ?_ ?_
  rotate_left
  ·intro w'
   go_simp
   with_reducible rfl
  rotate_left
  ·simp only [Act.put, List.setIfInBounds_toArray, List.set_cons_zero, List.set_cons_succ, i64_w, i32_w]
   rfl
  refine pure_ (i := 15) (N := some 5) (v := ?_) (a' := ?_) #[true, true, true, true, true, true, true, true, true, true, true, true, true, true, true, true, false] rfl rfl (any_of HT_.out (by kernel_rfl)) (fun _ _ _ h => h) (Or.inl ⟨by rfl, ?_⟩) ?_ ?_
  rotate_left
  ·intro w'
   go_simp
   with_reducible rfl
  rotate_left
  ·simp only [Act.put, List.setIfInBounds_toArray, List.set_cons_zero, List.set_cons_succ, i64_w, i32_w]
   rfl
  refine pure_ (i := 16) (N := some 6) (v := ?_) (a' := ?_) #[true, true, true, true, true, true, true, true, true, true, true, true, true, true, true, true, true] rfl rfl (any_of HT_.out (by kernel_rfl)) (fun _ _ _ h => h) (Or.inl ⟨by rfl, ?_⟩) ?_ ?_
  rotate_left
  ·intro w'
   go_simp
   with_reducible rfl
  rotate_left
  ·simp only [Act.put, List.setIfInBounds_toArray, List.set_cons_zero, List.set_cons_succ, i64_w, i32_w]
   rfl
  refine done_ (done_of HT_.out (by kernel_rfl)) ?_
  try go_wp2
  go_ret3
  exact ⟨_, _, by first | rfl | (simp [*] <;> rfl), by (with_reducible repeat (first | apply Kd.R_alloc | apply Kd.R_drewN | apply Kd.R_drew)); exact Kd.R_mono HO237.out (fun _ hk => hk.2), by (with_reducible repeat (first | apply Kd.R_alloc | apply Kd.R_drewN | apply Kd.R_drew)); exact Kd.R_mono HO241.out (fun _ hk => hk.2), by repeat (first | (with_reducible first | exact HB.out | apply bal | apply bdN | apply bd1 | refine bst ?_ GE221.out | refine bst ?_ GE234.out) | exact HB.out)⟩
 ·rw [if_neg c4] at H
  have c4b0 : (t233 == 0) = false := beq_eq_false_iff_ne.mpr c4
  have c4b1 : (t233 != 0) = true := bne_iff_ne.mpr c4
  simp only [Option.some.injEq, Prod.mk.injEq] at H
  obtain ⟨rfl, rfl, rfl⟩ := H
  go_enter Try.func26, Try.ntmps26
  go_wp2_with (first | ((with_reducible refine gate_dst (N := 2) rfl ?_); refine box_event ?hg (N := 2) ?hd (cs := #[.int .i64 a0_0, .slice A0_1 l0_1.length c0_1, .slice A0_2 l0_2.length c0_2]) (t := 25) ?hr ?_; (case hd => rfl); (case hg => rfl); (case hr => first | (go_simp; done) | (go_simp; rfl)); intro gb221 hg w22 hbox hb; have n0_ := Aside0.mk (bsp (by repeat (first | (with_reducible first | exact HB.out | apply bal | apply bdN | apply bd1) | exact HB.out)) hb); have n1_ := Aside0.mk (hbox); have n2_ := Aside0.mk ((by rw [hg]; exact (bsz (by repeat (first | (with_reducible first | exact HB.out | apply bal | apply bdN | apply bd1) | exact HB.out))) : w.heap.size ≤ gb221)); have n3_ := Aside0.mk ((by rw [hg]; exact (bsz (by repeat (first | (with_reducible first | exact HB.out | apply bal | apply bdN | apply bd1) | exact HB.out))) : w.heap.size ≤ gb221)); clear HB; have HB := n0_; have BK221 := n1_; have GW221 := n2_; have GE221 := n3_; clear n0_ n1_ n2_ n3_; clear hb hbox hg; obtain ⟨hcz23_0, hcz23_1, hcz23_2, hfz23_0, hfz23_1, hfz23_2⟩ := cf3 BK221.out) | ((with_reducible refine gate_callee (f := 25) rfl ?_); refine goesL_ (some 11) rfl rfl Try.func25 (by kernel_rfl) rfl #[.agg #[.int .i64 a0_0, .slice A0_1 l0_1.length c0_1, .slice A0_2 l0_2.length c0_2], .int .i64 a1] rfl (by (try simp only [List.map_toArray, List.map_cons, List.map_nil]); first | done | rfl | (simp only [List.length_drop, List.length_take]; rfl)) ?_; (with_reducible refine (prog_At.calls k a0_0 _ _ l0_1 _ _ l0_2 a1 t222 t223 t224 t227 t230 t233 _ ?side1 ?side2 ?side3 ?side4 A3.out).mono ?_); (case side1 => repeat (first | exact (Kd.C_below HR0_1.out HB.out) | with_reducible first | apply Kd.C_alloc | apply Kd.C_drewN | apply Kd.C_drew)); (case side2 => exact HC0_1.out); (case side3 => repeat (first | exact (Kd.C_below HR0_2.out HB.out) | with_reducible first | apply Kd.C_alloc | apply Kd.C_drewN | apply Kd.C_drew)); (case side4 => exact HC0_2.out); rintro e w24 ⟨v225, v228, v231, rfl, ho0, ho1, ho2, hb⟩; refine ⟨_, rfl, ?_⟩; have n0_ := Aside0.mk (Kd.R_lower ho0 (bsz (by repeat (first | (with_reducible first | exact HB.out | apply bal | apply bdN | apply bd1 | refine bst ?_ GE221.out) | exact HB.out)))); have n1_ := Aside0.mk (Kd.R_lower ho1 (bsz (by repeat (first | (with_reducible first | exact HB.out | apply bal | apply bdN | apply bd1 | refine bst ?_ GE221.out) | exact HB.out)))); have n2_ := Aside0.mk (Kd.R_lower ho2 (bsz (by repeat (first | (with_reducible first | exact HB.out | apply bal | apply bdN | apply bd1 | refine bst ?_ GE221.out) | exact HB.out)))); have n3_ := Aside0.mk (blk_below (g := gb221) (o := .cells #[.int .i64 a0_0, .slice A0_1 l0_1.length c0_1, .slice A0_2 l0_2.length c0_2] 25 (0, 0)) (by (with_reducible repeat (first | refine kdN ?_ _ | refine kdr ?_ | refine kal ?_ _)); exact BK221.out) hb); have n4_ := Aside0.mk (bsp (by repeat (first | (with_reducible first | exact HB.out | apply bal | apply bdN | apply bd1 | refine bst ?_ GE221.out) | exact HB.out)) hb); clear BK221; clear HB; have HO226 := n0_; have HO229 := n1_; have HO232 := n2_; have BK221 := n3_; have HB := n4_; clear n0_ n1_ n2_ n3_ n4_; (try clear hb); (try clear hb2); (try clear hk); (try clear hi); (try clear ho0); (try clear ho1); (try clear ho2)) | ((with_reducible refine gate_dst (N := 7) rfl ?_); refine box_event ?hg (N := 7) ?hd (cs := #[.int .i64 0, .int .i64 0, .slice none 0 0, .slice none 0 0, .slice none 0 0]) (t := 47) ?hr ?_; (case hd => rfl); (case hg => rfl); (case hr => first | (go_simp; done) | (go_simp; rfl)); intro gb234 hg w25 hbox hb; have n0_ := Aside0.mk (Kd.R_below (by (with_reducible repeat (first | apply Kd.R_alloc | apply Kd.R_drewN | apply Kd.R_drew)); exact HO226.out) hb); have n1_ := Aside0.mk (Kd.R_below (Kd.R_elderB (by (with_reducible repeat (first | apply Kd.R_alloc | apply Kd.R_drewN | apply Kd.R_drew)); exact HO229.out) gb234 (Nat.le_of_eq hg.symm)) hb); have n2_ := Aside0.mk (Kd.R_below (Kd.R_elderB (by (with_reducible repeat (first | apply Kd.R_alloc | apply Kd.R_drewN | apply Kd.R_drew)); exact HO232.out) gb234 (Nat.le_of_eq hg.symm)) hb); have n3_ := Aside0.mk (blk_below (g := gb221) (o := .cells #[.int .i64 a0_0, .slice A0_1 l0_1.length c0_1, .slice A0_2 l0_2.length c0_2] 25 (0, 0)) (by (with_reducible repeat (first | refine kdN ?_ _ | refine kdr ?_ | refine kal ?_ _)); exact BK221.out) hb); have n4_ := Aside0.mk (bsp (by repeat (first | (with_reducible first | exact HB.out | apply bal | apply bdN | apply bd1 | refine bst ?_ GE221.out) | exact HB.out)) hb); have n5_ := Aside0.mk (hbox); have n6_ := Aside0.mk ((by rw [hg]; exact (bsz (by repeat (first | (with_reducible first | exact HB.out | apply bal | apply bdN | apply bd1 | refine bst ?_ GE221.out) | exact HB.out))) : w.heap.size ≤ gb234)); have n7_ := Aside0.mk ((by rw [hg]; exact (bsz (by repeat (first | (with_reducible first | exact HB.out | apply bal | apply bdN | apply bd1 | refine bst ?_ GE221.out) | exact HB.out))) : w.heap.size ≤ gb234)); have n8_ := Aside0.mk ((by rw [hg]; exact Nat.ne_of_lt (blk_lt (g := gb221) (o := .cells #[.int .i64 a0_0, .slice A0_1 l0_1.length c0_1, .slice A0_2 l0_2.length c0_2] 25 (0, 0)) (by (with_reducible repeat (first | refine kdN ?_ _ | refine kdr ?_ | refine kal ?_ _)); exact BK221.out)) : gb221 ≠ gb234)); have n9_ := Aside0.mk ((by rw [hg]; exact Nat.ne_of_gt (blk_lt (g := gb221) (o := .cells #[.int .i64 a0_0, .slice A0_1 l0_1.length c0_1, .slice A0_2 l0_2.length c0_2] 25 (0, 0)) (by (with_reducible repeat (first | refine kdN ?_ _ | refine kdr ?_ | refine kal ?_ _)); exact BK221.out)) : gb234 ≠ gb221)); clear HO226; clear HO229; clear HO232; clear BK221; clear HB; have HO226 := n0_; have HO229 := n1_; have HO232 := n2_; have BK221 := n3_; have HB := n4_; have BK234 := n5_; have GW234 := n6_; have GE234 := n7_; have NB221_234 := n8_; have NB234_221 := n9_; clear n0_ n1_ n2_ n3_ n4_ n5_ n6_ n7_ n8_ n9_; clear hb hbox hg; have hnb26 := NB234_221.out; have hnc26 := NB221_234.out; obtain ⟨hcz27_0, hcz27_1, hcz27_2, hcz27_3, hcz27_4, hfz27_0, hfz27_1, hfz27_2, hfz27_3, hfz27_4⟩ := cf5 BK234.out; obtain ⟨Ao28, co28, eo28⟩ := Kd.R_slice HO226.out; subst eo28; obtain ⟨Ao29, co29, eo29⟩ := Kd.R_slice HO229.out; subst eo29; obtain ⟨Ao30, co30, eo30⟩ := Kd.R_slice HO232.out; subst eo30))
  go_ret3
  exact ⟨_, _, by first | rfl | (simp [*] <;> rfl), by first | exact Kd.R_nil _ _ _ _ _ | exact Kd.N_nil _ _ _ _ _ | exact Kd.V_nil _ _ _ _ _ | exact Kd.Q_nil _ _ _ _ _ | exact Kd.S_nil _ _ _ _ _, by first | exact Kd.R_nil _ _ _ _ _ | exact Kd.N_nil _ _ _ _ _ | exact Kd.V_nil _ _ _ _ _ | exact Kd.Q_nil _ _ _ _ _ | exact Kd.S_nil _ _ _ _ _, by repeat (first | (with_reducible first | exact HB.out | apply bal | apply bdN | apply bd1 | refine bst ?_ GE221.out | refine bst ?_ GE234.out) | exact HB.out)⟩
def prog_cells.l0 : Nat → Int → List (S82) → Int → Int → Option (Int)
 | 0, _, _, _, _ => none
 | k + 1, x3, x7, x8, x9 => if x9 < x8 then (if 0 ≤ x9 then (if x9 < (x7.length : Int) then (prog_cells.l0 k (wrap64 (x3 + ((rd_T82 x7 x9).f2))) x7 x8 (wrap64 (x9 + 1))) else (none)) else (none)) else (some x3)
def prog_cells.f (k : Nat) (a0_0 : Int) (l0_1 : List (S82)) (l0_2 : List (S47)) : Option (Int) := prog_cells.l0 k 0 l0_1 (l0_1.length : Int) 0
set_option maxHeartbeats 8000000 in
set_option maxRecDepth 100000 in
theorem prog_cells.calls (k : Nat) (a0_0 : Int) (A0_1 : Option Addr) (c0_1 : Nat) (l0_1 : List (S82)) (A0_2 : Option Addr) (c0_2 : Nat) (l0_2 : List (S47)) (r : Int) (w : World) (hr0_1 : Kd.C k82 w A0_1 l0_1.length l0_1) (hc0_1 : l0_1.length ≤ c0_1) (hr0_2 : Kd.C k47 w A0_2 l0_2.length l0_2) (hc0_2 : l0_2.length ≤ c0_2) (h : prog_cells.f k a0_0 l0_1 l0_2 = some r) :
  Calls Try.prog 45 #[.agg #[.int .i64 a0_0, .slice A0_1 l0_1.length c0_1, .slice A0_2 l0_2.length c0_2]] w fun e w' => e = .returned (.int .i64 r) ∧ Below w.heap.size w w' := by
 have hu25 := Try.underlying25
 have hu82 := Try.underlying82
 have HR0_1 := Aside0.mk hr0_1
 have HC0_1 := Aside0.mk hc0_1
 clear hr0_1 hc0_1
 have HR0_2 := Aside0.mk hr0_2
 have HC0_2 := Aside0.mk hc0_2
 clear hr0_2 hc0_2
 have HB := Aside0.mk (Below.refl w.heap.size w)
 have H : (prog_cells.l0 k 0 l0_1 (l0_1.length : Int) 0) = some r := h
 clear h
 have H' := Aside0.mk H
 clear H
 go_enter Try.func45, Try.ntmps45
 go_wp2_with (first | ((with_reducible refine gate_dst (N := 1) rfl ?_); refine box_event ?hg (N := 1) ?hd (cs := #[.int .i64 a0_0, .slice A0_1 l0_1.length c0_1, .slice A0_2 l0_2.length c0_2]) (t := 25) ?hr ?_; (case hd => rfl); (case hg => rfl); (case hr => first | (go_simp; done) | (go_simp; rfl)); intro gb142 hg w2 hbox hb; have n0_ := Aside0.mk (bsp (by repeat (first | (with_reducible first | exact HB.out | apply bal | apply bdN | apply bd1) | exact HB.out)) hb); have n1_ := Aside0.mk (hbox); have n2_ := Aside0.mk ((by rw [hg]; exact (bsz (by repeat (first | (with_reducible first | exact HB.out | apply bal | apply bdN | apply bd1) | exact HB.out))) : w.heap.size ≤ gb142)); have n3_ := Aside0.mk ((by rw [hg]; exact (bsz (by repeat (first | (with_reducible first | exact HB.out | apply bal | apply bdN | apply bd1) | exact HB.out))) : w.heap.size ≤ gb142)); clear HB; have HB := n0_; have BK142 := n1_; have GW142 := n2_; have GE142 := n3_; clear n0_ n1_ n2_ n3_; clear hb hbox hg; obtain ⟨hcz3_0, hcz3_1, hcz3_2, hfz3_0, hfz3_1, hfz3_2⟩ := cf3 BK142.out))
 go_loopg [3, 9] k (fun kq v3 v9 w' => ∃ (x3_1 : Int) (x9_1 : Int), v3 = .int .i64 x3_1 ∧ v9 = .int .i64 x9_1 ∧ Aside0 (prog_cells.l0 kq x3_1 l0_1 (l0_1.length : Int) x9_1 = some r) ∧ Aside0 (kq ≤ k) ∧ Aside0 (w'.heap[gb142]? = some (.cells #[.int .i64 a0_0, (.slice A0_1 l0_1.length c0_1), (.slice A0_2 l0_2.length c0_2)] 25 (0, 0))) ∧ Aside0 (Below w.heap.size w w'))
 case atStart => exact ⟨(0), (0), (by first | rfl | (simp; done) | (simp [*]; done)), (by first | rfl | (simp; done) | (simp [*]; done)), H', ⟨Nat.le_refl _⟩, ⟨by (with_reducible repeat (first | refine kdN ?_ _ | refine kdr ?_ | refine kal ?_ _)); exact BK142.out⟩, ⟨by repeat (first | (with_reducible first | exact HB.out | apply bal | apply bdN | apply bd1 | refine bst ?_ GE142.out) | exact HB.out)⟩⟩
 case round =>
  clear H'
  try clear p2
  try clear hcz3_0
  try clear hcz3_1
  try clear hcz3_2
  try clear hfz3_0
  try clear hfz3_1
  try clear hfz3_2
  obtain ⟨x3_1, x9_1, rfl, rfl, HA, HK1, BK142, HB⟩ := hrel
  cases gk with
  | zero => exact absurd HA.out (by simp [prog_cells.l0])
  | succ k1 =>
   have H := HA.out
   clear HA
   simp only [prog_cells.l0] at H
   by_cases c4 : x9_1 < (l0_1.length : Int)
   ·rw [if_pos c4] at H
    have c4b0 : decide (x9_1 < (l0_1.length : Int)) = true := decide_eq_true c4
    clear c4
    by_cases c5 : 0 ≤ x9_1
    ·rw [if_pos c5] at H
     have c5b0 : decide (0 ≤ x9_1) = true := decide_eq_true c5
     clear c5
     by_cases c6 : x9_1 < (l0_1.length : Int)
     ·rw [if_pos c6] at H
      have c6b0 : decide (x9_1 < (l0_1.length : Int)) = true := decide_eq_true c6
      clear c6
      have H' := Aside0.mk H
      clear H
      have p143 : 0 ≤ (x9_1 : Int) := of_decide_eq_true (by first | (with_reducible assumption) | assumption)
      have q143 : x9_1 < (l0_1.length : Int) := of_decide_eq_true (by first | (with_reducible assumption) | assumption)
      obtain ⟨ad143, e143, hx143_0, hx143_1, hx143_2⟩ := at_T82 HR0_1.out x9_1 p143 q143
      cases e143
      replace hx143_0 := bcell HB.out hx143_0
      replace hx143_1 := bcell HB.out hx143_1
      replace hx143_2 := bcell HB.out hx143_2
      replace p143 := eq_true p143
      replace q143 := eq_true q143
      go_wp2_with (first | ((with_reducible refine gate_dst (N := 5) rfl ?_); refine box_event ?hg (N := 5) ?hd (cs := #[.string (⟨#[]⟩ : ByteArray), .int .i64 0, .int .i64 0]) (t := 82) ?hr ?_; (case hd => rfl); (case hg => rfl); (case hr => first | (go_simp; done) | (go_simp; rfl)); intro gb144 hg w7 hbox hb; have n0_ := Aside0.mk (blk_below (g := gb142) (o := .cells #[.int .i64 a0_0, .slice (some ad143) l0_1.length c0_1, .slice A0_2 l0_2.length c0_2] 25 (0, 0)) (by (with_reducible repeat (first | refine kdN ?_ _ | refine kdr ?_ | refine kal ?_ _)); exact BK142.out) hb); have n1_ := Aside0.mk (bsp (by repeat (first | (with_reducible first | exact HB.out | apply bal | apply bdN | apply bd1 | refine bst ?_ GE142.out) | exact HB.out)) hb); have n2_ := Aside0.mk (hbox); have n3_ := Aside0.mk ((by rw [hg]; exact (bsz (by repeat (first | (with_reducible first | exact HB.out | apply bal | apply bdN | apply bd1 | refine bst ?_ GE142.out) | exact HB.out))) : w.heap.size ≤ gb144)); have n4_ := Aside0.mk ((by rw [hg]; exact (bsz (by repeat (first | (with_reducible first | exact HB.out | apply bal | apply bdN | apply bd1 | refine bst ?_ GE142.out) | exact HB.out))) : w.heap.size ≤ gb144)); have n5_ := Aside0.mk ((by rw [hg]; exact Nat.ne_of_lt (blk_lt (g := gb142) (o := .cells #[.int .i64 a0_0, .slice (some ad143) l0_1.length c0_1, .slice A0_2 l0_2.length c0_2] 25 (0, 0)) (by (with_reducible repeat (first | refine kdN ?_ _ | refine kdr ?_ | refine kal ?_ _)); exact BK142.out)) : gb142 ≠ gb144)); have n6_ := Aside0.mk ((by rw [hg]; exact Nat.ne_of_gt (blk_lt (g := gb142) (o := .cells #[.int .i64 a0_0, .slice (some ad143) l0_1.length c0_1, .slice A0_2 l0_2.length c0_2] 25 (0, 0)) (by (with_reducible repeat (first | refine kdN ?_ _ | refine kdr ?_ | refine kal ?_ _)); exact BK142.out)) : gb144 ≠ gb142)); clear BK142; clear HB; have BK142 := n0_; have HB := n1_; have BK144 := n2_; have GW144 := n3_; have GE144 := n4_; have NB142_144 := n5_; have NB144_142 := n6_; clear n0_ n1_ n2_ n3_ n4_ n5_ n6_; clear hb hbox hg; have hnb8 := NB144_142.out; have hnc8 := NB142_144.out; obtain ⟨hcz9_0, hcz9_1, hcz9_2, hfz9_0, hfz9_1, hfz9_2⟩ := cf3 BK144.out))
      go_roundg k1
      case measure => have := HK1.out; omega
      case rel => exact ⟨(wrap64 (x3_1 + ((rd_T82 l0_1 x9_1).f2))), (wrap64 (x9_1 + 1)), (by first | rfl | (simp; done) | (simp [*]; done)), (by first | rfl | (simp; done) | (simp [*]; done)), H', ⟨by have := HK1.out; omega⟩, ⟨by (with_reducible repeat (first | refine kdN ?_ _ | refine kdr ?_ | refine kal ?_ _)); refine blk_far ?_ NB142_144.out _; (with_reducible repeat (first | refine kdN ?_ _ | refine kdr ?_ | refine kal ?_ _)); refine blk_far ?_ NB142_144.out _; (with_reducible repeat (first | refine kdN ?_ _ | refine kdr ?_ | refine kal ?_ _)); refine blk_far ?_ NB142_144.out _; (with_reducible repeat (first | refine kdN ?_ _ | refine kdr ?_ | refine kal ?_ _)); exact BK142.out⟩, ⟨by repeat (first | (with_reducible first | exact HB.out | apply bal | apply bdN | apply bd1 | refine bst ?_ GE142.out | refine bst ?_ GE144.out) | exact HB.out)⟩⟩
     ·rw [if_neg c6] at H
      exact absurd H (by simp)
    ·rw [if_neg c5] at H
     exact absurd H (by simp)
   ·rw [if_neg c4] at H
    have c4b0 : decide (x9_1 < (l0_1.length : Int)) = false := decide_eq_false c4
    clear c4
    obtain rfl := Option.some.inj H
    go_wp2
    go_ret
    exact ⟨by first | rfl | (simp [*] <;> rfl), by repeat (first | (with_reducible first | exact HB.out | apply bal | apply bdN | apply bd1 | refine bst ?_ GE142.out) | exact HB.out)⟩
end Go.Proofs.Ytffcpbgbhkbplaa.Print
